/- What the seat's types and functions are to the walk's rules. -/
import Derived.Test.YtekjkaoibcfgfaaU4
namespace Go.Proofs.Ytekjkaoibcfgfaa
open Go.RowKit
set_option maxRecDepth 20000
instance : TyI Try.prog 0 (TypeDesc.tuple #[]) 1 false := ⟨Try.underlying0, Try.sizeOf0, Try.isAgg0⟩
instance : TyZ Try.prog 0 [Value.tuple #[]] := ⟨fun w => ⟨_, Try.zeroValue0 w, rfl⟩⟩
instance : TyI Try.prog 1 (TypeDesc.func #[] #[] false) 1 false := ⟨Try.underlying1, Try.sizeOf1, Try.isAgg1⟩
instance : TyZ Try.prog 1 [Value.nilFunc] := ⟨fun w => ⟨_, Try.zeroValue1 w, rfl⟩⟩
instance : TyI Try.prog 2 (TypeDesc.int Go.IntKind.i64) 1 false := ⟨Try.underlying2, Try.sizeOf2, Try.isAgg2⟩
instance : TyZ Try.prog 2 [Value.int Go.IntKind.i64 0] := ⟨fun w => ⟨_, Try.zeroValue2 w, rfl⟩⟩
instance : TyI Try.prog 3 (TypeDesc.int Go.IntKind.i64) 1 false := ⟨Try.underlying3, Try.sizeOf3, Try.isAgg3⟩
instance : TyZ Try.prog 3 [Value.int Go.IntKind.i64 0] := ⟨fun w => ⟨_, Try.zeroValue3 w, rfl⟩⟩
instance : TyI Try.prog 4 TypeDesc.bool 1 false := ⟨Try.underlying4, Try.sizeOf4, Try.isAgg4⟩
instance : TyZ Try.prog 4 [Value.bool false] := ⟨fun w => ⟨_, Try.zeroValue4 w, rfl⟩⟩
instance : TyI Try.prog 5 (TypeDesc.int Go.IntKind.u8) 1 false := ⟨Try.underlying5, Try.sizeOf5, Try.isAgg5⟩
instance : TyZ Try.prog 5 [Value.int Go.IntKind.u8 0] := ⟨fun w => ⟨_, Try.zeroValue5 w, rfl⟩⟩
instance : TyI Try.prog 6 (TypeDesc.int Go.IntKind.u8) 1 false := ⟨Try.underlying6, Try.sizeOf6, Try.isAgg6⟩
instance : TyZ Try.prog 6 [Value.int Go.IntKind.u8 0] := ⟨fun w => ⟨_, Try.zeroValue6 w, rfl⟩⟩
instance : TyI Try.prog 7 (TypeDesc.struct #[{ name := "x", type := 2, offset := 0, embedded := false, tag := "", pkgPath := "runtime", byteOffset := 0 }, { name := "y", type := 3, offset := 1, embedded := false, tag := "", pkgPath := "runtime", byteOffset := 8 }, { name := "signed", type := 4, offset := 2, embedded := false, tag := "", pkgPath := "runtime", byteOffset := 16 }, { name := "code", type := 6, offset := 3, embedded := false, tag := "", pkgPath := "runtime", byteOffset := 17 }]) 4 true := ⟨Try.underlying7, Try.sizeOf7, Try.isAgg7⟩
instance : TyZ Try.prog 7 [Value.int Go.IntKind.i64 0, Value.int Go.IntKind.i64 0, Value.bool false, Value.int Go.IntKind.u8 0] := ⟨fun w => ⟨_, Try.zeroValue7 w, rfl⟩⟩
instance : TyB Try.prog 7 [(0, 1), (1, 1), (2, 1), (3, 1)] [Value.int Go.IntKind.i64 0, Value.int Go.IntKind.i64 0, Value.bool false, Value.int Go.IntKind.u8 0] := tyB_struct (zv := Value.agg #[Value.int Go.IntKind.i64 0, Value.int Go.IntKind.i64 0, Value.bool false, Value.int Go.IntKind.u8 0]) (by kernel_rfl) rfl Try.underlying7 (by kernel_rfl)
instance : TyI Try.prog 8 (TypeDesc.struct #[{ name := "x", type := 2, offset := 0, embedded := false, tag := "", pkgPath := "runtime", byteOffset := 0 }, { name := "y", type := 3, offset := 1, embedded := false, tag := "", pkgPath := "runtime", byteOffset := 8 }, { name := "signed", type := 4, offset := 2, embedded := false, tag := "", pkgPath := "runtime", byteOffset := 16 }, { name := "code", type := 6, offset := 3, embedded := false, tag := "", pkgPath := "runtime", byteOffset := 17 }]) 4 true := ⟨Try.underlying8, Try.sizeOf8, Try.isAgg8⟩
instance : TyZ Try.prog 8 [Value.int Go.IntKind.i64 0, Value.int Go.IntKind.i64 0, Value.bool false, Value.int Go.IntKind.u8 0] := ⟨fun w => ⟨_, Try.zeroValue8 w, rfl⟩⟩
instance : TyB Try.prog 8 [(0, 1), (1, 1), (2, 1), (3, 1)] [Value.int Go.IntKind.i64 0, Value.int Go.IntKind.i64 0, Value.bool false, Value.int Go.IntKind.u8 0] := tyB_struct (zv := Value.agg #[Value.int Go.IntKind.i64 0, Value.int Go.IntKind.i64 0, Value.bool false, Value.int Go.IntKind.u8 0]) (by kernel_rfl) rfl Try.underlying8 (by kernel_rfl)
instance : TyI Try.prog 9 TypeDesc.string 1 false := ⟨Try.underlying9, Try.sizeOf9, Try.isAgg9⟩
instance : TyZ Try.prog 9 [Value.string { data := #[] }] := ⟨fun w => ⟨_, Try.zeroValue9 w, rfl⟩⟩
instance : TyI Try.prog 10 TypeDesc.string 1 false := ⟨Try.underlying10, Try.sizeOf10, Try.isAgg10⟩
instance : TyZ Try.prog 10 [Value.string { data := #[] }] := ⟨fun w => ⟨_, Try.zeroValue10 w, rfl⟩⟩
instance : TyI Try.prog 11 TypeDesc.string 1 false := ⟨Try.underlying11, Try.sizeOf11, Try.isAgg11⟩
instance : TyZ Try.prog 11 [Value.string { data := #[] }] := ⟨fun w => ⟨_, Try.zeroValue11 w, rfl⟩⟩
instance : TyI Try.prog 12 (TypeDesc.int Go.IntKind.u64) 1 false := ⟨Try.underlying12, Try.sizeOf12, Try.isAgg12⟩
instance : TyZ Try.prog 12 [Value.int Go.IntKind.u64 0] := ⟨fun w => ⟨_, Try.zeroValue12 w, rfl⟩⟩
instance : TyI Try.prog 13 (TypeDesc.struct #[{ name := "msg", type := 9, offset := 0, embedded := false, tag := "", pkgPath := "runtime", byteOffset := 0 }, { name := "addr", type := 12, offset := 1, embedded := false, tag := "", pkgPath := "runtime", byteOffset := 16 }]) 2 true := ⟨Try.underlying13, Try.sizeOf13, Try.isAgg13⟩
instance : TyZ Try.prog 13 [Value.string { data := #[] }, Value.int Go.IntKind.u64 0] := ⟨fun w => ⟨_, Try.zeroValue13 w, rfl⟩⟩
instance : TyB Try.prog 13 [(0, 1), (1, 1)] [Value.string { data := #[] }, Value.int Go.IntKind.u64 0] := tyB_struct (zv := Value.agg #[Value.string { data := #[] }, Value.int Go.IntKind.u64 0]) (by kernel_rfl) rfl Try.underlying13 (by kernel_rfl)
instance : TyI Try.prog 14 (TypeDesc.struct #[{ name := "msg", type := 9, offset := 0, embedded := false, tag := "", pkgPath := "runtime", byteOffset := 0 }, { name := "addr", type := 12, offset := 1, embedded := false, tag := "", pkgPath := "runtime", byteOffset := 16 }]) 2 true := ⟨Try.underlying14, Try.sizeOf14, Try.isAgg14⟩
instance : TyZ Try.prog 14 [Value.string { data := #[] }, Value.int Go.IntKind.u64 0] := ⟨fun w => ⟨_, Try.zeroValue14 w, rfl⟩⟩
instance : TyB Try.prog 14 [(0, 1), (1, 1)] [Value.string { data := #[] }, Value.int Go.IntKind.u64 0] := tyB_struct (zv := Value.agg #[Value.string { data := #[] }, Value.int Go.IntKind.u64 0]) (by kernel_rfl) rfl Try.underlying14 (by kernel_rfl)
instance : TyI Try.prog 15 (TypeDesc.pointer 165) 1 false := ⟨Try.underlying15, Try.sizeOf15, Try.isAgg15⟩
instance : TyZ Try.prog 15 [Value.pointer none] := ⟨fun w => ⟨_, Try.zeroValue15 w, rfl⟩⟩
instance : TyI Try.prog 16 (TypeDesc.pointer 168) 1 false := ⟨Try.underlying16, Try.sizeOf16, Try.isAgg16⟩
instance : TyZ Try.prog 16 [Value.pointer none] := ⟨fun w => ⟨_, Try.zeroValue16 w, rfl⟩⟩
instance : TyI Try.prog 17 (TypeDesc.pointer 177) 1 false := ⟨Try.underlying17, Try.sizeOf17, Try.isAgg17⟩
instance : TyZ Try.prog 17 [Value.pointer none] := ⟨fun w => ⟨_, Try.zeroValue17 w, rfl⟩⟩
instance : TyI Try.prog 20 (TypeDesc.interface #[]) 1 false := ⟨Try.underlying20, Try.sizeOf20, Try.isAgg20⟩
instance : TyZ Try.prog 20 [Value.nilIface] := ⟨fun w => ⟨_, Try.zeroValue20 w, rfl⟩⟩
instance : TyI Try.prog 21 (TypeDesc.int Go.IntKind.i32) 1 false := ⟨Try.underlying21, Try.sizeOf21, Try.isAgg21⟩
instance : TyZ Try.prog 21 [Value.int Go.IntKind.i32 0] := ⟨fun w => ⟨_, Try.zeroValue21 w, rfl⟩⟩
instance : TyI Try.prog 22 (TypeDesc.slice 82) 1 false := ⟨Try.underlying22, Try.sizeOf22, Try.isAgg22⟩
instance : TyZ Try.prog 22 [Value.slice none 0 0] := ⟨fun w => ⟨_, Try.zeroValue22 w, rfl⟩⟩
instance : TyI Try.prog 23 (TypeDesc.struct #[{ name := "Stretches", type := 22, offset := 0, embedded := false, tag := "", pkgPath := "", byteOffset := 0 }]) 1 true := ⟨Try.underlying23, Try.sizeOf23, Try.isAgg23⟩
instance : TyZ Try.prog 23 [Value.slice none 0 0] := ⟨fun w => ⟨_, Try.zeroValue23 w, rfl⟩⟩
instance : TyB Try.prog 23 [(0, 1)] [Value.slice none 0 0] := tyB_struct (zv := Value.agg #[Value.slice none 0 0]) (by kernel_rfl) rfl Try.underlying23 (by kernel_rfl)
instance : TyI Try.prog 24 (TypeDesc.struct #[{ name := "Stretches", type := 22, offset := 0, embedded := false, tag := "", pkgPath := "", byteOffset := 0 }]) 1 true := ⟨Try.underlying24, Try.sizeOf24, Try.isAgg24⟩
instance : TyZ Try.prog 24 [Value.slice none 0 0] := ⟨fun w => ⟨_, Try.zeroValue24 w, rfl⟩⟩
instance : TyB Try.prog 24 [(0, 1)] [Value.slice none 0 0] := tyB_struct (zv := Value.agg #[Value.slice none 0 0]) (by kernel_rfl) rfl Try.underlying24 (by kernel_rfl)
instance : TyI Try.prog 25 (TypeDesc.func #[24] #[4] false) 1 false := ⟨Try.underlying25, Try.sizeOf25, Try.isAgg25⟩
instance : TyZ Try.prog 25 [Value.nilFunc] := ⟨fun w => ⟨_, Try.zeroValue25 w, rfl⟩⟩
instance : TyI Try.prog 26 (TypeDesc.func #[24] #[24] false) 1 false := ⟨Try.underlying26, Try.sizeOf26, Try.isAgg26⟩
instance : TyZ Try.prog 26 [Value.nilFunc] := ⟨fun w => ⟨_, Try.zeroValue26 w, rfl⟩⟩
instance : TyI Try.prog 27 (TypeDesc.slice 34) 1 false := ⟨Try.underlying27, Try.sizeOf27, Try.isAgg27⟩
instance : TyZ Try.prog 27 [Value.slice none 0 0] := ⟨fun w => ⟨_, Try.zeroValue27 w, rfl⟩⟩
instance : TyI Try.prog 28 (TypeDesc.int Go.IntKind.i64) 1 false := ⟨Try.underlying28, Try.sizeOf28, Try.isAgg28⟩
instance : TyZ Try.prog 28 [Value.int Go.IntKind.i64 0] := ⟨fun w => ⟨_, Try.zeroValue28 w, rfl⟩⟩
instance : TyI Try.prog 29 (TypeDesc.tuple #[27, 28]) 1 false := ⟨Try.underlying29, Try.sizeOf29, Try.isAgg29⟩
instance : TyZ Try.prog 29 [Value.tuple #[Value.slice none 0 0, Value.int Go.IntKind.i64 0]] := ⟨fun w => ⟨_, Try.zeroValue29 w, rfl⟩⟩
instance : TyI Try.prog 30 (TypeDesc.func #[24] #[27, 28] false) 1 false := ⟨Try.underlying30, Try.sizeOf30, Try.isAgg30⟩
instance : TyZ Try.prog 30 [Value.nilFunc] := ⟨fun w => ⟨_, Try.zeroValue30 w, rfl⟩⟩
instance : TyI Try.prog 31 (TypeDesc.tuple #[27, 3]) 1 false := ⟨Try.underlying31, Try.sizeOf31, Try.isAgg31⟩
instance : TyZ Try.prog 31 [Value.tuple #[Value.slice none 0 0, Value.int Go.IntKind.i64 0]] := ⟨fun w => ⟨_, Try.zeroValue31 w, rfl⟩⟩
instance : TyI Try.prog 32 (TypeDesc.func #[24] #[27, 3] false) 1 false := ⟨Try.underlying32, Try.sizeOf32, Try.isAgg32⟩
instance : TyZ Try.prog 32 [Value.nilFunc] := ⟨fun w => ⟨_, Try.zeroValue32 w, rfl⟩⟩
instance : TyI Try.prog 33 (TypeDesc.struct #[{ name := "Lo", type := 3, offset := 0, embedded := false, tag := "", pkgPath := "", byteOffset := 0 }, { name := "Hi", type := 3, offset := 1, embedded := false, tag := "", pkgPath := "", byteOffset := 8 }]) 2 true := ⟨Try.underlying33, Try.sizeOf33, Try.isAgg33⟩
instance : TyZ Try.prog 33 [Value.int Go.IntKind.i64 0, Value.int Go.IntKind.i64 0] := ⟨fun w => ⟨_, Try.zeroValue33 w, rfl⟩⟩
instance : TyB Try.prog 33 [(0, 1), (1, 1)] [Value.int Go.IntKind.i64 0, Value.int Go.IntKind.i64 0] := tyB_struct (zv := Value.agg #[Value.int Go.IntKind.i64 0, Value.int Go.IntKind.i64 0]) (by kernel_rfl) rfl Try.underlying33 (by kernel_rfl)
instance : TyI Try.prog 34 (TypeDesc.struct #[{ name := "Lo", type := 3, offset := 0, embedded := false, tag := "", pkgPath := "", byteOffset := 0 }, { name := "Hi", type := 3, offset := 1, embedded := false, tag := "", pkgPath := "", byteOffset := 8 }]) 2 true := ⟨Try.underlying34, Try.sizeOf34, Try.isAgg34⟩
instance : TyZ Try.prog 34 [Value.int Go.IntKind.i64 0, Value.int Go.IntKind.i64 0] := ⟨fun w => ⟨_, Try.zeroValue34 w, rfl⟩⟩
instance : TyB Try.prog 34 [(0, 1), (1, 1)] [Value.int Go.IntKind.i64 0, Value.int Go.IntKind.i64 0] := tyB_struct (zv := Value.agg #[Value.int Go.IntKind.i64 0, Value.int Go.IntKind.i64 0]) (by kernel_rfl) rfl Try.underlying34 (by kernel_rfl)
instance : TyI Try.prog 35 (TypeDesc.tuple #[34, 34, 28]) 1 false := ⟨Try.underlying35, Try.sizeOf35, Try.isAgg35⟩
instance : TyZ Try.prog 35 [Value.tuple #[Value.agg #[Value.int Go.IntKind.i64 0, Value.int Go.IntKind.i64 0], Value.agg #[Value.int Go.IntKind.i64 0, Value.int Go.IntKind.i64 0], Value.int Go.IntKind.i64 0]] := ⟨fun w => ⟨_, Try.zeroValue35 w, rfl⟩⟩
instance : TyI Try.prog 36 (TypeDesc.func #[24, 3, 3] #[34, 34, 28] false) 1 false := ⟨Try.underlying36, Try.sizeOf36, Try.isAgg36⟩
instance : TyZ Try.prog 36 [Value.nilFunc] := ⟨fun w => ⟨_, Try.zeroValue36 w, rfl⟩⟩
instance : TyI Try.prog 37 (TypeDesc.tuple #[34, 34, 3]) 1 false := ⟨Try.underlying37, Try.sizeOf37, Try.isAgg37⟩
instance : TyZ Try.prog 37 [Value.tuple #[Value.agg #[Value.int Go.IntKind.i64 0, Value.int Go.IntKind.i64 0], Value.agg #[Value.int Go.IntKind.i64 0, Value.int Go.IntKind.i64 0], Value.int Go.IntKind.i64 0]] := ⟨fun w => ⟨_, Try.zeroValue37 w, rfl⟩⟩
instance : TyI Try.prog 38 (TypeDesc.func #[24, 3, 3] #[34, 34, 3] false) 1 false := ⟨Try.underlying38, Try.sizeOf38, Try.isAgg38⟩
instance : TyZ Try.prog 38 [Value.nilFunc] := ⟨fun w => ⟨_, Try.zeroValue38 w, rfl⟩⟩
instance : TyI Try.prog 39 (TypeDesc.func #[24] #[28] false) 1 false := ⟨Try.underlying39, Try.sizeOf39, Try.isAgg39⟩
instance : TyZ Try.prog 39 [Value.nilFunc] := ⟨fun w => ⟨_, Try.zeroValue39 w, rfl⟩⟩
instance : TyI Try.prog 40 (TypeDesc.func #[24] #[3] false) 1 false := ⟨Try.underlying40, Try.sizeOf40, Try.isAgg40⟩
instance : TyZ Try.prog 40 [Value.nilFunc] := ⟨fun w => ⟨_, Try.zeroValue40 w, rfl⟩⟩
instance : TyI Try.prog 41 (TypeDesc.func #[27, 27] #[4] false) 1 false := ⟨Try.underlying41, Try.sizeOf41, Try.isAgg41⟩
instance : TyZ Try.prog 41 [Value.nilFunc] := ⟨fun w => ⟨_, Try.zeroValue41 w, rfl⟩⟩
instance : TyI Try.prog 42 (TypeDesc.slice 3) 1 false := ⟨Try.underlying42, Try.sizeOf42, Try.isAgg42⟩
instance : TyZ Try.prog 42 [Value.slice none 0 0] := ⟨fun w => ⟨_, Try.zeroValue42 w, rfl⟩⟩
instance : TyI Try.prog 43 (TypeDesc.tuple #[42, 28]) 1 false := ⟨Try.underlying43, Try.sizeOf43, Try.isAgg43⟩
instance : TyZ Try.prog 43 [Value.tuple #[Value.slice none 0 0, Value.int Go.IntKind.i64 0]] := ⟨fun w => ⟨_, Try.zeroValue43 w, rfl⟩⟩
instance : TyI Try.prog 44 (TypeDesc.func #[24, 3] #[42, 28] false) 1 false := ⟨Try.underlying44, Try.sizeOf44, Try.isAgg44⟩
instance : TyZ Try.prog 44 [Value.nilFunc] := ⟨fun w => ⟨_, Try.zeroValue44 w, rfl⟩⟩
instance : TyI Try.prog 45 (TypeDesc.tuple #[42, 3]) 1 false := ⟨Try.underlying45, Try.sizeOf45, Try.isAgg45⟩
instance : TyZ Try.prog 45 [Value.tuple #[Value.slice none 0 0, Value.int Go.IntKind.i64 0]] := ⟨fun w => ⟨_, Try.zeroValue45 w, rfl⟩⟩
instance : TyI Try.prog 46 (TypeDesc.func #[24, 3] #[42, 3] false) 1 false := ⟨Try.underlying46, Try.sizeOf46, Try.isAgg46⟩
instance : TyZ Try.prog 46 [Value.nilFunc] := ⟨fun w => ⟨_, Try.zeroValue46 w, rfl⟩⟩
instance : TyI Try.prog 47 (TypeDesc.tuple #[34, 28]) 1 false := ⟨Try.underlying47, Try.sizeOf47, Try.isAgg47⟩
instance : TyZ Try.prog 47 [Value.tuple #[Value.agg #[Value.int Go.IntKind.i64 0, Value.int Go.IntKind.i64 0], Value.int Go.IntKind.i64 0]] := ⟨fun w => ⟨_, Try.zeroValue47 w, rfl⟩⟩
instance : TyI Try.prog 48 (TypeDesc.func #[24, 3] #[34, 28] false) 1 false := ⟨Try.underlying48, Try.sizeOf48, Try.isAgg48⟩
instance : TyZ Try.prog 48 [Value.nilFunc] := ⟨fun w => ⟨_, Try.zeroValue48 w, rfl⟩⟩
instance : TyI Try.prog 49 (TypeDesc.tuple #[34, 3]) 1 false := ⟨Try.underlying49, Try.sizeOf49, Try.isAgg49⟩
instance : TyZ Try.prog 49 [Value.tuple #[Value.agg #[Value.int Go.IntKind.i64 0, Value.int Go.IntKind.i64 0], Value.int Go.IntKind.i64 0]] := ⟨fun w => ⟨_, Try.zeroValue49 w, rfl⟩⟩
instance : TyI Try.prog 50 (TypeDesc.func #[24, 3] #[34, 3] false) 1 false := ⟨Try.underlying50, Try.sizeOf50, Try.isAgg50⟩
instance : TyZ Try.prog 50 [Value.nilFunc] := ⟨fun w => ⟨_, Try.zeroValue50 w, rfl⟩⟩
instance : TyI Try.prog 51 (TypeDesc.func #[24] #[42, 28] false) 1 false := ⟨Try.underlying51, Try.sizeOf51, Try.isAgg51⟩
instance : TyZ Try.prog 51 [Value.nilFunc] := ⟨fun w => ⟨_, Try.zeroValue51 w, rfl⟩⟩
instance : TyI Try.prog 52 (TypeDesc.func #[24] #[42, 3] false) 1 false := ⟨Try.underlying52, Try.sizeOf52, Try.isAgg52⟩
instance : TyZ Try.prog 52 [Value.nilFunc] := ⟨fun w => ⟨_, Try.zeroValue52 w, rfl⟩⟩
instance : TyI Try.prog 53 (TypeDesc.func #[42, 42] #[4] false) 1 false := ⟨Try.underlying53, Try.sizeOf53, Try.isAgg53⟩
instance : TyZ Try.prog 53 [Value.nilFunc] := ⟨fun w => ⟨_, Try.zeroValue53 w, rfl⟩⟩
instance : TyI Try.prog 54 (TypeDesc.func #[24, 24] #[4] false) 1 false := ⟨Try.underlying54, Try.sizeOf54, Try.isAgg54⟩
instance : TyZ Try.prog 54 [Value.nilFunc] := ⟨fun w => ⟨_, Try.zeroValue54 w, rfl⟩⟩
instance : TyI Try.prog 55 (TypeDesc.func #[24, 3, 3, 3, 3] #[4] false) 1 false := ⟨Try.underlying55, Try.sizeOf55, Try.isAgg55⟩
instance : TyZ Try.prog 55 [Value.nilFunc] := ⟨fun w => ⟨_, Try.zeroValue55 w, rfl⟩⟩
instance : TyI Try.prog 56 (TypeDesc.struct #[{ name := "Stretch", type := 3, offset := 0, embedded := false, tag := "", pkgPath := "", byteOffset := 0 }, { name := "Off", type := 34, offset := 1, embedded := false, tag := "", pkgPath := "", byteOffset := 8 }]) 3 true := ⟨Try.underlying56, Try.sizeOf56, Try.isAgg56⟩
instance : TyZ Try.prog 56 [Value.int Go.IntKind.i64 0, Value.int Go.IntKind.i64 0, Value.int Go.IntKind.i64 0] := ⟨fun w => ⟨_, Try.zeroValue56 w, rfl⟩⟩
instance : TyB Try.prog 56 [(0, 1), (1, 2)] [Value.int Go.IntKind.i64 0, Value.int Go.IntKind.i64 0, Value.int Go.IntKind.i64 0] := tyB_struct (zv := Value.agg #[Value.int Go.IntKind.i64 0, Value.int Go.IntKind.i64 0, Value.int Go.IntKind.i64 0]) (by kernel_rfl) rfl Try.underlying56 (by kernel_rfl)
instance : TyI Try.prog 57 (TypeDesc.struct #[{ name := "Stretch", type := 3, offset := 0, embedded := false, tag := "", pkgPath := "", byteOffset := 0 }, { name := "Off", type := 34, offset := 1, embedded := false, tag := "", pkgPath := "", byteOffset := 8 }]) 3 true := ⟨Try.underlying57, Try.sizeOf57, Try.isAgg57⟩
instance : TyZ Try.prog 57 [Value.int Go.IntKind.i64 0, Value.int Go.IntKind.i64 0, Value.int Go.IntKind.i64 0] := ⟨fun w => ⟨_, Try.zeroValue57 w, rfl⟩⟩
instance : TyB Try.prog 57 [(0, 1), (1, 2)] [Value.int Go.IntKind.i64 0, Value.int Go.IntKind.i64 0, Value.int Go.IntKind.i64 0] := tyB_struct (zv := Value.agg #[Value.int Go.IntKind.i64 0, Value.int Go.IntKind.i64 0, Value.int Go.IntKind.i64 0]) (by kernel_rfl) rfl Try.underlying57 (by kernel_rfl)
instance : TyI Try.prog 58 (TypeDesc.func #[24, 57] #[34, 28] false) 1 false := ⟨Try.underlying58, Try.sizeOf58, Try.isAgg58⟩
instance : TyZ Try.prog 58 [Value.nilFunc] := ⟨fun w => ⟨_, Try.zeroValue58 w, rfl⟩⟩
instance : TyI Try.prog 59 (TypeDesc.func #[24, 57] #[34, 3] false) 1 false := ⟨Try.underlying59, Try.sizeOf59, Try.isAgg59⟩
instance : TyZ Try.prog 59 [Value.nilFunc] := ⟨fun w => ⟨_, Try.zeroValue59 w, rfl⟩⟩
instance : TyI Try.prog 60 (TypeDesc.func #[24, 57, 57] #[34, 28] false) 1 false := ⟨Try.underlying60, Try.sizeOf60, Try.isAgg60⟩
instance : TyZ Try.prog 60 [Value.nilFunc] := ⟨fun w => ⟨_, Try.zeroValue60 w, rfl⟩⟩
instance : TyI Try.prog 61 (TypeDesc.func #[24, 57, 57] #[34, 3] false) 1 false := ⟨Try.underlying61, Try.sizeOf61, Try.isAgg61⟩
instance : TyZ Try.prog 61 [Value.nilFunc] := ⟨fun w => ⟨_, Try.zeroValue61 w, rfl⟩⟩
instance : TyI Try.prog 62 (TypeDesc.tuple #[24, 28]) 1 false := ⟨Try.underlying62, Try.sizeOf62, Try.isAgg62⟩
instance : TyZ Try.prog 62 [Value.tuple #[Value.agg #[Value.slice none 0 0], Value.int Go.IntKind.i64 0]] := ⟨fun w => ⟨_, Try.zeroValue62 w, rfl⟩⟩
instance : TyI Try.prog 63 (TypeDesc.func #[24, 24] #[24, 28] false) 1 false := ⟨Try.underlying63, Try.sizeOf63, Try.isAgg63⟩
instance : TyZ Try.prog 63 [Value.nilFunc] := ⟨fun w => ⟨_, Try.zeroValue63 w, rfl⟩⟩
instance : TyI Try.prog 64 (TypeDesc.tuple #[24, 3]) 1 false := ⟨Try.underlying64, Try.sizeOf64, Try.isAgg64⟩
instance : TyZ Try.prog 64 [Value.tuple #[Value.agg #[Value.slice none 0 0], Value.int Go.IntKind.i64 0]] := ⟨fun w => ⟨_, Try.zeroValue64 w, rfl⟩⟩
instance : TyI Try.prog 65 (TypeDesc.func #[24, 24] #[24, 3] false) 1 false := ⟨Try.underlying65, Try.sizeOf65, Try.isAgg65⟩
instance : TyZ Try.prog 65 [Value.nilFunc] := ⟨fun w => ⟨_, Try.zeroValue65 w, rfl⟩⟩
instance : TyI Try.prog 66 (TypeDesc.func #[24, 24, 57, 57] #[4] false) 1 false := ⟨Try.underlying66, Try.sizeOf66, Try.isAgg66⟩
instance : TyZ Try.prog 66 [Value.nilFunc] := ⟨fun w => ⟨_, Try.zeroValue66 w, rfl⟩⟩
instance : TyI Try.prog 67 (TypeDesc.slice 73) 1 false := ⟨Try.underlying67, Try.sizeOf67, Try.isAgg67⟩
instance : TyZ Try.prog 67 [Value.slice none 0 0] := ⟨fun w => ⟨_, Try.zeroValue67 w, rfl⟩⟩
instance : TyI Try.prog 68 (TypeDesc.func #[24, 67] #[24, 28] false) 1 false := ⟨Try.underlying68, Try.sizeOf68, Try.isAgg68⟩
instance : TyZ Try.prog 68 [Value.nilFunc] := ⟨fun w => ⟨_, Try.zeroValue68 w, rfl⟩⟩
instance : TyI Try.prog 69 (TypeDesc.func #[24, 67] #[24, 3] false) 1 false := ⟨Try.underlying69, Try.sizeOf69, Try.isAgg69⟩
instance : TyZ Try.prog 69 [Value.nilFunc] := ⟨fun w => ⟨_, Try.zeroValue69 w, rfl⟩⟩
instance : TyI Try.prog 70 (TypeDesc.func #[24, 67] #[42, 28] false) 1 false := ⟨Try.underlying70, Try.sizeOf70, Try.isAgg70⟩
instance : TyZ Try.prog 70 [Value.nilFunc] := ⟨fun w => ⟨_, Try.zeroValue70 w, rfl⟩⟩
instance : TyI Try.prog 71 (TypeDesc.func #[24, 67] #[42, 3] false) 1 false := ⟨Try.underlying71, Try.sizeOf71, Try.isAgg71⟩
instance : TyZ Try.prog 71 [Value.nilFunc] := ⟨fun w => ⟨_, Try.zeroValue71 w, rfl⟩⟩
instance : TyI Try.prog 72 (TypeDesc.struct #[{ name := "Kind", type := 5, offset := 0, embedded := false, tag := "", pkgPath := "", byteOffset := 0 }, { name := "From", type := 3, offset := 1, embedded := false, tag := "", pkgPath := "", byteOffset := 8 }, { name := "To", type := 3, offset := 2, embedded := false, tag := "", pkgPath := "", byteOffset := 16 }, { name := "Value", type := 34, offset := 3, embedded := false, tag := "", pkgPath := "", byteOffset := 24 }]) 5 true := ⟨Try.underlying72, Try.sizeOf72, Try.isAgg72⟩
instance : TyZ Try.prog 72 [Value.int Go.IntKind.u8 0, Value.int Go.IntKind.i64 0, Value.int Go.IntKind.i64 0, Value.int Go.IntKind.i64 0, Value.int Go.IntKind.i64 0] := ⟨fun w => ⟨_, Try.zeroValue72 w, rfl⟩⟩
instance : TyB Try.prog 72 [(0, 1), (1, 1), (2, 1), (3, 2)] [Value.int Go.IntKind.u8 0, Value.int Go.IntKind.i64 0, Value.int Go.IntKind.i64 0, Value.int Go.IntKind.i64 0, Value.int Go.IntKind.i64 0] := tyB_struct (zv := Value.agg #[Value.int Go.IntKind.u8 0, Value.int Go.IntKind.i64 0, Value.int Go.IntKind.i64 0, Value.int Go.IntKind.i64 0, Value.int Go.IntKind.i64 0]) (by kernel_rfl) rfl Try.underlying72 (by kernel_rfl)
instance : TyI Try.prog 73 (TypeDesc.struct #[{ name := "Kind", type := 5, offset := 0, embedded := false, tag := "", pkgPath := "", byteOffset := 0 }, { name := "From", type := 3, offset := 1, embedded := false, tag := "", pkgPath := "", byteOffset := 8 }, { name := "To", type := 3, offset := 2, embedded := false, tag := "", pkgPath := "", byteOffset := 16 }, { name := "Value", type := 34, offset := 3, embedded := false, tag := "", pkgPath := "", byteOffset := 24 }]) 5 true := ⟨Try.underlying73, Try.sizeOf73, Try.isAgg73⟩
instance : TyZ Try.prog 73 [Value.int Go.IntKind.u8 0, Value.int Go.IntKind.i64 0, Value.int Go.IntKind.i64 0, Value.int Go.IntKind.i64 0, Value.int Go.IntKind.i64 0] := ⟨fun w => ⟨_, Try.zeroValue73 w, rfl⟩⟩
instance : TyB Try.prog 73 [(0, 1), (1, 1), (2, 1), (3, 2)] [Value.int Go.IntKind.u8 0, Value.int Go.IntKind.i64 0, Value.int Go.IntKind.i64 0, Value.int Go.IntKind.i64 0, Value.int Go.IntKind.i64 0] := tyB_struct (zv := Value.agg #[Value.int Go.IntKind.u8 0, Value.int Go.IntKind.i64 0, Value.int Go.IntKind.i64 0, Value.int Go.IntKind.i64 0, Value.int Go.IntKind.i64 0]) (by kernel_rfl) rfl Try.underlying73 (by kernel_rfl)
instance : TyI Try.prog 74 (TypeDesc.func #[24, 67] #[4] false) 1 false := ⟨Try.underlying74, Try.sizeOf74, Try.isAgg74⟩
instance : TyZ Try.prog 74 [Value.nilFunc] := ⟨fun w => ⟨_, Try.zeroValue74 w, rfl⟩⟩
instance : TyI Try.prog 75 (TypeDesc.slice 88) 1 false := ⟨Try.underlying75, Try.sizeOf75, Try.isAgg75⟩
instance : TyZ Try.prog 75 [Value.slice none 0 0] := ⟨fun w => ⟨_, Try.zeroValue75 w, rfl⟩⟩
instance : TyI Try.prog 76 (TypeDesc.func #[] #[4] false) 1 false := ⟨Try.underlying76, Try.sizeOf76, Try.isAgg76⟩
instance : TyZ Try.prog 76 [Value.nilFunc] := ⟨fun w => ⟨_, Try.zeroValue76 w, rfl⟩⟩
instance : TyI Try.prog 77 (TypeDesc.tuple #[42, 42]) 1 false := ⟨Try.underlying77, Try.sizeOf77, Try.isAgg77⟩
instance : TyZ Try.prog 77 [Value.tuple #[Value.slice none 0 0, Value.slice none 0 0]] := ⟨fun w => ⟨_, Try.zeroValue77 w, rfl⟩⟩
instance : TyI Try.prog 78 (TypeDesc.func #[24, 75] #[42, 42] false) 1 false := ⟨Try.underlying78, Try.sizeOf78, Try.isAgg78⟩
instance : TyZ Try.prog 78 [Value.nilFunc] := ⟨fun w => ⟨_, Try.zeroValue78 w, rfl⟩⟩
instance : TyI Try.prog 79 (TypeDesc.func #[42, 42, 75, 3] #[67] false) 1 false := ⟨Try.underlying79, Try.sizeOf79, Try.isAgg79⟩
instance : TyZ Try.prog 79 [Value.nilFunc] := ⟨fun w => ⟨_, Try.zeroValue79 w, rfl⟩⟩
instance : TyI Try.prog 80 (TypeDesc.func #[75, 3] #[3] false) 1 false := ⟨Try.underlying80, Try.sizeOf80, Try.isAgg80⟩
instance : TyZ Try.prog 80 [Value.nilFunc] := ⟨fun w => ⟨_, Try.zeroValue80 w, rfl⟩⟩
instance : TyI Try.prog 81 (TypeDesc.struct #[{ name := "Id", type := 3, offset := 0, embedded := false, tag := "", pkgPath := "", byteOffset := 0 }, { name := "Long", type := 34, offset := 1, embedded := false, tag := "", pkgPath := "", byteOffset := 8 }, { name := "Fall", type := 34, offset := 3, embedded := false, tag := "", pkgPath := "", byteOffset := 24 }, { name := "Radius", type := 34, offset := 5, embedded := false, tag := "", pkgPath := "", byteOffset := 40 }, { name := "Side", type := 5, offset := 7, embedded := false, tag := "", pkgPath := "", byteOffset := 56 }, { name := "Wall", type := 3, offset := 8, embedded := false, tag := "", pkgPath := "", byteOffset := 64 }]) 9 true := ⟨Try.underlying81, Try.sizeOf81, Try.isAgg81⟩
instance : TyZ Try.prog 81 [Value.int Go.IntKind.i64 0, Value.int Go.IntKind.i64 0, Value.int Go.IntKind.i64 0, Value.int Go.IntKind.i64 0, Value.int Go.IntKind.i64 0, Value.int Go.IntKind.i64 0, Value.int Go.IntKind.i64 0, Value.int Go.IntKind.u8 0, Value.int Go.IntKind.i64 0] := ⟨fun w => ⟨_, Try.zeroValue81 w, rfl⟩⟩
instance : TyB Try.prog 81 [(0, 1), (1, 2), (3, 2), (5, 2), (7, 1), (8, 1)] [Value.int Go.IntKind.i64 0, Value.int Go.IntKind.i64 0, Value.int Go.IntKind.i64 0, Value.int Go.IntKind.i64 0, Value.int Go.IntKind.i64 0, Value.int Go.IntKind.i64 0, Value.int Go.IntKind.i64 0, Value.int Go.IntKind.u8 0, Value.int Go.IntKind.i64 0] := tyB_struct (zv := Value.agg #[Value.int Go.IntKind.i64 0, Value.int Go.IntKind.i64 0, Value.int Go.IntKind.i64 0, Value.int Go.IntKind.i64 0, Value.int Go.IntKind.i64 0, Value.int Go.IntKind.i64 0, Value.int Go.IntKind.i64 0, Value.int Go.IntKind.u8 0, Value.int Go.IntKind.i64 0]) (by kernel_rfl) rfl Try.underlying81 (by kernel_rfl)
instance : TyI Try.prog 82 (TypeDesc.struct #[{ name := "Id", type := 3, offset := 0, embedded := false, tag := "", pkgPath := "", byteOffset := 0 }, { name := "Long", type := 34, offset := 1, embedded := false, tag := "", pkgPath := "", byteOffset := 8 }, { name := "Fall", type := 34, offset := 3, embedded := false, tag := "", pkgPath := "", byteOffset := 24 }, { name := "Radius", type := 34, offset := 5, embedded := false, tag := "", pkgPath := "", byteOffset := 40 }, { name := "Side", type := 5, offset := 7, embedded := false, tag := "", pkgPath := "", byteOffset := 56 }, { name := "Wall", type := 3, offset := 8, embedded := false, tag := "", pkgPath := "", byteOffset := 64 }]) 9 true := ⟨Try.underlying82, Try.sizeOf82, Try.isAgg82⟩
instance : TyZ Try.prog 82 [Value.int Go.IntKind.i64 0, Value.int Go.IntKind.i64 0, Value.int Go.IntKind.i64 0, Value.int Go.IntKind.i64 0, Value.int Go.IntKind.i64 0, Value.int Go.IntKind.i64 0, Value.int Go.IntKind.i64 0, Value.int Go.IntKind.u8 0, Value.int Go.IntKind.i64 0] := ⟨fun w => ⟨_, Try.zeroValue82 w, rfl⟩⟩
instance : TyB Try.prog 82 [(0, 1), (1, 2), (3, 2), (5, 2), (7, 1), (8, 1)] [Value.int Go.IntKind.i64 0, Value.int Go.IntKind.i64 0, Value.int Go.IntKind.i64 0, Value.int Go.IntKind.i64 0, Value.int Go.IntKind.i64 0, Value.int Go.IntKind.i64 0, Value.int Go.IntKind.i64 0, Value.int Go.IntKind.u8 0, Value.int Go.IntKind.i64 0] := tyB_struct (zv := Value.agg #[Value.int Go.IntKind.i64 0, Value.int Go.IntKind.i64 0, Value.int Go.IntKind.i64 0, Value.int Go.IntKind.i64 0, Value.int Go.IntKind.i64 0, Value.int Go.IntKind.i64 0, Value.int Go.IntKind.i64 0, Value.int Go.IntKind.u8 0, Value.int Go.IntKind.i64 0]) (by kernel_rfl) rfl Try.underlying82 (by kernel_rfl)
instance : TyI Try.prog 83 (TypeDesc.func #[3, 34] #[4] false) 1 false := ⟨Try.underlying83, Try.sizeOf83, Try.isAgg83⟩
instance : TyZ Try.prog 83 [Value.nilFunc] := ⟨fun w => ⟨_, Try.zeroValue83 w, rfl⟩⟩
instance : TyI Try.prog 84 (TypeDesc.func #[24, 75] #[4] false) 1 false := ⟨Try.underlying84, Try.sizeOf84, Try.isAgg84⟩
instance : TyZ Try.prog 84 [Value.nilFunc] := ⟨fun w => ⟨_, Try.zeroValue84 w, rfl⟩⟩
instance : TyI Try.prog 85 (TypeDesc.func #[3, 3] #[34] false) 1 false := ⟨Try.underlying85, Try.sizeOf85, Try.isAgg85⟩
instance : TyZ Try.prog 85 [Value.nilFunc] := ⟨fun w => ⟨_, Try.zeroValue85 w, rfl⟩⟩
instance : TyI Try.prog 86 (TypeDesc.func #[24, 67, 5, 4] #[4] false) 1 false := ⟨Try.underlying86, Try.sizeOf86, Try.isAgg86⟩
instance : TyZ Try.prog 86 [Value.nilFunc] := ⟨fun w => ⟨_, Try.zeroValue86 w, rfl⟩⟩
instance : TyI Try.prog 87 (TypeDesc.func #[24, 67, 73] #[4] false) 1 false := ⟨Try.underlying87, Try.sizeOf87, Try.isAgg87⟩
instance : TyZ Try.prog 87 [Value.nilFunc] := ⟨fun w => ⟨_, Try.zeroValue87 w, rfl⟩⟩
instance : TyI Try.prog 88 (TypeDesc.int Go.IntKind.u32) 1 false := ⟨Try.underlying88, Try.sizeOf88, Try.isAgg88⟩
instance : TyZ Try.prog 88 [Value.int Go.IntKind.u32 0] := ⟨fun w => ⟨_, Try.zeroValue88 w, rfl⟩⟩
instance : TyI Try.prog 89 (TypeDesc.func #[42, 3, 3] #[3] false) 1 false := ⟨Try.underlying89, Try.sizeOf89, Try.isAgg89⟩
instance : TyZ Try.prog 89 [Value.nilFunc] := ⟨fun w => ⟨_, Try.zeroValue89 w, rfl⟩⟩
instance : TyI Try.prog 90 (TypeDesc.func #[24, 88, 75] #[4] false) 1 false := ⟨Try.underlying90, Try.sizeOf90, Try.isAgg90⟩
instance : TyZ Try.prog 90 [Value.nilFunc] := ⟨fun w => ⟨_, Try.zeroValue90 w, rfl⟩⟩
instance : TyI Try.prog 91 (TypeDesc.map 3 4) 1 false := ⟨Try.underlying91, Try.sizeOf91, Try.isAgg91⟩
instance : TyZ Try.prog 91 [Value.map none] := ⟨fun w => ⟨_, Try.zeroValue91 w, rfl⟩⟩
instance : TyI Try.prog 92 (TypeDesc.pointer 82) 1 false := ⟨Try.underlying92, Try.sizeOf92, Try.isAgg92⟩
instance : TyZ Try.prog 92 [Value.pointer none] := ⟨fun w => ⟨_, Try.zeroValue92 w, rfl⟩⟩
instance : TyI Try.prog 93 (TypeDesc.func #[24, 5, 5, 75] #[4] false) 1 false := ⟨Try.underlying93, Try.sizeOf93, Try.isAgg93⟩
instance : TyZ Try.prog 93 [Value.nilFunc] := ⟨fun w => ⟨_, Try.zeroValue93 w, rfl⟩⟩
instance : TyI Try.prog 94 (TypeDesc.func #[24, 75, 3] #[57] false) 1 false := ⟨Try.underlying94, Try.sizeOf94, Try.isAgg94⟩
instance : TyZ Try.prog 94 [Value.nilFunc] := ⟨fun w => ⟨_, Try.zeroValue94 w, rfl⟩⟩
instance : TyI Try.prog 95 (TypeDesc.func #[34, 3] #[3] false) 1 false := ⟨Try.underlying95, Try.sizeOf95, Try.isAgg95⟩
instance : TyZ Try.prog 95 [Value.nilFunc] := ⟨fun w => ⟨_, Try.zeroValue95 w, rfl⟩⟩
instance : TyI Try.prog 96 (TypeDesc.int Go.IntKind.u16) 1 false := ⟨Try.underlying96, Try.sizeOf96, Try.isAgg96⟩
instance : TyZ Try.prog 96 [Value.int Go.IntKind.u16 0] := ⟨fun w => ⟨_, Try.zeroValue96 w, rfl⟩⟩
instance : TyI Try.prog 97 (TypeDesc.pointer 34) 1 false := ⟨Try.underlying97, Try.sizeOf97, Try.isAgg97⟩
instance : TyZ Try.prog 97 [Value.pointer none] := ⟨fun w => ⟨_, Try.zeroValue97 w, rfl⟩⟩
instance : TyI Try.prog 98 (TypeDesc.func #[24, 5, 96, 75] #[4] false) 1 false := ⟨Try.underlying98, Try.sizeOf98, Try.isAgg98⟩
instance : TyZ Try.prog 98 [Value.nilFunc] := ⟨fun w => ⟨_, Try.zeroValue98 w, rfl⟩⟩
instance : TyI Try.prog 99 (TypeDesc.func #[24, 67, 5] #[4] false) 1 false := ⟨Try.underlying99, Try.sizeOf99, Try.isAgg99⟩
instance : TyZ Try.prog 99 [Value.nilFunc] := ⟨fun w => ⟨_, Try.zeroValue99 w, rfl⟩⟩
instance : TyI Try.prog 100 (TypeDesc.func #[24, 24, 67] #[4] false) 1 false := ⟨Try.underlying100, Try.sizeOf100, Try.isAgg100⟩
instance : TyZ Try.prog 100 [Value.nilFunc] := ⟨fun w => ⟨_, Try.zeroValue100 w, rfl⟩⟩
instance : TyI Try.prog 101 (TypeDesc.struct #[{ name := "Track", type := 24, offset := 0, embedded := true, tag := "", pkgPath := "", byteOffset := 0 }]) 1 true := ⟨Try.underlying101, Try.sizeOf101, Try.isAgg101⟩
instance : TyZ Try.prog 101 [Value.slice none 0 0] := ⟨fun w => ⟨_, Try.zeroValue101 w, rfl⟩⟩
instance : TyB Try.prog 101 [(0, 1)] [Value.slice none 0 0] := tyB_struct (zv := Value.agg #[Value.slice none 0 0]) (by kernel_rfl) rfl Try.underlying101 (by kernel_rfl)
instance : TyI Try.prog 102 (TypeDesc.struct #[{ name := "Track", type := 24, offset := 0, embedded := true, tag := "", pkgPath := "", byteOffset := 0 }]) 1 true := ⟨Try.underlying102, Try.sizeOf102, Try.isAgg102⟩
instance : TyZ Try.prog 102 [Value.slice none 0 0] := ⟨fun w => ⟨_, Try.zeroValue102 w, rfl⟩⟩
instance : TyB Try.prog 102 [(0, 1)] [Value.slice none 0 0] := tyB_struct (zv := Value.agg #[Value.slice none 0 0]) (by kernel_rfl) rfl Try.underlying102 (by kernel_rfl)
instance : TyI Try.prog 103 (TypeDesc.tuple #[102, 28]) 1 false := ⟨Try.underlying103, Try.sizeOf103, Try.isAgg103⟩
instance : TyZ Try.prog 103 [Value.tuple #[Value.agg #[Value.slice none 0 0], Value.int Go.IntKind.i64 0]] := ⟨fun w => ⟨_, Try.zeroValue103 w, rfl⟩⟩
instance : TyI Try.prog 104 (TypeDesc.func #[24] #[102, 28] false) 1 false := ⟨Try.underlying104, Try.sizeOf104, Try.isAgg104⟩
instance : TyZ Try.prog 104 [Value.nilFunc] := ⟨fun w => ⟨_, Try.zeroValue104 w, rfl⟩⟩
instance : TyI Try.prog 105 (TypeDesc.func #[136] #[] false) 1 false := ⟨Try.underlying105, Try.sizeOf105, Try.isAgg105⟩
instance : TyZ Try.prog 105 [Value.nilFunc] := ⟨fun w => ⟨_, Try.zeroValue105 w, rfl⟩⟩
instance : TyI Try.prog 106 (TypeDesc.func #[136] #[] false) 1 false := ⟨Try.underlying106, Try.sizeOf106, Try.isAgg106⟩
instance : TyZ Try.prog 106 [Value.nilFunc] := ⟨fun w => ⟨_, Try.zeroValue106 w, rfl⟩⟩
instance : TyI Try.prog 107 (TypeDesc.func #[3] #[106] false) 1 false := ⟨Try.underlying107, Try.sizeOf107, Try.isAgg107⟩
instance : TyZ Try.prog 107 [Value.nilFunc] := ⟨fun w => ⟨_, Try.zeroValue107 w, rfl⟩⟩
instance : TyI Try.prog 108 (TypeDesc.func #[24] #[27] false) 1 false := ⟨Try.underlying108, Try.sizeOf108, Try.isAgg108⟩
instance : TyZ Try.prog 108 [Value.nilFunc] := ⟨fun w => ⟨_, Try.zeroValue108 w, rfl⟩⟩
instance : TyI Try.prog 109 (TypeDesc.func #[3, 3, 42] #[4] true) 1 false := ⟨Try.underlying109, Try.sizeOf109, Try.isAgg109⟩
instance : TyZ Try.prog 109 [Value.nilFunc] := ⟨fun w => ⟨_, Try.zeroValue109 w, rfl⟩⟩
instance : TyI Try.prog 110 (TypeDesc.tuple #[34, 34]) 1 false := ⟨Try.underlying110, Try.sizeOf110, Try.isAgg110⟩
instance : TyZ Try.prog 110 [Value.tuple #[Value.agg #[Value.int Go.IntKind.i64 0, Value.int Go.IntKind.i64 0], Value.agg #[Value.int Go.IntKind.i64 0, Value.int Go.IntKind.i64 0]]] := ⟨fun w => ⟨_, Try.zeroValue110 w, rfl⟩⟩
instance : TyI Try.prog 111 (TypeDesc.func #[3, 3] #[34, 34] false) 1 false := ⟨Try.underlying111, Try.sizeOf111, Try.isAgg111⟩
instance : TyZ Try.prog 111 [Value.nilFunc] := ⟨fun w => ⟨_, Try.zeroValue111 w, rfl⟩⟩
instance : TyI Try.prog 112 (TypeDesc.func #[3, 3, 3] #[4] false) 1 false := ⟨Try.underlying112, Try.sizeOf112, Try.isAgg112⟩
instance : TyZ Try.prog 112 [Value.nilFunc] := ⟨fun w => ⟨_, Try.zeroValue112 w, rfl⟩⟩
instance : TyI Try.prog 113 (TypeDesc.func #[24, 3, 3] #[34, 34] false) 1 false := ⟨Try.underlying113, Try.sizeOf113, Try.isAgg113⟩
instance : TyZ Try.prog 113 [Value.nilFunc] := ⟨fun w => ⟨_, Try.zeroValue113 w, rfl⟩⟩
instance : TyI Try.prog 114 (TypeDesc.func #[34, 3, 3] #[4] false) 1 false := ⟨Try.underlying114, Try.sizeOf114, Try.isAgg114⟩
instance : TyZ Try.prog 114 [Value.nilFunc] := ⟨fun w => ⟨_, Try.zeroValue114 w, rfl⟩⟩
instance : TyI Try.prog 115 (TypeDesc.func #[27, 83] #[42] false) 1 false := ⟨Try.underlying115, Try.sizeOf115, Try.isAgg115⟩
instance : TyZ Try.prog 115 [Value.nilFunc] := ⟨fun w => ⟨_, Try.zeroValue115 w, rfl⟩⟩
instance : TyI Try.prog 116 (TypeDesc.func #[22, 117] #[42] false) 1 false := ⟨Try.underlying116, Try.sizeOf116, Try.isAgg116⟩
instance : TyZ Try.prog 116 [Value.nilFunc] := ⟨fun w => ⟨_, Try.zeroValue116 w, rfl⟩⟩
instance : TyI Try.prog 117 (TypeDesc.func #[3, 82] #[4] false) 1 false := ⟨Try.underlying117, Try.sizeOf117, Try.isAgg117⟩
instance : TyZ Try.prog 117 [Value.nilFunc] := ⟨fun w => ⟨_, Try.zeroValue117 w, rfl⟩⟩
instance : TyI Try.prog 118 (TypeDesc.func #[139] #[4] true) 1 false := ⟨Try.underlying118, Try.sizeOf118, Try.isAgg118⟩
instance : TyZ Try.prog 118 [Value.nilFunc] := ⟨fun w => ⟨_, Try.zeroValue118 w, rfl⟩⟩
instance : TyI Try.prog 119 (TypeDesc.func #[34, 27] #[34] true) 1 false := ⟨Try.underlying119, Try.sizeOf119, Try.isAgg119⟩
instance : TyZ Try.prog 119 [Value.nilFunc] := ⟨fun w => ⟨_, Try.zeroValue119 w, rfl⟩⟩
instance : TyI Try.prog 120 (TypeDesc.func #[24, 57] #[4] false) 1 false := ⟨Try.underlying120, Try.sizeOf120, Try.isAgg120⟩
instance : TyZ Try.prog 120 [Value.nilFunc] := ⟨fun w => ⟨_, Try.zeroValue120 w, rfl⟩⟩
instance : TyI Try.prog 121 (TypeDesc.func #[34] #[34] false) 1 false := ⟨Try.underlying121, Try.sizeOf121, Try.isAgg121⟩
instance : TyZ Try.prog 121 [Value.nilFunc] := ⟨fun w => ⟨_, Try.zeroValue121 w, rfl⟩⟩
instance : TyI Try.prog 122 (TypeDesc.func #[142] #[22] true) 1 false := ⟨Try.underlying122, Try.sizeOf122, Try.isAgg122⟩
instance : TyZ Try.prog 122 [Value.nilFunc] := ⟨fun w => ⟨_, Try.zeroValue122 w, rfl⟩⟩
instance : TyI Try.prog 123 (TypeDesc.map 3 73) 1 false := ⟨Try.underlying123, Try.sizeOf123, Try.isAgg123⟩
instance : TyZ Try.prog 123 [Value.map none] := ⟨fun w => ⟨_, Try.zeroValue123 w, rfl⟩⟩
instance : TyI Try.prog 124 (TypeDesc.tuple #[102, 123, 28]) 1 false := ⟨Try.underlying124, Try.sizeOf124, Try.isAgg124⟩
instance : TyZ Try.prog 124 [Value.tuple #[Value.agg #[Value.slice none 0 0], Value.map none, Value.int Go.IntKind.i64 0]] := ⟨fun w => ⟨_, Try.zeroValue124 w, rfl⟩⟩
instance : TyI Try.prog 125 (TypeDesc.func #[24, 67] #[102, 123, 28] false) 1 false := ⟨Try.underlying125, Try.sizeOf125, Try.isAgg125⟩
instance : TyZ Try.prog 125 [Value.nilFunc] := ⟨fun w => ⟨_, Try.zeroValue125 w, rfl⟩⟩
instance : TyI Try.prog 126 (TypeDesc.tuple #[24, 4]) 1 false := ⟨Try.underlying126, Try.sizeOf126, Try.isAgg126⟩
instance : TyZ Try.prog 126 [Value.tuple #[Value.agg #[Value.slice none 0 0], Value.bool false]] := ⟨fun w => ⟨_, Try.zeroValue126 w, rfl⟩⟩
instance : TyI Try.prog 127 (TypeDesc.func #[123] #[24, 4] false) 1 false := ⟨Try.underlying127, Try.sizeOf127, Try.isAgg127⟩
instance : TyZ Try.prog 127 [Value.nilFunc] := ⟨fun w => ⟨_, Try.zeroValue127 w, rfl⟩⟩
instance : TyI Try.prog 128 (TypeDesc.func #[24, 67] #[24, 4] false) 1 false := ⟨Try.underlying128, Try.sizeOf128, Try.isAgg128⟩
instance : TyZ Try.prog 128 [Value.nilFunc] := ⟨fun w => ⟨_, Try.zeroValue128 w, rfl⟩⟩
instance : TyI Try.prog 129 (TypeDesc.func #[67, 131] #[42] false) 1 false := ⟨Try.underlying129, Try.sizeOf129, Try.isAgg129⟩
instance : TyZ Try.prog 129 [Value.nilFunc] := ⟨fun w => ⟨_, Try.zeroValue129 w, rfl⟩⟩
instance : TyI Try.prog 130 (TypeDesc.func #[22, 22] #[4] false) 1 false := ⟨Try.underlying130, Try.sizeOf130, Try.isAgg130⟩
instance : TyZ Try.prog 130 [Value.nilFunc] := ⟨fun w => ⟨_, Try.zeroValue130 w, rfl⟩⟩
instance : TyI Try.prog 131 (TypeDesc.func #[3, 73] #[4] false) 1 false := ⟨Try.underlying131, Try.sizeOf131, Try.isAgg131⟩
instance : TyZ Try.prog 131 [Value.nilFunc] := ⟨fun w => ⟨_, Try.zeroValue131 w, rfl⟩⟩
instance : TyI Try.prog 132 (TypeDesc.func #[] #[24] false) 1 false := ⟨Try.underlying132, Try.sizeOf132, Try.isAgg132⟩
instance : TyZ Try.prog 132 [Value.nilFunc] := ⟨fun w => ⟨_, Try.zeroValue132 w, rfl⟩⟩
instance : TyI Try.prog 133 (TypeDesc.func #[3, 42] #[4] true) 1 false := ⟨Try.underlying133, Try.sizeOf133, Try.isAgg133⟩
instance : TyZ Try.prog 133 [Value.nilFunc] := ⟨fun w => ⟨_, Try.zeroValue133 w, rfl⟩⟩
instance : TyI Try.prog 134 (TypeDesc.func #[34, 34, 67] #[4] true) 1 false := ⟨Try.underlying134, Try.sizeOf134, Try.isAgg134⟩
instance : TyZ Try.prog 134 [Value.nilFunc] := ⟨fun w => ⟨_, Try.zeroValue134 w, rfl⟩⟩
instance : TyI Try.prog 135 (TypeDesc.func #[] #[73] false) 1 false := ⟨Try.underlying135, Try.sizeOf135, Try.isAgg135⟩
instance : TyZ Try.prog 135 [Value.nilFunc] := ⟨fun w => ⟨_, Try.zeroValue135 w, rfl⟩⟩
instance : TyI Try.prog 136 (TypeDesc.func #[34, 34] #[4] false) 1 false := ⟨Try.underlying136, Try.sizeOf136, Try.isAgg136⟩
instance : TyZ Try.prog 136 [Value.nilFunc] := ⟨fun w => ⟨_, Try.zeroValue136 w, rfl⟩⟩
instance : TyI Try.prog 137 (TypeDesc.func #[42, 138] #[4] false) 1 false := ⟨Try.underlying137, Try.sizeOf137, Try.isAgg137⟩
instance : TyZ Try.prog 137 [Value.nilFunc] := ⟨fun w => ⟨_, Try.zeroValue137 w, rfl⟩⟩
instance : TyI Try.prog 138 (TypeDesc.func #[3] #[4] false) 1 false := ⟨Try.underlying138, Try.sizeOf138, Try.isAgg138⟩
instance : TyZ Try.prog 138 [Value.nilFunc] := ⟨fun w => ⟨_, Try.zeroValue138 w, rfl⟩⟩
instance : TyI Try.prog 139 (TypeDesc.slice 57) 1 false := ⟨Try.underlying139, Try.sizeOf139, Try.isAgg139⟩
instance : TyZ Try.prog 139 [Value.slice none 0 0] := ⟨fun w => ⟨_, Try.zeroValue139 w, rfl⟩⟩
instance : TyI Try.prog 140 (TypeDesc.func #[139, 141] #[42] false) 1 false := ⟨Try.underlying140, Try.sizeOf140, Try.isAgg140⟩
instance : TyZ Try.prog 140 [Value.nilFunc] := ⟨fun w => ⟨_, Try.zeroValue140 w, rfl⟩⟩
instance : TyI Try.prog 141 (TypeDesc.func #[3, 57] #[4] false) 1 false := ⟨Try.underlying141, Try.sizeOf141, Try.isAgg141⟩
instance : TyZ Try.prog 141 [Value.nilFunc] := ⟨fun w => ⟨_, Try.zeroValue141 w, rfl⟩⟩
instance : TyI Try.prog 142 (TypeDesc.slice 22) 1 false := ⟨Try.underlying142, Try.sizeOf142, Try.isAgg142⟩
instance : TyZ Try.prog 142 [Value.slice none 0 0] := ⟨fun w => ⟨_, Try.zeroValue142 w, rfl⟩⟩
instance : TyI Try.prog 143 (TypeDesc.func #[22, 3] #[22] false) 1 false := ⟨Try.underlying143, Try.sizeOf143, Try.isAgg143⟩
instance : TyZ Try.prog 143 [Value.nilFunc] := ⟨fun w => ⟨_, Try.zeroValue143 w, rfl⟩⟩
instance : TyI Try.prog 144 (TypeDesc.func #[146] #[123] false) 1 false := ⟨Try.underlying144, Try.sizeOf144, Try.isAgg144⟩
instance : TyZ Try.prog 144 [Value.nilFunc] := ⟨fun w => ⟨_, Try.zeroValue144 w, rfl⟩⟩
instance : TyI Try.prog 145 (TypeDesc.func #[131] #[] false) 1 false := ⟨Try.underlying145, Try.sizeOf145, Try.isAgg145⟩
instance : TyZ Try.prog 145 [Value.nilFunc] := ⟨fun w => ⟨_, Try.zeroValue145 w, rfl⟩⟩
instance : TyI Try.prog 146 (TypeDesc.func #[131] #[] false) 1 false := ⟨Try.underlying146, Try.sizeOf146, Try.isAgg146⟩
instance : TyZ Try.prog 146 [Value.nilFunc] := ⟨fun w => ⟨_, Try.zeroValue146 w, rfl⟩⟩
instance : TyI Try.prog 147 (TypeDesc.func #[67] #[146] false) 1 false := ⟨Try.underlying147, Try.sizeOf147, Try.isAgg147⟩
instance : TyZ Try.prog 147 [Value.nilFunc] := ⟨fun w => ⟨_, Try.zeroValue147 w, rfl⟩⟩
instance : TyI Try.prog 148 (TypeDesc.func #[22] #[22] false) 1 false := ⟨Try.underlying148, Try.sizeOf148, Try.isAgg148⟩
instance : TyZ Try.prog 148 [Value.nilFunc] := ⟨fun w => ⟨_, Try.zeroValue148 w, rfl⟩⟩
instance : TyI Try.prog 149 (TypeDesc.func #[92] #[97] false) 1 false := ⟨Try.underlying149, Try.sizeOf149, Try.isAgg149⟩
instance : TyZ Try.prog 149 [Value.nilFunc] := ⟨fun w => ⟨_, Try.zeroValue149 w, rfl⟩⟩
instance : TyI Try.prog 152 (TypeDesc.array 3 151) 3 true := ⟨Try.underlying152, Try.sizeOf152, Try.isAgg152⟩
instance : TyZ Try.prog 152 [Value.nilFunc, Value.nilFunc, Value.nilFunc] := ⟨fun w => ⟨_, Try.zeroValue152 w, rfl⟩⟩
instance : TyBA Try.prog 152 1 [Value.nilFunc, Value.nilFunc, Value.nilFunc] := tyB_array (zv := Value.agg #[Value.nilFunc, Value.nilFunc, Value.nilFunc]) (by kernel_rfl) rfl Try.underlying152 (by kernel_rfl)
instance : TyI Try.prog 153 (TypeDesc.func #[] #[152] false) 1 false := ⟨Try.underlying153, Try.sizeOf153, Try.isAgg153⟩
instance : TyZ Try.prog 153 [Value.nilFunc] := ⟨fun w => ⟨_, Try.zeroValue153 w, rfl⟩⟩
instance : TyI Try.prog 154 (TypeDesc.array 13 3) 13 true := ⟨Try.underlying154, Try.sizeOf154, Try.isAgg154⟩
instance : TyZ Try.prog 154 [Value.int Go.IntKind.i64 0, Value.int Go.IntKind.i64 0, Value.int Go.IntKind.i64 0, Value.int Go.IntKind.i64 0, Value.int Go.IntKind.i64 0, Value.int Go.IntKind.i64 0, Value.int Go.IntKind.i64 0, Value.int Go.IntKind.i64 0, Value.int Go.IntKind.i64 0, Value.int Go.IntKind.i64 0, Value.int Go.IntKind.i64 0, Value.int Go.IntKind.i64 0, Value.int Go.IntKind.i64 0] := ⟨fun w => ⟨_, Try.zeroValue154 w, rfl⟩⟩
instance : TyBA Try.prog 154 1 [Value.int Go.IntKind.i64 0, Value.int Go.IntKind.i64 0, Value.int Go.IntKind.i64 0, Value.int Go.IntKind.i64 0, Value.int Go.IntKind.i64 0, Value.int Go.IntKind.i64 0, Value.int Go.IntKind.i64 0, Value.int Go.IntKind.i64 0, Value.int Go.IntKind.i64 0, Value.int Go.IntKind.i64 0, Value.int Go.IntKind.i64 0, Value.int Go.IntKind.i64 0, Value.int Go.IntKind.i64 0] := tyB_array (zv := Value.agg #[Value.int Go.IntKind.i64 0, Value.int Go.IntKind.i64 0, Value.int Go.IntKind.i64 0, Value.int Go.IntKind.i64 0, Value.int Go.IntKind.i64 0, Value.int Go.IntKind.i64 0, Value.int Go.IntKind.i64 0, Value.int Go.IntKind.i64 0, Value.int Go.IntKind.i64 0, Value.int Go.IntKind.i64 0, Value.int Go.IntKind.i64 0, Value.int Go.IntKind.i64 0, Value.int Go.IntKind.i64 0]) (by kernel_rfl) rfl Try.underlying154 (by kernel_rfl)
instance : TyI Try.prog 155 (TypeDesc.array 13 154) 169 true := ⟨Try.underlying155, Try.sizeOf155, Try.isAgg155⟩
instance : TyZ Try.prog 155 (Go.Proofs.Try.zeroCells155.toList) := ⟨fun w => ⟨_, Try.zeroValue155 w, rfl⟩⟩
instance : TyBA Try.prog 155 13 (Go.Proofs.Try.zeroCells155.toList) := tyB_array (zv := Value.agg Go.Proofs.Try.zeroCells155) (by kernel_rfl) rfl Try.underlying155 (by kernel_rfl)
instance : TyI Try.prog 156 (TypeDesc.array 13 154) 169 true := ⟨Try.underlying156, Try.sizeOf156, Try.isAgg156⟩
instance : TyZ Try.prog 156 (Go.Proofs.Try.zeroCells156.toList) := ⟨fun w => ⟨_, Try.zeroValue156 w, rfl⟩⟩
instance : TyBA Try.prog 156 13 (Go.Proofs.Try.zeroCells156.toList) := tyB_array (zv := Value.agg Go.Proofs.Try.zeroCells156) (by kernel_rfl) rfl Try.underlying156 (by kernel_rfl)
instance : TyI Try.prog 157 (TypeDesc.tuple #[27, 4]) 1 false := ⟨Try.underlying157, Try.sizeOf157, Try.isAgg157⟩
instance : TyZ Try.prog 157 [Value.tuple #[Value.slice none 0 0, Value.bool false]] := ⟨fun w => ⟨_, Try.zeroValue157 w, rfl⟩⟩
instance : TyI Try.prog 158 (TypeDesc.func #[27, 67, 5] #[27, 4] false) 1 false := ⟨Try.underlying158, Try.sizeOf158, Try.isAgg158⟩
instance : TyZ Try.prog 158 [Value.nilFunc] := ⟨fun w => ⟨_, Try.zeroValue158 w, rfl⟩⟩
instance : TyI Try.prog 159 (TypeDesc.func #[42, 138] #[3] false) 1 false := ⟨Try.underlying159, Try.sizeOf159, Try.isAgg159⟩
instance : TyZ Try.prog 159 [Value.nilFunc] := ⟨fun w => ⟨_, Try.zeroValue159 w, rfl⟩⟩
instance : TyI Try.prog 160 (TypeDesc.func #[123, 146] #[] false) 1 false := ⟨Try.underlying160, Try.sizeOf160, Try.isAgg160⟩
instance : TyZ Try.prog 160 [Value.nilFunc] := ⟨fun w => ⟨_, Try.zeroValue160 w, rfl⟩⟩
instance : TyI Try.prog 161 (TypeDesc.pointer 156) 1 false := ⟨Try.underlying161, Try.sizeOf161, Try.isAgg161⟩
instance : TyZ Try.prog 161 [Value.pointer none] := ⟨fun w => ⟨_, Try.zeroValue161 w, rfl⟩⟩
instance : TyI Try.prog 162 (TypeDesc.slice 42) 1 false := ⟨Try.underlying162, Try.sizeOf162, Try.isAgg162⟩
instance : TyZ Try.prog 162 [Value.slice none 0 0] := ⟨fun w => ⟨_, Try.zeroValue162 w, rfl⟩⟩
instance : TyI Try.prog 163 (TypeDesc.func #[] #[9] false) 1 false := ⟨Try.underlying163, Try.sizeOf163, Try.isAgg163⟩
instance : TyZ Try.prog 163 [Value.nilFunc] := ⟨fun w => ⟨_, Try.zeroValue163 w, rfl⟩⟩
instance : TyI Try.prog 164 (TypeDesc.struct #[{ name := "_interface", type := 17, offset := 0, embedded := false, tag := "", pkgPath := "runtime", byteOffset := 0 }, { name := "concrete", type := 17, offset := 1, embedded := false, tag := "", pkgPath := "runtime", byteOffset := 8 }, { name := "asserted", type := 17, offset := 2, embedded := false, tag := "", pkgPath := "runtime", byteOffset := 16 }, { name := "missingMethod", type := 9, offset := 3, embedded := false, tag := "", pkgPath := "runtime", byteOffset := 24 }]) 4 true := ⟨Try.underlying164, Try.sizeOf164, Try.isAgg164⟩
instance : TyZ Try.prog 164 [Value.pointer none, Value.pointer none, Value.pointer none, Value.string { data := #[] }] := ⟨fun w => ⟨_, Try.zeroValue164 w, rfl⟩⟩
instance : TyB Try.prog 164 [(0, 1), (1, 1), (2, 1), (3, 1)] [Value.pointer none, Value.pointer none, Value.pointer none, Value.string { data := #[] }] := tyB_struct (zv := Value.agg #[Value.pointer none, Value.pointer none, Value.pointer none, Value.string { data := #[] }]) (by kernel_rfl) rfl Try.underlying164 (by kernel_rfl)
instance : TyI Try.prog 165 (TypeDesc.struct #[{ name := "_interface", type := 17, offset := 0, embedded := false, tag := "", pkgPath := "runtime", byteOffset := 0 }, { name := "concrete", type := 17, offset := 1, embedded := false, tag := "", pkgPath := "runtime", byteOffset := 8 }, { name := "asserted", type := 17, offset := 2, embedded := false, tag := "", pkgPath := "runtime", byteOffset := 16 }, { name := "missingMethod", type := 9, offset := 3, embedded := false, tag := "", pkgPath := "runtime", byteOffset := 24 }]) 4 true := ⟨Try.underlying165, Try.sizeOf165, Try.isAgg165⟩
instance : TyZ Try.prog 165 [Value.pointer none, Value.pointer none, Value.pointer none, Value.string { data := #[] }] := ⟨fun w => ⟨_, Try.zeroValue165 w, rfl⟩⟩
instance : TyB Try.prog 165 [(0, 1), (1, 1), (2, 1), (3, 1)] [Value.pointer none, Value.pointer none, Value.pointer none, Value.string { data := #[] }] := tyB_struct (zv := Value.agg #[Value.pointer none, Value.pointer none, Value.pointer none, Value.string { data := #[] }]) (by kernel_rfl) rfl Try.underlying165 (by kernel_rfl)
instance : TyI Try.prog 166 (TypeDesc.array 0 16) 0 true := ⟨Try.underlying166, Try.sizeOf166, Try.isAgg166⟩
instance : TyZ Try.prog 166 [] := ⟨fun w => ⟨_, Try.zeroValue166 w, rfl⟩⟩
instance : TyBA Try.prog 166 1 [] := tyB_array (zv := Value.agg #[]) (by kernel_rfl) rfl Try.underlying166 (by kernel_rfl)
instance : TyI Try.prog 167 (TypeDesc.struct #[{ name := "_", type := 166, offset := 0, embedded := false, tag := "", pkgPath := "runtime", byteOffset := 0 }]) 0 true := ⟨Try.underlying167, Try.sizeOf167, Try.isAgg167⟩
instance : TyZ Try.prog 167 [] := ⟨fun w => ⟨_, Try.zeroValue167 w, rfl⟩⟩
instance : TyB Try.prog 167 [(0, 0)] [] := tyB_struct (zv := Value.agg #[]) (by kernel_rfl) rfl Try.underlying167 (by kernel_rfl)
instance : TyI Try.prog 168 (TypeDesc.struct #[{ name := "_", type := 166, offset := 0, embedded := false, tag := "", pkgPath := "runtime", byteOffset := 0 }]) 0 true := ⟨Try.underlying168, Try.sizeOf168, Try.isAgg168⟩
instance : TyZ Try.prog 168 [] := ⟨fun w => ⟨_, Try.zeroValue168 w, rfl⟩⟩
instance : TyB Try.prog 168 [(0, 0)] [] := tyB_struct (zv := Value.agg #[]) (by kernel_rfl) rfl Try.underlying168 (by kernel_rfl)
instance : TyI Try.prog 169 (TypeDesc.func #[] #[3] false) 1 false := ⟨Try.underlying169, Try.sizeOf169, Try.isAgg169⟩
instance : TyZ Try.prog 169 [Value.nilFunc] := ⟨fun w => ⟨_, Try.zeroValue169 w, rfl⟩⟩
instance : TyI Try.prog 170 (TypeDesc.int Go.IntKind.u8) 1 false := ⟨Try.underlying170, Try.sizeOf170, Try.isAgg170⟩
instance : TyZ Try.prog 170 [Value.int Go.IntKind.u8 0] := ⟨fun w => ⟨_, Try.zeroValue170 w, rfl⟩⟩
instance : TyI Try.prog 171 (TypeDesc.int Go.IntKind.u8) 1 false := ⟨Try.underlying171, Try.sizeOf171, Try.isAgg171⟩
instance : TyZ Try.prog 171 [Value.int Go.IntKind.u8 0] := ⟨fun w => ⟨_, Try.zeroValue171 w, rfl⟩⟩
instance : TyI Try.prog 172 (TypeDesc.func #[178, 178] #[4] false) 1 false := ⟨Try.underlying172, Try.sizeOf172, Try.isAgg172⟩
instance : TyZ Try.prog 172 [Value.nilFunc] := ⟨fun w => ⟨_, Try.zeroValue172 w, rfl⟩⟩
instance : TyI Try.prog 173 (TypeDesc.pointer 5) 1 false := ⟨Try.underlying173, Try.sizeOf173, Try.isAgg173⟩
instance : TyZ Try.prog 173 [Value.pointer none] := ⟨fun w => ⟨_, Try.zeroValue173 w, rfl⟩⟩
instance : TyI Try.prog 174 (TypeDesc.int Go.IntKind.i32) 1 false := ⟨Try.underlying174, Try.sizeOf174, Try.isAgg174⟩
instance : TyZ Try.prog 174 [Value.int Go.IntKind.i32 0] := ⟨fun w => ⟨_, Try.zeroValue174 w, rfl⟩⟩
instance : TyI Try.prog 175 (TypeDesc.int Go.IntKind.i32) 1 false := ⟨Try.underlying175, Try.sizeOf175, Try.isAgg175⟩
instance : TyZ Try.prog 175 [Value.int Go.IntKind.i32 0] := ⟨fun w => ⟨_, Try.zeroValue175 w, rfl⟩⟩
instance : TyI Try.prog 176 (TypeDesc.struct #[{ name := "Size_", type := 12, offset := 0, embedded := false, tag := "", pkgPath := "", byteOffset := 0 }, { name := "PtrBytes", type := 12, offset := 1, embedded := false, tag := "", pkgPath := "", byteOffset := 8 }, { name := "Hash", type := 88, offset := 2, embedded := false, tag := "", pkgPath := "", byteOffset := 16 }, { name := "TFlag", type := 170, offset := 3, embedded := false, tag := "", pkgPath := "", byteOffset := 20 }, { name := "Align_", type := 5, offset := 4, embedded := false, tag := "", pkgPath := "", byteOffset := 21 }, { name := "FieldAlign_", type := 5, offset := 5, embedded := false, tag := "", pkgPath := "", byteOffset := 22 }, { name := "Kind_", type := 171, offset := 6, embedded := false, tag := "", pkgPath := "", byteOffset := 23 }, { name := "Equal", type := 172, offset := 7, embedded := false, tag := "", pkgPath := "", byteOffset := 24 }, { name := "GCData", type := 173, offset := 8, embedded := false, tag := "", pkgPath := "", byteOffset := 32 }, { name := "Str", type := 174, offset := 9, embedded := false, tag := "", pkgPath := "", byteOffset := 40 }, { name := "PtrToThis", type := 175, offset := 10, embedded := false, tag := "", pkgPath := "", byteOffset := 44 }]) 11 true := ⟨Try.underlying176, Try.sizeOf176, Try.isAgg176⟩
instance : TyZ Try.prog 176 [Value.int Go.IntKind.u64 0, Value.int Go.IntKind.u64 0, Value.int Go.IntKind.u32 0, Value.int Go.IntKind.u8 0, Value.int Go.IntKind.u8 0, Value.int Go.IntKind.u8 0, Value.int Go.IntKind.u8 0, Value.nilFunc, Value.pointer none, Value.int Go.IntKind.i32 0, Value.int Go.IntKind.i32 0] := ⟨fun w => ⟨_, Try.zeroValue176 w, rfl⟩⟩
instance : TyB Try.prog 176 [(0, 1), (1, 1), (2, 1), (3, 1), (4, 1), (5, 1), (6, 1), (7, 1), (8, 1), (9, 1), (10, 1)] [Value.int Go.IntKind.u64 0, Value.int Go.IntKind.u64 0, Value.int Go.IntKind.u32 0, Value.int Go.IntKind.u8 0, Value.int Go.IntKind.u8 0, Value.int Go.IntKind.u8 0, Value.int Go.IntKind.u8 0, Value.nilFunc, Value.pointer none, Value.int Go.IntKind.i32 0, Value.int Go.IntKind.i32 0] := tyB_struct (zv := Value.agg #[Value.int Go.IntKind.u64 0, Value.int Go.IntKind.u64 0, Value.int Go.IntKind.u32 0, Value.int Go.IntKind.u8 0, Value.int Go.IntKind.u8 0, Value.int Go.IntKind.u8 0, Value.int Go.IntKind.u8 0, Value.nilFunc, Value.pointer none, Value.int Go.IntKind.i32 0, Value.int Go.IntKind.i32 0]) (by kernel_rfl) rfl Try.underlying176 (by kernel_rfl)
instance : TyI Try.prog 177 (TypeDesc.struct #[{ name := "Size_", type := 12, offset := 0, embedded := false, tag := "", pkgPath := "", byteOffset := 0 }, { name := "PtrBytes", type := 12, offset := 1, embedded := false, tag := "", pkgPath := "", byteOffset := 8 }, { name := "Hash", type := 88, offset := 2, embedded := false, tag := "", pkgPath := "", byteOffset := 16 }, { name := "TFlag", type := 170, offset := 3, embedded := false, tag := "", pkgPath := "", byteOffset := 20 }, { name := "Align_", type := 5, offset := 4, embedded := false, tag := "", pkgPath := "", byteOffset := 21 }, { name := "FieldAlign_", type := 5, offset := 5, embedded := false, tag := "", pkgPath := "", byteOffset := 22 }, { name := "Kind_", type := 171, offset := 6, embedded := false, tag := "", pkgPath := "", byteOffset := 23 }, { name := "Equal", type := 172, offset := 7, embedded := false, tag := "", pkgPath := "", byteOffset := 24 }, { name := "GCData", type := 173, offset := 8, embedded := false, tag := "", pkgPath := "", byteOffset := 32 }, { name := "Str", type := 174, offset := 9, embedded := false, tag := "", pkgPath := "", byteOffset := 40 }, { name := "PtrToThis", type := 175, offset := 10, embedded := false, tag := "", pkgPath := "", byteOffset := 44 }]) 11 true := ⟨Try.underlying177, Try.sizeOf177, Try.isAgg177⟩
instance : TyZ Try.prog 177 [Value.int Go.IntKind.u64 0, Value.int Go.IntKind.u64 0, Value.int Go.IntKind.u32 0, Value.int Go.IntKind.u8 0, Value.int Go.IntKind.u8 0, Value.int Go.IntKind.u8 0, Value.int Go.IntKind.u8 0, Value.nilFunc, Value.pointer none, Value.int Go.IntKind.i32 0, Value.int Go.IntKind.i32 0] := ⟨fun w => ⟨_, Try.zeroValue177 w, rfl⟩⟩
instance : TyB Try.prog 177 [(0, 1), (1, 1), (2, 1), (3, 1), (4, 1), (5, 1), (6, 1), (7, 1), (8, 1), (9, 1), (10, 1)] [Value.int Go.IntKind.u64 0, Value.int Go.IntKind.u64 0, Value.int Go.IntKind.u32 0, Value.int Go.IntKind.u8 0, Value.int Go.IntKind.u8 0, Value.int Go.IntKind.u8 0, Value.int Go.IntKind.u8 0, Value.nilFunc, Value.pointer none, Value.int Go.IntKind.i32 0, Value.int Go.IntKind.i32 0] := tyB_struct (zv := Value.agg #[Value.int Go.IntKind.u64 0, Value.int Go.IntKind.u64 0, Value.int Go.IntKind.u32 0, Value.int Go.IntKind.u8 0, Value.int Go.IntKind.u8 0, Value.int Go.IntKind.u8 0, Value.int Go.IntKind.u8 0, Value.nilFunc, Value.pointer none, Value.int Go.IntKind.i32 0, Value.int Go.IntKind.i32 0]) (by kernel_rfl) rfl Try.underlying177 (by kernel_rfl)
instance : TyI Try.prog 178 TypeDesc.unsafePointer 1 false := ⟨Try.underlying178, Try.sizeOf178, Try.isAgg178⟩
instance : TyZ Try.prog 178 [Value.pointer none] := ⟨fun w => ⟨_, Try.zeroValue178 w, rfl⟩⟩
instance : FoI Try.prog 7 0 0 := foI (T := 7) (m := 0) inferInstance rfl (inferInstance : TyI Try.prog 2 _ _ _) rfl rfl
instance : FoI Try.prog 7 1 1 := foI (T := 7) (m := 1) inferInstance rfl (inferInstance : TyI Try.prog 3 _ _ _) rfl rfl
instance : FoI Try.prog 7 2 2 := foI (T := 7) (m := 2) inferInstance rfl (inferInstance : TyI Try.prog 4 _ _ _) rfl rfl
instance : FoI Try.prog 7 3 3 := foI (T := 7) (m := 3) inferInstance rfl (inferInstance : TyI Try.prog 6 _ _ _) rfl rfl
instance : FoI Try.prog 8 0 0 := foI (T := 8) (m := 0) inferInstance rfl (inferInstance : TyI Try.prog 2 _ _ _) rfl rfl
instance : FoI Try.prog 8 1 1 := foI (T := 8) (m := 1) inferInstance rfl (inferInstance : TyI Try.prog 3 _ _ _) rfl rfl
instance : FoI Try.prog 8 2 2 := foI (T := 8) (m := 2) inferInstance rfl (inferInstance : TyI Try.prog 4 _ _ _) rfl rfl
instance : FoI Try.prog 8 3 3 := foI (T := 8) (m := 3) inferInstance rfl (inferInstance : TyI Try.prog 6 _ _ _) rfl rfl
instance : FoI Try.prog 13 0 0 := foI (T := 13) (m := 0) inferInstance rfl (inferInstance : TyI Try.prog 9 _ _ _) rfl rfl
instance : FoI Try.prog 13 1 1 := foI (T := 13) (m := 1) inferInstance rfl (inferInstance : TyI Try.prog 12 _ _ _) rfl rfl
instance : FoI Try.prog 14 0 0 := foI (T := 14) (m := 0) inferInstance rfl (inferInstance : TyI Try.prog 9 _ _ _) rfl rfl
instance : FoI Try.prog 14 1 1 := foI (T := 14) (m := 1) inferInstance rfl (inferInstance : TyI Try.prog 12 _ _ _) rfl rfl
instance : FoI Try.prog 23 0 0 := foI (T := 23) (m := 0) inferInstance rfl (inferInstance : TyI Try.prog 22 _ _ _) rfl rfl
instance : FoI Try.prog 24 0 0 := foI (T := 24) (m := 0) inferInstance rfl (inferInstance : TyI Try.prog 22 _ _ _) rfl rfl
instance : FoI Try.prog 33 0 0 := foI (T := 33) (m := 0) inferInstance rfl (inferInstance : TyI Try.prog 3 _ _ _) rfl rfl
instance : FoI Try.prog 33 1 1 := foI (T := 33) (m := 1) inferInstance rfl (inferInstance : TyI Try.prog 3 _ _ _) rfl rfl
instance : FoI Try.prog 34 0 0 := foI (T := 34) (m := 0) inferInstance rfl (inferInstance : TyI Try.prog 3 _ _ _) rfl rfl
instance : FoI Try.prog 34 1 1 := foI (T := 34) (m := 1) inferInstance rfl (inferInstance : TyI Try.prog 3 _ _ _) rfl rfl
instance : FoI Try.prog 56 0 0 := foI (T := 56) (m := 0) inferInstance rfl (inferInstance : TyI Try.prog 3 _ _ _) rfl rfl
instance : FoI Try.prog 56 1 1 := foI (T := 56) (m := 1) inferInstance rfl (inferInstance : TyI Try.prog 34 _ _ _) rfl rfl
instance : FoI Try.prog 57 0 0 := foI (T := 57) (m := 0) inferInstance rfl (inferInstance : TyI Try.prog 3 _ _ _) rfl rfl
instance : FoI Try.prog 57 1 1 := foI (T := 57) (m := 1) inferInstance rfl (inferInstance : TyI Try.prog 34 _ _ _) rfl rfl
instance : FoI Try.prog 72 0 0 := foI (T := 72) (m := 0) inferInstance rfl (inferInstance : TyI Try.prog 5 _ _ _) rfl rfl
instance : FoI Try.prog 72 1 1 := foI (T := 72) (m := 1) inferInstance rfl (inferInstance : TyI Try.prog 3 _ _ _) rfl rfl
instance : FoI Try.prog 72 2 2 := foI (T := 72) (m := 2) inferInstance rfl (inferInstance : TyI Try.prog 3 _ _ _) rfl rfl
instance : FoI Try.prog 72 3 3 := foI (T := 72) (m := 3) inferInstance rfl (inferInstance : TyI Try.prog 34 _ _ _) rfl rfl
instance : FoI Try.prog 73 0 0 := foI (T := 73) (m := 0) inferInstance rfl (inferInstance : TyI Try.prog 5 _ _ _) rfl rfl
instance : FoI Try.prog 73 1 1 := foI (T := 73) (m := 1) inferInstance rfl (inferInstance : TyI Try.prog 3 _ _ _) rfl rfl
instance : FoI Try.prog 73 2 2 := foI (T := 73) (m := 2) inferInstance rfl (inferInstance : TyI Try.prog 3 _ _ _) rfl rfl
instance : FoI Try.prog 73 3 3 := foI (T := 73) (m := 3) inferInstance rfl (inferInstance : TyI Try.prog 34 _ _ _) rfl rfl
instance : FoI Try.prog 81 0 0 := foI (T := 81) (m := 0) inferInstance rfl (inferInstance : TyI Try.prog 3 _ _ _) rfl rfl
instance : FoI Try.prog 81 1 1 := foI (T := 81) (m := 1) inferInstance rfl (inferInstance : TyI Try.prog 34 _ _ _) rfl rfl
instance : FoI Try.prog 81 2 3 := foI (T := 81) (m := 2) inferInstance rfl (inferInstance : TyI Try.prog 34 _ _ _) rfl rfl
instance : FoI Try.prog 81 3 5 := foI (T := 81) (m := 3) inferInstance rfl (inferInstance : TyI Try.prog 34 _ _ _) rfl rfl
instance : FoI Try.prog 81 4 7 := foI (T := 81) (m := 4) inferInstance rfl (inferInstance : TyI Try.prog 5 _ _ _) rfl rfl
instance : FoI Try.prog 81 5 8 := foI (T := 81) (m := 5) inferInstance rfl (inferInstance : TyI Try.prog 3 _ _ _) rfl rfl
instance : FoI Try.prog 82 0 0 := foI (T := 82) (m := 0) inferInstance rfl (inferInstance : TyI Try.prog 3 _ _ _) rfl rfl
instance : FoI Try.prog 82 1 1 := foI (T := 82) (m := 1) inferInstance rfl (inferInstance : TyI Try.prog 34 _ _ _) rfl rfl
instance : FoI Try.prog 82 2 3 := foI (T := 82) (m := 2) inferInstance rfl (inferInstance : TyI Try.prog 34 _ _ _) rfl rfl
instance : FoI Try.prog 82 3 5 := foI (T := 82) (m := 3) inferInstance rfl (inferInstance : TyI Try.prog 34 _ _ _) rfl rfl
instance : FoI Try.prog 82 4 7 := foI (T := 82) (m := 4) inferInstance rfl (inferInstance : TyI Try.prog 5 _ _ _) rfl rfl
instance : FoI Try.prog 82 5 8 := foI (T := 82) (m := 5) inferInstance rfl (inferInstance : TyI Try.prog 3 _ _ _) rfl rfl
instance : FoI Try.prog 101 0 0 := foI (T := 101) (m := 0) inferInstance rfl (inferInstance : TyI Try.prog 24 _ _ _) rfl rfl
instance : FoI Try.prog 102 0 0 := foI (T := 102) (m := 0) inferInstance rfl (inferInstance : TyI Try.prog 24 _ _ _) rfl rfl
instance : FoI Try.prog 164 0 0 := foI (T := 164) (m := 0) inferInstance rfl (inferInstance : TyI Try.prog 17 _ _ _) rfl rfl
instance : FoI Try.prog 164 1 1 := foI (T := 164) (m := 1) inferInstance rfl (inferInstance : TyI Try.prog 17 _ _ _) rfl rfl
instance : FoI Try.prog 164 2 2 := foI (T := 164) (m := 2) inferInstance rfl (inferInstance : TyI Try.prog 17 _ _ _) rfl rfl
instance : FoI Try.prog 164 3 3 := foI (T := 164) (m := 3) inferInstance rfl (inferInstance : TyI Try.prog 9 _ _ _) rfl rfl
instance : FoI Try.prog 165 0 0 := foI (T := 165) (m := 0) inferInstance rfl (inferInstance : TyI Try.prog 17 _ _ _) rfl rfl
instance : FoI Try.prog 165 1 1 := foI (T := 165) (m := 1) inferInstance rfl (inferInstance : TyI Try.prog 17 _ _ _) rfl rfl
instance : FoI Try.prog 165 2 2 := foI (T := 165) (m := 2) inferInstance rfl (inferInstance : TyI Try.prog 17 _ _ _) rfl rfl
instance : FoI Try.prog 165 3 3 := foI (T := 165) (m := 3) inferInstance rfl (inferInstance : TyI Try.prog 9 _ _ _) rfl rfl
instance : FoI Try.prog 176 0 0 := foI (T := 176) (m := 0) inferInstance rfl (inferInstance : TyI Try.prog 12 _ _ _) rfl rfl
instance : FoI Try.prog 176 1 1 := foI (T := 176) (m := 1) inferInstance rfl (inferInstance : TyI Try.prog 12 _ _ _) rfl rfl
instance : FoI Try.prog 176 2 2 := foI (T := 176) (m := 2) inferInstance rfl (inferInstance : TyI Try.prog 88 _ _ _) rfl rfl
instance : FoI Try.prog 176 3 3 := foI (T := 176) (m := 3) inferInstance rfl (inferInstance : TyI Try.prog 170 _ _ _) rfl rfl
instance : FoI Try.prog 176 4 4 := foI (T := 176) (m := 4) inferInstance rfl (inferInstance : TyI Try.prog 5 _ _ _) rfl rfl
instance : FoI Try.prog 176 5 5 := foI (T := 176) (m := 5) inferInstance rfl (inferInstance : TyI Try.prog 5 _ _ _) rfl rfl
instance : FoI Try.prog 176 6 6 := foI (T := 176) (m := 6) inferInstance rfl (inferInstance : TyI Try.prog 171 _ _ _) rfl rfl
instance : FoI Try.prog 176 7 7 := foI (T := 176) (m := 7) inferInstance rfl (inferInstance : TyI Try.prog 172 _ _ _) rfl rfl
instance : FoI Try.prog 176 8 8 := foI (T := 176) (m := 8) inferInstance rfl (inferInstance : TyI Try.prog 173 _ _ _) rfl rfl
instance : FoI Try.prog 176 9 9 := foI (T := 176) (m := 9) inferInstance rfl (inferInstance : TyI Try.prog 174 _ _ _) rfl rfl
instance : FoI Try.prog 176 10 10 := foI (T := 176) (m := 10) inferInstance rfl (inferInstance : TyI Try.prog 175 _ _ _) rfl rfl
instance : FoI Try.prog 177 0 0 := foI (T := 177) (m := 0) inferInstance rfl (inferInstance : TyI Try.prog 12 _ _ _) rfl rfl
instance : FoI Try.prog 177 1 1 := foI (T := 177) (m := 1) inferInstance rfl (inferInstance : TyI Try.prog 12 _ _ _) rfl rfl
instance : FoI Try.prog 177 2 2 := foI (T := 177) (m := 2) inferInstance rfl (inferInstance : TyI Try.prog 88 _ _ _) rfl rfl
instance : FoI Try.prog 177 3 3 := foI (T := 177) (m := 3) inferInstance rfl (inferInstance : TyI Try.prog 170 _ _ _) rfl rfl
instance : FoI Try.prog 177 4 4 := foI (T := 177) (m := 4) inferInstance rfl (inferInstance : TyI Try.prog 5 _ _ _) rfl rfl
instance : FoI Try.prog 177 5 5 := foI (T := 177) (m := 5) inferInstance rfl (inferInstance : TyI Try.prog 5 _ _ _) rfl rfl
instance : FoI Try.prog 177 6 6 := foI (T := 177) (m := 6) inferInstance rfl (inferInstance : TyI Try.prog 171 _ _ _) rfl rfl
instance : FoI Try.prog 177 7 7 := foI (T := 177) (m := 7) inferInstance rfl (inferInstance : TyI Try.prog 172 _ _ _) rfl rfl
instance : FoI Try.prog 177 8 8 := foI (T := 177) (m := 8) inferInstance rfl (inferInstance : TyI Try.prog 173 _ _ _) rfl rfl
instance : FoI Try.prog 177 9 9 := foI (T := 177) (m := 9) inferInstance rfl (inferInstance : TyI Try.prog 174 _ _ _) rfl rfl
instance : FoI Try.prog 177 10 10 := foI (T := 177) (m := 10) inferInstance rfl (inferInstance : TyI Try.prog 175 _ _ _) rfl rfl
instance : CallI Try.prog 2 := ⟨Try.call2⟩
instance : CallI Try.prog 3 := ⟨Try.call3⟩
instance : CallI Try.prog 4 := ⟨Try.call4⟩
instance : CallI Try.prog 5 := ⟨Try.call5⟩
instance : CallI Try.prog 6 := ⟨Try.call6⟩
instance : CallI Try.prog 7 := ⟨Try.call7⟩
instance : CallI Try.prog 8 := ⟨Try.call8⟩
instance : CallI Try.prog 9 := ⟨Try.call9⟩
instance : CallI Try.prog 10 := ⟨Try.call10⟩
instance : CallI Try.prog 11 := ⟨Try.call11⟩
instance : CallI Try.prog 12 := ⟨Try.call12⟩
instance : CallI Try.prog 13 := ⟨Try.call13⟩
instance : CallI Try.prog 14 := ⟨Try.call14⟩
instance : CallI Try.prog 15 := ⟨Try.call15⟩
instance : CallI Try.prog 16 := ⟨Try.call16⟩
instance : CallI Try.prog 17 := ⟨Try.call17⟩
instance : CallI Try.prog 18 := ⟨Try.call18⟩
instance : CallI Try.prog 19 := ⟨Try.call19⟩
instance : CallI Try.prog 20 := ⟨Try.call20⟩
instance : CallI Try.prog 21 := ⟨Try.call21⟩
instance : CallI Try.prog 22 := ⟨Try.call22⟩
instance : CallI Try.prog 23 := ⟨Try.call23⟩
instance : CallI Try.prog 24 := ⟨Try.call24⟩
instance : CallI Try.prog 25 := ⟨Try.call25⟩
instance : CallI Try.prog 26 := ⟨Try.call26⟩
instance : CallI Try.prog 27 := ⟨Try.call27⟩
instance : CallI Try.prog 28 := ⟨Try.call28⟩
instance : CallI Try.prog 29 := ⟨Try.call29⟩
instance : CallI Try.prog 30 := ⟨Try.call30⟩
instance : CallI Try.prog 31 := ⟨Try.call31⟩
instance : CallI Try.prog 32 := ⟨Try.call32⟩
instance : CallI Try.prog 33 := ⟨Try.call33⟩
instance : CallI Try.prog 34 := ⟨Try.call34⟩
instance : CallI Try.prog 35 := ⟨Try.call35⟩
instance : CallI Try.prog 36 := ⟨Try.call36⟩
instance : CallI Try.prog 37 := ⟨Try.call37⟩
instance : CallI Try.prog 38 := ⟨Try.call38⟩
instance : CallI Try.prog 39 := ⟨Try.call39⟩
instance : CallI Try.prog 40 := ⟨Try.call40⟩
instance : CallI Try.prog 41 := ⟨Try.call41⟩
instance : CallI Try.prog 42 := ⟨Try.call42⟩
instance : CallI Try.prog 43 := ⟨Try.call43⟩
instance : CallI Try.prog 44 := ⟨Try.call44⟩
instance : CallI Try.prog 45 := ⟨Try.call45⟩
instance : CallI Try.prog 46 := ⟨Try.call46⟩
instance : CallI Try.prog 47 := ⟨Try.call47⟩
instance : CallI Try.prog 48 := ⟨Try.call48⟩
instance : CallI Try.prog 49 := ⟨Try.call49⟩
instance : CallI Try.prog 50 := ⟨Try.call50⟩
instance : CallI Try.prog 51 := ⟨Try.call51⟩
instance : CallI Try.prog 52 := ⟨Try.call52⟩
instance : CallI Try.prog 53 := ⟨Try.call53⟩
instance : CallI Try.prog 54 := ⟨Try.call54⟩
instance : CallI Try.prog 55 := ⟨Try.call55⟩
instance : CallI Try.prog 56 := ⟨Try.call56⟩
instance : CallI Try.prog 57 := ⟨Try.call57⟩
instance : CallI Try.prog 58 := ⟨Try.call58⟩
instance : CallI Try.prog 59 := ⟨Try.call59⟩
instance : CallI Try.prog 60 := ⟨Try.call60⟩
instance : CallI Try.prog 61 := ⟨Try.call61⟩
instance : CallI Try.prog 62 := ⟨Try.call62⟩
instance : CallI Try.prog 63 := ⟨Try.call63⟩
instance : CallI Try.prog 64 := ⟨Try.call64⟩
instance : CallI Try.prog 65 := ⟨Try.call65⟩
instance : CallI Try.prog 66 := ⟨Try.call66⟩
instance : CallI Try.prog 67 := ⟨Try.call67⟩
instance : CallI Try.prog 68 := ⟨Try.call68⟩
instance : CallI Try.prog 69 := ⟨Try.call69⟩
instance : CallI Try.prog 70 := ⟨Try.call70⟩
instance : CallI Try.prog 71 := ⟨Try.call71⟩
instance : CallI Try.prog 72 := ⟨Try.call72⟩
instance : CallI Try.prog 73 := ⟨Try.call73⟩
instance : CallI Try.prog 74 := ⟨Try.call74⟩
instance : CallI Try.prog 75 := ⟨Try.call75⟩
instance : CallI Try.prog 76 := ⟨Try.call76⟩
instance : CallI Try.prog 77 := ⟨Try.call77⟩
instance : CallI Try.prog 78 := ⟨Try.call78⟩
instance : CallI Try.prog 79 := ⟨Try.call79⟩
instance : CallI Try.prog 80 := ⟨Try.call80⟩
instance : CallI Try.prog 81 := ⟨Try.call81⟩
instance : CallI Try.prog 82 := ⟨Try.call82⟩
instance : CallI Try.prog 83 := ⟨Try.call83⟩
instance : CallI Try.prog 84 := ⟨Try.call84⟩
instance : CallI Try.prog 85 := ⟨Try.call85⟩
instance : CallI Try.prog 86 := ⟨Try.call86⟩
instance : CallI Try.prog 87 := ⟨Try.call87⟩
instance : CallI Try.prog 88 := ⟨Try.call88⟩
instance : CallI Try.prog 89 := ⟨Try.call89⟩
instance : CallI Try.prog 90 := ⟨Try.call90⟩
instance : CallI Try.prog 91 := ⟨Try.call91⟩
instance : CallI Try.prog 92 := ⟨Try.call92⟩
instance : CallI Try.prog 93 := ⟨Try.call93⟩
instance : CallI Try.prog 94 := ⟨Try.call94⟩
instance : CallI Try.prog 95 := ⟨Try.call95⟩
instance : CallI Try.prog 96 := ⟨Try.call96⟩
instance : CallI Try.prog 97 := ⟨Try.call97⟩
instance : CallI Try.prog 98 := ⟨Try.call98⟩
instance : CallI Try.prog 99 := ⟨Try.call99⟩
instance : CallI Try.prog 100 := ⟨Try.call100⟩
instance : CallI Try.prog 101 := ⟨Try.call101⟩
instance : CallI Try.prog 102 := ⟨Try.call102⟩
end Go.Proofs.Ytekjkaoibcfgfaa
