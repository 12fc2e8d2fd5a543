/- What the seat's types and functions are to the walk's rules. -/
import Derived.Test.YtdigopgncfhiaaaDoorU3
namespace Go.Proofs.YtdigopgncfhiaaaDoor
open Go.RowKit
set_option maxRecDepth 20000
instance : TyI Tryd.prog 0 (TypeDesc.tuple #[]) 1 false := ⟨Tryd.underlying0, Tryd.sizeOf0, Tryd.isAgg0⟩
instance : TyI Tryd.prog 1 (TypeDesc.func #[] #[] false) 1 false := ⟨Tryd.underlying1, Tryd.sizeOf1, Tryd.isAgg1⟩
instance : TyI Tryd.prog 2 (TypeDesc.int Go.IntKind.i64) 1 false := ⟨Tryd.underlying2, Tryd.sizeOf2, Tryd.isAgg2⟩
instance : TyI Tryd.prog 3 (TypeDesc.int Go.IntKind.i64) 1 false := ⟨Tryd.underlying3, Tryd.sizeOf3, Tryd.isAgg3⟩
instance : TyZ Tryd.prog 3 [Value.int Go.IntKind.i64 0] := ⟨fun w => ⟨_, Tryd.zeroValue3 w, rfl⟩⟩
instance : TyI Tryd.prog 4 TypeDesc.bool 1 false := ⟨Tryd.underlying4, Tryd.sizeOf4, Tryd.isAgg4⟩
instance : TyZ Tryd.prog 4 [Value.bool false] := ⟨fun w => ⟨_, Tryd.zeroValue4 w, rfl⟩⟩
instance : TyI Tryd.prog 5 (TypeDesc.int Go.IntKind.u8) 1 false := ⟨Tryd.underlying5, Tryd.sizeOf5, Tryd.isAgg5⟩
instance : TyI Tryd.prog 9 TypeDesc.string 1 false := ⟨Tryd.underlying9, Tryd.sizeOf9, Tryd.isAgg9⟩
instance : TyI Tryd.prog 22 (TypeDesc.slice 114) 1 false := ⟨Tryd.underlying22, Tryd.sizeOf22, Tryd.isAgg22⟩
instance : TyZ Tryd.prog 22 [Value.slice none 0 0] := ⟨fun w => ⟨_, Tryd.zeroValue22 w, rfl⟩⟩
instance : TyI Tryd.prog 24 (TypeDesc.struct #[{ name := "Stretches", type := 22, offset := 0, embedded := false, tag := "", pkgPath := "", byteOffset := 0 }]) 1 true := ⟨Tryd.underlying24, Tryd.sizeOf24, Tryd.isAgg24⟩
instance : TyZ Tryd.prog 24 [Value.slice none 0 0] := ⟨fun w => ⟨_, Tryd.zeroValue24 w, rfl⟩⟩
instance : TyB Tryd.prog 24 [(0, 1)] [Value.slice none 0 0] := tyB_struct (zv := Value.agg #[Value.slice none 0 0]) (by kernel_rfl) rfl Tryd.underlying24 (by kernel_rfl)
instance : TyI Tryd.prog 25 (TypeDesc.slice 117) 1 false := ⟨Tryd.underlying25, Tryd.sizeOf25, Tryd.isAgg25⟩
instance : TyZ Tryd.prog 25 [Value.slice none 0 0] := ⟨fun w => ⟨_, Tryd.zeroValue25 w, rfl⟩⟩
instance : TyI Tryd.prog 26 (TypeDesc.slice 120) 1 false := ⟨Tryd.underlying26, Tryd.sizeOf26, Tryd.isAgg26⟩
instance : TyZ Tryd.prog 26 [Value.slice none 0 0] := ⟨fun w => ⟨_, Tryd.zeroValue26 w, rfl⟩⟩
instance : TyI Tryd.prog 28 (TypeDesc.struct #[{ name := "Lo", type := 3, offset := 0, embedded := false, tag := "", pkgPath := "", byteOffset := 0 }, { name := "Hi", type := 3, offset := 1, embedded := false, tag := "", pkgPath := "", byteOffset := 8 }]) 2 true := ⟨Tryd.underlying28, Tryd.sizeOf28, Tryd.isAgg28⟩
instance : TyZ Tryd.prog 28 [Value.int Go.IntKind.i64 0, Value.int Go.IntKind.i64 0] := ⟨fun w => ⟨_, Tryd.zeroValue28 w, rfl⟩⟩
instance : TyB Tryd.prog 28 [(0, 1), (1, 1)] [Value.int Go.IntKind.i64 0, Value.int Go.IntKind.i64 0] := tyB_struct (zv := Value.agg #[Value.int Go.IntKind.i64 0, Value.int Go.IntKind.i64 0]) (by kernel_rfl) rfl Tryd.underlying28 (by kernel_rfl)
instance : TyI Tryd.prog 30 (TypeDesc.struct #[{ name := "Track", type := 24, offset := 0, embedded := false, tag := "", pkgPath := "", byteOffset := 0 }, { name := "Beds", type := 25, offset := 1, embedded := false, tag := "", pkgPath := "", byteOffset := 24 }, { name := "Hours", type := 26, offset := 2, embedded := false, tag := "", pkgPath := "", byteOffset := 48 }, { name := "Wear", type := 28, offset := 3, embedded := false, tag := "", pkgPath := "", byteOffset := 72 }, { name := "Layer", type := 28, offset := 5, embedded := false, tag := "", pkgPath := "", byteOffset := 88 }, { name := "Rate", type := 3, offset := 7, embedded := false, tag := "", pkgPath := "", byteOffset := 104 }, { name := "Limit", type := 3, offset := 8, embedded := false, tag := "", pkgPath := "", byteOffset := 112 }, { name := "Base", type := 3, offset := 9, embedded := false, tag := "", pkgPath := "", byteOffset := 120 }]) 10 true := ⟨Tryd.underlying30, Tryd.sizeOf30, Tryd.isAgg30⟩
instance : TyZ Tryd.prog 30 [Value.slice none 0 0, Value.slice none 0 0, Value.slice none 0 0, Value.int Go.IntKind.i64 0, Value.int Go.IntKind.i64 0, Value.int Go.IntKind.i64 0, Value.int Go.IntKind.i64 0, Value.int Go.IntKind.i64 0, Value.int Go.IntKind.i64 0, Value.int Go.IntKind.i64 0] := ⟨fun w => ⟨_, Tryd.zeroValue30 w, rfl⟩⟩
instance : TyB Tryd.prog 30 [(0, 1), (1, 1), (2, 1), (3, 2), (5, 2), (7, 1), (8, 1), (9, 1)] [Value.slice none 0 0, Value.slice none 0 0, Value.slice none 0 0, Value.int Go.IntKind.i64 0, Value.int Go.IntKind.i64 0, Value.int Go.IntKind.i64 0, Value.int Go.IntKind.i64 0, Value.int Go.IntKind.i64 0, Value.int Go.IntKind.i64 0, Value.int Go.IntKind.i64 0] := tyB_struct (zv := Value.agg #[Value.slice none 0 0, Value.slice none 0 0, Value.slice none 0 0, Value.int Go.IntKind.i64 0, Value.int Go.IntKind.i64 0, Value.int Go.IntKind.i64 0, Value.int Go.IntKind.i64 0, Value.int Go.IntKind.i64 0, Value.int Go.IntKind.i64 0, Value.int Go.IntKind.i64 0]) (by kernel_rfl) rfl Tryd.underlying30 (by kernel_rfl)
instance : TyI Tryd.prog 33 (TypeDesc.slice 3) 1 false := ⟨Tryd.underlying33, Tryd.sizeOf33, Tryd.isAgg33⟩
instance : TyZ Tryd.prog 33 [Value.slice none 0 0] := ⟨fun w => ⟨_, Tryd.zeroValue33 w, rfl⟩⟩
instance : TyI Tryd.prog 34 (TypeDesc.int Go.IntKind.i64) 1 false := ⟨Tryd.underlying34, Tryd.sizeOf34, Tryd.isAgg34⟩
instance : TyI Tryd.prog 39 (TypeDesc.slice 33) 1 false := ⟨Tryd.underlying39, Tryd.sizeOf39, Tryd.isAgg39⟩
instance : TyZ Tryd.prog 39 [Value.slice none 0 0] := ⟨fun w => ⟨_, Tryd.zeroValue39 w, rfl⟩⟩
instance : TyI Tryd.prog 68 (TypeDesc.func #[30] #[3] false) 1 false := ⟨Tryd.underlying68, Tryd.sizeOf68, Tryd.isAgg68⟩
instance : TyI Tryd.prog 70 (TypeDesc.slice 134) 1 false := ⟨Tryd.underlying70, Tryd.sizeOf70, Tryd.isAgg70⟩
instance : TyZ Tryd.prog 70 [Value.slice none 0 0] := ⟨fun w => ⟨_, Tryd.zeroValue70 w, rfl⟩⟩
instance : TyI Tryd.prog 84 (TypeDesc.pointer 111) 1 false := ⟨Tryd.underlying84, Tryd.sizeOf84, Tryd.isAgg84⟩
instance : TyZ Tryd.prog 84 [Value.pointer none] := ⟨fun w => ⟨_, Tryd.zeroValue84 w, rfl⟩⟩
instance : TyI Tryd.prog 90 (TypeDesc.slice 95) 1 false := ⟨Tryd.underlying90, Tryd.sizeOf90, Tryd.isAgg90⟩
instance : TyZ Tryd.prog 90 [Value.slice none 0 0] := ⟨fun w => ⟨_, Tryd.zeroValue90 w, rfl⟩⟩
instance : TyI Tryd.prog 95 (TypeDesc.slice 4) 1 false := ⟨Tryd.underlying95, Tryd.sizeOf95, Tryd.isAgg95⟩
instance : TyZ Tryd.prog 95 [Value.slice none 0 0] := ⟨fun w => ⟨_, Tryd.zeroValue95 w, rfl⟩⟩
instance : TyI Tryd.prog 102 (TypeDesc.int Go.IntKind.u64) 1 false := ⟨Tryd.underlying102, Tryd.sizeOf102, Tryd.isAgg102⟩
instance : TyI Tryd.prog 105 (TypeDesc.func #[33, 33] #[3] false) 1 false := ⟨Tryd.underlying105, Tryd.sizeOf105, Tryd.isAgg105⟩
instance : TyI Tryd.prog 111 (TypeDesc.struct #[{ name := "Cover", type := 30, offset := 0, embedded := true, tag := "", pkgPath := "", byteOffset := 0 }]) 10 true := ⟨Tryd.underlying111, Tryd.sizeOf111, Tryd.isAgg111⟩
instance : TyZ Tryd.prog 111 [Value.slice none 0 0, Value.slice none 0 0, Value.slice none 0 0, Value.int Go.IntKind.i64 0, Value.int Go.IntKind.i64 0, Value.int Go.IntKind.i64 0, Value.int Go.IntKind.i64 0, Value.int Go.IntKind.i64 0, Value.int Go.IntKind.i64 0, Value.int Go.IntKind.i64 0] := ⟨fun w => ⟨_, Tryd.zeroValue111 w, rfl⟩⟩
instance : TyB Tryd.prog 111 [(0, 10)] [Value.slice none 0 0, Value.slice none 0 0, Value.slice none 0 0, Value.int Go.IntKind.i64 0, Value.int Go.IntKind.i64 0, Value.int Go.IntKind.i64 0, Value.int Go.IntKind.i64 0, Value.int Go.IntKind.i64 0, Value.int Go.IntKind.i64 0, Value.int Go.IntKind.i64 0] := tyB_struct (zv := Value.agg #[Value.slice none 0 0, Value.slice none 0 0, Value.slice none 0 0, Value.int Go.IntKind.i64 0, Value.int Go.IntKind.i64 0, Value.int Go.IntKind.i64 0, Value.int Go.IntKind.i64 0, Value.int Go.IntKind.i64 0, Value.int Go.IntKind.i64 0, Value.int Go.IntKind.i64 0]) (by kernel_rfl) rfl Tryd.underlying111 (by kernel_rfl)
instance : TyI Tryd.prog 114 (TypeDesc.struct #[{ name := "Id", type := 3, offset := 0, embedded := false, tag := "", pkgPath := "", byteOffset := 0 }, { name := "Long", type := 28, offset := 1, embedded := false, tag := "", pkgPath := "", byteOffset := 8 }, { name := "Fall", type := 28, offset := 3, embedded := false, tag := "", pkgPath := "", byteOffset := 24 }, { name := "Radius", type := 28, offset := 5, embedded := false, tag := "", pkgPath := "", byteOffset := 40 }, { name := "Side", type := 5, offset := 7, embedded := false, tag := "", pkgPath := "", byteOffset := 56 }, { name := "Wall", type := 3, offset := 8, embedded := false, tag := "", pkgPath := "", byteOffset := 64 }]) 9 true := ⟨Tryd.underlying114, Tryd.sizeOf114, Tryd.isAgg114⟩
instance : TyZ Tryd.prog 114 [Value.int Go.IntKind.i64 0, Value.int Go.IntKind.i64 0, Value.int Go.IntKind.i64 0, Value.int Go.IntKind.i64 0, Value.int Go.IntKind.i64 0, Value.int Go.IntKind.i64 0, Value.int Go.IntKind.i64 0, Value.int Go.IntKind.u8 0, Value.int Go.IntKind.i64 0] := ⟨fun w => ⟨_, Tryd.zeroValue114 w, rfl⟩⟩
instance : TyB Tryd.prog 114 [(0, 1), (1, 2), (3, 2), (5, 2), (7, 1), (8, 1)] [Value.int Go.IntKind.i64 0, Value.int Go.IntKind.i64 0, Value.int Go.IntKind.i64 0, Value.int Go.IntKind.i64 0, Value.int Go.IntKind.i64 0, Value.int Go.IntKind.i64 0, Value.int Go.IntKind.i64 0, Value.int Go.IntKind.u8 0, Value.int Go.IntKind.i64 0] := tyB_struct (zv := Value.agg #[Value.int Go.IntKind.i64 0, Value.int Go.IntKind.i64 0, Value.int Go.IntKind.i64 0, Value.int Go.IntKind.i64 0, Value.int Go.IntKind.i64 0, Value.int Go.IntKind.i64 0, Value.int Go.IntKind.i64 0, Value.int Go.IntKind.u8 0, Value.int Go.IntKind.i64 0]) (by kernel_rfl) rfl Tryd.underlying114 (by kernel_rfl)
instance : TyI Tryd.prog 117 (TypeDesc.struct #[{ name := "Thick", type := 28, offset := 0, embedded := false, tag := "", pkgPath := "", byteOffset := 0 }, { name := "Sun", type := 3, offset := 2, embedded := false, tag := "", pkgPath := "", byteOffset := 16 }]) 3 true := ⟨Tryd.underlying117, Tryd.sizeOf117, Tryd.isAgg117⟩
instance : TyZ Tryd.prog 117 [Value.int Go.IntKind.i64 0, Value.int Go.IntKind.i64 0, Value.int Go.IntKind.i64 0] := ⟨fun w => ⟨_, Tryd.zeroValue117 w, rfl⟩⟩
instance : TyB Tryd.prog 117 [(0, 2), (2, 1)] [Value.int Go.IntKind.i64 0, Value.int Go.IntKind.i64 0, Value.int Go.IntKind.i64 0] := tyB_struct (zv := Value.agg #[Value.int Go.IntKind.i64 0, Value.int Go.IntKind.i64 0, Value.int Go.IntKind.i64 0]) (by kernel_rfl) rfl Tryd.underlying117 (by kernel_rfl)
instance : TyI Tryd.prog 120 (TypeDesc.struct #[{ name := "Melt", type := 28, offset := 0, embedded := false, tag := "", pkgPath := "", byteOffset := 0 }, { name := "Runs", type := 3, offset := 2, embedded := false, tag := "", pkgPath := "", byteOffset := 16 }, { name := "Crew", type := 3, offset := 3, embedded := false, tag := "", pkgPath := "", byteOffset := 24 }, { name := "Cold", type := 4, offset := 4, embedded := false, tag := "", pkgPath := "", byteOffset := 32 }]) 5 true := ⟨Tryd.underlying120, Tryd.sizeOf120, Tryd.isAgg120⟩
instance : TyZ Tryd.prog 120 [Value.int Go.IntKind.i64 0, Value.int Go.IntKind.i64 0, Value.int Go.IntKind.i64 0, Value.int Go.IntKind.i64 0, Value.bool false] := ⟨fun w => ⟨_, Tryd.zeroValue120 w, rfl⟩⟩
instance : TyB Tryd.prog 120 [(0, 2), (2, 1), (3, 1), (4, 1)] [Value.int Go.IntKind.i64 0, Value.int Go.IntKind.i64 0, Value.int Go.IntKind.i64 0, Value.int Go.IntKind.i64 0, Value.bool false] := tyB_struct (zv := Value.agg #[Value.int Go.IntKind.i64 0, Value.int Go.IntKind.i64 0, Value.int Go.IntKind.i64 0, Value.int Go.IntKind.i64 0, Value.bool false]) (by kernel_rfl) rfl Tryd.underlying120 (by kernel_rfl)
instance : TyI Tryd.prog 134 (TypeDesc.array 2 3) 2 true := ⟨Tryd.underlying134, Tryd.sizeOf134, Tryd.isAgg134⟩
instance : TyZ Tryd.prog 134 [Value.int Go.IntKind.i64 0, Value.int Go.IntKind.i64 0] := ⟨fun w => ⟨_, Tryd.zeroValue134 w, rfl⟩⟩
instance : TyBA Tryd.prog 134 1 [Value.int Go.IntKind.i64 0, Value.int Go.IntKind.i64 0] := tyB_array (zv := Value.agg #[Value.int Go.IntKind.i64 0, Value.int Go.IntKind.i64 0]) (by kernel_rfl) rfl Tryd.underlying134 (by kernel_rfl)
instance : TyI Tryd.prog 136 (TypeDesc.func #[28, 28] #[3] false) 1 false := ⟨Tryd.underlying136, Tryd.sizeOf136, Tryd.isAgg136⟩
instance : TyI Tryd.prog 137 (TypeDesc.func #[134] #[4] false) 1 false := ⟨Tryd.underlying137, Tryd.sizeOf137, Tryd.isAgg137⟩
instance : TyI Tryd.prog 138 (TypeDesc.func #[3] #[4] false) 1 false := ⟨Tryd.underlying138, Tryd.sizeOf138, Tryd.isAgg138⟩
instance : TyI Tryd.prog 141 (TypeDesc.func #[117] #[4] false) 1 false := ⟨Tryd.underlying141, Tryd.sizeOf141, Tryd.isAgg141⟩
instance : TyI Tryd.prog 142 (TypeDesc.func #[120] #[4] false) 1 false := ⟨Tryd.underlying142, Tryd.sizeOf142, Tryd.isAgg142⟩
instance : TyI Tryd.prog 152 (TypeDesc.map 157 3) 1 false := ⟨Tryd.underlying152, Tryd.sizeOf152, Tryd.isAgg152⟩
instance : TyZ Tryd.prog 152 [Value.map none] := ⟨fun w => ⟨_, Tryd.zeroValue152 w, rfl⟩⟩
instance : TyI Tryd.prog 153 (TypeDesc.map 155 158) 1 false := ⟨Tryd.underlying153, Tryd.sizeOf153, Tryd.isAgg153⟩
instance : TyZ Tryd.prog 153 [Value.map none] := ⟨fun w => ⟨_, Tryd.zeroValue153 w, rfl⟩⟩
instance : TyI Tryd.prog 157 (TypeDesc.array 2 155) 6 true := ⟨Tryd.underlying157, Tryd.sizeOf157, Tryd.isAgg157⟩
instance : TyZ Tryd.prog 157 [Value.int Go.IntKind.i64 0, Value.int Go.IntKind.i64 0, Value.int Go.IntKind.i64 0, Value.int Go.IntKind.i64 0, Value.int Go.IntKind.i64 0, Value.int Go.IntKind.i64 0] := ⟨fun w => ⟨_, Tryd.zeroValue157 w, rfl⟩⟩
instance : TyBA Tryd.prog 157 3 [Value.int Go.IntKind.i64 0, Value.int Go.IntKind.i64 0, Value.int Go.IntKind.i64 0, Value.int Go.IntKind.i64 0, Value.int Go.IntKind.i64 0, Value.int Go.IntKind.i64 0] := tyB_array (zv := Value.agg #[Value.int Go.IntKind.i64 0, Value.int Go.IntKind.i64 0, Value.int Go.IntKind.i64 0, Value.int Go.IntKind.i64 0, Value.int Go.IntKind.i64 0, Value.int Go.IntKind.i64 0]) (by kernel_rfl) rfl Tryd.underlying157 (by kernel_rfl)
instance : TyI Tryd.prog 158 (TypeDesc.slice 155) 1 false := ⟨Tryd.underlying158, Tryd.sizeOf158, Tryd.isAgg158⟩
instance : TyZ Tryd.prog 158 [Value.slice none 0 0] := ⟨fun w => ⟨_, Tryd.zeroValue158 w, rfl⟩⟩
instance : TyI Tryd.prog 161 (TypeDesc.map 155 4) 1 false := ⟨Tryd.underlying161, Tryd.sizeOf161, Tryd.isAgg161⟩
instance : TyZ Tryd.prog 161 [Value.map none] := ⟨fun w => ⟨_, Tryd.zeroValue161 w, rfl⟩⟩
instance : TyI Tryd.prog 162 (TypeDesc.func #[155] #[4] false) 1 false := ⟨Tryd.underlying162, Tryd.sizeOf162, Tryd.isAgg162⟩
instance : TyZ Tryd.prog 162 [Value.nilFunc] := ⟨fun w => ⟨_, Tryd.zeroValue162 w, rfl⟩⟩
instance : TyI Tryd.prog 164 (TypeDesc.int Go.IntKind.u32) 1 false := ⟨Tryd.underlying164, Tryd.sizeOf164, Tryd.isAgg164⟩
instance : TyI Tryd.prog 166 (TypeDesc.int Go.IntKind.u64) 1 false := ⟨Tryd.underlying166, Tryd.sizeOf166, Tryd.isAgg166⟩
instance : TyI Tryd.prog 170 (TypeDesc.slice 28) 1 false := ⟨Tryd.underlying170, Tryd.sizeOf170, Tryd.isAgg170⟩
instance : TyZ Tryd.prog 170 [Value.slice none 0 0] := ⟨fun w => ⟨_, Tryd.zeroValue170 w, rfl⟩⟩
instance : TyI Tryd.prog 174 (TypeDesc.func #[3, 28] #[4] false) 1 false := ⟨Tryd.underlying174, Tryd.sizeOf174, Tryd.isAgg174⟩
instance : TyI Tryd.prog 181 (TypeDesc.func #[134, 134] #[3] false) 1 false := ⟨Tryd.underlying181, Tryd.sizeOf181, Tryd.isAgg181⟩
instance : TyI Tryd.prog 186 (TypeDesc.struct #[{ name := "Track", type := 24, offset := 0, embedded := true, tag := "", pkgPath := "", byteOffset := 0 }]) 1 true := ⟨Tryd.underlying186, Tryd.sizeOf186, Tryd.isAgg186⟩
instance : TyZ Tryd.prog 186 [Value.slice none 0 0] := ⟨fun w => ⟨_, Tryd.zeroValue186 w, rfl⟩⟩
instance : TyB Tryd.prog 186 [(0, 1)] [Value.slice none 0 0] := tyB_struct (zv := Value.agg #[Value.slice none 0 0]) (by kernel_rfl) rfl Tryd.underlying186 (by kernel_rfl)
instance : TyI Tryd.prog 192 (TypeDesc.struct #[{ name := "so", type := 142, offset := 0, embedded := false, tag := "", pkgPath := "kreisel/ice", byteOffset := 0 }, { name := "asks", type := 68, offset := 1, embedded := false, tag := "", pkgPath := "kreisel/ice", byteOffset := 8 }]) 2 true := ⟨Tryd.underlying192, Tryd.sizeOf192, Tryd.isAgg192⟩
instance : TyZ Tryd.prog 192 [Value.nilFunc, Value.nilFunc] := ⟨fun w => ⟨_, Tryd.zeroValue192 w, rfl⟩⟩
instance : TyB Tryd.prog 192 [(0, 1), (1, 1)] [Value.nilFunc, Value.nilFunc] := tyB_struct (zv := Value.agg #[Value.nilFunc, Value.nilFunc]) (by kernel_rfl) rfl Tryd.underlying192 (by kernel_rfl)
instance : TyI Tryd.prog 193 (TypeDesc.array 2 192) 4 true := ⟨Tryd.underlying193, Tryd.sizeOf193, Tryd.isAgg193⟩
instance : TyZ Tryd.prog 193 [Value.nilFunc, Value.nilFunc, Value.nilFunc, Value.nilFunc] := ⟨fun w => ⟨_, Tryd.zeroValue193 w, rfl⟩⟩
instance : TyBA Tryd.prog 193 2 [Value.nilFunc, Value.nilFunc, Value.nilFunc, Value.nilFunc] := tyB_array (zv := Value.agg #[Value.nilFunc, Value.nilFunc, Value.nilFunc, Value.nilFunc]) (by kernel_rfl) rfl Tryd.underlying193 (by kernel_rfl)
instance : TyI Tryd.prog 204 (TypeDesc.int Go.IntKind.i64) 1 false := ⟨Tryd.underlying204, Tryd.sizeOf204, Tryd.isAgg204⟩
instance : TyI Tryd.prog 210 (TypeDesc.int Go.IntKind.u64) 1 false := ⟨Tryd.underlying210, Tryd.sizeOf210, Tryd.isAgg210⟩
instance : TyZ Tryd.prog 210 [Value.int Go.IntKind.u64 0] := ⟨fun w => ⟨_, Tryd.zeroValue210 w, rfl⟩⟩
instance : TyI Tryd.prog 214 (TypeDesc.pointer 3) 1 false := ⟨Tryd.underlying214, Tryd.sizeOf214, Tryd.isAgg214⟩
instance : FoI Tryd.prog 24 0 0 := foI (T := 24) (m := 0) inferInstance rfl (inferInstance : TyI Tryd.prog 22 _ _ _) rfl rfl
instance : FoI Tryd.prog 28 0 0 := foI (T := 28) (m := 0) inferInstance rfl (inferInstance : TyI Tryd.prog 3 _ _ _) rfl rfl
instance : FoI Tryd.prog 28 1 1 := foI (T := 28) (m := 1) inferInstance rfl (inferInstance : TyI Tryd.prog 3 _ _ _) rfl rfl
instance : FoI Tryd.prog 30 0 0 := foI (T := 30) (m := 0) inferInstance rfl (inferInstance : TyI Tryd.prog 24 _ _ _) rfl rfl
instance : FoI Tryd.prog 30 1 1 := foI (T := 30) (m := 1) inferInstance rfl (inferInstance : TyI Tryd.prog 25 _ _ _) rfl rfl
instance : FoI Tryd.prog 30 2 2 := foI (T := 30) (m := 2) inferInstance rfl (inferInstance : TyI Tryd.prog 26 _ _ _) rfl rfl
instance : FoI Tryd.prog 30 3 3 := foI (T := 30) (m := 3) inferInstance rfl (inferInstance : TyI Tryd.prog 28 _ _ _) rfl rfl
instance : FoI Tryd.prog 30 4 5 := foI (T := 30) (m := 4) inferInstance rfl (inferInstance : TyI Tryd.prog 28 _ _ _) rfl rfl
instance : FoI Tryd.prog 30 5 7 := foI (T := 30) (m := 5) inferInstance rfl (inferInstance : TyI Tryd.prog 3 _ _ _) rfl rfl
instance : FoI Tryd.prog 30 6 8 := foI (T := 30) (m := 6) inferInstance rfl (inferInstance : TyI Tryd.prog 3 _ _ _) rfl rfl
instance : FoI Tryd.prog 30 7 9 := foI (T := 30) (m := 7) inferInstance rfl (inferInstance : TyI Tryd.prog 3 _ _ _) rfl rfl
instance : FoI Tryd.prog 111 0 0 := foI (T := 111) (m := 0) inferInstance rfl (inferInstance : TyI Tryd.prog 30 _ _ _) rfl rfl
instance : FoI Tryd.prog 114 0 0 := foI (T := 114) (m := 0) inferInstance rfl (inferInstance : TyI Tryd.prog 3 _ _ _) rfl rfl
instance : FoI Tryd.prog 114 1 1 := foI (T := 114) (m := 1) inferInstance rfl (inferInstance : TyI Tryd.prog 28 _ _ _) rfl rfl
instance : FoI Tryd.prog 114 2 3 := foI (T := 114) (m := 2) inferInstance rfl (inferInstance : TyI Tryd.prog 28 _ _ _) rfl rfl
instance : FoI Tryd.prog 114 3 5 := foI (T := 114) (m := 3) inferInstance rfl (inferInstance : TyI Tryd.prog 28 _ _ _) rfl rfl
instance : FoI Tryd.prog 114 4 7 := foI (T := 114) (m := 4) inferInstance rfl (inferInstance : TyI Tryd.prog 5 _ _ _) rfl rfl
instance : FoI Tryd.prog 114 5 8 := foI (T := 114) (m := 5) inferInstance rfl (inferInstance : TyI Tryd.prog 3 _ _ _) rfl rfl
instance : FoI Tryd.prog 117 0 0 := foI (T := 117) (m := 0) inferInstance rfl (inferInstance : TyI Tryd.prog 28 _ _ _) rfl rfl
instance : FoI Tryd.prog 117 1 2 := foI (T := 117) (m := 1) inferInstance rfl (inferInstance : TyI Tryd.prog 3 _ _ _) rfl rfl
instance : FoI Tryd.prog 120 0 0 := foI (T := 120) (m := 0) inferInstance rfl (inferInstance : TyI Tryd.prog 28 _ _ _) rfl rfl
instance : FoI Tryd.prog 120 1 2 := foI (T := 120) (m := 1) inferInstance rfl (inferInstance : TyI Tryd.prog 3 _ _ _) rfl rfl
instance : FoI Tryd.prog 120 2 3 := foI (T := 120) (m := 2) inferInstance rfl (inferInstance : TyI Tryd.prog 3 _ _ _) rfl rfl
instance : FoI Tryd.prog 120 3 4 := foI (T := 120) (m := 3) inferInstance rfl (inferInstance : TyI Tryd.prog 4 _ _ _) rfl rfl
instance : FoI Tryd.prog 192 0 0 := foI (T := 192) (m := 0) inferInstance rfl (inferInstance : TyI Tryd.prog 142 _ _ _) rfl rfl
instance : FoI Tryd.prog 192 1 1 := foI (T := 192) (m := 1) inferInstance rfl (inferInstance : TyI Tryd.prog 68 _ _ _) rfl rfl
instance : FoI Tryd.prog 186 0 0 := foI (T := 186) (m := 0) inferInstance rfl (inferInstance : TyI Tryd.prog 24 _ _ _) rfl rfl
instance : CallI Tryd.prog 2 := ⟨Tryd.call2⟩
instance : CallI Tryd.prog 3 := ⟨Tryd.call3⟩
instance : CallI Tryd.prog 4 := ⟨Tryd.call4⟩
instance : CallI Tryd.prog 5 := ⟨Tryd.call5⟩
instance : CallI Tryd.prog 6 := ⟨Tryd.call6⟩
instance : CallI Tryd.prog 7 := ⟨Tryd.call7⟩
instance : CallI Tryd.prog 8 := ⟨Tryd.call8⟩
instance : CallI Tryd.prog 9 := ⟨Tryd.call9⟩
instance : CallI Tryd.prog 10 := ⟨Tryd.call10⟩
instance : CallI Tryd.prog 11 := ⟨Tryd.call11⟩
instance : CallI Tryd.prog 12 := ⟨Tryd.call12⟩
instance : CallI Tryd.prog 13 := ⟨Tryd.call13⟩
instance : CallI Tryd.prog 14 := ⟨Tryd.call14⟩
instance : CallI Tryd.prog 15 := ⟨Tryd.call15⟩
instance : CallI Tryd.prog 16 := ⟨Tryd.call16⟩
instance : CallI Tryd.prog 17 := ⟨Tryd.call17⟩
instance : CallI Tryd.prog 18 := ⟨Tryd.call18⟩
instance : CallI Tryd.prog 19 := ⟨Tryd.call19⟩
instance : CallI Tryd.prog 20 := ⟨Tryd.call20⟩
instance : CallI Tryd.prog 21 := ⟨Tryd.call21⟩
instance : CallI Tryd.prog 22 := ⟨Tryd.call22⟩
instance : CallI Tryd.prog 23 := ⟨Tryd.call23⟩
instance : CallI Tryd.prog 24 := ⟨Tryd.call24⟩
instance : CallI Tryd.prog 25 := ⟨Tryd.call25⟩
instance : CallI Tryd.prog 26 := ⟨Tryd.call26⟩
instance : CallI Tryd.prog 27 := ⟨Tryd.call27⟩
instance : CallI Tryd.prog 28 := ⟨Tryd.call28⟩
instance : CallI Tryd.prog 29 := ⟨Tryd.call29⟩
instance : CallI Tryd.prog 30 := ⟨Tryd.call30⟩
instance : CallI Tryd.prog 31 := ⟨Tryd.call31⟩
instance : CallI Tryd.prog 32 := ⟨Tryd.call32⟩
instance : CallI Tryd.prog 33 := ⟨Tryd.call33⟩
instance : CallI Tryd.prog 34 := ⟨Tryd.call34⟩
instance : CallI Tryd.prog 35 := ⟨Tryd.call35⟩
instance : CallI Tryd.prog 36 := ⟨Tryd.call36⟩
instance : CallI Tryd.prog 37 := ⟨Tryd.call37⟩
instance : CallI Tryd.prog 38 := ⟨Tryd.call38⟩
instance : CallI Tryd.prog 39 := ⟨Tryd.call39⟩
instance : CallI Tryd.prog 40 := ⟨Tryd.call40⟩
instance : CallI Tryd.prog 41 := ⟨Tryd.call41⟩
instance : CallI Tryd.prog 42 := ⟨Tryd.call42⟩
instance : CallI Tryd.prog 43 := ⟨Tryd.call43⟩
instance : CallI Tryd.prog 44 := ⟨Tryd.call44⟩
instance : CallI Tryd.prog 45 := ⟨Tryd.call45⟩
instance : CallI Tryd.prog 46 := ⟨Tryd.call46⟩
instance : CallI Tryd.prog 47 := ⟨Tryd.call47⟩
instance : CallI Tryd.prog 48 := ⟨Tryd.call48⟩
instance : CallI Tryd.prog 49 := ⟨Tryd.call49⟩
instance : CallI Tryd.prog 50 := ⟨Tryd.call50⟩
instance : CallI Tryd.prog 51 := ⟨Tryd.call51⟩
instance : CallI Tryd.prog 52 := ⟨Tryd.call52⟩
instance : CallI Tryd.prog 53 := ⟨Tryd.call53⟩
instance : CallI Tryd.prog 54 := ⟨Tryd.call54⟩
instance : CallI Tryd.prog 55 := ⟨Tryd.call55⟩
instance : CallI Tryd.prog 56 := ⟨Tryd.call56⟩
instance : CallI Tryd.prog 57 := ⟨Tryd.call57⟩
instance : CallI Tryd.prog 58 := ⟨Tryd.call58⟩
instance : CallI Tryd.prog 59 := ⟨Tryd.call59⟩
instance : CallI Tryd.prog 60 := ⟨Tryd.call60⟩
instance : CallI Tryd.prog 61 := ⟨Tryd.call61⟩
instance : CallI Tryd.prog 62 := ⟨Tryd.call62⟩
instance : CallI Tryd.prog 63 := ⟨Tryd.call63⟩
instance : CallI Tryd.prog 64 := ⟨Tryd.call64⟩
instance : CallI Tryd.prog 65 := ⟨Tryd.call65⟩
instance : CallI Tryd.prog 66 := ⟨Tryd.call66⟩
instance : CallI Tryd.prog 67 := ⟨Tryd.call67⟩
instance : CallI Tryd.prog 68 := ⟨Tryd.call68⟩
instance : CallI Tryd.prog 69 := ⟨Tryd.call69⟩
instance : CallI Tryd.prog 70 := ⟨Tryd.call70⟩
instance : CallI Tryd.prog 71 := ⟨Tryd.call71⟩
instance : CallI Tryd.prog 72 := ⟨Tryd.call72⟩
instance : CallI Tryd.prog 73 := ⟨Tryd.call73⟩
instance : CallI Tryd.prog 74 := ⟨Tryd.call74⟩
instance : CallI Tryd.prog 75 := ⟨Tryd.call75⟩
instance : CallI Tryd.prog 76 := ⟨Tryd.call76⟩
instance : CallI Tryd.prog 77 := ⟨Tryd.call77⟩
instance : CallI Tryd.prog 78 := ⟨Tryd.call78⟩
instance : CallI Tryd.prog 79 := ⟨Tryd.call79⟩
instance : CallI Tryd.prog 80 := ⟨Tryd.call80⟩
instance : CallI Tryd.prog 81 := ⟨Tryd.call81⟩
instance : CallI Tryd.prog 82 := ⟨Tryd.call82⟩
instance : CallI Tryd.prog 83 := ⟨Tryd.call83⟩
instance : CallI Tryd.prog 84 := ⟨Tryd.call84⟩
instance : CallI Tryd.prog 85 := ⟨Tryd.call85⟩
instance : CallI Tryd.prog 86 := ⟨Tryd.call86⟩
instance : CallI Tryd.prog 87 := ⟨Tryd.call87⟩
instance : CallI Tryd.prog 88 := ⟨Tryd.call88⟩
instance : CallI Tryd.prog 89 := ⟨Tryd.call89⟩
instance : CallI Tryd.prog 90 := ⟨Tryd.call90⟩
instance : CallI Tryd.prog 91 := ⟨Tryd.call91⟩
instance : CallI Tryd.prog 92 := ⟨Tryd.call92⟩
instance : CallI Tryd.prog 93 := ⟨Tryd.call93⟩
instance : CallI Tryd.prog 94 := ⟨Tryd.call94⟩
instance : CallI Tryd.prog 95 := ⟨Tryd.call95⟩
instance : CallI Tryd.prog 96 := ⟨Tryd.call96⟩
instance : CallI Tryd.prog 97 := ⟨Tryd.call97⟩
instance : CallI Tryd.prog 98 := ⟨Tryd.call98⟩
instance : CallI Tryd.prog 99 := ⟨Tryd.call99⟩
instance : CallI Tryd.prog 100 := ⟨Tryd.call100⟩
instance : CallI Tryd.prog 101 := ⟨Tryd.call101⟩
instance : CallI Tryd.prog 102 := ⟨Tryd.call102⟩
instance : CallI Tryd.prog 103 := ⟨Tryd.call103⟩
instance : CallI Tryd.prog 104 := ⟨Tryd.call104⟩
instance : CallI Tryd.prog 105 := ⟨Tryd.call105⟩
instance : CallI Tryd.prog 106 := ⟨Tryd.call106⟩
instance : CallI Tryd.prog 107 := ⟨Tryd.call107⟩
instance : CallI Tryd.prog 108 := ⟨Tryd.call108⟩
instance : CallI Tryd.prog 109 := ⟨Tryd.call109⟩
instance : CallI Tryd.prog 110 := ⟨Tryd.call110⟩
instance : CallI Tryd.prog 111 := ⟨Tryd.call111⟩
instance : CallI Tryd.prog 112 := ⟨Tryd.call112⟩
instance : CallI Tryd.prog 113 := ⟨Tryd.call113⟩
instance : CallI Tryd.prog 114 := ⟨Tryd.call114⟩
instance : CallI Tryd.prog 115 := ⟨Tryd.call115⟩
instance : CallI Tryd.prog 116 := ⟨Tryd.call116⟩
instance : CallI Tryd.prog 117 := ⟨Tryd.call117⟩
instance : CallI Tryd.prog 118 := ⟨Tryd.call118⟩
instance : CallI Tryd.prog 119 := ⟨Tryd.call119⟩
instance : CallI Tryd.prog 120 := ⟨Tryd.call120⟩
instance : CallI Tryd.prog 121 := ⟨Tryd.call121⟩
instance : CallI Tryd.prog 122 := ⟨Tryd.call122⟩
instance : CallI Tryd.prog 123 := ⟨Tryd.call123⟩
instance : CallI Tryd.prog 124 := ⟨Tryd.call124⟩
instance : CallI Tryd.prog 125 := ⟨Tryd.call125⟩
instance : CallI Tryd.prog 126 := ⟨Tryd.call126⟩
instance : CallI Tryd.prog 127 := ⟨Tryd.call127⟩
instance : CallI Tryd.prog 128 := ⟨Tryd.call128⟩
instance : CallI Tryd.prog 129 := ⟨Tryd.call129⟩
instance : CallI Tryd.prog 130 := ⟨Tryd.call130⟩
instance : CallI Tryd.prog 131 := ⟨Tryd.call131⟩
instance : CallI Tryd.prog 132 := ⟨Tryd.call132⟩
instance : CallI Tryd.prog 133 := ⟨Tryd.call133⟩
instance : CallI Tryd.prog 134 := ⟨Tryd.call134⟩
instance : CallI Tryd.prog 135 := ⟨Tryd.call135⟩
instance : CallI Tryd.prog 136 := ⟨Tryd.call136⟩
instance : CallI Tryd.prog 137 := ⟨Tryd.call137⟩
instance : CallI Tryd.prog 138 := ⟨Tryd.call138⟩
instance : CallI Tryd.prog 139 := ⟨Tryd.call139⟩
instance : CallI Tryd.prog 140 := ⟨Tryd.call140⟩
instance : CallI Tryd.prog 141 := ⟨Tryd.call141⟩
instance : CallI Tryd.prog 142 := ⟨Tryd.call142⟩
instance : CallI Tryd.prog 143 := ⟨Tryd.call143⟩
instance : CallI Tryd.prog 144 := ⟨Tryd.call144⟩
instance : CallI Tryd.prog 145 := ⟨Tryd.call145⟩
instance : CallI Tryd.prog 146 := ⟨Tryd.call146⟩
instance : CallI Tryd.prog 164 := ⟨Tryd.call164⟩
instance : CallI Tryd.prog 165 := ⟨Tryd.call165⟩
instance : CallI Tryd.prog 166 := ⟨Tryd.call166⟩
instance : CallI Tryd.prog 167 := ⟨Tryd.call167⟩
instance : CallI Tryd.prog 171 := ⟨Tryd.call171⟩
end Go.Proofs.YtdigopgncfhiaaaDoor
