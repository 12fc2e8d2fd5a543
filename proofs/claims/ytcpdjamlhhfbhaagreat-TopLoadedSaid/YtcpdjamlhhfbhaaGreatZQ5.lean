/- ZQ5 -/
import Derived.Test.YtcpdjamlhhfbhaaGreatZQ3
import Derived.Test.YtcpdjamlhhfbhaaGreatZQ1
set_option linter.unusedSimpArgs false
set_option linter.unusedVariables false
namespace Go.Proofs.YtcpdjamlhhfbhaaGreat
open Go.RowKit
set_option maxRecDepth 20000
instance : TyI Tryz.prog 1 (TypeDesc.func #[] #[] false) 1 false:=⟨Tryz.underlying1,Tryz.sizeOf1,Tryz.isAgg1⟩
instance : TyI Tryz.prog 2 (TypeDesc.int Go.IntKind.i64) 1 false:=⟨Tryz.underlying2,Tryz.sizeOf2,Tryz.isAgg2⟩
instance : TyI Tryz.prog 3 (TypeDesc.int Go.IntKind.i64) 1 false:=⟨Tryz.underlying3,Tryz.sizeOf3,Tryz.isAgg3⟩
instance : TyZ Tryz.prog 3 [Value.int Go.IntKind.i64 0]:=⟨fun w=>⟨_,Tryz.zeroValue3 w,rfl⟩⟩
instance : TyI Tryz.prog 4 TypeDesc.bool 1 false:=⟨Tryz.underlying4,Tryz.sizeOf4,Tryz.isAgg4⟩
instance : TyI Tryz.prog 5 (TypeDesc.int Go.IntKind.u8) 1 false:=⟨Tryz.underlying5,Tryz.sizeOf5,Tryz.isAgg5⟩
instance : TyI Tryz.prog 9 TypeDesc.string 1 false:=⟨Tryz.underlying9,Tryz.sizeOf9,Tryz.isAgg9⟩
instance : TyI Tryz.prog 22 (TypeDesc.slice 70) 1 false:=⟨Tryz.underlying22,Tryz.sizeOf22,Tryz.isAgg22⟩
instance : TyZ Tryz.prog 22 [Value.slice none 0 0]:=⟨fun w=>⟨_,Tryz.zeroValue22 w,rfl⟩⟩
instance : TyI Tryz.prog 24 (TypeDesc.struct #[{ name := "Stretches",type:=22,offset:=0,embedded:=false,tag := "",pkgPath := "",byteOffset:=0 }]) 1 true:=⟨Tryz.underlying24,Tryz.sizeOf24,Tryz.isAgg24⟩
instance : TyZ Tryz.prog 24 [Value.slice none 0 0]:=⟨fun w=>⟨_,Tryz.zeroValue24 w,rfl⟩⟩
instance : TyB Tryz.prog 24 [(0,1)] [Value.slice none 0 0]:=zAL (zv:=Value.agg #[Value.slice none 0 0]) (by kernel_rfl) rfl Tryz.underlying24 (by kernel_rfl)
instance : TyI Tryz.prog 26 (TypeDesc.struct #[{ name := "Lo",type:=3,offset:=0,embedded:=false,tag := "",pkgPath := "",byteOffset:=0 },{ name := "Hi",type:=3,offset:=1,embedded:=false,tag := "",pkgPath := "",byteOffset:=8 }]) 2 true:=⟨Tryz.underlying26,Tryz.sizeOf26,Tryz.isAgg26⟩
instance : TyZ Tryz.prog 26 [Value.int Go.IntKind.i64 0,Value.int Go.IntKind.i64 0]:=⟨fun w=>⟨_,Tryz.zeroValue26 w,rfl⟩⟩
instance : TyB Tryz.prog 26 [(0,1),(1,1)] [Value.int Go.IntKind.i64 0,Value.int Go.IntKind.i64 0]:=zAL (zv:=Value.agg #[Value.int Go.IntKind.i64 0,Value.int Go.IntKind.i64 0]) (by kernel_rfl) rfl Tryz.underlying26 (by kernel_rfl)
instance : TyI Tryz.prog 28 (TypeDesc.struct #[{ name := "Class",type:=5,offset:=0,embedded:=false,tag := "",pkgPath := "",byteOffset:=0 },{ name := "Start",type:=26,offset:=1,embedded:=false,tag := "",pkgPath := "",byteOffset:=8 },{ name := "Rub",type:=26,offset:=3,embedded:=false,tag := "",pkgPath := "",byteOffset:=24 },{ name := "Drag",type:=26,offset:=5,embedded:=false,tag := "",pkgPath := "",byteOffset:=40 },{ name := "Weight",type:=26,offset:=7,embedded:=false,tag := "",pkgPath := "",byteOffset:=56 },{ name := "Steer",type:=26,offset:=9,embedded:=false,tag := "",pkgPath := "",byteOffset:=72 }]) 11 true:=⟨Tryz.underlying28,Tryz.sizeOf28,Tryz.isAgg28⟩
instance : TyZ Tryz.prog 28 [Value.int Go.IntKind.u8 0,Value.int Go.IntKind.i64 0,Value.int Go.IntKind.i64 0,Value.int Go.IntKind.i64 0,Value.int Go.IntKind.i64 0,Value.int Go.IntKind.i64 0,Value.int Go.IntKind.i64 0,Value.int Go.IntKind.i64 0,Value.int Go.IntKind.i64 0,Value.int Go.IntKind.i64 0,Value.int Go.IntKind.i64 0]:=⟨fun w=>⟨_,Tryz.zeroValue28 w,rfl⟩⟩
instance : TyB Tryz.prog 28 [(0,1),(1,2),(3,2),(5,2),(7,2),(9,2)] [Value.int Go.IntKind.u8 0,Value.int Go.IntKind.i64 0,Value.int Go.IntKind.i64 0,Value.int Go.IntKind.i64 0,Value.int Go.IntKind.i64 0,Value.int Go.IntKind.i64 0,Value.int Go.IntKind.i64 0,Value.int Go.IntKind.i64 0,Value.int Go.IntKind.i64 0,Value.int Go.IntKind.i64 0,Value.int Go.IntKind.i64 0]:=zAL (zv:=Value.agg #[Value.int Go.IntKind.u8 0,Value.int Go.IntKind.i64 0,Value.int Go.IntKind.i64 0,Value.int Go.IntKind.i64 0,Value.int Go.IntKind.i64 0,Value.int Go.IntKind.i64 0,Value.int Go.IntKind.i64 0,Value.int Go.IntKind.i64 0,Value.int Go.IntKind.i64 0,Value.int Go.IntKind.i64 0,Value.int Go.IntKind.i64 0]) (by kernel_rfl) rfl Tryz.underlying28 (by kernel_rfl)
instance : TyI Tryz.prog 32 (TypeDesc.slice 3) 1 false:=⟨Tryz.underlying32,Tryz.sizeOf32,Tryz.isAgg32⟩
instance : TyZ Tryz.prog 32 [Value.slice none 0 0]:=⟨fun w=>⟨_,Tryz.zeroValue32 w,rfl⟩⟩
instance : TyI Tryz.prog 33 (TypeDesc.int Go.IntKind.i64) 1 false:=⟨Tryz.underlying33,Tryz.sizeOf33,Tryz.isAgg33⟩
instance : TyI Tryz.prog 36 (TypeDesc.slice 78) 1 false:=⟨Tryz.underlying36,Tryz.sizeOf36,Tryz.isAgg36⟩
instance : TyZ Tryz.prog 36 [Value.slice none 0 0]:=⟨fun w=>⟨_,Tryz.zeroValue36 w,rfl⟩⟩
instance : TyI Tryz.prog 37 (TypeDesc.slice 82) 1 false:=⟨Tryz.underlying37,Tryz.sizeOf37,Tryz.isAgg37⟩
instance : TyZ Tryz.prog 37 [Value.slice none 0 0]:=⟨fun w=>⟨_,Tryz.zeroValue37 w,rfl⟩⟩
instance : TyI Tryz.prog 39 (TypeDesc.struct #[{ name := "Track",type:=24,offset:=0,embedded:=false,tag := "",pkgPath := "",byteOffset:=0 },{ name := "Fast",type:=3,offset:=1,embedded:=false,tag := "",pkgPath := "",byteOffset:=24 },{ name := "Clocks",type:=36,offset:=2,embedded:=false,tag := "",pkgPath := "",byteOffset:=32 },{ name := "Beams",type:=37,offset:=3,embedded:=false,tag := "",pkgPath := "",byteOffset:=56 },{ name := "Finish",type:=3,offset:=4,embedded:=false,tag := "",pkgPath := "",byteOffset:=80 },{ name := "Fakes",type:=3,offset:=5,embedded:=false,tag := "",pkgPath := "",byteOffset:=88 },{ name := "Misses",type:=3,offset:=6,embedded:=false,tag := "",pkgPath := "",byteOffset:=96 }]) 7 true:=⟨Tryz.underlying39,Tryz.sizeOf39,Tryz.isAgg39⟩
instance : TyZ Tryz.prog 39 [Value.slice none 0 0,Value.int Go.IntKind.i64 0,Value.slice none 0 0,Value.slice none 0 0,Value.int Go.IntKind.i64 0,Value.int Go.IntKind.i64 0,Value.int Go.IntKind.i64 0]:=⟨fun w=>⟨_,Tryz.zeroValue39 w,rfl⟩⟩
instance : TyB Tryz.prog 39 [(0,1),(1,1),(2,1),(3,1),(4,1),(5,1),(6,1)] [Value.slice none 0 0,Value.int Go.IntKind.i64 0,Value.slice none 0 0,Value.slice none 0 0,Value.int Go.IntKind.i64 0,Value.int Go.IntKind.i64 0,Value.int Go.IntKind.i64 0]:=zAL (zv:=Value.agg #[Value.slice none 0 0,Value.int Go.IntKind.i64 0,Value.slice none 0 0,Value.slice none 0 0,Value.int Go.IntKind.i64 0,Value.int Go.IntKind.i64 0,Value.int Go.IntKind.i64 0]) (by kernel_rfl) rfl Tryz.underlying39 (by kernel_rfl)
instance : TyI Tryz.prog 46 (TypeDesc.slice 96) 1 false:=⟨Tryz.underlying46,Tryz.sizeOf46,Tryz.isAgg46⟩
instance : TyZ Tryz.prog 46 [Value.slice none 0 0]:=⟨fun w=>⟨_,Tryz.zeroValue46 w,rfl⟩⟩
instance : TyI Tryz.prog 48 (TypeDesc.struct #[{ name := "Scales",type:=46,offset:=0,embedded:=false,tag := "",pkgPath := "",byteOffset:=0 }]) 1 true:=⟨Tryz.underlying48,Tryz.sizeOf48,Tryz.isAgg48⟩
instance : TyZ Tryz.prog 48 [Value.slice none 0 0]:=⟨fun w=>⟨_,Tryz.zeroValue48 w,rfl⟩⟩
instance : TyB Tryz.prog 48 [(0,1)] [Value.slice none 0 0]:=zAL (zv:=Value.agg #[Value.slice none 0 0]) (by kernel_rfl) rfl Tryz.underlying48 (by kernel_rfl)
instance : TyI Tryz.prog 49 (TypeDesc.slice 122) 1 false:=⟨Tryz.underlying49,Tryz.sizeOf49,Tryz.isAgg49⟩
instance : TyI Tryz.prog 51 (TypeDesc.struct #[{ name := "Loads",type:=49,offset:=0,embedded:=false,tag := "",pkgPath := "",byteOffset:=0 },{ name := "Added",type:=3,offset:=1,embedded:=false,tag := "",pkgPath := "",byteOffset:=24 },{ name := "Base",type:=3,offset:=2,embedded:=false,tag := "",pkgPath := "",byteOffset:=32 },{ name := "Jitter",type:=3,offset:=3,embedded:=false,tag := "",pkgPath := "",byteOffset:=40 },{ name := "Runners",type:=32,offset:=4,embedded:=false,tag := "",pkgPath := "",byteOffset:=48 },{ name := "Strokes",type:=32,offset:=5,embedded:=false,tag := "",pkgPath := "",byteOffset:=72 },{ name := "Spread",type:=3,offset:=6,embedded:=false,tag := "",pkgPath := "",byteOffset:=96 },{ name := "Stamp",type:=4,offset:=7,embedded:=false,tag := "",pkgPath := "",byteOffset:=104 }]) 8 true:=⟨Tryz.underlying51,Tryz.sizeOf51,Tryz.isAgg51⟩
instance : TyZ Tryz.prog 51 [Value.slice none 0 0,Value.int Go.IntKind.i64 0,Value.int Go.IntKind.i64 0,Value.int Go.IntKind.i64 0,Value.slice none 0 0,Value.slice none 0 0,Value.int Go.IntKind.i64 0,Value.bool false]:=⟨fun w=>⟨_,Tryz.zeroValue51 w,rfl⟩⟩
instance : TyB Tryz.prog 51 [(0,1),(1,1),(2,1),(3,1),(4,1),(5,1),(6,1),(7,1)] [Value.slice none 0 0,Value.int Go.IntKind.i64 0,Value.int Go.IntKind.i64 0,Value.int Go.IntKind.i64 0,Value.slice none 0 0,Value.slice none 0 0,Value.int Go.IntKind.i64 0,Value.bool false]:=zAL (zv:=Value.agg #[Value.slice none 0 0,Value.int Go.IntKind.i64 0,Value.int Go.IntKind.i64 0,Value.int Go.IntKind.i64 0,Value.slice none 0 0,Value.slice none 0 0,Value.int Go.IntKind.i64 0,Value.bool false]) (by kernel_rfl) rfl Tryz.underlying51 (by kernel_rfl)
instance : TyI Tryz.prog 52 (TypeDesc.slice 102) 1 false:=⟨Tryz.underlying52,Tryz.sizeOf52,Tryz.isAgg52⟩
instance : TyI Tryz.prog 55 (TypeDesc.slice 26) 1 false:=⟨Tryz.underlying55,Tryz.sizeOf55,Tryz.isAgg55⟩
instance : TyZ Tryz.prog 55 [Value.slice none 0 0]:=⟨fun w=>⟨_,Tryz.zeroValue55 w,rfl⟩⟩
instance : TyI Tryz.prog 59 (TypeDesc.slice 117) 1 false:=⟨Tryz.underlying59,Tryz.sizeOf59,Tryz.isAgg59⟩
instance : TyZ Tryz.prog 59 [Value.slice none 0 0]:=⟨fun w=>⟨_,Tryz.zeroValue59 w,rfl⟩⟩
instance : TyI Tryz.prog 61 (TypeDesc.struct #[{ name := "Tunes",type:=59,offset:=0,embedded:=false,tag := "",pkgPath := "",byteOffset:=0 },{ name := "Weights",type:=32,offset:=1,embedded:=false,tag := "",pkgPath := "",byteOffset:=24 }]) 2 true:=⟨Tryz.underlying61,Tryz.sizeOf61,Tryz.isAgg61⟩
instance : TyZ Tryz.prog 61 [Value.slice none 0 0,Value.slice none 0 0]:=⟨fun w=>⟨_,Tryz.zeroValue61 w,rfl⟩⟩
instance : TyB Tryz.prog 61 [(0,1),(1,1)] [Value.slice none 0 0,Value.slice none 0 0]:=zAL (zv:=Value.agg #[Value.slice none 0 0,Value.slice none 0 0]) (by kernel_rfl) rfl Tryz.underlying61 (by kernel_rfl)
instance : TyI Tryz.prog 70 (TypeDesc.struct #[{ name := "Id",type:=3,offset:=0,embedded:=false,tag := "",pkgPath := "",byteOffset:=0 },{ name := "Long",type:=26,offset:=1,embedded:=false,tag := "",pkgPath := "",byteOffset:=8 },{ name := "Fall",type:=26,offset:=3,embedded:=false,tag := "",pkgPath := "",byteOffset:=24 },{ name := "Radius",type:=26,offset:=5,embedded:=false,tag := "",pkgPath := "",byteOffset:=40 },{ name := "Side",type:=5,offset:=7,embedded:=false,tag := "",pkgPath := "",byteOffset:=56 },{ name := "Wall",type:=3,offset:=8,embedded:=false,tag := "",pkgPath := "",byteOffset:=64 }]) 9 true:=⟨Tryz.underlying70,Tryz.sizeOf70,Tryz.isAgg70⟩
instance : TyZ Tryz.prog 70 [Value.int Go.IntKind.i64 0,Value.int Go.IntKind.i64 0,Value.int Go.IntKind.i64 0,Value.int Go.IntKind.i64 0,Value.int Go.IntKind.i64 0,Value.int Go.IntKind.i64 0,Value.int Go.IntKind.i64 0,Value.int Go.IntKind.u8 0,Value.int Go.IntKind.i64 0]:=⟨fun w=>⟨_,Tryz.zeroValue70 w,rfl⟩⟩
instance : TyB Tryz.prog 70 [(0,1),(1,2),(3,2),(5,2),(7,1),(8,1)] [Value.int Go.IntKind.i64 0,Value.int Go.IntKind.i64 0,Value.int Go.IntKind.i64 0,Value.int Go.IntKind.i64 0,Value.int Go.IntKind.i64 0,Value.int Go.IntKind.i64 0,Value.int Go.IntKind.i64 0,Value.int Go.IntKind.u8 0,Value.int Go.IntKind.i64 0]:=zAL (zv:=Value.agg #[Value.int Go.IntKind.i64 0,Value.int Go.IntKind.i64 0,Value.int Go.IntKind.i64 0,Value.int Go.IntKind.i64 0,Value.int Go.IntKind.i64 0,Value.int Go.IntKind.i64 0,Value.int Go.IntKind.i64 0,Value.int Go.IntKind.u8 0,Value.int Go.IntKind.i64 0]) (by kernel_rfl) rfl Tryz.underlying70 (by kernel_rfl)
instance : TyI Tryz.prog 75 (TypeDesc.struct #[{ name := "At",type:=3,offset:=0,embedded:=false,tag := "",pkgPath := "",byteOffset:=0 },{ name := "Ahead",type:=26,offset:=1,embedded:=false,tag := "",pkgPath := "",byteOffset:=8 }]) 3 true:=⟨Tryz.underlying75,Tryz.sizeOf75,Tryz.isAgg75⟩
instance : TyZ Tryz.prog 75 [Value.int Go.IntKind.i64 0,Value.int Go.IntKind.i64 0,Value.int Go.IntKind.i64 0]:=⟨fun w=>⟨_,Tryz.zeroValue75 w,rfl⟩⟩
instance : TyB Tryz.prog 75 [(0,1),(1,2)] [Value.int Go.IntKind.i64 0,Value.int Go.IntKind.i64 0,Value.int Go.IntKind.i64 0]:=zAL (zv:=Value.agg #[Value.int Go.IntKind.i64 0,Value.int Go.IntKind.i64 0,Value.int Go.IntKind.i64 0]) (by kernel_rfl) rfl Tryz.underlying75 (by kernel_rfl)
instance : TyI Tryz.prog 76 (TypeDesc.slice 75) 1 false:=⟨Tryz.underlying76,Tryz.sizeOf76,Tryz.isAgg76⟩
instance : TyZ Tryz.prog 76 [Value.slice none 0 0]:=⟨fun w=>⟨_,Tryz.zeroValue76 w,rfl⟩⟩
instance : TyI Tryz.prog 78 (TypeDesc.struct #[{ name := "Drift",type:=3,offset:=0,embedded:=false,tag := "",pkgPath := "",byteOffset:=0 },{ name := "Syncs",type:=76,offset:=1,embedded:=false,tag := "",pkgPath := "",byteOffset:=8 }]) 2 true:=⟨Tryz.underlying78,Tryz.sizeOf78,Tryz.isAgg78⟩
instance : TyZ Tryz.prog 78 [Value.int Go.IntKind.i64 0,Value.slice none 0 0]:=⟨fun w=>⟨_,Tryz.zeroValue78 w,rfl⟩⟩
instance : TyB Tryz.prog 78 [(0,1),(1,1)] [Value.int Go.IntKind.i64 0,Value.slice none 0 0]:=zAL (zv:=Value.agg #[Value.int Go.IntKind.i64 0,Value.slice none 0 0]) (by kernel_rfl) rfl Tryz.underlying78 (by kernel_rfl)
instance : TyI Tryz.prog 80 (TypeDesc.struct #[{ name := "Stretch",type:=3,offset:=0,embedded:=false,tag := "",pkgPath := "",byteOffset:=0 },{ name := "Off",type:=26,offset:=1,embedded:=false,tag := "",pkgPath := "",byteOffset:=8 }]) 3 true:=⟨Tryz.underlying80,Tryz.sizeOf80,Tryz.isAgg80⟩
instance : TyZ Tryz.prog 80 [Value.int Go.IntKind.i64 0,Value.int Go.IntKind.i64 0,Value.int Go.IntKind.i64 0]:=⟨fun w=>⟨_,Tryz.zeroValue80 w,rfl⟩⟩
instance : TyB Tryz.prog 80 [(0,1),(1,2)] [Value.int Go.IntKind.i64 0,Value.int Go.IntKind.i64 0,Value.int Go.IntKind.i64 0]:=zAL (zv:=Value.agg #[Value.int Go.IntKind.i64 0,Value.int Go.IntKind.i64 0,Value.int Go.IntKind.i64 0]) (by kernel_rfl) rfl Tryz.underlying80 (by kernel_rfl)
instance : TyI Tryz.prog 82 (TypeDesc.struct #[{ name := "Spot",type:=80,offset:=0,embedded:=false,tag := "",pkgPath := "",byteOffset:=0 },{ name := "Clock",type:=3,offset:=3,embedded:=false,tag := "",pkgPath := "",byteOffset:=24 }]) 4 true:=⟨Tryz.underlying82,Tryz.sizeOf82,Tryz.isAgg82⟩
instance : TyZ Tryz.prog 82 [Value.int Go.IntKind.i64 0,Value.int Go.IntKind.i64 0,Value.int Go.IntKind.i64 0,Value.int Go.IntKind.i64 0]:=⟨fun w=>⟨_,Tryz.zeroValue82 w,rfl⟩⟩
instance : TyB Tryz.prog 82 [(0,3),(3,1)] [Value.int Go.IntKind.i64 0,Value.int Go.IntKind.i64 0,Value.int Go.IntKind.i64 0,Value.int Go.IntKind.i64 0]:=zAL (zv:=Value.agg #[Value.int Go.IntKind.i64 0,Value.int Go.IntKind.i64 0,Value.int Go.IntKind.i64 0,Value.int Go.IntKind.i64 0]) (by kernel_rfl) rfl Tryz.underlying82 (by kernel_rfl)
instance : TyI Tryz.prog 89 (TypeDesc.struct #[{ name := "Sled",type:=28,offset:=0,embedded:=true,tag := "",pkgPath := "",byteOffset:=0 },{ name := "track",type:=24,offset:=11,embedded:=false,tag := "",pkgPath := "kreisel/slide",byteOffset:=88 },{ name := "best",type:=4,offset:=12,embedded:=false,tag := "",pkgPath := "kreisel/slide",byteOffset:=112 }]) 13 true:=⟨Tryz.underlying89,Tryz.sizeOf89,Tryz.isAgg89⟩
instance : TyZ Tryz.prog 89 [Value.int Go.IntKind.u8 0,Value.int Go.IntKind.i64 0,Value.int Go.IntKind.i64 0,Value.int Go.IntKind.i64 0,Value.int Go.IntKind.i64 0,Value.int Go.IntKind.i64 0,Value.int Go.IntKind.i64 0,Value.int Go.IntKind.i64 0,Value.int Go.IntKind.i64 0,Value.int Go.IntKind.i64 0,Value.int Go.IntKind.i64 0,Value.slice none 0 0,Value.bool false]:=⟨fun w=>⟨_,Tryz.zeroValue89 w,rfl⟩⟩
instance : TyB Tryz.prog 89 [(0,11),(11,1),(12,1)] [Value.int Go.IntKind.u8 0,Value.int Go.IntKind.i64 0,Value.int Go.IntKind.i64 0,Value.int Go.IntKind.i64 0,Value.int Go.IntKind.i64 0,Value.int Go.IntKind.i64 0,Value.int Go.IntKind.i64 0,Value.int Go.IntKind.i64 0,Value.int Go.IntKind.i64 0,Value.int Go.IntKind.i64 0,Value.int Go.IntKind.i64 0,Value.slice none 0 0,Value.bool false]:=zAL (zv:=Value.agg #[Value.int Go.IntKind.u8 0,Value.int Go.IntKind.i64 0,Value.int Go.IntKind.i64 0,Value.int Go.IntKind.i64 0,Value.int Go.IntKind.i64 0,Value.int Go.IntKind.i64 0,Value.int Go.IntKind.i64 0,Value.int Go.IntKind.i64 0,Value.int Go.IntKind.i64 0,Value.int Go.IntKind.i64 0,Value.int Go.IntKind.i64 0,Value.slice none 0 0,Value.bool false]) (by kernel_rfl) rfl Tryz.underlying89 (by kernel_rfl)
instance : TyI Tryz.prog 94 (TypeDesc.slice 188) 1 false:=⟨Tryz.underlying94,Tryz.sizeOf94,Tryz.isAgg94⟩
instance : TyI Tryz.prog 96 (TypeDesc.struct #[{ name := "Id",type:=3,offset:=0,embedded:=false,tag := "",pkgPath := "",byteOffset:=0 },{ name := "Step",type:=3,offset:=1,embedded:=false,tag := "",pkgPath := "",byteOffset:=8 },{ name := "Gain",type:=26,offset:=2,embedded:=false,tag := "",pkgPath := "",byteOffset:=16 },{ name := "Off",type:=26,offset:=4,embedded:=false,tag := "",pkgPath := "",byteOffset:=32 },{ name := "Trials",type:=94,offset:=6,embedded:=false,tag := "",pkgPath := "",byteOffset:=48 }]) 7 true:=⟨Tryz.underlying96,Tryz.sizeOf96,Tryz.isAgg96⟩
instance : TyZ Tryz.prog 96 [Value.int Go.IntKind.i64 0,Value.int Go.IntKind.i64 0,Value.int Go.IntKind.i64 0,Value.int Go.IntKind.i64 0,Value.int Go.IntKind.i64 0,Value.int Go.IntKind.i64 0,Value.slice none 0 0]:=⟨fun w=>⟨_,Tryz.zeroValue96 w,rfl⟩⟩
instance : TyB Tryz.prog 96 [(0,1),(1,1),(2,2),(4,2),(6,1)] [Value.int Go.IntKind.i64 0,Value.int Go.IntKind.i64 0,Value.int Go.IntKind.i64 0,Value.int Go.IntKind.i64 0,Value.int Go.IntKind.i64 0,Value.int Go.IntKind.i64 0,Value.slice none 0 0]:=zAL (zv:=Value.agg #[Value.int Go.IntKind.i64 0,Value.int Go.IntKind.i64 0,Value.int Go.IntKind.i64 0,Value.int Go.IntKind.i64 0,Value.int Go.IntKind.i64 0,Value.int Go.IntKind.i64 0,Value.slice none 0 0]) (by kernel_rfl) rfl Tryz.underlying96 (by kernel_rfl)
instance : TyI Tryz.prog 98 (TypeDesc.pointer 126) 1 false:=⟨Tryz.underlying98,Tryz.sizeOf98,Tryz.isAgg98⟩
instance : TyI Tryz.prog 102 (TypeDesc.int Go.IntKind.u32) 1 false:=⟨Tryz.underlying102,Tryz.sizeOf102,Tryz.isAgg102⟩
instance : TyI Tryz.prog 104 (TypeDesc.func #[26] #[4] false) 1 false:=⟨Tryz.underlying104,Tryz.sizeOf104,Tryz.isAgg104⟩
instance : TyI Tryz.prog 106 (TypeDesc.slice 111) 1 false:=⟨Tryz.underlying106,Tryz.sizeOf106,Tryz.isAgg106⟩
instance : TyZ Tryz.prog 106 [Value.slice none 0 0]:=⟨fun w=>⟨_,Tryz.zeroValue106 w,rfl⟩⟩
instance : TyI Tryz.prog 107 (TypeDesc.slice 55) 1 false:=⟨Tryz.underlying107,Tryz.sizeOf107,Tryz.isAgg107⟩
instance : TyZ Tryz.prog 107 [Value.slice none 0 0]:=⟨fun w=>⟨_,Tryz.zeroValue107 w,rfl⟩⟩
instance : TyI Tryz.prog 111 (TypeDesc.slice 119) 1 false:=⟨Tryz.underlying111,Tryz.sizeOf111,Tryz.isAgg111⟩
instance : TyZ Tryz.prog 111 [Value.slice none 0 0]:=⟨fun w=>⟨_,Tryz.zeroValue111 w,rfl⟩⟩
instance : TyI Tryz.prog 115 (TypeDesc.map 3 117) 1 false:=⟨Tryz.underlying115,Tryz.sizeOf115,Tryz.isAgg115⟩
instance : TyI Tryz.prog 117 (TypeDesc.array 2 3) 2 true:=⟨Tryz.underlying117,Tryz.sizeOf117,Tryz.isAgg117⟩
instance : TyZ Tryz.prog 117 [Value.int Go.IntKind.i64 0,Value.int Go.IntKind.i64 0]:=⟨fun w=>⟨_,Tryz.zeroValue117 w,rfl⟩⟩
instance : TyBA Tryz.prog 117 1 [Value.int Go.IntKind.i64 0,Value.int Go.IntKind.i64 0]:=zEG (zv:=Value.agg #[Value.int Go.IntKind.i64 0,Value.int Go.IntKind.i64 0]) (by kernel_rfl) rfl Tryz.underlying117 (by kernel_rfl)
instance : TyI Tryz.prog 119 (TypeDesc.struct #[{ name := "tune",type:=117,offset:=0,embedded:=false,tag := "",pkgPath := "kreisel/scale",byteOffset:=0 },{ name := "sum",type:=26,offset:=2,embedded:=false,tag := "",pkgPath := "kreisel/scale",byteOffset:=16 }]) 4 true:=⟨Tryz.underlying119,Tryz.sizeOf119,Tryz.isAgg119⟩
instance : TyZ Tryz.prog 119 [Value.int Go.IntKind.i64 0,Value.int Go.IntKind.i64 0,Value.int Go.IntKind.i64 0,Value.int Go.IntKind.i64 0]:=⟨fun w=>⟨_,Tryz.zeroValue119 w,rfl⟩⟩
instance : TyB Tryz.prog 119 [(0,2),(2,2)] [Value.int Go.IntKind.i64 0,Value.int Go.IntKind.i64 0,Value.int Go.IntKind.i64 0,Value.int Go.IntKind.i64 0]:=zAL (zv:=Value.agg #[Value.int Go.IntKind.i64 0,Value.int Go.IntKind.i64 0,Value.int Go.IntKind.i64 0,Value.int Go.IntKind.i64 0]) (by kernel_rfl) rfl Tryz.underlying119 (by kernel_rfl)
instance : TyI Tryz.prog 120 (TypeDesc.func #[119] #[4] false) 1 false:=⟨Tryz.underlying120,Tryz.sizeOf120,Tryz.isAgg120⟩
instance : TyI Tryz.prog 122 (TypeDesc.struct #[{ name := "Scale",type:=3,offset:=0,embedded:=false,tag := "",pkgPath := "",byteOffset:=0 },{ name := "Shown",type:=3,offset:=1,embedded:=false,tag := "",pkgPath := "",byteOffset:=8 }]) 2 true:=⟨Tryz.underlying122,Tryz.sizeOf122,Tryz.isAgg122⟩
instance : TyZ Tryz.prog 122 [Value.int Go.IntKind.i64 0,Value.int Go.IntKind.i64 0]:=⟨fun w=>⟨_,Tryz.zeroValue122 w,rfl⟩⟩
instance : TyB Tryz.prog 122 [(0,1),(1,1)] [Value.int Go.IntKind.i64 0,Value.int Go.IntKind.i64 0]:=zAL (zv:=Value.agg #[Value.int Go.IntKind.i64 0,Value.int Go.IntKind.i64 0]) (by kernel_rfl) rfl Tryz.underlying122 (by kernel_rfl)
instance : TyI Tryz.prog 124 (TypeDesc.map 3 96) 1 false:=⟨Tryz.underlying124,Tryz.sizeOf124,Tryz.isAgg124⟩
instance : TyI Tryz.prog 126 (TypeDesc.struct #[{ name := "Bay",type:=48,offset:=0,embedded:=true,tag := "",pkgPath := "",byteOffset:=0 },{ name := "scales",type:=124,offset:=1,embedded:=false,tag := "",pkgPath := "kreisel/scale",byteOffset:=24 }]) 2 true:=⟨Tryz.underlying126,Tryz.sizeOf126,Tryz.isAgg126⟩
instance : TyZ Tryz.prog 126 [Value.slice none 0 0,Value.map none]:=⟨fun w=>⟨_,Tryz.zeroValue126 w,rfl⟩⟩
instance : TyB Tryz.prog 126 [(0,1),(1,1)] [Value.slice none 0 0,Value.map none]:=zAL (zv:=Value.agg #[Value.slice none 0 0,Value.map none]) (by kernel_rfl) rfl Tryz.underlying126 (by kernel_rfl)
instance : TyI Tryz.prog 134 (TypeDesc.func #[3] #[4] false) 1 false:=⟨Tryz.underlying134,Tryz.sizeOf134,Tryz.isAgg134⟩
instance : TyI Tryz.prog 135 (TypeDesc.func #[39] #[4] false) 1 false:=⟨Tryz.underlying135,Tryz.sizeOf135,Tryz.isAgg135⟩
instance : TyI Tryz.prog 137 (TypeDesc.struct #[{ name := "so",type:=135,offset:=0,embedded:=false,tag := "",pkgPath := "kreisel/beam",byteOffset:=0 }]) 1 true:=⟨Tryz.underlying137,Tryz.sizeOf137,Tryz.isAgg137⟩
instance : TyZ Tryz.prog 137 [Value.nilFunc]:=⟨fun w=>⟨_,Tryz.zeroValue137 w,rfl⟩⟩
instance : TyB Tryz.prog 137 [(0,1)] [Value.nilFunc]:=zAL (zv:=Value.agg #[Value.nilFunc]) (by kernel_rfl) rfl Tryz.underlying137 (by kernel_rfl)
instance : TyI Tryz.prog 138 (TypeDesc.array 4 137) 4 true:=⟨Tryz.underlying138,Tryz.sizeOf138,Tryz.isAgg138⟩
instance : TyZ Tryz.prog 138 [Value.nilFunc,Value.nilFunc,Value.nilFunc,Value.nilFunc]:=⟨fun w=>⟨_,Tryz.zeroValue138 w,rfl⟩⟩
instance : TyBA Tryz.prog 138 1 [Value.nilFunc,Value.nilFunc,Value.nilFunc,Value.nilFunc]:=zEG (zv:=Value.agg #[Value.nilFunc,Value.nilFunc,Value.nilFunc,Value.nilFunc]) (by kernel_rfl) rfl Tryz.underlying138 (by kernel_rfl)
instance : TyI Tryz.prog 148 (TypeDesc.slice 51) 1 false:=⟨Tryz.underlying148,Tryz.sizeOf148,Tryz.isAgg148⟩
instance : TyZ Tryz.prog 148 [Value.slice none 0 0]:=⟨fun w=>⟨_,Tryz.zeroValue148 w,rfl⟩⟩
instance : TyI Tryz.prog 152 (TypeDesc.map 3 4) 1 false:=⟨Tryz.underlying152,Tryz.sizeOf152,Tryz.isAgg152⟩
instance : TyI Tryz.prog 158 (TypeDesc.struct #[{ name := "Gain",type:=3,offset:=0,embedded:=false,tag := "",pkgPath := "",byteOffset:=0 },{ name := "Off",type:=26,offset:=1,embedded:=false,tag := "",pkgPath := "",byteOffset:=8 }]) 3 true:=⟨Tryz.underlying158,Tryz.sizeOf158,Tryz.isAgg158⟩
instance : TyZ Tryz.prog 158 [Value.int Go.IntKind.i64 0,Value.int Go.IntKind.i64 0,Value.int Go.IntKind.i64 0]:=⟨fun w=>⟨_,Tryz.zeroValue158 w,rfl⟩⟩
instance : TyB Tryz.prog 158 [(0,1),(1,2)] [Value.int Go.IntKind.i64 0,Value.int Go.IntKind.i64 0,Value.int Go.IntKind.i64 0]:=zAL (zv:=Value.agg #[Value.int Go.IntKind.i64 0,Value.int Go.IntKind.i64 0,Value.int Go.IntKind.i64 0]) (by kernel_rfl) rfl Tryz.underlying158 (by kernel_rfl)
instance : TyI Tryz.prog 160 (TypeDesc.func #[26] #[26] false) 1 false:=⟨Tryz.underlying160,Tryz.sizeOf160,Tryz.isAgg160⟩
instance : TyI Tryz.prog 162 (TypeDesc.func #[119] #[26] false) 1 false:=⟨Tryz.underlying162,Tryz.sizeOf162,Tryz.isAgg162⟩
instance : TyI Tryz.prog 164 (TypeDesc.func #[89,3,3] #[3] false) 1 false:=⟨Tryz.underlying164,Tryz.sizeOf164,Tryz.isAgg164⟩
instance : TyI Tryz.prog 165 (TypeDesc.struct #[{ name := "of",type:=164,offset:=0,embedded:=false,tag := "",pkgPath := "kreisel/slide",byteOffset:=0 }]) 1 true:=⟨Tryz.underlying165,Tryz.sizeOf165,Tryz.isAgg165⟩
instance : TyZ Tryz.prog 165 [Value.nilFunc]:=⟨fun w=>⟨_,Tryz.zeroValue165 w,rfl⟩⟩
instance : TyB Tryz.prog 165 [(0,1)] [Value.nilFunc]:=zAL (zv:=Value.agg #[Value.nilFunc]) (by kernel_rfl) rfl Tryz.underlying165 (by kernel_rfl)
instance : TyI Tryz.prog 166 (TypeDesc.array 2 165) 2 true:=⟨Tryz.underlying166,Tryz.sizeOf166,Tryz.isAgg166⟩
instance : TyZ Tryz.prog 166 [Value.nilFunc,Value.nilFunc]:=⟨fun w=>⟨_,Tryz.zeroValue166 w,rfl⟩⟩
instance : TyBA Tryz.prog 166 1 [Value.nilFunc,Value.nilFunc]:=zEG (zv:=Value.agg #[Value.nilFunc,Value.nilFunc]) (by kernel_rfl) rfl Tryz.underlying166 (by kernel_rfl)
instance : TyI Tryz.prog 169 (TypeDesc.map 3 3) 1 false:=⟨Tryz.underlying169,Tryz.sizeOf169,Tryz.isAgg169⟩
instance : TyI Tryz.prog 172 (TypeDesc.func #[78] #[4] false) 1 false:=⟨Tryz.underlying172,Tryz.sizeOf172,Tryz.isAgg172⟩
instance : TyI Tryz.prog 176 (TypeDesc.func #[82] #[4] false) 1 false:=⟨Tryz.underlying176,Tryz.sizeOf176,Tryz.isAgg176⟩
instance : TyI Tryz.prog 179 (TypeDesc.struct #[{ name := "Track",type:=24,offset:=0,embedded:=true,tag := "",pkgPath := "",byteOffset:=0 }]) 1 true:=⟨Tryz.underlying179,Tryz.sizeOf179,Tryz.isAgg179⟩
instance : TyZ Tryz.prog 179 [Value.slice none 0 0]:=⟨fun w=>⟨_,Tryz.zeroValue179 w,rfl⟩⟩
instance : TyB Tryz.prog 179 [(0,1)] [Value.slice none 0 0]:=zAL (zv:=Value.agg #[Value.slice none 0 0]) (by kernel_rfl) rfl Tryz.underlying179 (by kernel_rfl)
instance : TyI Tryz.prog 188 (TypeDesc.struct #[{ name := "Weight",type:=3,offset:=0,embedded:=false,tag := "",pkgPath := "",byteOffset:=0 },{ name := "Shown",type:=3,offset:=1,embedded:=false,tag := "",pkgPath := "",byteOffset:=8 }]) 2 true:=⟨Tryz.underlying188,Tryz.sizeOf188,Tryz.isAgg188⟩
instance : TyZ Tryz.prog 188 [Value.int Go.IntKind.i64 0,Value.int Go.IntKind.i64 0]:=⟨fun w=>⟨_,Tryz.zeroValue188 w,rfl⟩⟩
instance : TyB Tryz.prog 188 [(0,1),(1,1)] [Value.int Go.IntKind.i64 0,Value.int Go.IntKind.i64 0]:=zAL (zv:=Value.agg #[Value.int Go.IntKind.i64 0,Value.int Go.IntKind.i64 0]) (by kernel_rfl) rfl Tryz.underlying188 (by kernel_rfl)
instance : TyI Tryz.prog 191 (TypeDesc.func #[122] #[4] false) 1 false:=⟨Tryz.underlying191,Tryz.sizeOf191,Tryz.isAgg191⟩
instance : TyI Tryz.prog 195 (TypeDesc.func #[26,26] #[3] false) 1 false:=⟨Tryz.underlying195,Tryz.sizeOf195,Tryz.isAgg195⟩
instance : TyI Tryz.prog 198 (TypeDesc.int Go.IntKind.u64) 1 false:=⟨Tryz.underlying198,Tryz.sizeOf198,Tryz.isAgg198⟩
instance : TyI Tryz.prog 204 (TypeDesc.slice 80) 1 false:=⟨Tryz.underlying204,Tryz.sizeOf204,Tryz.isAgg204⟩
instance : TyZ Tryz.prog 204 [Value.slice none 0 0]:=⟨fun w=>⟨_,Tryz.zeroValue204 w,rfl⟩⟩
instance : TyI Tryz.prog 206 (TypeDesc.func #[3,80] #[4] false) 1 false:=⟨Tryz.underlying206,Tryz.sizeOf206,Tryz.isAgg206⟩
instance : TyI Tryz.prog 210 (TypeDesc.func #[188] #[4] false) 1 false:=⟨Tryz.underlying210,Tryz.sizeOf210,Tryz.isAgg210⟩
instance : TyI Tryz.prog 215 (TypeDesc.int Go.IntKind.i64) 1 false:=⟨Tryz.underlying215,Tryz.sizeOf215,Tryz.isAgg215⟩
instance : TyI Tryz.prog 224 (TypeDesc.int Go.IntKind.u64) 1 false:=⟨Tryz.underlying224,Tryz.sizeOf224,Tryz.isAgg224⟩
instance : TyI Tryz.prog 234 (TypeDesc.int Go.IntKind.u64) 1 false:=⟨Tryz.underlying234,Tryz.sizeOf234,Tryz.isAgg234⟩
instance : TyZ Tryz.prog 234 [Value.int Go.IntKind.u64 0]:=⟨fun w=>⟨_,Tryz.zeroValue234 w,rfl⟩⟩
instance : TyI Tryz.prog 238 (TypeDesc.pointer 3) 1 false:=⟨Tryz.underlying238,Tryz.sizeOf238,Tryz.isAgg238⟩
instance : FoI Tryz.prog 24 0 0:=foI (T:=24) (m:=0) inferInstance rfl (inferInstance:TyI Tryz.prog 22 _ _ _) rfl rfl
instance : FoI Tryz.prog 26 0 0:=foI (T:=26) (m:=0) inferInstance rfl (inferInstance:TyI Tryz.prog 3 _ _ _) rfl rfl
instance : FoI Tryz.prog 26 1 1:=foI (T:=26) (m:=1) inferInstance rfl (inferInstance:TyI Tryz.prog 3 _ _ _) rfl rfl
instance : FoI Tryz.prog 28 0 0:=foI (T:=28) (m:=0) inferInstance rfl (inferInstance:TyI Tryz.prog 5 _ _ _) rfl rfl
instance : FoI Tryz.prog 28 1 1:=foI (T:=28) (m:=1) inferInstance rfl (inferInstance:TyI Tryz.prog 26 _ _ _) rfl rfl
instance : FoI Tryz.prog 28 2 3:=foI (T:=28) (m:=2) inferInstance rfl (inferInstance:TyI Tryz.prog 26 _ _ _) rfl rfl
instance : FoI Tryz.prog 28 3 5:=foI (T:=28) (m:=3) inferInstance rfl (inferInstance:TyI Tryz.prog 26 _ _ _) rfl rfl
instance : FoI Tryz.prog 28 4 7:=foI (T:=28) (m:=4) inferInstance rfl (inferInstance:TyI Tryz.prog 26 _ _ _) rfl rfl
instance : FoI Tryz.prog 28 5 9:=foI (T:=28) (m:=5) inferInstance rfl (inferInstance:TyI Tryz.prog 26 _ _ _) rfl rfl
instance : FoI Tryz.prog 39 0 0:=foI (T:=39) (m:=0) inferInstance rfl (inferInstance:TyI Tryz.prog 24 _ _ _) rfl rfl
instance : FoI Tryz.prog 39 1 1:=foI (T:=39) (m:=1) inferInstance rfl (inferInstance:TyI Tryz.prog 3 _ _ _) rfl rfl
instance : FoI Tryz.prog 39 2 2:=foI (T:=39) (m:=2) inferInstance rfl (inferInstance:TyI Tryz.prog 36 _ _ _) rfl rfl
instance : FoI Tryz.prog 39 3 3:=foI (T:=39) (m:=3) inferInstance rfl (inferInstance:TyI Tryz.prog 37 _ _ _) rfl rfl
instance : FoI Tryz.prog 39 4 4:=foI (T:=39) (m:=4) inferInstance rfl (inferInstance:TyI Tryz.prog 3 _ _ _) rfl rfl
instance : FoI Tryz.prog 39 5 5:=foI (T:=39) (m:=5) inferInstance rfl (inferInstance:TyI Tryz.prog 3 _ _ _) rfl rfl
instance : FoI Tryz.prog 39 6 6:=foI (T:=39) (m:=6) inferInstance rfl (inferInstance:TyI Tryz.prog 3 _ _ _) rfl rfl
instance : FoI Tryz.prog 48 0 0:=foI (T:=48) (m:=0) inferInstance rfl (inferInstance:TyI Tryz.prog 46 _ _ _) rfl rfl
instance : FoI Tryz.prog 51 0 0:=foI (T:=51) (m:=0) inferInstance rfl (inferInstance:TyI Tryz.prog 49 _ _ _) rfl rfl
instance : FoI Tryz.prog 51 1 1:=foI (T:=51) (m:=1) inferInstance rfl (inferInstance:TyI Tryz.prog 3 _ _ _) rfl rfl
instance : FoI Tryz.prog 51 2 2:=foI (T:=51) (m:=2) inferInstance rfl (inferInstance:TyI Tryz.prog 3 _ _ _) rfl rfl
instance : FoI Tryz.prog 51 3 3:=foI (T:=51) (m:=3) inferInstance rfl (inferInstance:TyI Tryz.prog 3 _ _ _) rfl rfl
instance : FoI Tryz.prog 51 4 4:=foI (T:=51) (m:=4) inferInstance rfl (inferInstance:TyI Tryz.prog 32 _ _ _) rfl rfl
instance : FoI Tryz.prog 51 5 5:=foI (T:=51) (m:=5) inferInstance rfl (inferInstance:TyI Tryz.prog 32 _ _ _) rfl rfl
instance : FoI Tryz.prog 51 6 6:=foI (T:=51) (m:=6) inferInstance rfl (inferInstance:TyI Tryz.prog 3 _ _ _) rfl rfl
instance : FoI Tryz.prog 51 7 7:=foI (T:=51) (m:=7) inferInstance rfl (inferInstance:TyI Tryz.prog 4 _ _ _) rfl rfl
instance : FoI Tryz.prog 61 0 0:=foI (T:=61) (m:=0) inferInstance rfl (inferInstance:TyI Tryz.prog 59 _ _ _) rfl rfl
instance : FoI Tryz.prog 61 1 1:=foI (T:=61) (m:=1) inferInstance rfl (inferInstance:TyI Tryz.prog 32 _ _ _) rfl rfl
instance : FoI Tryz.prog 70 0 0:=foI (T:=70) (m:=0) inferInstance rfl (inferInstance:TyI Tryz.prog 3 _ _ _) rfl rfl
instance : FoI Tryz.prog 70 1 1:=foI (T:=70) (m:=1) inferInstance rfl (inferInstance:TyI Tryz.prog 26 _ _ _) rfl rfl
instance : FoI Tryz.prog 70 2 3:=foI (T:=70) (m:=2) inferInstance rfl (inferInstance:TyI Tryz.prog 26 _ _ _) rfl rfl
instance : FoI Tryz.prog 70 3 5:=foI (T:=70) (m:=3) inferInstance rfl (inferInstance:TyI Tryz.prog 26 _ _ _) rfl rfl
instance : FoI Tryz.prog 70 4 7:=foI (T:=70) (m:=4) inferInstance rfl (inferInstance:TyI Tryz.prog 5 _ _ _) rfl rfl
instance : FoI Tryz.prog 70 5 8:=foI (T:=70) (m:=5) inferInstance rfl (inferInstance:TyI Tryz.prog 3 _ _ _) rfl rfl
instance : FoI Tryz.prog 75 0 0:=foI (T:=75) (m:=0) inferInstance rfl (inferInstance:TyI Tryz.prog 3 _ _ _) rfl rfl
instance : FoI Tryz.prog 75 1 1:=foI (T:=75) (m:=1) inferInstance rfl (inferInstance:TyI Tryz.prog 26 _ _ _) rfl rfl
instance : FoI Tryz.prog 78 0 0:=foI (T:=78) (m:=0) inferInstance rfl (inferInstance:TyI Tryz.prog 3 _ _ _) rfl rfl
instance : FoI Tryz.prog 78 1 1:=foI (T:=78) (m:=1) inferInstance rfl (inferInstance:TyI Tryz.prog 76 _ _ _) rfl rfl
instance : FoI Tryz.prog 80 0 0:=foI (T:=80) (m:=0) inferInstance rfl (inferInstance:TyI Tryz.prog 3 _ _ _) rfl rfl
instance : FoI Tryz.prog 80 1 1:=foI (T:=80) (m:=1) inferInstance rfl (inferInstance:TyI Tryz.prog 26 _ _ _) rfl rfl
instance : FoI Tryz.prog 82 0 0:=foI (T:=82) (m:=0) inferInstance rfl (inferInstance:TyI Tryz.prog 80 _ _ _) rfl rfl
instance : FoI Tryz.prog 82 1 3:=foI (T:=82) (m:=1) inferInstance rfl (inferInstance:TyI Tryz.prog 3 _ _ _) rfl rfl
instance : FoI Tryz.prog 89 0 0:=foI (T:=89) (m:=0) inferInstance rfl (inferInstance:TyI Tryz.prog 28 _ _ _) rfl rfl
instance : FoI Tryz.prog 89 1 11:=foI (T:=89) (m:=1) inferInstance rfl (inferInstance:TyI Tryz.prog 24 _ _ _) rfl rfl
instance : FoI Tryz.prog 89 2 12:=foI (T:=89) (m:=2) inferInstance rfl (inferInstance:TyI Tryz.prog 4 _ _ _) rfl rfl
instance : FoI Tryz.prog 96 0 0:=foI (T:=96) (m:=0) inferInstance rfl (inferInstance:TyI Tryz.prog 3 _ _ _) rfl rfl
instance : FoI Tryz.prog 96 1 1:=foI (T:=96) (m:=1) inferInstance rfl (inferInstance:TyI Tryz.prog 3 _ _ _) rfl rfl
instance : FoI Tryz.prog 96 2 2:=foI (T:=96) (m:=2) inferInstance rfl (inferInstance:TyI Tryz.prog 26 _ _ _) rfl rfl
instance : FoI Tryz.prog 96 3 4:=foI (T:=96) (m:=3) inferInstance rfl (inferInstance:TyI Tryz.prog 26 _ _ _) rfl rfl
instance : FoI Tryz.prog 96 4 6:=foI (T:=96) (m:=4) inferInstance rfl (inferInstance:TyI Tryz.prog 94 _ _ _) rfl rfl
instance : FoI Tryz.prog 119 0 0:=foI (T:=119) (m:=0) inferInstance rfl (inferInstance:TyI Tryz.prog 117 _ _ _) rfl rfl
instance : FoI Tryz.prog 119 1 2:=foI (T:=119) (m:=1) inferInstance rfl (inferInstance:TyI Tryz.prog 26 _ _ _) rfl rfl
instance : FoI Tryz.prog 122 0 0:=foI (T:=122) (m:=0) inferInstance rfl (inferInstance:TyI Tryz.prog 3 _ _ _) rfl rfl
instance : FoI Tryz.prog 122 1 1:=foI (T:=122) (m:=1) inferInstance rfl (inferInstance:TyI Tryz.prog 3 _ _ _) rfl rfl
instance : FoI Tryz.prog 126 0 0:=foI (T:=126) (m:=0) inferInstance rfl (inferInstance:TyI Tryz.prog 48 _ _ _) rfl rfl
instance : FoI Tryz.prog 126 1 1:=foI (T:=126) (m:=1) inferInstance rfl (inferInstance:TyI Tryz.prog 124 _ _ _) rfl rfl
instance : FoI Tryz.prog 137 0 0:=foI (T:=137) (m:=0) inferInstance rfl (inferInstance:TyI Tryz.prog 135 _ _ _) rfl rfl
instance : FoI Tryz.prog 158 0 0:=foI (T:=158) (m:=0) inferInstance rfl (inferInstance:TyI Tryz.prog 3 _ _ _) rfl rfl
instance : FoI Tryz.prog 158 1 1:=foI (T:=158) (m:=1) inferInstance rfl (inferInstance:TyI Tryz.prog 26 _ _ _) rfl rfl
instance : FoI Tryz.prog 165 0 0:=foI (T:=165) (m:=0) inferInstance rfl (inferInstance:TyI Tryz.prog 164 _ _ _) rfl rfl
instance : FoI Tryz.prog 179 0 0:=foI (T:=179) (m:=0) inferInstance rfl (inferInstance:TyI Tryz.prog 24 _ _ _) rfl rfl
instance : FoI Tryz.prog 188 0 0:=foI (T:=188) (m:=0) inferInstance rfl (inferInstance:TyI Tryz.prog 3 _ _ _) rfl rfl
instance : FoI Tryz.prog 188 1 1:=foI (T:=188) (m:=1) inferInstance rfl (inferInstance:TyI Tryz.prog 3 _ _ _) rfl rfl
instance : zi Tryz.prog 2:=⟨Tryz.call2⟩
instance : zi Tryz.prog 3:=⟨Tryz.call3⟩
instance : zi Tryz.prog 4:=⟨Tryz.call4⟩
instance : zi Tryz.prog 5:=⟨Tryz.call5⟩
instance : zi Tryz.prog 6:=⟨Tryz.call6⟩
instance : zi Tryz.prog 7:=⟨Tryz.call7⟩
instance : zi Tryz.prog 8:=⟨Tryz.call8⟩
instance : zi Tryz.prog 9:=⟨Tryz.call9⟩
instance : zi Tryz.prog 10:=⟨Tryz.call10⟩
instance : zi Tryz.prog 11:=⟨Tryz.call11⟩
instance : zi Tryz.prog 12:=⟨Tryz.call12⟩
instance : zi Tryz.prog 13:=⟨Tryz.call13⟩
instance : zi Tryz.prog 14:=⟨Tryz.call14⟩
instance : zi Tryz.prog 15:=⟨Tryz.call15⟩
instance : zi Tryz.prog 16:=⟨Tryz.call16⟩
instance : zi Tryz.prog 17:=⟨Tryz.call17⟩
instance : zi Tryz.prog 18:=⟨Tryz.call18⟩
instance : zi Tryz.prog 19:=⟨Tryz.call19⟩
instance : zi Tryz.prog 20:=⟨Tryz.call20⟩
instance : zi Tryz.prog 21:=⟨Tryz.call21⟩
instance : zi Tryz.prog 22:=⟨Tryz.call22⟩
instance : zi Tryz.prog 23:=⟨Tryz.call23⟩
instance : zi Tryz.prog 24:=⟨Tryz.call24⟩
instance : zi Tryz.prog 25:=⟨Tryz.call25⟩
instance : zi Tryz.prog 26:=⟨Tryz.call26⟩
instance : zi Tryz.prog 27:=⟨Tryz.call27⟩
instance : zi Tryz.prog 28:=⟨Tryz.call28⟩
instance : zi Tryz.prog 29:=⟨Tryz.call29⟩
instance : zi Tryz.prog 30:=⟨Tryz.call30⟩
instance : zi Tryz.prog 31:=⟨Tryz.call31⟩
instance : zi Tryz.prog 32:=⟨Tryz.call32⟩
instance : zi Tryz.prog 33:=⟨Tryz.call33⟩
instance : zi Tryz.prog 34:=⟨Tryz.call34⟩
instance : zi Tryz.prog 35:=⟨Tryz.call35⟩
instance : zi Tryz.prog 36:=⟨Tryz.call36⟩
instance : zi Tryz.prog 37:=⟨Tryz.call37⟩
instance : zi Tryz.prog 38:=⟨Tryz.call38⟩
instance : zi Tryz.prog 39:=⟨Tryz.call39⟩
instance : zi Tryz.prog 40:=⟨Tryz.call40⟩
instance : zi Tryz.prog 41:=⟨Tryz.call41⟩
instance : zi Tryz.prog 42:=⟨Tryz.call42⟩
instance : zi Tryz.prog 43:=⟨Tryz.call43⟩
instance : zi Tryz.prog 44:=⟨Tryz.call44⟩
instance : zi Tryz.prog 45:=⟨Tryz.call45⟩
instance : zi Tryz.prog 46:=⟨Tryz.call46⟩
instance : zi Tryz.prog 47:=⟨Tryz.call47⟩
instance : zi Tryz.prog 48:=⟨Tryz.call48⟩
instance : zi Tryz.prog 49:=⟨Tryz.call49⟩
instance : zi Tryz.prog 50:=⟨Tryz.call50⟩
instance : zi Tryz.prog 51:=⟨Tryz.call51⟩
instance : zi Tryz.prog 52:=⟨Tryz.call52⟩
instance : zi Tryz.prog 53:=⟨Tryz.call53⟩
instance : zi Tryz.prog 54:=⟨Tryz.call54⟩
instance : zi Tryz.prog 55:=⟨Tryz.call55⟩
instance : zi Tryz.prog 56:=⟨Tryz.call56⟩
instance : zi Tryz.prog 57:=⟨Tryz.call57⟩
instance : zi Tryz.prog 58:=⟨Tryz.call58⟩
instance : zi Tryz.prog 59:=⟨Tryz.call59⟩
instance : zi Tryz.prog 60:=⟨Tryz.call60⟩
instance : zi Tryz.prog 61:=⟨Tryz.call61⟩
instance : zi Tryz.prog 62:=⟨Tryz.call62⟩
instance : zi Tryz.prog 63:=⟨Tryz.call63⟩
instance : zi Tryz.prog 64:=⟨Tryz.call64⟩
instance : zi Tryz.prog 65:=⟨Tryz.call65⟩
instance : zi Tryz.prog 66:=⟨Tryz.call66⟩
instance : zi Tryz.prog 67:=⟨Tryz.call67⟩
instance : zi Tryz.prog 68:=⟨Tryz.call68⟩
instance : zi Tryz.prog 69:=⟨Tryz.call69⟩
instance : zi Tryz.prog 70:=⟨Tryz.call70⟩
instance : zi Tryz.prog 71:=⟨Tryz.call71⟩
instance : zi Tryz.prog 72:=⟨Tryz.call72⟩
instance : zi Tryz.prog 73:=⟨Tryz.call73⟩
instance : zi Tryz.prog 74:=⟨Tryz.call74⟩
instance : zi Tryz.prog 75:=⟨Tryz.call75⟩
instance : zi Tryz.prog 76:=⟨Tryz.call76⟩
instance : zi Tryz.prog 77:=⟨Tryz.call77⟩
instance : zi Tryz.prog 78:=⟨Tryz.call78⟩
instance : zi Tryz.prog 79:=⟨Tryz.call79⟩
instance : zi Tryz.prog 80:=⟨Tryz.call80⟩
instance : zi Tryz.prog 81:=⟨Tryz.call81⟩
instance : zi Tryz.prog 82:=⟨Tryz.call82⟩
instance : zi Tryz.prog 83:=⟨Tryz.call83⟩
instance : zi Tryz.prog 84:=⟨Tryz.call84⟩
instance : zi Tryz.prog 85:=⟨Tryz.call85⟩
instance : zi Tryz.prog 86:=⟨Tryz.call86⟩
instance : zi Tryz.prog 87:=⟨Tryz.call87⟩
instance : zi Tryz.prog 88:=⟨Tryz.call88⟩
instance : zi Tryz.prog 89:=⟨Tryz.call89⟩
instance : zi Tryz.prog 90:=⟨Tryz.call90⟩
instance : zi Tryz.prog 91:=⟨Tryz.call91⟩
instance : zi Tryz.prog 92:=⟨Tryz.call92⟩
instance : zi Tryz.prog 93:=⟨Tryz.call93⟩
instance : zi Tryz.prog 94:=⟨Tryz.call94⟩
instance : zi Tryz.prog 95:=⟨Tryz.call95⟩
instance : zi Tryz.prog 96:=⟨Tryz.call96⟩
instance : zi Tryz.prog 97:=⟨Tryz.call97⟩
instance : zi Tryz.prog 98:=⟨Tryz.call98⟩
instance : zi Tryz.prog 99:=⟨Tryz.call99⟩
instance : zi Tryz.prog 100:=⟨Tryz.call100⟩
instance : zi Tryz.prog 101:=⟨Tryz.call101⟩
instance : zi Tryz.prog 102:=⟨Tryz.call102⟩
instance : zi Tryz.prog 103:=⟨Tryz.call103⟩
instance : zi Tryz.prog 104:=⟨Tryz.call104⟩
instance : zi Tryz.prog 105:=⟨Tryz.call105⟩
instance : zi Tryz.prog 106:=⟨Tryz.call106⟩
instance : zi Tryz.prog 107:=⟨Tryz.call107⟩
instance : zi Tryz.prog 108:=⟨Tryz.call108⟩
instance : zi Tryz.prog 109:=⟨Tryz.call109⟩
instance : zi Tryz.prog 110:=⟨Tryz.call110⟩
instance : zi Tryz.prog 111:=⟨Tryz.call111⟩
instance : zi Tryz.prog 112:=⟨Tryz.call112⟩
instance : zi Tryz.prog 113:=⟨Tryz.call113⟩
instance : zi Tryz.prog 114:=⟨Tryz.call114⟩
instance : zi Tryz.prog 115:=⟨Tryz.call115⟩
instance : zi Tryz.prog 116:=⟨Tryz.call116⟩
instance : zi Tryz.prog 117:=⟨Tryz.call117⟩
instance : zi Tryz.prog 118:=⟨Tryz.call118⟩
instance : zi Tryz.prog 119:=⟨Tryz.call119⟩
instance : zi Tryz.prog 120:=⟨Tryz.call120⟩
instance : zi Tryz.prog 121:=⟨Tryz.call121⟩
instance : zi Tryz.prog 122:=⟨Tryz.call122⟩
instance : zi Tryz.prog 123:=⟨Tryz.call123⟩
instance : zi Tryz.prog 124:=⟨Tryz.call124⟩
instance : zi Tryz.prog 125:=⟨Tryz.call125⟩
instance : zi Tryz.prog 126:=⟨Tryz.call126⟩
instance : zi Tryz.prog 127:=⟨Tryz.call127⟩
instance : zi Tryz.prog 128:=⟨Tryz.call128⟩
instance : zi Tryz.prog 129:=⟨Tryz.call129⟩
instance : zi Tryz.prog 130:=⟨Tryz.call130⟩
instance : zi Tryz.prog 131:=⟨Tryz.call131⟩
instance : zi Tryz.prog 132:=⟨Tryz.call132⟩
instance : zi Tryz.prog 133:=⟨Tryz.call133⟩
instance : zi Tryz.prog 134:=⟨Tryz.call134⟩
instance : zi Tryz.prog 135:=⟨Tryz.call135⟩
instance : zi Tryz.prog 136:=⟨Tryz.call136⟩
instance : zi Tryz.prog 137:=⟨Tryz.call137⟩
instance : zi Tryz.prog 138:=⟨Tryz.call138⟩
instance : zi Tryz.prog 139:=⟨Tryz.call139⟩
instance : zi Tryz.prog 140:=⟨Tryz.call140⟩
instance : zi Tryz.prog 141:=⟨Tryz.call141⟩
instance : zi Tryz.prog 142:=⟨Tryz.call142⟩
instance : zi Tryz.prog 143:=⟨Tryz.call143⟩
instance : zi Tryz.prog 144:=⟨Tryz.call144⟩
instance : zi Tryz.prog 145:=⟨Tryz.call145⟩
instance : zi Tryz.prog 146:=⟨Tryz.call146⟩
instance : zi Tryz.prog 147:=⟨Tryz.call147⟩
instance : zi Tryz.prog 148:=⟨Tryz.call148⟩
instance : zi Tryz.prog 149:=⟨Tryz.call149⟩
instance : zi Tryz.prog 150:=⟨Tryz.call150⟩
instance : zi Tryz.prog 151:=⟨Tryz.call151⟩
instance : zi Tryz.prog 152:=⟨Tryz.call152⟩
instance : zi Tryz.prog 153:=⟨Tryz.call153⟩
instance : zi Tryz.prog 154:=⟨Tryz.call154⟩
instance : zi Tryz.prog 155:=⟨Tryz.call155⟩
instance : zi Tryz.prog 156:=⟨Tryz.call156⟩
instance : zi Tryz.prog 157:=⟨Tryz.call157⟩
instance : zi Tryz.prog 158:=⟨Tryz.call158⟩
instance : zi Tryz.prog 159:=⟨Tryz.call159⟩
instance : zi Tryz.prog 160:=⟨Tryz.call160⟩
instance : zi Tryz.prog 161:=⟨Tryz.call161⟩
instance : zi Tryz.prog 162:=⟨Tryz.call162⟩
instance : zi Tryz.prog 163:=⟨Tryz.call163⟩
instance : zi Tryz.prog 164:=⟨Tryz.call164⟩
instance : zi Tryz.prog 165:=⟨Tryz.call165⟩
instance : zi Tryz.prog 166:=⟨Tryz.call166⟩
instance : zi Tryz.prog 167:=⟨Tryz.call167⟩
instance : zi Tryz.prog 168:=⟨Tryz.call168⟩
instance : zi Tryz.prog 169:=⟨Tryz.call169⟩
instance : zi Tryz.prog 170:=⟨Tryz.call170⟩
instance : zi Tryz.prog 171:=⟨Tryz.call171⟩
instance : zi Tryz.prog 172:=⟨Tryz.call172⟩
instance : zi Tryz.prog 173:=⟨Tryz.call173⟩
instance : zi Tryz.prog 174:=⟨Tryz.call174⟩
end Go.Proofs.YtcpdjamlhhfbhaaGreat
namespace Go.Proofs.YtcpdjamlhhfbhaaGreat
open Go.RowKit
theorem guardSp : Tryz.prog.eqGuardType Tryz.prog.depth 26=false:=by kernel_rfl
theorem guardSt : Tryz.prog.eqGuardType Tryz.prog.depth 70=false:=by kernel_rfl
theorem heldSp : Tryz.prog.stoodInHeld 26=false:=by kernel_rfl
theorem heldSt : Tryz.prog.stoodInHeld 70=false:=by kernel_rfl
theorem eqSp_mk (a b c d:Int):zCo ⟨a,b⟩ ⟨c,d⟩=(a == c && b == d):=by
 unfold zCo;rw [Bool.eq_iff_iff];simp
theorem eqSt_mk (i j:Int) (a b c d e f:Sp) (m n p q:Int):eqSt ⟨i,a,b,c,m,p⟩ ⟨j,d,e,f,n,q⟩=(i == j && (zCo a d && (zCo b e && (zCo c f && (m == n && p == q))))):=by
 unfold eqSt zCo;rw [Bool.eq_iff_iff];simp
@[go_sem] theorem gd_sp (op:BinOp) (x y:Operand) (xs ys:Array Value) (w:World):(eqGuard op 26 x y (.agg xs) (.agg ys)).run Tryz.prog w = .ok () w:=run_eqGuard_agg _ _ _ _ _ _ _ guardSp
@[go_sem] theorem gd_st (op:BinOp) (x y:Operand) (xs ys:Array Value) (w:World):(eqGuard op 70 x y (.agg xs) (.agg ys)).run Tryz.prog w = .ok () w:=run_eqGuard_agg _ _ _ _ _ _ _ guardSt
theorem zDE (d:Nat) (a b a' b':Int) (w:World):(Op.equalIn (d+2) 26 (.agg #[.int .i64 a,.int .i64 b]) (.agg #[.int .i64 a',.int .i64 b'])).run Tryz.prog w = .ok (zCo ⟨a,b⟩ ⟨a',b'⟩) w:=by
 rw [run_equalIn_agg _ _ _ _ _ (by simp [go_sem]) heldSp,eqSp_mk]
 by_cases h1:a=a'<;>by_cases h2:b=b'<;>simp [go_sem,h1,h2]
@[go_sem ↓] theorem run_eql_sp (a b a' b':Int) (w:World):(binOp .eql 26 (.agg #[.int .i64 a,.int .i64 b]) (.agg #[.int .i64 a',.int .i64 b'])).run Tryz.prog w = .ok (.bool (zCo ⟨a,b⟩ ⟨a',b'⟩)) w:=by
 rw [run_eql_struct,zDE];rfl
@[go_sem ↓] theorem zHj (a b a' b':Int) (w:World):(binOp .neq 26 (.agg #[.int .i64 a,.int .i64 b]) (.agg #[.int .i64 a',.int .i64 b'])).run Tryz.prog w = .ok (.bool (!zCo ⟨a,b⟩ ⟨a',b'⟩)) w:=by
 rw [run_neq_struct,zDE];rfl
theorem zEZ (d:Nat) (s t:St) (w:World):(Op.equalIn (d+3) 70 (vSt s) (vSt t)).run Tryz.prog w = .ok (eqSt s t) w:=by
 obtain ⟨i,⟨a1,a2⟩,⟨b1,b2⟩,⟨c1,c2⟩,m,p⟩:=s
 obtain ⟨j,⟨d1,d2⟩,⟨e1,e2⟩,⟨f1,f2⟩,n,q⟩:=t
 unfold vSt
 rw [run_equalIn_agg _ _ _ _ _ (by simp [go_sem]) heldSt,eqSt_mk]
 simp [go_sem,zDE]
 generalize zCo ⟨a1,a2⟩ ⟨d1,d2⟩=x1
 generalize zCo ⟨b1,b2⟩ ⟨e1,e2⟩=x2
 generalize zCo ⟨c1,c2⟩ ⟨f1,f2⟩=x3
 by_cases h1:i=j<;>by_cases h2:m=n<;>by_cases h3:p=q<;>cases x1<;>cases x2<;>cases x3<;>simp [h1,h2,h3]
@[go_sem ↓] theorem run_eql_st (i j m n p q a1 a2 b1 b2 c1 c2 d1 d2 e1 e2 f1 f2:Int) (w:World):(binOp .eql 70 (.agg #[.int .i64 i,.int .i64 a1,.int .i64 a2,.int .i64 b1,.int .i64 b2,.int .i64 c1,.int .i64 c2,.int .u8 m,.int .i64 p]) (.agg #[.int .i64 j,.int .i64 d1,.int .i64 d2,.int .i64 e1,.int .i64 e2,.int .i64 f1,.int .i64 f2,.int .u8 n,.int .i64 q])).run Tryz.prog w = .ok (.bool (eqSt ⟨i,⟨a1,a2⟩,⟨b1,b2⟩,⟨c1,c2⟩,m,p⟩ ⟨j,⟨d1,d2⟩,⟨e1,e2⟩,⟨f1,f2⟩,n,q⟩)) w:=by
 have:=zEZ 9997 ⟨i,⟨a1,a2⟩,⟨b1,b2⟩,⟨c1,c2⟩,m,p⟩ ⟨j,⟨d1,d2⟩,⟨e1,e2⟩,⟨f1,f2⟩,n,q⟩ w
 unfold vSt at this
 rw [run_eql_struct,this];rfl
@[go_sem ↓] theorem run_neq_st (i j m n p q a1 a2 b1 b2 c1 c2 d1 d2 e1 e2 f1 f2:Int) (w:World):(binOp .neq 70 (.agg #[.int .i64 i,.int .i64 a1,.int .i64 a2,.int .i64 b1,.int .i64 b2,.int .i64 c1,.int .i64 c2,.int .u8 m,.int .i64 p]) (.agg #[.int .i64 j,.int .i64 d1,.int .i64 d2,.int .i64 e1,.int .i64 e2,.int .i64 f1,.int .i64 f2,.int .u8 n,.int .i64 q])).run Tryz.prog w = .ok (.bool (!eqSt ⟨i,⟨a1,a2⟩,⟨b1,b2⟩,⟨c1,c2⟩,m,p⟩ ⟨j,⟨d1,d2⟩,⟨e1,e2⟩,⟨f1,f2⟩,n,q⟩)) w:=by
 have:=zEZ 9997 ⟨i,⟨a1,a2⟩,⟨b1,b2⟩,⟨c1,c2⟩,m,p⟩ ⟨j,⟨d1,d2⟩,⟨e1,e2⟩,⟨f1,f2⟩,n,q⟩ w
 unfold vSt at this
 rw [run_neq_struct,this];rfl
end Go.Proofs.YtcpdjamlhhfbhaaGreat
namespace Go.Proofs.YtcpdjamlhhfbhaaGreat
open Go.RowKit
theorem in_fn (n lo hi:Int) (a b:Addr) (w:World) (ha:w.cell? a=some (.int .i64 lo)) (hb:w.cell? b=some (.int .i64 hi)) :
  zAs 130 #[.int .i64 n,.pointer (some a),.pointer (some b)] w (.bool (!inB lo hi n)):=by
 unfold zAs
 by_cases h:n<lo
 ·go_enter Tryz.func130,Tryz.ntmps130
  go_wp2
  go_ret
  exact ⟨zBA (congrArg Value.bool (by rw [Bool.eq_iff_iff];simp [inB];omega)),Below.refl _ _⟩
 ·go_enter Tryz.func130,Tryz.ntmps130
  go_wp2
  go_ret
  exact ⟨zBA (congrArg Value.bool (by rw [Bool.eq_iff_iff];simp [inB];omega)),Below.refl _ _⟩
def zCB {α:Type} (p:α→Bool) (l:List α):Int:=match l.findIdx? p with|some i=>i|none=>-1
theorem zCn {α:Type} (p:α→Bool) (l:List α):decide (0≤zCB p l)=l.any p:=by
 unfold zCB
 rw [Bool.eq_iff_iff]
 cases h:l.findIdx? p with
 | none=>simp [List.findIdx?_eq_none_iff] at h;simp;exact h
 | some i =>
  simp
  have:=List.findIdx?_eq_some_iff_getElem.1 h
  obtain ⟨hi,hp,_⟩:=this
  exact ⟨l[i],List.getElem_mem hi,hp⟩
set_option maxHeartbeats 1000000 in
theorem zHu (l : List Int) (cap : Nat) (A : Option Addr) (k : FuncId) (c1 c2 : Value) (p : Int → Bool) (w : World)
   (hl:l.length≤1000000) (hk:zAB encI 1 w A l)
   (hb:∀ args w,(callFunc k args).run Tryz.prog w = .ok (.enter k args) w)
   (hp:∀ x W,Below w.heap.size w W→zAs k #[.int .i64 x,c1,c2] W (.bool (p x))) :
    zAs 103 #[.slice A l.length cap,.func (.func k) #[] #[c1,c2]] w (.int .i64 (zCB p l)):=by
  unfold zAs
  have HP:=Lib.hid hp
  clear hp
  have HK:=Lib.hid hk
  clear hk
  go_enter Tryz.func103,Tryz.ntmps103
  go_wp2
  go_loopw [8] (fun v wr=>∃ i:Nat,i≤l.length∧v = .int .i64 i∧Below w.heap.size w wr∧Hid (l.findIdx? p=((l.drop i).findIdx? p).map (· + i))) (fun v _=>l.length - (intOf v).toNat)
  case atStart=>exact ⟨0,Nat.zero_le _,rfl,Below.refl _ _,by unfold Hid;simp⟩
  case round =>
    obtain ⟨i,hi,rfl,hB,hF⟩:=hrel
    by_cases hlt:i<l.length
    · obtain ⟨b,o,rfl,hblt,hc⟩:=(HK.out.below hB).at_ hlt
      have hc':=hc 0 _ rfl
      simp only [Nat.add_zero,Nat.mul_one] at hc'
      clear hc
      go_wp2_with fail
      refine (HP.out _ _ hB).mono ?_
      rintro e w1 ⟨rfl,hb1⟩
      have hB1:Below w.heap.size w w1:=hB.trans (hb1.mono hB.size)
      clear hc'
      by_cases hpp:p l[i]=true
      · rw [hpp]
        go_wp2
        go_ret
        refine ⟨zBA ?_,hB1⟩
        unfold zCB
        rw [hF.out,List.drop_eq_getElem_cons hlt,List.findIdx?_cons,hpp]
        simp
      · have hpp':p l[i]=false:=by simpa using hpp
        rw [hpp']
        go_wp2
        go_roundw
        case rel =>
          refine ⟨i+1,by omega,by go_num,hB1,?_⟩
          unfold Hid
          rw [hF.out,List.drop_eq_getElem_cons hlt,List.findIdx?_cons,hpp']
          simp [Function.comp_def,Nat.add_assoc,Nat.add_comm 1]
        case measure=>simp [intOf];omega
    · go_wp2
      go_ret
      refine ⟨zBA ?_,hB⟩
      unfold zCB
      rw [hF.out,List.drop_eq_nil_of_le (by omega)]
      simp
set_option maxHeartbeats 1000000 in
theorem zFc (l : List Int) (cap : Nat) (A : Option Addr) (k : FuncId) (c1 c2 : Value) (p : Int → Bool) (w : World)
   (hl:l.length≤1000000) (hk:zAB encI 1 w A l)
   (hb:∀ args w,(callFunc k args).run Tryz.prog w = .ok (.enter k args) w)
   (hp:∀ x W,Below w.heap.size w W→zAs k #[.int .i64 x,c1,c2] W (.bool (p x))) :
    zAs 61 #[.slice A l.length cap,.func (.func k) #[] #[c1,c2]] w (.bool (l.any p)):=by
  unfold zAs
  have HI:=Lib.hid (zHu l cap A k c1 c2 p w hl hk hb hp)
  clear hp hb hk
  go_enter Tryz.func61,Tryz.ntmps61
  go_wp2_with fail
  refine HI.out.mono ?_
  rintro e w1 ⟨rfl,hb1⟩
  go_wp2
  go_ret
  exact ⟨zBA (by simp [zCn]),hb1⟩
theorem zIR (lo hi:Int) (l:List Int):(!(l.any fun n=>!inB lo hi n))=l.all (inB lo hi):=by
 induction l with
 | nil=>rfl
 | cons a l ih=>simp [← ih]
set_option maxHeartbeats 1000000 in
theorem in_all (lo hi:Int) (l:List Int) (cap:Nat) (A:Option Addr) (w:World) (hl:l.length≤1000000) (hk:zAB encI 1 w A l) :
  zAs 92 #[.int .i64 lo,.int .i64 hi,.slice A l.length cap] w (.bool (l.all (inB lo hi))):=by
 unfold zAs
 have HK:=Lib.hid hk
 clear hk
 go_enter Tryz.func92,Tryz.ntmps92
 go_wp2_with fail
 refine (zFc l cap A 130 _ _ (fun n=>!inB lo hi n) _ hl ((HK.out.alloc _).alloc _) (enters Tryz.func130 (by kernel_rfl) rfl) ?_).mono ?_
 ·intro x W hW
  refine in_fn x lo hi _ _ W ?_ ?_
  ·rw [hW.cell (by simp<;>omega)];simp
  ·rw [hW.cell (by simp<;>omega)];simp
 ·rintro e w1 ⟨rfl,hb1⟩
  go_wp2
  go_ret
  exact ⟨zBA (by first|rfl|simp [zIR]),((zAK w _).trans ((zAK _ _).mono (by simp))).trans (hb1.mono (by simp<;>omega))⟩
theorem zIc (w:World) (t:TypeId) (x:Int):zAB encI 1 (w.alloc (.cells #[.int .i64 x] t)) (some ⟨w.heap.size,0,none⟩) [x]:=by
 intro i y hy
 rcases i with _|i
 ·simp at hy;subst hy
  refine ⟨_,_,rfl,by simp,fun j v hv=>?_⟩
  rcases j with _|j
  ·simp [encI] at hv;subst hv;simp
  ·simp [encI] at hv
 ·simp at hy
theorem zIb (w:World) (t:TypeId) (x y:Int):zAB encI 1 (w.alloc (.cells #[.int .i64 x,.int .i64 y] t)) (some ⟨w.heap.size,0,none⟩) [x,y]:=by
 intro i z hz
 refine ⟨_,_,rfl,by simp,fun j v hv=>?_⟩
 rcases j with _|j
 ·rcases i with _ | _|i
  ·simp at hz;subst hz;simp [encI] at hv;subst hv;simp
  ·simp at hz;subst hz;simp [encI] at hv;subst hv;simp
  ·simp at hz
 ·simp [encI] at hv
theorem zHv (lo hi x:Int) (c:Nat) (t:TypeId) (b:Nat) (w:World) (hb:b=w.heap.size) :
  zAs 92 #[.int .i64 lo,.int .i64 hi,.slice (some ⟨b,0,none⟩) 1 c] (w.alloc (.cells #[.int .i64 x] t)) (.bool (inB lo hi x)):=by
 subst hb
 exact (in_all lo hi [x] c _ _ (by simp) (zIc w t x)).of (by simp)
theorem in_two (lo hi x y:Int) (c:Nat) (t:TypeId) (b:Nat) (w:World) (hb:b=w.heap.size) :
  zAs 92 #[.int .i64 lo,.int .i64 hi,.slice (some ⟨b,0,none⟩) 2 c] (w.alloc (.cells #[.int .i64 x,.int .i64 y] t)) (.bool (inB lo hi x && inB lo hi y)):=by
 subst hb
 exact (in_all lo hi [x,y] c _ _ (by simp) (zIb w t x y)).of (by simp)
set_option maxHeartbeats 1000000 in
theorem zIj (s:Sp) (lo hi:Int) (w:World):zAs 93 #[vSp s,.int .i64 lo,.int .i64 hi] w (.bool (zAt s lo hi)):=by
 unfold zAs vSp
 cases h1:inB lo hi s.lo && inB lo hi s.hi
 all_goals
  have H1:=Lib.hid h1
  clear h1
  go_enter Tryz.func93,Tryz.ntmps93
  go_wp2_with fail
  refine (in_two lo hi s.lo s.hi _ _ _ _ (by simp)).mono ?_
  rintro e w1 ⟨rfl,hb1⟩
  rw [H1.out]
  obtain ⟨hc,hf⟩:=bcell hb1
  go_wp2
  go_ret
  refine ⟨zBA (congrArg Value.bool ?_),((zAK w _).trans ((zAK _ _).mono (by simp))).trans (hb1.mono (by simp<;>omega))⟩
  unfold zAt
  rw [H1.out]
  simp
theorem zCN (n lo hi:Int) (w:World):zAs 22 #[.int .i64 n,.int .i64 lo,.int .i64 hi] w (.bool (inB lo hi n)):=by
 unfold zAs
 by_cases h:lo≤n
 ·go_enter Tryz.func22,Tryz.ntmps22
  go_wp2
  go_ret
  exact ⟨zBA (congrArg Value.bool (by rw [Bool.eq_iff_iff];simp [inB,h])),Below.refl _ _⟩
 ·go_enter Tryz.func22,Tryz.ntmps22
  go_wp2
  go_ret
  exact ⟨zBA (congrArg Value.bool (by rw [Bool.eq_iff_iff];simp [inB];omega)),Below.refl _ _⟩
set_option maxHeartbeats 1000000 in
theorem zE4 (s:Sp) (lo hi:Int) (w:World):zAs 23 #[vSp s,.int .i64 lo,.int .i64 hi] w (.bool (zAt s lo hi)):=by
 unfold zAs vSp
 cases h1:inB lo s.hi s.lo
 all_goals
  have H1:=Lib.hid h1
  clear h1
  go_enter Tryz.func23,Tryz.ntmps23
  go_wp2_with fail
  refine (zCN s.lo lo s.hi _).mono ?_
  rintro e w1 ⟨rfl,hb1⟩
  rw [H1.out]
  obtain ⟨hc,hf⟩:=bcell hb1
  go_wp2
  go_ret
  refine ⟨zBA (congrArg Value.bool ?_),(zAK w _).trans (hb1.mono (by simp<;>omega))⟩
  have h:=H1.out
  simp only [inB,decide_eq_true_eq,decide_eq_false_iff_not] at h
  rw [Bool.eq_iff_iff];simp [zAt,inB];omega
def vT (A:Option Addr) (n c:Nat):Value:=.agg #[.slice A n c]
theorem zIs (A:Option Addr) (n c:Nat) (w:World):zAs 6 #[vT A n c] w (.bool (decide (20<n))):=by
 unfold zAs vT
 go_enter Tryz.func6,Tryz.ntmps6
 go_wp2
 go_ret
 exact ⟨zBA (congrArg Value.bool (by rw [Bool.eq_iff_iff];simp<;>omega)),zAK w _⟩
end Go.Proofs.YtcpdjamlhhfbhaaGreat
