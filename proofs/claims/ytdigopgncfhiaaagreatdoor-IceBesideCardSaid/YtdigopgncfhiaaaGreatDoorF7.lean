/- F7 -/
import Derived.Test.YtdigopgncfhiaaaGreatDoorF4
import Derived.Test.YtdigopgncfhiaaaGreatDoorF1
set_option linter.unusedSimpArgs false
set_option linter.unusedVariables false
namespace Go.Proofs.YtdigopgncfhiaaaGreatDoor
open Go.RowKit
set_option maxRecDepth 20000
instance : TyI Tryz.prog 0 (TypeDesc.tuple #[]) 1 false:=⟨Tryz.underlying0,Tryz.sizeOf0,Tryz.isAgg0⟩
instance : TyI Tryz.prog 1 (TypeDesc.func #[] #[] false) 1 false:=⟨Tryz.underlying1,Tryz.sizeOf1,Tryz.isAgg1⟩
instance : TyI Tryz.prog 2 (TypeDesc.int Go.IntKind.i64) 1 false:=⟨Tryz.underlying2,Tryz.sizeOf2,Tryz.isAgg2⟩
instance : TyI Tryz.prog 3 (TypeDesc.int Go.IntKind.i64) 1 false:=⟨Tryz.underlying3,Tryz.sizeOf3,Tryz.isAgg3⟩
instance : TyZ Tryz.prog 3 [Value.int Go.IntKind.i64 0]:=⟨fun w=>⟨_,Tryz.zeroValue3 w,rfl⟩⟩
instance : TyI Tryz.prog 4 TypeDesc.bool 1 false:=⟨Tryz.underlying4,Tryz.sizeOf4,Tryz.isAgg4⟩
instance : TyZ Tryz.prog 4 [Value.bool false]:=⟨fun w=>⟨_,Tryz.zeroValue4 w,rfl⟩⟩
instance : TyI Tryz.prog 5 (TypeDesc.int Go.IntKind.u8) 1 false:=⟨Tryz.underlying5,Tryz.sizeOf5,Tryz.isAgg5⟩
instance : TyI Tryz.prog 9 TypeDesc.string 1 false:=⟨Tryz.underlying9,Tryz.sizeOf9,Tryz.isAgg9⟩
instance : TyI Tryz.prog 22 (TypeDesc.slice 86) 1 false:=⟨Tryz.underlying22,Tryz.sizeOf22,Tryz.isAgg22⟩
instance : TyZ Tryz.prog 22 [Value.slice none 0 0]:=⟨fun w=>⟨_,Tryz.zeroValue22 w,rfl⟩⟩
instance : TyI Tryz.prog 24 (TypeDesc.struct #[{ name := "Stretches",type:=22,offset:=0,embedded:=false,tag := "",pkgPath := "",byteOffset:=0 }]) 1 true:=⟨Tryz.underlying24,Tryz.sizeOf24,Tryz.isAgg24⟩
instance : TyZ Tryz.prog 24 [Value.slice none 0 0]:=⟨fun w=>⟨_,Tryz.zeroValue24 w,rfl⟩⟩
instance : TyB Tryz.prog 24 [(0,1)] [Value.slice none 0 0]:=zAw (zv:=Value.agg #[Value.slice none 0 0]) (by kernel_rfl) rfl Tryz.underlying24 (by kernel_rfl)
instance : TyI Tryz.prog 25 (TypeDesc.slice 73) 1 false:=⟨Tryz.underlying25,Tryz.sizeOf25,Tryz.isAgg25⟩
instance : TyZ Tryz.prog 25 [Value.slice none 0 0]:=⟨fun w=>⟨_,Tryz.zeroValue25 w,rfl⟩⟩
instance : TyI Tryz.prog 26 (TypeDesc.slice 67) 1 false:=⟨Tryz.underlying26,Tryz.sizeOf26,Tryz.isAgg26⟩
instance : TyZ Tryz.prog 26 [Value.slice none 0 0]:=⟨fun w=>⟨_,Tryz.zeroValue26 w,rfl⟩⟩
instance : TyI Tryz.prog 28 (TypeDesc.struct #[{ name := "Lo",type:=3,offset:=0,embedded:=false,tag := "",pkgPath := "",byteOffset:=0 },{ name := "Hi",type:=3,offset:=1,embedded:=false,tag := "",pkgPath := "",byteOffset:=8 }]) 2 true:=⟨Tryz.underlying28,Tryz.sizeOf28,Tryz.isAgg28⟩
instance : TyZ Tryz.prog 28 [Value.int Go.IntKind.i64 0,Value.int Go.IntKind.i64 0]:=⟨fun w=>⟨_,Tryz.zeroValue28 w,rfl⟩⟩
instance : TyB Tryz.prog 28 [(0,1),(1,1)] [Value.int Go.IntKind.i64 0,Value.int Go.IntKind.i64 0]:=zAw (zv:=Value.agg #[Value.int Go.IntKind.i64 0,Value.int Go.IntKind.i64 0]) (by kernel_rfl) rfl Tryz.underlying28 (by kernel_rfl)
instance : TyI Tryz.prog 30 (TypeDesc.struct #[{ name := "Track",type:=24,offset:=0,embedded:=false,tag := "",pkgPath := "",byteOffset:=0 },{ name := "Beds",type:=25,offset:=1,embedded:=false,tag := "",pkgPath := "",byteOffset:=24 },{ name := "Hours",type:=26,offset:=2,embedded:=false,tag := "",pkgPath := "",byteOffset:=48 },{ name := "Wear",type:=28,offset:=3,embedded:=false,tag := "",pkgPath := "",byteOffset:=72 },{ name := "Layer",type:=28,offset:=5,embedded:=false,tag := "",pkgPath := "",byteOffset:=88 },{ name := "Rate",type:=3,offset:=7,embedded:=false,tag := "",pkgPath := "",byteOffset:=104 },{ name := "Limit",type:=3,offset:=8,embedded:=false,tag := "",pkgPath := "",byteOffset:=112 },{ name := "Base",type:=3,offset:=9,embedded:=false,tag := "",pkgPath := "",byteOffset:=120 }]) 10 true:=⟨Tryz.underlying30,Tryz.sizeOf30,Tryz.isAgg30⟩
instance : TyZ Tryz.prog 30 [Value.slice none 0 0,Value.slice none 0 0,Value.slice none 0 0,Value.int Go.IntKind.i64 0,Value.int Go.IntKind.i64 0,Value.int Go.IntKind.i64 0,Value.int Go.IntKind.i64 0,Value.int Go.IntKind.i64 0,Value.int Go.IntKind.i64 0,Value.int Go.IntKind.i64 0]:=⟨fun w=>⟨_,Tryz.zeroValue30 w,rfl⟩⟩
instance : TyB Tryz.prog 30 [(0,1),(1,1),(2,1),(3,2),(5,2),(7,1),(8,1),(9,1)] [Value.slice none 0 0,Value.slice none 0 0,Value.slice none 0 0,Value.int Go.IntKind.i64 0,Value.int Go.IntKind.i64 0,Value.int Go.IntKind.i64 0,Value.int Go.IntKind.i64 0,Value.int Go.IntKind.i64 0,Value.int Go.IntKind.i64 0,Value.int Go.IntKind.i64 0]:=zAw (zv:=Value.agg #[Value.slice none 0 0,Value.slice none 0 0,Value.slice none 0 0,Value.int Go.IntKind.i64 0,Value.int Go.IntKind.i64 0,Value.int Go.IntKind.i64 0,Value.int Go.IntKind.i64 0,Value.int Go.IntKind.i64 0,Value.int Go.IntKind.i64 0,Value.int Go.IntKind.i64 0]) (by kernel_rfl) rfl Tryz.underlying30 (by kernel_rfl)
instance : TyI Tryz.prog 31 (TypeDesc.slice 80) 1 false:=⟨Tryz.underlying31,Tryz.sizeOf31,Tryz.isAgg31⟩
instance : TyI Tryz.prog 34 (TypeDesc.slice 38) 1 false:=⟨Tryz.underlying34,Tryz.sizeOf34,Tryz.isAgg34⟩
instance : TyZ Tryz.prog 34 [Value.slice none 0 0]:=⟨fun w=>⟨_,Tryz.zeroValue34 w,rfl⟩⟩
instance : TyI Tryz.prog 36 (TypeDesc.slice 75) 1 false:=⟨Tryz.underlying36,Tryz.sizeOf36,Tryz.isAgg36⟩
instance : TyZ Tryz.prog 36 [Value.slice none 0 0]:=⟨fun w=>⟨_,Tryz.zeroValue36 w,rfl⟩⟩
instance : TyI Tryz.prog 38 (TypeDesc.slice 3) 1 false:=⟨Tryz.underlying38,Tryz.sizeOf38,Tryz.isAgg38⟩
instance : TyZ Tryz.prog 38 [Value.slice none 0 0]:=⟨fun w=>⟨_,Tryz.zeroValue38 w,rfl⟩⟩
instance : TyI Tryz.prog 40 (TypeDesc.struct #[{ name := "thick",type:=38,offset:=0,embedded:=false,tag := "",pkgPath := "kreisel/kreisellaw02",byteOffset:=0 },{ name := "melt",type:=38,offset:=1,embedded:=false,tag := "",pkgPath := "kreisel/kreisellaw02",byteOffset:=24 },{ name := "wear",type:=3,offset:=2,embedded:=false,tag := "",pkgPath := "kreisel/kreisellaw02",byteOffset:=48 },{ name := "layer",type:=3,offset:=3,embedded:=false,tag := "",pkgPath := "kreisel/kreisellaw02",byteOffset:=56 }]) 4 true:=⟨Tryz.underlying40,Tryz.sizeOf40,Tryz.isAgg40⟩
instance : TyZ Tryz.prog 40 [Value.slice none 0 0,Value.slice none 0 0,Value.int Go.IntKind.i64 0,Value.int Go.IntKind.i64 0]:=⟨fun w=>⟨_,Tryz.zeroValue40 w,rfl⟩⟩
instance : TyB Tryz.prog 40 [(0,1),(1,1),(2,1),(3,1)] [Value.slice none 0 0,Value.slice none 0 0,Value.int Go.IntKind.i64 0,Value.int Go.IntKind.i64 0]:=zAw (zv:=Value.agg #[Value.slice none 0 0,Value.slice none 0 0,Value.int Go.IntKind.i64 0,Value.int Go.IntKind.i64 0]) (by kernel_rfl) rfl Tryz.underlying40 (by kernel_rfl)
instance : TyI Tryz.prog 43 (TypeDesc.int Go.IntKind.i64) 1 false:=⟨Tryz.underlying43,Tryz.sizeOf43,Tryz.isAgg43⟩
instance : TyI Tryz.prog 67 (TypeDesc.struct #[{ name := "Melt",type:=28,offset:=0,embedded:=false,tag := "",pkgPath := "",byteOffset:=0 },{ name := "Runs",type:=3,offset:=2,embedded:=false,tag := "",pkgPath := "",byteOffset:=16 },{ name := "Crew",type:=3,offset:=3,embedded:=false,tag := "",pkgPath := "",byteOffset:=24 },{ name := "Cold",type:=4,offset:=4,embedded:=false,tag := "",pkgPath := "",byteOffset:=32 }]) 5 true:=⟨Tryz.underlying67,Tryz.sizeOf67,Tryz.isAgg67⟩
instance : TyZ Tryz.prog 67 [Value.int Go.IntKind.i64 0,Value.int Go.IntKind.i64 0,Value.int Go.IntKind.i64 0,Value.int Go.IntKind.i64 0,Value.bool false]:=⟨fun w=>⟨_,Tryz.zeroValue67 w,rfl⟩⟩
instance : TyB Tryz.prog 67 [(0,2),(2,1),(3,1),(4,1)] [Value.int Go.IntKind.i64 0,Value.int Go.IntKind.i64 0,Value.int Go.IntKind.i64 0,Value.int Go.IntKind.i64 0,Value.bool false]:=zAw (zv:=Value.agg #[Value.int Go.IntKind.i64 0,Value.int Go.IntKind.i64 0,Value.int Go.IntKind.i64 0,Value.int Go.IntKind.i64 0,Value.bool false]) (by kernel_rfl) rfl Tryz.underlying67 (by kernel_rfl)
instance : TyI Tryz.prog 73 (TypeDesc.struct #[{ name := "Thick",type:=28,offset:=0,embedded:=false,tag := "",pkgPath := "",byteOffset:=0 },{ name := "Sun",type:=3,offset:=2,embedded:=false,tag := "",pkgPath := "",byteOffset:=16 }]) 3 true:=⟨Tryz.underlying73,Tryz.sizeOf73,Tryz.isAgg73⟩
instance : TyZ Tryz.prog 73 [Value.int Go.IntKind.i64 0,Value.int Go.IntKind.i64 0,Value.int Go.IntKind.i64 0]:=⟨fun w=>⟨_,Tryz.zeroValue73 w,rfl⟩⟩
instance : TyB Tryz.prog 73 [(0,2),(2,1)] [Value.int Go.IntKind.i64 0,Value.int Go.IntKind.i64 0,Value.int Go.IntKind.i64 0]:=zAw (zv:=Value.agg #[Value.int Go.IntKind.i64 0,Value.int Go.IntKind.i64 0,Value.int Go.IntKind.i64 0]) (by kernel_rfl) rfl Tryz.underlying73 (by kernel_rfl)
instance : TyI Tryz.prog 75 (TypeDesc.array 2 3) 2 true:=⟨Tryz.underlying75,Tryz.sizeOf75,Tryz.isAgg75⟩
instance : TyZ Tryz.prog 75 [Value.int Go.IntKind.i64 0,Value.int Go.IntKind.i64 0]:=⟨fun w=>⟨_,Tryz.zeroValue75 w,rfl⟩⟩
instance : TyBA Tryz.prog 75 1 [Value.int Go.IntKind.i64 0,Value.int Go.IntKind.i64 0]:=zC6 (zv:=Value.agg #[Value.int Go.IntKind.i64 0,Value.int Go.IntKind.i64 0]) (by kernel_rfl) rfl Tryz.underlying75 (by kernel_rfl)
instance : TyI Tryz.prog 79 (TypeDesc.func #[3] #[4] false) 1 false:=⟨Tryz.underlying79,Tryz.sizeOf79,Tryz.isAgg79⟩
instance : TyI Tryz.prog 80 (TypeDesc.int Go.IntKind.u32) 1 false:=⟨Tryz.underlying80,Tryz.sizeOf80,Tryz.isAgg80⟩
instance : TyI Tryz.prog 86 (TypeDesc.struct #[{ name := "Id",type:=3,offset:=0,embedded:=false,tag := "",pkgPath := "",byteOffset:=0 },{ name := "Long",type:=28,offset:=1,embedded:=false,tag := "",pkgPath := "",byteOffset:=8 },{ name := "Fall",type:=28,offset:=3,embedded:=false,tag := "",pkgPath := "",byteOffset:=24 },{ name := "Radius",type:=28,offset:=5,embedded:=false,tag := "",pkgPath := "",byteOffset:=40 },{ name := "Side",type:=5,offset:=7,embedded:=false,tag := "",pkgPath := "",byteOffset:=56 },{ name := "Wall",type:=3,offset:=8,embedded:=false,tag := "",pkgPath := "",byteOffset:=64 }]) 9 true:=⟨Tryz.underlying86,Tryz.sizeOf86,Tryz.isAgg86⟩
instance : TyZ Tryz.prog 86 [Value.int Go.IntKind.i64 0,Value.int Go.IntKind.i64 0,Value.int Go.IntKind.i64 0,Value.int Go.IntKind.i64 0,Value.int Go.IntKind.i64 0,Value.int Go.IntKind.i64 0,Value.int Go.IntKind.i64 0,Value.int Go.IntKind.u8 0,Value.int Go.IntKind.i64 0]:=⟨fun w=>⟨_,Tryz.zeroValue86 w,rfl⟩⟩
instance : TyB Tryz.prog 86 [(0,1),(1,2),(3,2),(5,2),(7,1),(8,1)] [Value.int Go.IntKind.i64 0,Value.int Go.IntKind.i64 0,Value.int Go.IntKind.i64 0,Value.int Go.IntKind.i64 0,Value.int Go.IntKind.i64 0,Value.int Go.IntKind.i64 0,Value.int Go.IntKind.i64 0,Value.int Go.IntKind.u8 0,Value.int Go.IntKind.i64 0]:=zAw (zv:=Value.agg #[Value.int Go.IntKind.i64 0,Value.int Go.IntKind.i64 0,Value.int Go.IntKind.i64 0,Value.int Go.IntKind.i64 0,Value.int Go.IntKind.i64 0,Value.int Go.IntKind.i64 0,Value.int Go.IntKind.i64 0,Value.int Go.IntKind.u8 0,Value.int Go.IntKind.i64 0]) (by kernel_rfl) rfl Tryz.underlying86 (by kernel_rfl)
instance : TyI Tryz.prog 98 (TypeDesc.slice 189) 1 false:=⟨Tryz.underlying98,Tryz.sizeOf98,Tryz.isAgg98⟩
instance : TyI Tryz.prog 104 (TypeDesc.func #[30] #[3] false) 1 false:=⟨Tryz.underlying104,Tryz.sizeOf104,Tryz.isAgg104⟩
instance : TyI Tryz.prog 105 (TypeDesc.pointer 132) 1 false:=⟨Tryz.underlying105,Tryz.sizeOf105,Tryz.isAgg105⟩
instance : TyZ Tryz.prog 105 [Value.pointer none]:=⟨fun w=>⟨_,Tryz.zeroValue105 w,rfl⟩⟩
instance : TyI Tryz.prog 109 (TypeDesc.func #[28,28] #[3] false) 1 false:=⟨Tryz.underlying109,Tryz.sizeOf109,Tryz.isAgg109⟩
instance : TyI Tryz.prog 110 (TypeDesc.map 75 4) 1 false:=⟨Tryz.underlying110,Tryz.sizeOf110,Tryz.isAgg110⟩
instance : TyI Tryz.prog 117 (TypeDesc.slice 121) 1 false:=⟨Tryz.underlying117,Tryz.sizeOf117,Tryz.isAgg117⟩
instance : TyZ Tryz.prog 117 [Value.slice none 0 0]:=⟨fun w=>⟨_,Tryz.zeroValue117 w,rfl⟩⟩
instance : TyI Tryz.prog 119 (TypeDesc.struct #[{ name := "needs",type:=34,offset:=0,embedded:=false,tag := "",pkgPath := "kreisel/ice",byteOffset:=0 },{ name := "may",type:=117,offset:=1,embedded:=false,tag := "",pkgPath := "kreisel/ice",byteOffset:=24 },{ name := "hands",type:=38,offset:=2,embedded:=false,tag := "",pkgPath := "kreisel/ice",byteOffset:=48 }]) 3 true:=⟨Tryz.underlying119,Tryz.sizeOf119,Tryz.isAgg119⟩
instance : TyZ Tryz.prog 119 [Value.slice none 0 0,Value.slice none 0 0,Value.slice none 0 0]:=⟨fun w=>⟨_,Tryz.zeroValue119 w,rfl⟩⟩
instance : TyB Tryz.prog 119 [(0,1),(1,1),(2,1)] [Value.slice none 0 0,Value.slice none 0 0,Value.slice none 0 0]:=zAw (zv:=Value.agg #[Value.slice none 0 0,Value.slice none 0 0,Value.slice none 0 0]) (by kernel_rfl) rfl Tryz.underlying119 (by kernel_rfl)
instance : TyI Tryz.prog 121 (TypeDesc.slice 4) 1 false:=⟨Tryz.underlying121,Tryz.sizeOf121,Tryz.isAgg121⟩
instance : TyZ Tryz.prog 121 [Value.slice none 0 0]:=⟨fun w=>⟨_,Tryz.zeroValue121 w,rfl⟩⟩
instance : TyI Tryz.prog 126 (TypeDesc.int Go.IntKind.u64) 1 false:=⟨Tryz.underlying126,Tryz.sizeOf126,Tryz.isAgg126⟩
instance : TyI Tryz.prog 129 (TypeDesc.func #[38,38] #[3] false) 1 false:=⟨Tryz.underlying129,Tryz.sizeOf129,Tryz.isAgg129⟩
instance : TyI Tryz.prog 132 (TypeDesc.struct #[{ name := "Cover",type:=30,offset:=0,embedded:=true,tag := "",pkgPath := "",byteOffset:=0 }]) 10 true:=⟨Tryz.underlying132,Tryz.sizeOf132,Tryz.isAgg132⟩
instance : TyZ Tryz.prog 132 [Value.slice none 0 0,Value.slice none 0 0,Value.slice none 0 0,Value.int Go.IntKind.i64 0,Value.int Go.IntKind.i64 0,Value.int Go.IntKind.i64 0,Value.int Go.IntKind.i64 0,Value.int Go.IntKind.i64 0,Value.int Go.IntKind.i64 0,Value.int Go.IntKind.i64 0]:=⟨fun w=>⟨_,Tryz.zeroValue132 w,rfl⟩⟩
instance : TyB Tryz.prog 132 [(0,10)] [Value.slice none 0 0,Value.slice none 0 0,Value.slice none 0 0,Value.int Go.IntKind.i64 0,Value.int Go.IntKind.i64 0,Value.int Go.IntKind.i64 0,Value.int Go.IntKind.i64 0,Value.int Go.IntKind.i64 0,Value.int Go.IntKind.i64 0,Value.int Go.IntKind.i64 0]:=zAw (zv:=Value.agg #[Value.slice none 0 0,Value.slice none 0 0,Value.slice none 0 0,Value.int Go.IntKind.i64 0,Value.int Go.IntKind.i64 0,Value.int Go.IntKind.i64 0,Value.int Go.IntKind.i64 0,Value.int Go.IntKind.i64 0,Value.int Go.IntKind.i64 0,Value.int Go.IntKind.i64 0]) (by kernel_rfl) rfl Tryz.underlying132 (by kernel_rfl)
instance : TyI Tryz.prog 135 (TypeDesc.func #[75] #[4] false) 1 false:=⟨Tryz.underlying135,Tryz.sizeOf135,Tryz.isAgg135⟩
instance : TyI Tryz.prog 139 (TypeDesc.slice 28) 1 false:=⟨Tryz.underlying139,Tryz.sizeOf139,Tryz.isAgg139⟩
instance : TyZ Tryz.prog 139 [Value.slice none 0 0]:=⟨fun w=>⟨_,Tryz.zeroValue139 w,rfl⟩⟩
instance : TyI Tryz.prog 143 (TypeDesc.func #[3,28] #[4] false) 1 false:=⟨Tryz.underlying143,Tryz.sizeOf143,Tryz.isAgg143⟩
instance : TyI Tryz.prog 149 (TypeDesc.struct #[{ name := "Track",type:=24,offset:=0,embedded:=true,tag := "",pkgPath := "",byteOffset:=0 }]) 1 true:=⟨Tryz.underlying149,Tryz.sizeOf149,Tryz.isAgg149⟩
instance : TyZ Tryz.prog 149 [Value.slice none 0 0]:=⟨fun w=>⟨_,Tryz.zeroValue149 w,rfl⟩⟩
instance : TyB Tryz.prog 149 [(0,1)] [Value.slice none 0 0]:=zAw (zv:=Value.agg #[Value.slice none 0 0]) (by kernel_rfl) rfl Tryz.underlying149 (by kernel_rfl)
instance : TyI Tryz.prog 154 (TypeDesc.map 3 189) 1 false:=⟨Tryz.underlying154,Tryz.sizeOf154,Tryz.isAgg154⟩
instance : TyI Tryz.prog 162 (TypeDesc.func #[75,75] #[3] false) 1 false:=⟨Tryz.underlying162,Tryz.sizeOf162,Tryz.isAgg162⟩
instance : TyI Tryz.prog 165 (TypeDesc.map 170 3) 1 false:=⟨Tryz.underlying165,Tryz.sizeOf165,Tryz.isAgg165⟩
instance : TyZ Tryz.prog 165 [Value.map none]:=⟨fun w=>⟨_,Tryz.zeroValue165 w,rfl⟩⟩
instance : TyI Tryz.prog 166 (TypeDesc.map 168 171) 1 false:=⟨Tryz.underlying166,Tryz.sizeOf166,Tryz.isAgg166⟩
instance : TyZ Tryz.prog 166 [Value.map none]:=⟨fun w=>⟨_,Tryz.zeroValue166 w,rfl⟩⟩
instance : TyI Tryz.prog 168 (TypeDesc.struct #[{ name := "kind",type:=3,offset:=0,embedded:=false,tag := "",pkgPath := "kreisel/ice",byteOffset:=0 },{ name := "a",type:=3,offset:=1,embedded:=false,tag := "",pkgPath := "kreisel/ice",byteOffset:=8 },{ name := "b",type:=3,offset:=2,embedded:=false,tag := "",pkgPath := "kreisel/ice",byteOffset:=16 }]) 3 true:=⟨Tryz.underlying168,Tryz.sizeOf168,Tryz.isAgg168⟩
instance : TyZ Tryz.prog 168 [Value.int Go.IntKind.i64 0,Value.int Go.IntKind.i64 0,Value.int Go.IntKind.i64 0]:=⟨fun w=>⟨_,Tryz.zeroValue168 w,rfl⟩⟩
instance : TyB Tryz.prog 168 [(0,1),(1,1),(2,1)] [Value.int Go.IntKind.i64 0,Value.int Go.IntKind.i64 0,Value.int Go.IntKind.i64 0]:=zAw (zv:=Value.agg #[Value.int Go.IntKind.i64 0,Value.int Go.IntKind.i64 0,Value.int Go.IntKind.i64 0]) (by kernel_rfl) rfl Tryz.underlying168 (by kernel_rfl)
instance : TyI Tryz.prog 170 (TypeDesc.array 2 168) 6 true:=⟨Tryz.underlying170,Tryz.sizeOf170,Tryz.isAgg170⟩
instance : TyZ Tryz.prog 170 [Value.int Go.IntKind.i64 0,Value.int Go.IntKind.i64 0,Value.int Go.IntKind.i64 0,Value.int Go.IntKind.i64 0,Value.int Go.IntKind.i64 0,Value.int Go.IntKind.i64 0]:=⟨fun w=>⟨_,Tryz.zeroValue170 w,rfl⟩⟩
instance : TyBA Tryz.prog 170 3 [Value.int Go.IntKind.i64 0,Value.int Go.IntKind.i64 0,Value.int Go.IntKind.i64 0,Value.int Go.IntKind.i64 0,Value.int Go.IntKind.i64 0,Value.int Go.IntKind.i64 0]:=zC6 (zv:=Value.agg #[Value.int Go.IntKind.i64 0,Value.int Go.IntKind.i64 0,Value.int Go.IntKind.i64 0,Value.int Go.IntKind.i64 0,Value.int Go.IntKind.i64 0,Value.int Go.IntKind.i64 0]) (by kernel_rfl) rfl Tryz.underlying170 (by kernel_rfl)
instance : TyI Tryz.prog 171 (TypeDesc.slice 168) 1 false:=⟨Tryz.underlying171,Tryz.sizeOf171,Tryz.isAgg171⟩
instance : TyZ Tryz.prog 171 [Value.slice none 0 0]:=⟨fun w=>⟨_,Tryz.zeroValue171 w,rfl⟩⟩
instance : TyI Tryz.prog 174 (TypeDesc.map 168 4) 1 false:=⟨Tryz.underlying174,Tryz.sizeOf174,Tryz.isAgg174⟩
instance : TyZ Tryz.prog 174 [Value.map none]:=⟨fun w=>⟨_,Tryz.zeroValue174 w,rfl⟩⟩
instance : TyI Tryz.prog 175 (TypeDesc.func #[168] #[4] false) 1 false:=⟨Tryz.underlying175,Tryz.sizeOf175,Tryz.isAgg175⟩
instance : TyZ Tryz.prog 175 [Value.nilFunc]:=⟨fun w=>⟨_,Tryz.zeroValue175 w,rfl⟩⟩
instance : TyI Tryz.prog 179 (TypeDesc.int Go.IntKind.u64) 1 false:=⟨Tryz.underlying179,Tryz.sizeOf179,Tryz.isAgg179⟩
instance : TyI Tryz.prog 186 (TypeDesc.slice 22) 1 false:=⟨Tryz.underlying186,Tryz.sizeOf186,Tryz.isAgg186⟩
instance : TyZ Tryz.prog 186 [Value.slice none 0 0]:=⟨fun w=>⟨_,Tryz.zeroValue186 w,rfl⟩⟩
instance : TyI Tryz.prog 189 (TypeDesc.struct #[{ name := "Kind",type:=5,offset:=0,embedded:=false,tag := "",pkgPath := "",byteOffset:=0 },{ name := "From",type:=3,offset:=1,embedded:=false,tag := "",pkgPath := "",byteOffset:=8 },{ name := "To",type:=3,offset:=2,embedded:=false,tag := "",pkgPath := "",byteOffset:=16 },{ name := "Value",type:=28,offset:=3,embedded:=false,tag := "",pkgPath := "",byteOffset:=24 }]) 5 true:=⟨Tryz.underlying189,Tryz.sizeOf189,Tryz.isAgg189⟩
instance : TyZ Tryz.prog 189 [Value.int Go.IntKind.u8 0,Value.int Go.IntKind.i64 0,Value.int Go.IntKind.i64 0,Value.int Go.IntKind.i64 0,Value.int Go.IntKind.i64 0]:=⟨fun w=>⟨_,Tryz.zeroValue189 w,rfl⟩⟩
instance : TyB Tryz.prog 189 [(0,1),(1,1),(2,1),(3,2)] [Value.int Go.IntKind.u8 0,Value.int Go.IntKind.i64 0,Value.int Go.IntKind.i64 0,Value.int Go.IntKind.i64 0,Value.int Go.IntKind.i64 0]:=zAw (zv:=Value.agg #[Value.int Go.IntKind.u8 0,Value.int Go.IntKind.i64 0,Value.int Go.IntKind.i64 0,Value.int Go.IntKind.i64 0,Value.int Go.IntKind.i64 0]) (by kernel_rfl) rfl Tryz.underlying189 (by kernel_rfl)
instance : TyI Tryz.prog 190 (TypeDesc.func #[3,189] #[4] false) 1 false:=⟨Tryz.underlying190,Tryz.sizeOf190,Tryz.isAgg190⟩
instance : TyI Tryz.prog 194 (TypeDesc.func #[190] #[] false) 1 false:=⟨Tryz.underlying194,Tryz.sizeOf194,Tryz.isAgg194⟩
instance : TyI Tryz.prog 196 (TypeDesc.func #[205] #[204] false) 1 false:=⟨Tryz.underlying196,Tryz.sizeOf196,Tryz.isAgg196⟩
instance : TyI Tryz.prog 198 (TypeDesc.struct #[{ name := "of",type:=196,offset:=0,embedded:=false,tag := "",pkgPath := "kreisel/track",byteOffset:=0 }]) 1 true:=⟨Tryz.underlying198,Tryz.sizeOf198,Tryz.isAgg198⟩
instance : TyZ Tryz.prog 198 [Value.nilFunc]:=⟨fun w=>⟨_,Tryz.zeroValue198 w,rfl⟩⟩
instance : TyB Tryz.prog 198 [(0,1)] [Value.nilFunc]:=zAw (zv:=Value.agg #[Value.nilFunc]) (by kernel_rfl) rfl Tryz.underlying198 (by kernel_rfl)
instance : TyI Tryz.prog 199 (TypeDesc.array 3 198) 3 true:=⟨Tryz.underlying199,Tryz.sizeOf199,Tryz.isAgg199⟩
instance : TyZ Tryz.prog 199 [Value.nilFunc,Value.nilFunc,Value.nilFunc]:=⟨fun w=>⟨_,Tryz.zeroValue199 w,rfl⟩⟩
instance : TyBA Tryz.prog 199 1 [Value.nilFunc,Value.nilFunc,Value.nilFunc]:=zC6 (zv:=Value.agg #[Value.nilFunc,Value.nilFunc,Value.nilFunc]) (by kernel_rfl) rfl Tryz.underlying199 (by kernel_rfl)
instance : TyI Tryz.prog 201 (TypeDesc.array 13 3) 13 true:=⟨Tryz.underlying201,Tryz.sizeOf201,Tryz.isAgg201⟩
instance : TyZ Tryz.prog 201 [Value.int Go.IntKind.i64 0,Value.int Go.IntKind.i64 0,Value.int Go.IntKind.i64 0,Value.int Go.IntKind.i64 0,Value.int Go.IntKind.i64 0,Value.int Go.IntKind.i64 0,Value.int Go.IntKind.i64 0,Value.int Go.IntKind.i64 0,Value.int Go.IntKind.i64 0,Value.int Go.IntKind.i64 0,Value.int Go.IntKind.i64 0,Value.int Go.IntKind.i64 0,Value.int Go.IntKind.i64 0]:=⟨fun w=>⟨_,Tryz.zeroValue201 w,rfl⟩⟩
instance : TyBA Tryz.prog 201 1 [Value.int Go.IntKind.i64 0,Value.int Go.IntKind.i64 0,Value.int Go.IntKind.i64 0,Value.int Go.IntKind.i64 0,Value.int Go.IntKind.i64 0,Value.int Go.IntKind.i64 0,Value.int Go.IntKind.i64 0,Value.int Go.IntKind.i64 0,Value.int Go.IntKind.i64 0,Value.int Go.IntKind.i64 0,Value.int Go.IntKind.i64 0,Value.int Go.IntKind.i64 0,Value.int Go.IntKind.i64 0]:=zC6 (zv:=Value.agg #[Value.int Go.IntKind.i64 0,Value.int Go.IntKind.i64 0,Value.int Go.IntKind.i64 0,Value.int Go.IntKind.i64 0,Value.int Go.IntKind.i64 0,Value.int Go.IntKind.i64 0,Value.int Go.IntKind.i64 0,Value.int Go.IntKind.i64 0,Value.int Go.IntKind.i64 0,Value.int Go.IntKind.i64 0,Value.int Go.IntKind.i64 0,Value.int Go.IntKind.i64 0,Value.int Go.IntKind.i64 0]) (by kernel_rfl) rfl Tryz.underlying201 (by kernel_rfl)
instance : TyI Tryz.prog 203 (TypeDesc.array 13 201) 169 true:=⟨Tryz.underlying203,Tryz.sizeOf203,Tryz.isAgg203⟩
instance : TyZ Tryz.prog 203 (Go.Proofs.Tryz.zeroCells203.toList):=⟨fun w=>⟨_,Tryz.zeroValue203 w,rfl⟩⟩
instance : TyBA Tryz.prog 203 13 (Go.Proofs.Tryz.zeroCells203.toList):=zC6 (zv:=Value.agg Go.Proofs.Tryz.zeroCells203) (by kernel_rfl) rfl Tryz.underlying203 (by kernel_rfl)
instance : TyI Tryz.prog 205 (TypeDesc.pointer 86) 1 false:=⟨Tryz.underlying205,Tryz.sizeOf205,Tryz.isAgg205⟩
instance : TyI Tryz.prog 206 (TypeDesc.func #[67] #[4] false) 1 false:=⟨Tryz.underlying206,Tryz.sizeOf206,Tryz.isAgg206⟩
instance : TyI Tryz.prog 208 (TypeDesc.struct #[{ name := "so",type:=206,offset:=0,embedded:=false,tag := "",pkgPath := "kreisel/ice",byteOffset:=0 },{ name := "asks",type:=104,offset:=1,embedded:=false,tag := "",pkgPath := "kreisel/ice",byteOffset:=8 }]) 2 true:=⟨Tryz.underlying208,Tryz.sizeOf208,Tryz.isAgg208⟩
instance : TyZ Tryz.prog 208 [Value.nilFunc,Value.nilFunc]:=⟨fun w=>⟨_,Tryz.zeroValue208 w,rfl⟩⟩
instance : TyB Tryz.prog 208 [(0,1),(1,1)] [Value.nilFunc,Value.nilFunc]:=zAw (zv:=Value.agg #[Value.nilFunc,Value.nilFunc]) (by kernel_rfl) rfl Tryz.underlying208 (by kernel_rfl)
instance : TyI Tryz.prog 209 (TypeDesc.array 2 208) 4 true:=⟨Tryz.underlying209,Tryz.sizeOf209,Tryz.isAgg209⟩
instance : TyBA Tryz.prog 209 2 [Value.nilFunc,Value.nilFunc,Value.nilFunc,Value.nilFunc]:=zC6 (zv:=Value.agg #[Value.nilFunc,Value.nilFunc,Value.nilFunc,Value.nilFunc]) (by kernel_rfl) rfl Tryz.underlying209 (by kernel_rfl)
instance : TyI Tryz.prog 213 (TypeDesc.func #[73] #[4] false) 1 false:=⟨Tryz.underlying213,Tryz.sizeOf213,Tryz.isAgg213⟩
instance : TyI Tryz.prog 221 (TypeDesc.int Go.IntKind.i64) 1 false:=⟨Tryz.underlying221,Tryz.sizeOf221,Tryz.isAgg221⟩
instance : TyI Tryz.prog 229 (TypeDesc.int Go.IntKind.u64) 1 false:=⟨Tryz.underlying229,Tryz.sizeOf229,Tryz.isAgg229⟩
instance : TyZ Tryz.prog 229 [Value.int Go.IntKind.u64 0]:=⟨fun w=>⟨_,Tryz.zeroValue229 w,rfl⟩⟩
instance : TyI Tryz.prog 233 (TypeDesc.pointer 3) 1 false:=⟨Tryz.underlying233,Tryz.sizeOf233,Tryz.isAgg233⟩
instance : FoI Tryz.prog 24 0 0:=foI (T:=24) (m:=0) inferInstance rfl (inferInstance:TyI Tryz.prog 22 _ _ _) rfl rfl
instance : FoI Tryz.prog 28 0 0:=foI (T:=28) (m:=0) inferInstance rfl (inferInstance:TyI Tryz.prog 3 _ _ _) rfl rfl
instance : FoI Tryz.prog 28 1 1:=foI (T:=28) (m:=1) inferInstance rfl (inferInstance:TyI Tryz.prog 3 _ _ _) rfl rfl
instance : FoI Tryz.prog 30 0 0:=foI (T:=30) (m:=0) inferInstance rfl (inferInstance:TyI Tryz.prog 24 _ _ _) rfl rfl
instance : FoI Tryz.prog 30 1 1:=foI (T:=30) (m:=1) inferInstance rfl (inferInstance:TyI Tryz.prog 25 _ _ _) rfl rfl
instance : FoI Tryz.prog 30 2 2:=foI (T:=30) (m:=2) inferInstance rfl (inferInstance:TyI Tryz.prog 26 _ _ _) rfl rfl
instance : FoI Tryz.prog 30 3 3:=foI (T:=30) (m:=3) inferInstance rfl (inferInstance:TyI Tryz.prog 28 _ _ _) rfl rfl
instance : FoI Tryz.prog 30 4 5:=foI (T:=30) (m:=4) inferInstance rfl (inferInstance:TyI Tryz.prog 28 _ _ _) rfl rfl
instance : FoI Tryz.prog 30 5 7:=foI (T:=30) (m:=5) inferInstance rfl (inferInstance:TyI Tryz.prog 3 _ _ _) rfl rfl
instance : FoI Tryz.prog 30 6 8:=foI (T:=30) (m:=6) inferInstance rfl (inferInstance:TyI Tryz.prog 3 _ _ _) rfl rfl
instance : FoI Tryz.prog 30 7 9:=foI (T:=30) (m:=7) inferInstance rfl (inferInstance:TyI Tryz.prog 3 _ _ _) rfl rfl
instance : FoI Tryz.prog 40 0 0:=foI (T:=40) (m:=0) inferInstance rfl (inferInstance:TyI Tryz.prog 38 _ _ _) rfl rfl
instance : FoI Tryz.prog 40 1 1:=foI (T:=40) (m:=1) inferInstance rfl (inferInstance:TyI Tryz.prog 38 _ _ _) rfl rfl
instance : FoI Tryz.prog 40 2 2:=foI (T:=40) (m:=2) inferInstance rfl (inferInstance:TyI Tryz.prog 3 _ _ _) rfl rfl
instance : FoI Tryz.prog 40 3 3:=foI (T:=40) (m:=3) inferInstance rfl (inferInstance:TyI Tryz.prog 3 _ _ _) rfl rfl
instance : FoI Tryz.prog 67 0 0:=foI (T:=67) (m:=0) inferInstance rfl (inferInstance:TyI Tryz.prog 28 _ _ _) rfl rfl
instance : FoI Tryz.prog 67 1 2:=foI (T:=67) (m:=1) inferInstance rfl (inferInstance:TyI Tryz.prog 3 _ _ _) rfl rfl
instance : FoI Tryz.prog 67 2 3:=foI (T:=67) (m:=2) inferInstance rfl (inferInstance:TyI Tryz.prog 3 _ _ _) rfl rfl
instance : FoI Tryz.prog 67 3 4:=foI (T:=67) (m:=3) inferInstance rfl (inferInstance:TyI Tryz.prog 4 _ _ _) rfl rfl
instance : FoI Tryz.prog 73 0 0:=foI (T:=73) (m:=0) inferInstance rfl (inferInstance:TyI Tryz.prog 28 _ _ _) rfl rfl
instance : FoI Tryz.prog 73 1 2:=foI (T:=73) (m:=1) inferInstance rfl (inferInstance:TyI Tryz.prog 3 _ _ _) rfl rfl
instance : FoI Tryz.prog 86 0 0:=foI (T:=86) (m:=0) inferInstance rfl (inferInstance:TyI Tryz.prog 3 _ _ _) rfl rfl
instance : FoI Tryz.prog 86 1 1:=foI (T:=86) (m:=1) inferInstance rfl (inferInstance:TyI Tryz.prog 28 _ _ _) rfl rfl
instance : FoI Tryz.prog 86 2 3:=foI (T:=86) (m:=2) inferInstance rfl (inferInstance:TyI Tryz.prog 28 _ _ _) rfl rfl
instance : FoI Tryz.prog 86 3 5:=foI (T:=86) (m:=3) inferInstance rfl (inferInstance:TyI Tryz.prog 28 _ _ _) rfl rfl
instance : FoI Tryz.prog 86 4 7:=foI (T:=86) (m:=4) inferInstance rfl (inferInstance:TyI Tryz.prog 5 _ _ _) rfl rfl
instance : FoI Tryz.prog 86 5 8:=foI (T:=86) (m:=5) inferInstance rfl (inferInstance:TyI Tryz.prog 3 _ _ _) rfl rfl
instance : FoI Tryz.prog 119 0 0:=foI (T:=119) (m:=0) inferInstance rfl (inferInstance:TyI Tryz.prog 34 _ _ _) rfl rfl
instance : FoI Tryz.prog 119 1 1:=foI (T:=119) (m:=1) inferInstance rfl (inferInstance:TyI Tryz.prog 117 _ _ _) rfl rfl
instance : FoI Tryz.prog 119 2 2:=foI (T:=119) (m:=2) inferInstance rfl (inferInstance:TyI Tryz.prog 38 _ _ _) rfl rfl
instance : FoI Tryz.prog 132 0 0:=foI (T:=132) (m:=0) inferInstance rfl (inferInstance:TyI Tryz.prog 30 _ _ _) rfl rfl
instance : FoI Tryz.prog 149 0 0:=foI (T:=149) (m:=0) inferInstance rfl (inferInstance:TyI Tryz.prog 24 _ _ _) rfl rfl
instance : FoI Tryz.prog 168 0 0:=foI (T:=168) (m:=0) inferInstance rfl (inferInstance:TyI Tryz.prog 3 _ _ _) rfl rfl
instance : FoI Tryz.prog 168 1 1:=foI (T:=168) (m:=1) inferInstance rfl (inferInstance:TyI Tryz.prog 3 _ _ _) rfl rfl
instance : FoI Tryz.prog 168 2 2:=foI (T:=168) (m:=2) inferInstance rfl (inferInstance:TyI Tryz.prog 3 _ _ _) rfl rfl
instance : FoI Tryz.prog 189 0 0:=foI (T:=189) (m:=0) inferInstance rfl (inferInstance:TyI Tryz.prog 5 _ _ _) rfl rfl
instance : FoI Tryz.prog 189 1 1:=foI (T:=189) (m:=1) inferInstance rfl (inferInstance:TyI Tryz.prog 3 _ _ _) rfl rfl
instance : FoI Tryz.prog 189 2 2:=foI (T:=189) (m:=2) inferInstance rfl (inferInstance:TyI Tryz.prog 3 _ _ _) rfl rfl
instance : FoI Tryz.prog 189 3 3:=foI (T:=189) (m:=3) inferInstance rfl (inferInstance:TyI Tryz.prog 28 _ _ _) rfl rfl
instance : FoI Tryz.prog 198 0 0:=foI (T:=198) (m:=0) inferInstance rfl (inferInstance:TyI Tryz.prog 196 _ _ _) rfl rfl
instance : FoI Tryz.prog 208 0 0:=foI (T:=208) (m:=0) inferInstance rfl (inferInstance:TyI Tryz.prog 206 _ _ _) rfl rfl
instance : FoI Tryz.prog 208 1 1:=foI (T:=208) (m:=1) inferInstance rfl (inferInstance:TyI Tryz.prog 104 _ _ _) rfl rfl
instance : zU Tryz.prog 2:=⟨Tryz.call2⟩
instance : zU Tryz.prog 3:=⟨Tryz.call3⟩
instance : zU Tryz.prog 4:=⟨Tryz.call4⟩
instance : zU Tryz.prog 5:=⟨Tryz.call5⟩
instance : zU Tryz.prog 6:=⟨Tryz.call6⟩
instance : zU Tryz.prog 7:=⟨Tryz.call7⟩
instance : zU Tryz.prog 8:=⟨Tryz.call8⟩
instance : zU Tryz.prog 9:=⟨Tryz.call9⟩
instance : zU Tryz.prog 10:=⟨Tryz.call10⟩
instance : zU Tryz.prog 11:=⟨Tryz.call11⟩
instance : zU Tryz.prog 12:=⟨Tryz.call12⟩
instance : zU Tryz.prog 13:=⟨Tryz.call13⟩
instance : zU Tryz.prog 14:=⟨Tryz.call14⟩
instance : zU Tryz.prog 15:=⟨Tryz.call15⟩
instance : zU Tryz.prog 16:=⟨Tryz.call16⟩
instance : zU Tryz.prog 17:=⟨Tryz.call17⟩
instance : zU Tryz.prog 18:=⟨Tryz.call18⟩
instance : zU Tryz.prog 19:=⟨Tryz.call19⟩
instance : zU Tryz.prog 20:=⟨Tryz.call20⟩
instance : zU Tryz.prog 21:=⟨Tryz.call21⟩
instance : zU Tryz.prog 22:=⟨Tryz.call22⟩
instance : zU Tryz.prog 23:=⟨Tryz.call23⟩
instance : zU Tryz.prog 24:=⟨Tryz.call24⟩
instance : zU Tryz.prog 25:=⟨Tryz.call25⟩
instance : zU Tryz.prog 26:=⟨Tryz.call26⟩
instance : zU Tryz.prog 27:=⟨Tryz.call27⟩
instance : zU Tryz.prog 28:=⟨Tryz.call28⟩
instance : zU Tryz.prog 29:=⟨Tryz.call29⟩
instance : zU Tryz.prog 30:=⟨Tryz.call30⟩
instance : zU Tryz.prog 31:=⟨Tryz.call31⟩
instance : zU Tryz.prog 32:=⟨Tryz.call32⟩
instance : zU Tryz.prog 33:=⟨Tryz.call33⟩
instance : zU Tryz.prog 34:=⟨Tryz.call34⟩
instance : zU Tryz.prog 35:=⟨Tryz.call35⟩
instance : zU Tryz.prog 36:=⟨Tryz.call36⟩
instance : zU Tryz.prog 37:=⟨Tryz.call37⟩
instance : zU Tryz.prog 38:=⟨Tryz.call38⟩
instance : zU Tryz.prog 39:=⟨Tryz.call39⟩
instance : zU Tryz.prog 40:=⟨Tryz.call40⟩
instance : zU Tryz.prog 41:=⟨Tryz.call41⟩
instance : zU Tryz.prog 42:=⟨Tryz.call42⟩
instance : zU Tryz.prog 43:=⟨Tryz.call43⟩
instance : zU Tryz.prog 44:=⟨Tryz.call44⟩
instance : zU Tryz.prog 45:=⟨Tryz.call45⟩
instance : zU Tryz.prog 46:=⟨Tryz.call46⟩
instance : zU Tryz.prog 47:=⟨Tryz.call47⟩
instance : zU Tryz.prog 48:=⟨Tryz.call48⟩
instance : zU Tryz.prog 49:=⟨Tryz.call49⟩
instance : zU Tryz.prog 50:=⟨Tryz.call50⟩
instance : zU Tryz.prog 51:=⟨Tryz.call51⟩
instance : zU Tryz.prog 52:=⟨Tryz.call52⟩
instance : zU Tryz.prog 53:=⟨Tryz.call53⟩
instance : zU Tryz.prog 54:=⟨Tryz.call54⟩
instance : zU Tryz.prog 55:=⟨Tryz.call55⟩
instance : zU Tryz.prog 56:=⟨Tryz.call56⟩
instance : zU Tryz.prog 57:=⟨Tryz.call57⟩
instance : zU Tryz.prog 58:=⟨Tryz.call58⟩
instance : zU Tryz.prog 59:=⟨Tryz.call59⟩
instance : zU Tryz.prog 60:=⟨Tryz.call60⟩
instance : zU Tryz.prog 61:=⟨Tryz.call61⟩
instance : zU Tryz.prog 62:=⟨Tryz.call62⟩
instance : zU Tryz.prog 63:=⟨Tryz.call63⟩
instance : zU Tryz.prog 64:=⟨Tryz.call64⟩
instance : zU Tryz.prog 65:=⟨Tryz.call65⟩
instance : zU Tryz.prog 66:=⟨Tryz.call66⟩
instance : zU Tryz.prog 67:=⟨Tryz.call67⟩
instance : zU Tryz.prog 68:=⟨Tryz.call68⟩
instance : zU Tryz.prog 69:=⟨Tryz.call69⟩
instance : zU Tryz.prog 70:=⟨Tryz.call70⟩
instance : zU Tryz.prog 71:=⟨Tryz.call71⟩
instance : zU Tryz.prog 72:=⟨Tryz.call72⟩
instance : zU Tryz.prog 73:=⟨Tryz.call73⟩
instance : zU Tryz.prog 74:=⟨Tryz.call74⟩
instance : zU Tryz.prog 75:=⟨Tryz.call75⟩
instance : zU Tryz.prog 76:=⟨Tryz.call76⟩
instance : zU Tryz.prog 77:=⟨Tryz.call77⟩
instance : zU Tryz.prog 78:=⟨Tryz.call78⟩
instance : zU Tryz.prog 79:=⟨Tryz.call79⟩
instance : zU Tryz.prog 80:=⟨Tryz.call80⟩
instance : zU Tryz.prog 81:=⟨Tryz.call81⟩
instance : zU Tryz.prog 82:=⟨Tryz.call82⟩
instance : zU Tryz.prog 83:=⟨Tryz.call83⟩
instance : zU Tryz.prog 84:=⟨Tryz.call84⟩
instance : zU Tryz.prog 85:=⟨Tryz.call85⟩
instance : zU Tryz.prog 86:=⟨Tryz.call86⟩
instance : zU Tryz.prog 87:=⟨Tryz.call87⟩
instance : zU Tryz.prog 88:=⟨Tryz.call88⟩
instance : zU Tryz.prog 89:=⟨Tryz.call89⟩
instance : zU Tryz.prog 90:=⟨Tryz.call90⟩
instance : zU Tryz.prog 91:=⟨Tryz.call91⟩
instance : zU Tryz.prog 92:=⟨Tryz.call92⟩
instance : zU Tryz.prog 93:=⟨Tryz.call93⟩
instance : zU Tryz.prog 94:=⟨Tryz.call94⟩
instance : zU Tryz.prog 95:=⟨Tryz.call95⟩
instance : zU Tryz.prog 96:=⟨Tryz.call96⟩
instance : zU Tryz.prog 97:=⟨Tryz.call97⟩
instance : zU Tryz.prog 98:=⟨Tryz.call98⟩
instance : zU Tryz.prog 99:=⟨Tryz.call99⟩
instance : zU Tryz.prog 100:=⟨Tryz.call100⟩
instance : zU Tryz.prog 101:=⟨Tryz.call101⟩
instance : zU Tryz.prog 102:=⟨Tryz.call102⟩
instance : zU Tryz.prog 103:=⟨Tryz.call103⟩
instance : zU Tryz.prog 104:=⟨Tryz.call104⟩
instance : zU Tryz.prog 105:=⟨Tryz.call105⟩
instance : zU Tryz.prog 106:=⟨Tryz.call106⟩
instance : zU Tryz.prog 107:=⟨Tryz.call107⟩
instance : zU Tryz.prog 108:=⟨Tryz.call108⟩
instance : zU Tryz.prog 109:=⟨Tryz.call109⟩
instance : zU Tryz.prog 110:=⟨Tryz.call110⟩
instance : zU Tryz.prog 111:=⟨Tryz.call111⟩
instance : zU Tryz.prog 112:=⟨Tryz.call112⟩
instance : zU Tryz.prog 113:=⟨Tryz.call113⟩
instance : zU Tryz.prog 114:=⟨Tryz.call114⟩
instance : zU Tryz.prog 115:=⟨Tryz.call115⟩
instance : zU Tryz.prog 116:=⟨Tryz.call116⟩
instance : zU Tryz.prog 117:=⟨Tryz.call117⟩
instance : zU Tryz.prog 118:=⟨Tryz.call118⟩
instance : zU Tryz.prog 119:=⟨Tryz.call119⟩
instance : zU Tryz.prog 120:=⟨Tryz.call120⟩
instance : zU Tryz.prog 121:=⟨Tryz.call121⟩
instance : zU Tryz.prog 122:=⟨Tryz.call122⟩
instance : zU Tryz.prog 123:=⟨Tryz.call123⟩
instance : zU Tryz.prog 124:=⟨Tryz.call124⟩
instance : zU Tryz.prog 125:=⟨Tryz.call125⟩
instance : zU Tryz.prog 126:=⟨Tryz.call126⟩
instance : zU Tryz.prog 127:=⟨Tryz.call127⟩
instance : zU Tryz.prog 128:=⟨Tryz.call128⟩
instance : zU Tryz.prog 129:=⟨Tryz.call129⟩
instance : zU Tryz.prog 130:=⟨Tryz.call130⟩
instance : zU Tryz.prog 131:=⟨Tryz.call131⟩
instance : zU Tryz.prog 132:=⟨Tryz.call132⟩
instance : zU Tryz.prog 133:=⟨Tryz.call133⟩
instance : zU Tryz.prog 134:=⟨Tryz.call134⟩
instance : zU Tryz.prog 135:=⟨Tryz.call135⟩
instance : zU Tryz.prog 136:=⟨Tryz.call136⟩
instance : zU Tryz.prog 137:=⟨Tryz.call137⟩
instance : zU Tryz.prog 138:=⟨Tryz.call138⟩
instance : zU Tryz.prog 139:=⟨Tryz.call139⟩
instance : zU Tryz.prog 140:=⟨Tryz.call140⟩
instance : zU Tryz.prog 141:=⟨Tryz.call141⟩
instance : zU Tryz.prog 142:=⟨Tryz.call142⟩
instance : zU Tryz.prog 143:=⟨Tryz.call143⟩
instance : zU Tryz.prog 144:=⟨Tryz.call144⟩
instance : zU Tryz.prog 145:=⟨Tryz.call145⟩
instance : zU Tryz.prog 146:=⟨Tryz.call146⟩
instance : zU Tryz.prog 147:=⟨Tryz.call147⟩
instance : zU Tryz.prog 148:=⟨Tryz.call148⟩
instance : zU Tryz.prog 149:=⟨Tryz.call149⟩
instance : zU Tryz.prog 150:=⟨Tryz.call150⟩
instance : zU Tryz.prog 151:=⟨Tryz.call151⟩
instance : zU Tryz.prog 152:=⟨Tryz.call152⟩
instance : zU Tryz.prog 153:=⟨Tryz.call153⟩
instance : zU Tryz.prog 154:=⟨Tryz.call154⟩
instance : zU Tryz.prog 155:=⟨Tryz.call155⟩
instance : zU Tryz.prog 156:=⟨Tryz.call156⟩
instance : zU Tryz.prog 157:=⟨Tryz.call157⟩
instance : zU Tryz.prog 158:=⟨Tryz.call158⟩
instance : zU Tryz.prog 159:=⟨Tryz.call159⟩
instance : zU Tryz.prog 160:=⟨Tryz.call160⟩
instance : zU Tryz.prog 161:=⟨Tryz.call161⟩
instance : zU Tryz.prog 162:=⟨Tryz.call162⟩
instance : zU Tryz.prog 180:=⟨Tryz.call180⟩
instance : zU Tryz.prog 181:=⟨Tryz.call181⟩
instance : zU Tryz.prog 182:=⟨Tryz.call182⟩
instance : zU Tryz.prog 183:=⟨Tryz.call183⟩
end Go.Proofs.YtdigopgncfhiaaaGreatDoor
namespace Go.Proofs.YtdigopgncfhiaaaGreatDoor
open Go.RowKit
theorem guardSp : Tryz.prog.eqGuardType Tryz.prog.depth 28=false:=by kernel_rfl
theorem guardSt : Tryz.prog.eqGuardType Tryz.prog.depth 86=false:=by kernel_rfl
theorem guardMe : Tryz.prog.eqGuardType Tryz.prog.depth 189=false:=by kernel_rfl
theorem heldSp : Tryz.prog.stoodInHeld 28=false:=by kernel_rfl
theorem heldSt : Tryz.prog.stoodInHeld 86=false:=by kernel_rfl
theorem heldMe : Tryz.prog.stoodInHeld 189=false:=by kernel_rfl
theorem eqSp_mk (a b c d:Int):zD7 ⟨a,b⟩ ⟨c,d⟩=(a == c && b == d):=by
 unfold zD7;rw [Bool.eq_iff_iff];simp
theorem eqSt_mk (i j:Int) (a b c d e f:Sp) (m n p q:Int):eqSt ⟨i,a,b,c,m,p⟩ ⟨j,d,e,f,n,q⟩=(i == j && (zD7 a d && (zD7 b e && (zD7 c f && (m == n && p == q))))):=by
 unfold eqSt zD7;rw [Bool.eq_iff_iff];simp
theorem eqMe_mk (k l f g t u:Int) (a b:Sp):eqMe ⟨k,f,t,a⟩ ⟨l,g,u,b⟩=(k == l && (f == g && (t == u && zD7 a b))):=by
 unfold eqMe zD7;rw [Bool.eq_iff_iff];simp
@[go_sem] theorem gd_sp (op:BinOp) (x y:Operand) (xs ys:Array Value) (w:World):(eqGuard op 28 x y (.agg xs) (.agg ys)).run Tryz.prog w = .ok () w:=run_eqGuard_agg _ _ _ _ _ _ _ guardSp
@[go_sem] theorem gd_st (op:BinOp) (x y:Operand) (xs ys:Array Value) (w:World):(eqGuard op 86 x y (.agg xs) (.agg ys)).run Tryz.prog w = .ok () w:=run_eqGuard_agg _ _ _ _ _ _ _ guardSt
@[go_sem] theorem gd_me (op:BinOp) (x y:Operand) (xs ys:Array Value) (w:World):(eqGuard op 189 x y (.agg xs) (.agg ys)).run Tryz.prog w = .ok () w:=run_eqGuard_agg _ _ _ _ _ _ _ guardMe
theorem zDU (d:Nat) (a b a' b':Int) (w:World):(Op.equalIn (d+2) 28 (.agg #[.int .i64 a,.int .i64 b]) (.agg #[.int .i64 a',.int .i64 b'])).run Tryz.prog w = .ok (zD7 ⟨a,b⟩ ⟨a',b'⟩) w:=by
 rw [run_equalIn_agg _ _ _ _ _ (by simp [go_sem]) heldSp,eqSp_mk]
 by_cases h1:a=a'<;>by_cases h2:b=b'<;>simp [go_sem,h1,h2]
@[go_sem ↓] theorem zLn (a b a' b':Int) (w:World):(binOp .eql 28 (.agg #[.int .i64 a,.int .i64 b]) (.agg #[.int .i64 a',.int .i64 b'])).run Tryz.prog w = .ok (.bool (zD7 ⟨a,b⟩ ⟨a',b'⟩)) w:=by
 rw [run_eql_struct,zDU];rfl
@[go_sem ↓] theorem zLm (a b a' b':Int) (w:World):(binOp .neq 28 (.agg #[.int .i64 a,.int .i64 b]) (.agg #[.int .i64 a',.int .i64 b'])).run Tryz.prog w = .ok (.bool (!zD7 ⟨a,b⟩ ⟨a',b'⟩)) w:=by
 rw [run_neq_struct,zDU];rfl
theorem zG3 (d:Nat) (s t:St) (w:World):(Op.equalIn (d+3) 86 (vSt s) (vSt t)).run Tryz.prog w = .ok (eqSt s t) w:=by
 obtain ⟨i,⟨a1,a2⟩,⟨b1,b2⟩,⟨c1,c2⟩,m,p⟩:=s
 obtain ⟨j,⟨d1,d2⟩,⟨e1,e2⟩,⟨f1,f2⟩,n,q⟩:=t
 unfold vSt
 rw [run_equalIn_agg _ _ _ _ _ (by simp [go_sem]) heldSt,eqSt_mk]
 simp [go_sem,zDU]
 generalize zD7 ⟨a1,a2⟩ ⟨d1,d2⟩=x1
 generalize zD7 ⟨b1,b2⟩ ⟨e1,e2⟩=x2
 generalize zD7 ⟨c1,c2⟩ ⟨f1,f2⟩=x3
 by_cases h1:i=j<;>by_cases h2:m=n<;>by_cases h3:p=q<;>cases x1<;>cases x2<;>cases x3<;>simp [h1,h2,h3]
theorem zG5 (d:Nat) (s t:Me) (w:World):(Op.equalIn (d+3) 189 (vMe s) (vMe t)).run Tryz.prog w = .ok (eqMe s t) w:=by
 obtain ⟨i,a,b,c1,c2⟩:=s
 obtain ⟨j,d,e,f1,f2⟩:=t
 unfold vMe
 rw [run_equalIn_agg _ _ _ _ _ (by simp [go_sem]) heldMe,eqMe_mk]
 simp [go_sem,zDU]
 generalize zD7 ⟨c1,c2⟩ ⟨f1,f2⟩=x3
 by_cases h1:i=j<;>by_cases h2:a=d<;>by_cases h3:b=e<;>cases x3<;>simp [h1,h2,h3]
@[go_sem ↓] theorem run_eql_st (i j m n p q a1 a2 b1 b2 c1 c2 d1 d2 e1 e2 f1 f2:Int) (w:World):(binOp .eql 86 (.agg #[.int .i64 i,.int .i64 a1,.int .i64 a2,.int .i64 b1,.int .i64 b2,.int .i64 c1,.int .i64 c2,.int .u8 m,.int .i64 p]) (.agg #[.int .i64 j,.int .i64 d1,.int .i64 d2,.int .i64 e1,.int .i64 e2,.int .i64 f1,.int .i64 f2,.int .u8 n,.int .i64 q])).run Tryz.prog w = .ok (.bool (eqSt ⟨i,⟨a1,a2⟩,⟨b1,b2⟩,⟨c1,c2⟩,m,p⟩ ⟨j,⟨d1,d2⟩,⟨e1,e2⟩,⟨f1,f2⟩,n,q⟩)) w:=by
 have:=zG3 9997 ⟨i,⟨a1,a2⟩,⟨b1,b2⟩,⟨c1,c2⟩,m,p⟩ ⟨j,⟨d1,d2⟩,⟨e1,e2⟩,⟨f1,f2⟩,n,q⟩ w
 unfold vSt at this
 rw [run_eql_struct,this];rfl
@[go_sem ↓] theorem run_neq_st (i j m n p q a1 a2 b1 b2 c1 c2 d1 d2 e1 e2 f1 f2:Int) (w:World):(binOp .neq 86 (.agg #[.int .i64 i,.int .i64 a1,.int .i64 a2,.int .i64 b1,.int .i64 b2,.int .i64 c1,.int .i64 c2,.int .u8 m,.int .i64 p]) (.agg #[.int .i64 j,.int .i64 d1,.int .i64 d2,.int .i64 e1,.int .i64 e2,.int .i64 f1,.int .i64 f2,.int .u8 n,.int .i64 q])).run Tryz.prog w = .ok (.bool (!eqSt ⟨i,⟨a1,a2⟩,⟨b1,b2⟩,⟨c1,c2⟩,m,p⟩ ⟨j,⟨d1,d2⟩,⟨e1,e2⟩,⟨f1,f2⟩,n,q⟩)) w:=by
 have:=zG3 9997 ⟨i,⟨a1,a2⟩,⟨b1,b2⟩,⟨c1,c2⟩,m,p⟩ ⟨j,⟨d1,d2⟩,⟨e1,e2⟩,⟨f1,f2⟩,n,q⟩ w
 unfold vSt at this
 rw [run_neq_struct,this];rfl
@[go_sem ↓] theorem run_eql_me (k l f g t u a1 a2 d1 d2:Int) (w:World):(binOp .eql 189 (.agg #[.int .u8 k,.int .i64 f,.int .i64 t,.int .i64 a1,.int .i64 a2]) (.agg #[.int .u8 l,.int .i64 g,.int .i64 u,.int .i64 d1,.int .i64 d2])).run Tryz.prog w = .ok (.bool (eqMe ⟨k,f,t,⟨a1,a2⟩⟩ ⟨l,g,u,⟨d1,d2⟩⟩)) w:=by
 have:=zG5 9997 ⟨k,f,t,⟨a1,a2⟩⟩ ⟨l,g,u,⟨d1,d2⟩⟩ w
 unfold vMe at this
 rw [run_eql_struct,this];rfl
@[go_sem ↓] theorem run_neq_me (k l f g t u a1 a2 d1 d2:Int) (w:World):(binOp .neq 189 (.agg #[.int .u8 k,.int .i64 f,.int .i64 t,.int .i64 a1,.int .i64 a2]) (.agg #[.int .u8 l,.int .i64 g,.int .i64 u,.int .i64 d1,.int .i64 d2])).run Tryz.prog w = .ok (.bool (!eqMe ⟨k,f,t,⟨a1,a2⟩⟩ ⟨l,g,u,⟨d1,d2⟩⟩)) w:=by
 have:=zG5 9997 ⟨k,f,t,⟨a1,a2⟩⟩ ⟨l,g,u,⟨d1,d2⟩⟩ w
 unfold vMe at this
 rw [run_neq_struct,this];rfl
theorem zGC {w:World} {g:Nat} {x y:Value} (hk:Blk w g #[x,y]):(loadVar 28 ⟨g,0,none⟩).run Tryz.prog w = .ok (.agg #[x,y]) w:=by
 have h0:=hk.cell 0
 have h1:=hk.cell 1
 simp at h0 h1
 simp [go_sem,h0,h1]
theorem zLs {fn:Func} {t:Tmp} {tmps:Array Value} {w:World} {g:Nat} {x y:Value} (hr:fn.results=#[.cell t 28]) (hp:tmps.getD t undef = .pointer (some ⟨g,0,none⟩)) (hk:Blk w g #[x,y]) :
  (results fn tmps).run Tryz.prog w = .ok (.agg #[x,y]) w:=by
 simp [results,hr,-Array.getD_eq_getD_getElem?,hp,asAddr,zGC hk]
theorem zKg {fn:Func} {t u:Tmp} {tmps:Array Value} {w:World} {g g':Nat} {x y x' y':Value} (hr:fn.results=#[.cell t 28,.cell u 28]) (hp:tmps.getD t undef = .pointer (some ⟨g,0,none⟩)) (hk:Blk w g #[x,y]) (hp':tmps.getD u undef = .pointer (some ⟨g',0,none⟩)) (hk':Blk w g' #[x',y']) :
  (results fn tmps).run Tryz.prog w = .ok (.tuple #[.agg #[x,y],.agg #[x',y']]) w:=by
 simp [results,hr,-Array.getD_eq_getD_getElem?,hp,hp',asAddr,zGC hk,zGC hk']
theorem zDW {fn:Func} {t u s:Tmp} {tmps:Array Value} {w:World} {g g':Nat} {x y x' y':Value} (hr:fn.results=#[.cell t 28,.cell u 28,.tmp s]) (hp:tmps.getD t undef = .pointer (some ⟨g,0,none⟩)) (hk:Blk w g #[x,y]) (hp':tmps.getD u undef = .pointer (some ⟨g',0,none⟩)) (hk':Blk w g' #[x',y']) :
  (results fn tmps).run Tryz.prog w = .ok (.tuple #[.agg #[x,y],.agg #[x',y'],tmps.getD s undef]) w:=by
 simp [results,hr,-Array.getD_eq_getD_getElem?,hp,hp',asAddr,zGC hk,zGC hk']
end Go.Proofs.YtdigopgncfhiaaaGreatDoor
namespace Go.Proofs.YtdigopgncfhiaaaGreatDoor
open Go.RowKit
theorem in_fn (n lo hi:Int) (a b:Addr) (w:World) (ha:w.cell? a=some (.int .i64 lo)) (hb:w.cell? b=some (.int .i64 hi)) :
  zAb 118 #[.int .i64 n,.pointer (some a),.pointer (some b)] w (.bool (!inB lo hi n)):=by
 unfold zAb
 by_cases h:n<lo
 ·go_enter Tryz.func118,Tryz.ntmps118
  go_wp2
  go_ret
  exact ⟨zBT (congrArg Value.bool (by rw [Bool.eq_iff_iff];simp [inB];omega)),Below.refl _ _⟩
 ·go_enter Tryz.func118,Tryz.ntmps118
  go_wp2
  go_ret
  exact ⟨zBT (congrArg Value.bool (by rw [Bool.eq_iff_iff];simp [inB];omega)),Below.refl _ _⟩
def zCa {α:Type} (p:α→Bool) (l:List α):Int:=match l.findIdx? p with|some i=>i|none=>-1
theorem zD2 {α:Type} (p:α→Bool) (l:List α):decide (0≤zCa p l)=l.any p:=by
 unfold zCa
 rw [Bool.eq_iff_iff]
 cases h:l.findIdx? p with
 | none=>simp [List.findIdx?_eq_none_iff] at h;simp;exact h
 | some i =>
  simp
  have:=List.findIdx?_eq_some_iff_getElem.1 h
  obtain ⟨hi,hp,_⟩:=this
  exact ⟨l[i],List.getElem_mem hi,hp⟩
set_option maxHeartbeats 1000000 in
theorem zMB (l : List Int) (cap : Nat) (A : Option Addr) (k : FuncId) (c1 c2 : Value) (p : Int → Bool) (w : World)
   (hl:l.length≤1000000) (hk:zq encI 1 w A l)
   (hb:∀ args w,(callFunc k args).run Tryz.prog w = .ok (.enter k args) w)
   (hp:∀ x W,Below w.heap.size w W→zAb k #[.int .i64 x,c1,c2] W (.bool (p x))) :
    zAb 108 #[.slice A l.length cap,.func (.func k) #[] #[c1,c2]] w (.int .i64 (zCa p l)):=by
  unfold zAb
  have HP:=Lib.hid hp
  clear hp
  have HK:=Lib.hid hk
  clear hk
  go_enter Tryz.func108,Tryz.ntmps108
  go_wp2
  go_loopw [8] (fun v wr=>∃ i:Nat,i≤l.length∧v = .int .i64 i∧Below w.heap.size w wr∧Hid (l.findIdx? p=((l.drop i).findIdx? p).map (· + i))) (fun v _=>l.length - (intOf v).toNat)
  case atStart=>exact ⟨0,Nat.zero_le _,rfl,Below.refl _ _,by unfold Hid;simp⟩
  case round =>
    obtain ⟨i,hi,rfl,hB,hF⟩:=hrel
    by_cases hlt:i<l.length
    · obtain ⟨b,o,rfl,hblt,hc⟩:=(HK.out.below hB).at_ hlt
      have hc':=hc 0 _ rfl
      simp only [Nat.add_zero,Nat.mul_one] at hc'
      clear hc
      go_wp2_with fail
      refine (HP.out _ _ hB).mono ?_
      rintro e w1 ⟨rfl,hb1⟩
      have hB1:Below w.heap.size w w1:=hB.trans (hb1.mono hB.size)
      clear hc'
      by_cases hpp:p l[i]=true
      · rw [hpp]
        go_wp2
        go_ret
        refine ⟨zBT ?_,hB1⟩
        unfold zCa
        rw [hF.out,List.drop_eq_getElem_cons hlt,List.findIdx?_cons,hpp]
        simp
      · have hpp':p l[i]=false:=by simpa using hpp
        rw [hpp']
        go_wp2
        go_roundw
        case rel =>
          refine ⟨i+1,by omega,by go_num,hB1,?_⟩
          unfold Hid
          rw [hF.out,List.drop_eq_getElem_cons hlt,List.findIdx?_cons,hpp']
          simp [Function.comp_def,Nat.add_assoc,Nat.add_comm 1]
        case measure=>simp [intOf];omega
    · go_wp2
      go_ret
      refine ⟨zBT ?_,hB⟩
      unfold zCa
      rw [hF.out,List.drop_eq_nil_of_le (by omega)]
      simp
set_option maxHeartbeats 1000000 in
theorem zIr (l : List Int) (cap : Nat) (A : Option Addr) (k : FuncId) (c1 c2 : Value) (p : Int → Bool) (w : World)
   (hl:l.length≤1000000) (hk:zq encI 1 w A l)
   (hb:∀ args w,(callFunc k args).run Tryz.prog w = .ok (.enter k args) w)
   (hp:∀ x W,Below w.heap.size w W→zAb k #[.int .i64 x,c1,c2] W (.bool (p x))) :
    zAb 102 #[.slice A l.length cap,.func (.func k) #[] #[c1,c2]] w (.bool (l.any p)):=by
  unfold zAb
  have HI:=Lib.hid (zMB l cap A k c1 c2 p w hl hk hb hp)
  clear hp hb hk
  go_enter Tryz.func102,Tryz.ntmps102
  go_wp2_with fail
  refine HI.out.mono ?_
  rintro e w1 ⟨rfl,hb1⟩
  go_wp2
  go_ret
  exact ⟨zBT (by simp [zD2]),hb1⟩
theorem zNA (lo hi:Int) (l:List Int):(!(l.any fun n=>!inB lo hi n))=l.all (inB lo hi):=by
 induction l with
 | nil=>rfl
 | cons a l ih=>simp [← ih]
set_option maxHeartbeats 1000000 in
theorem zMD (lo hi:Int) (l:List Int) (cap:Nat) (A:Option Addr) (w:World) (hl:l.length≤1000000) (hk:zq encI 1 w A l) :
  zAb 84 #[.int .i64 lo,.int .i64 hi,.slice A l.length cap] w (.bool (l.all (inB lo hi))):=by
 unfold zAb
 have HK:=Lib.hid hk
 clear hk
 go_enter Tryz.func84,Tryz.ntmps84
 go_wp2_with fail
 refine (zIr l cap A 118 _ _ (fun n=>!inB lo hi n) _ hl ((HK.out.alloc _).alloc _) (enters Tryz.func118 (by kernel_rfl) rfl) ?_).mono ?_
 ·intro x W hW
  refine in_fn x lo hi _ _ W ?_ ?_
  ·rw [hW.cell (by simp<;>omega)];simp
  ·rw [hW.cell (by simp<;>omega)];simp
 ·rintro e w1 ⟨rfl,hb1⟩
  go_wp2
  go_ret
  exact ⟨zBT (by first|rfl|simp [zNA]),((zy w _).trans ((zy _ _).mono (by simp))).trans (hb1.mono (by simp<;>omega))⟩
theorem zNU (w:World) (t:TypeId) (x:Int):zq encI 1 (w.alloc (.cells #[.int .i64 x] t)) (some ⟨w.heap.size,0,none⟩) [x]:=by
 intro i y hy
 rcases i with _|i
 ·simp at hy;subst hy
  refine ⟨_,_,rfl,by simp,fun j v hv=>?_⟩
  rcases j with _|j
  ·simp [encI] at hv;subst hv;simp
  ·simp [encI] at hv
 ·simp at hy
theorem zNT (w:World) (t:TypeId) (x y:Int):zq encI 1 (w.alloc (.cells #[.int .i64 x,.int .i64 y] t)) (some ⟨w.heap.size,0,none⟩) [x,y]:=by
 intro i z hz
 refine ⟨_,_,rfl,by simp,fun j v hv=>?_⟩
 rcases j with _|j
 ·rcases i with _ | _|i
  ·simp at hz;subst hz;simp [encI] at hv;subst hv;simp
  ·simp at hz;subst hz;simp [encI] at hv;subst hv;simp
  ·simp at hz
 ·simp [encI] at hv
theorem zMC (lo hi x:Int) (c:Nat) (t:TypeId) (b:Nat) (w:World) (hb:b=w.heap.size) :
  zAb 84 #[.int .i64 lo,.int .i64 hi,.slice (some ⟨b,0,none⟩) 1 c] (w.alloc (.cells #[.int .i64 x] t)) (.bool (inB lo hi x)):=by
 subst hb
 exact (zMD lo hi [x] c _ _ (by simp) (zNU w t x)).of (by simp)
theorem zJ6 (lo hi x y:Int) (c:Nat) (t:TypeId) (b:Nat) (w:World) (hb:b=w.heap.size) :
  zAb 84 #[.int .i64 lo,.int .i64 hi,.slice (some ⟨b,0,none⟩) 2 c] (w.alloc (.cells #[.int .i64 x,.int .i64 y] t)) (.bool (inB lo hi x && inB lo hi y)):=by
 subst hb
 exact (zMD lo hi [x,y] c _ _ (by simp) (zNT w t x y)).of (by simp)
set_option maxHeartbeats 1000000 in
theorem zNn (s:Sp) (lo hi:Int) (w:World):zAb 121 #[vSp s,.int .i64 lo,.int .i64 hi] w (.bool (zBE s lo hi)):=by
 unfold zAb vSp
 cases h1:inB lo hi s.lo && inB lo hi s.hi
 all_goals
  have H1:=Lib.hid h1
  clear h1
  go_enter Tryz.func121,Tryz.ntmps121
  go_wp2_with fail
  refine (zJ6 lo hi s.lo s.hi _ _ _ _ (by simp)).mono ?_
  rintro e w1 ⟨rfl,hb1⟩
  rw [H1.out]
  obtain ⟨hc,hf⟩:=bcell hb1
  go_wp2
  go_ret
  refine ⟨zBT (congrArg Value.bool ?_),((zy w _).trans ((zy _ _).mono (by simp))).trans (hb1.mono (by simp<;>omega))⟩
  unfold zBE
  rw [H1.out]
  simp
theorem zC9 (n lo hi:Int) (w:World):zAb 119 #[.int .i64 n,.int .i64 lo,.int .i64 hi] w (.bool (inB lo hi n)):=by
 unfold zAb
 by_cases h:lo≤n
 ·go_enter Tryz.func119,Tryz.ntmps119
  go_wp2
  go_ret
  exact ⟨zBT (congrArg Value.bool (by rw [Bool.eq_iff_iff];simp [inB,h])),Below.refl _ _⟩
 ·go_enter Tryz.func119,Tryz.ntmps119
  go_wp2
  go_ret
  exact ⟨zBT (congrArg Value.bool (by rw [Bool.eq_iff_iff];simp [inB];omega)),Below.refl _ _⟩
set_option maxHeartbeats 1000000 in
theorem zHp (s:Sp) (lo hi:Int) (w:World):zAb 120 #[vSp s,.int .i64 lo,.int .i64 hi] w (.bool (zBE s lo hi)):=by
 unfold zAb vSp
 cases h1:inB lo s.hi s.lo
 all_goals
  have H1:=Lib.hid h1
  clear h1
  go_enter Tryz.func120,Tryz.ntmps120
  go_wp2_with fail
  refine (zC9 s.lo lo s.hi _).mono ?_
  rintro e w1 ⟨rfl,hb1⟩
  rw [H1.out]
  obtain ⟨hc,hf⟩:=bcell hb1
  go_wp2
  go_ret
  refine ⟨zBT (congrArg Value.bool ?_),(zy w _).trans (hb1.mono (by simp<;>omega))⟩
  have h:=H1.out
  simp only [inB,decide_eq_true_eq,decide_eq_false_iff_not] at h
  rw [Bool.eq_iff_iff];simp [zBE,inB];omega
def vT (A:Option Addr) (n c:Nat):Value:=.agg #[.slice A n c]
theorem zJS (A:Option Addr) (n c:Nat) (w:World):zAb 48 #[vT A n c] w (.bool (decide (20<n))):=by
 unfold zAb vT
 go_enter Tryz.func48,Tryz.ntmps48
 go_wp2
 go_ret
 exact ⟨zBT (congrArg Value.bool (by rw [Bool.eq_iff_iff];simp<;>omega)),zy w _⟩
end Go.Proofs.YtdigopgncfhiaaaGreatDoor
