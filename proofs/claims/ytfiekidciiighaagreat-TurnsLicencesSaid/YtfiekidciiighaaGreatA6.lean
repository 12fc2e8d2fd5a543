/- A6 -/
import Derived.Test.YtfiekidciiighaaGreatA4
set_option linter.unusedSimpArgs false
set_option linter.unusedVariables false
namespace Go.Proofs.YtfiekidciiighaaGreat
open Go.RowKit
set_option maxRecDepth 20000
instance : TyI Tryz.prog 0 (TypeDesc.tuple #[]) 1 false:=⟨Tryz.underlying0,Tryz.sizeOf0,Tryz.isAgg0⟩
instance : TyI Tryz.prog 1 (TypeDesc.func #[] #[] false) 1 false:=⟨Tryz.underlying1,Tryz.sizeOf1,Tryz.isAgg1⟩
instance : TyI Tryz.prog 2 (TypeDesc.int Go.IntKind.i64) 1 false:=⟨Tryz.underlying2,Tryz.sizeOf2,Tryz.isAgg2⟩
instance : TyI Tryz.prog 3 (TypeDesc.int Go.IntKind.i64) 1 false:=⟨Tryz.underlying3,Tryz.sizeOf3,Tryz.isAgg3⟩
instance : TyZ Tryz.prog 3 [Value.int Go.IntKind.i64 0]:=⟨fun w=>⟨_,Tryz.zeroValue3 w,rfl⟩⟩
instance : TyI Tryz.prog 4 TypeDesc.bool 1 false:=⟨Tryz.underlying4,Tryz.sizeOf4,Tryz.isAgg4⟩
instance : TyZ Tryz.prog 4 [Value.bool false]:=⟨fun w=>⟨_,Tryz.zeroValue4 w,rfl⟩⟩
instance : TyI Tryz.prog 5 (TypeDesc.int Go.IntKind.u8) 1 false:=⟨Tryz.underlying5,Tryz.sizeOf5,Tryz.isAgg5⟩
instance : TyZ Tryz.prog 5 [Value.int Go.IntKind.u8 0]:=⟨fun w=>⟨_,Tryz.zeroValue5 w,rfl⟩⟩
instance : TyI Tryz.prog 22 (TypeDesc.slice 134) 1 false:=⟨Tryz.underlying22,Tryz.sizeOf22,Tryz.isAgg22⟩
instance : TyI Tryz.prog 24 (TypeDesc.struct #[{ name := "Stretches",type:=22,offset:=0,embedded:=false,tag := "",pkgPath := "",byteOffset:=0 }]) 1 true:=⟨Tryz.underlying24,Tryz.sizeOf24,Tryz.isAgg24⟩
instance : TyB Tryz.prog 24 [(0,1)] [Value.slice none 0 0]:=zAg (zv:=Value.agg #[Value.slice none 0 0]) (by kernel_rfl) rfl Tryz.underlying24 (by kernel_rfl)
instance : TyI Tryz.prog 25 (TypeDesc.slice 77) 1 false:=⟨Tryz.underlying25,Tryz.sizeOf25,Tryz.isAgg25⟩
instance : TyI Tryz.prog 26 (TypeDesc.slice 141) 1 false:=⟨Tryz.underlying26,Tryz.sizeOf26,Tryz.isAgg26⟩
instance : TyI Tryz.prog 28 (TypeDesc.struct #[{ name := "Track",type:=24,offset:=0,embedded:=false,tag := "",pkgPath := "",byteOffset:=0 },{ name := "Fast",type:=3,offset:=1,embedded:=false,tag := "",pkgPath := "",byteOffset:=24 },{ name := "Clocks",type:=25,offset:=2,embedded:=false,tag := "",pkgPath := "",byteOffset:=32 },{ name := "Beams",type:=26,offset:=3,embedded:=false,tag := "",pkgPath := "",byteOffset:=56 },{ name := "Finish",type:=3,offset:=4,embedded:=false,tag := "",pkgPath := "",byteOffset:=80 },{ name := "Fakes",type:=3,offset:=5,embedded:=false,tag := "",pkgPath := "",byteOffset:=88 },{ name := "Misses",type:=3,offset:=6,embedded:=false,tag := "",pkgPath := "",byteOffset:=96 }]) 7 true:=⟨Tryz.underlying28,Tryz.sizeOf28,Tryz.isAgg28⟩
instance : TyB Tryz.prog 28 [(0,1),(1,1),(2,1),(3,1),(4,1),(5,1),(6,1)] [Value.slice none 0 0,Value.int Go.IntKind.i64 0,Value.slice none 0 0,Value.slice none 0 0,Value.int Go.IntKind.i64 0,Value.int Go.IntKind.i64 0,Value.int Go.IntKind.i64 0]:=zAg (zv:=Value.agg #[Value.slice none 0 0,Value.int Go.IntKind.i64 0,Value.slice none 0 0,Value.slice none 0 0,Value.int Go.IntKind.i64 0,Value.int Go.IntKind.i64 0,Value.int Go.IntKind.i64 0]) (by kernel_rfl) rfl Tryz.underlying28 (by kernel_rfl)
instance : TyI Tryz.prog 29 (TypeDesc.slice 104) 1 false:=⟨Tryz.underlying29,Tryz.sizeOf29,Tryz.isAgg29⟩
instance : TyI Tryz.prog 30 (TypeDesc.slice 108) 1 false:=⟨Tryz.underlying30,Tryz.sizeOf30,Tryz.isAgg30⟩
instance : TyI Tryz.prog 31 (TypeDesc.slice 57) 1 false:=⟨Tryz.underlying31,Tryz.sizeOf31,Tryz.isAgg31⟩
instance : TyI Tryz.prog 33 (TypeDesc.struct #[{ name := "Age",type:=3,offset:=0,embedded:=false,tag := "",pkgPath := "",byteOffset:=0 },{ name := "Runs",type:=3,offset:=1,embedded:=false,tag := "",pkgPath := "",byteOffset:=8 },{ name := "Time",type:=3,offset:=2,embedded:=false,tag := "",pkgPath := "",byteOffset:=16 }]) 3 true:=⟨Tryz.underlying33,Tryz.sizeOf33,Tryz.isAgg33⟩
instance : TyZ Tryz.prog 33 [Value.int Go.IntKind.i64 0,Value.int Go.IntKind.i64 0,Value.int Go.IntKind.i64 0]:=⟨fun w=>⟨_,Tryz.zeroValue33 w,rfl⟩⟩
instance : TyB Tryz.prog 33 [(0,1),(1,1),(2,1)] [Value.int Go.IntKind.i64 0,Value.int Go.IntKind.i64 0,Value.int Go.IntKind.i64 0]:=zAg (zv:=Value.agg #[Value.int Go.IntKind.i64 0,Value.int Go.IntKind.i64 0,Value.int Go.IntKind.i64 0]) (by kernel_rfl) rfl Tryz.underlying33 (by kernel_rfl)
instance : TyI Tryz.prog 34 (TypeDesc.array 3 33) 9 true:=⟨Tryz.underlying34,Tryz.sizeOf34,Tryz.isAgg34⟩
instance : TyBA Tryz.prog 34 3 [Value.int Go.IntKind.i64 0,Value.int Go.IntKind.i64 0,Value.int Go.IntKind.i64 0,Value.int Go.IntKind.i64 0,Value.int Go.IntKind.i64 0,Value.int Go.IntKind.i64 0,Value.int Go.IntKind.i64 0,Value.int Go.IntKind.i64 0,Value.int Go.IntKind.i64 0]:=zHv (zv:=Value.agg #[Value.int Go.IntKind.i64 0,Value.int Go.IntKind.i64 0,Value.int Go.IntKind.i64 0,Value.int Go.IntKind.i64 0,Value.int Go.IntKind.i64 0,Value.int Go.IntKind.i64 0,Value.int Go.IntKind.i64 0,Value.int Go.IntKind.i64 0,Value.int Go.IntKind.i64 0]) (by kernel_rfl) rfl Tryz.underlying34 (by kernel_rfl)
instance : TyI Tryz.prog 36 (TypeDesc.struct #[{ name := "Line",type:=28,offset:=0,embedded:=false,tag := "",pkgPath := "",byteOffset:=0 },{ name := "Nations",type:=29,offset:=7,embedded:=false,tag := "",pkgPath := "",byteOffset:=104 },{ name := "Gones",type:=30,offset:=8,embedded:=false,tag := "",pkgPath := "",byteOffset:=128 },{ name := "Total",type:=3,offset:=9,embedded:=false,tag := "",pkgPath := "",byteOffset:=152 },{ name := "Gap",type:=3,offset:=10,embedded:=false,tag := "",pkgPath := "",byteOffset:=160 },{ name := "Down",type:=3,offset:=11,embedded:=false,tag := "",pkgPath := "",byteOffset:=168 },{ name := "Every",type:=3,offset:=12,embedded:=false,tag := "",pkgPath := "",byteOffset:=176 },{ name := "Seats",type:=3,offset:=13,embedded:=false,tag := "",pkgPath := "",byteOffset:=184 },{ name := "Pace",type:=3,offset:=14,embedded:=false,tag := "",pkgPath := "",byteOffset:=192 },{ name := "Athletes",type:=31,offset:=15,embedded:=false,tag := "",pkgPath := "",byteOffset:=200 },{ name := "Permits",type:=34,offset:=16,embedded:=false,tag := "",pkgPath := "",byteOffset:=224 }]) 25 true:=⟨Tryz.underlying36,Tryz.sizeOf36,Tryz.isAgg36⟩
instance : TyB Tryz.prog 36 [(0,7),(7,1),(8,1),(9,1),(10,1),(11,1),(12,1),(13,1),(14,1),(15,1),(16,9)] [Value.slice none 0 0,Value.int Go.IntKind.i64 0,Value.slice none 0 0,Value.slice none 0 0,Value.int Go.IntKind.i64 0,Value.int Go.IntKind.i64 0,Value.int Go.IntKind.i64 0,Value.slice none 0 0,Value.slice none 0 0,Value.int Go.IntKind.i64 0,Value.int Go.IntKind.i64 0,Value.int Go.IntKind.i64 0,Value.int Go.IntKind.i64 0,Value.int Go.IntKind.i64 0,Value.int Go.IntKind.i64 0,Value.slice none 0 0,Value.int Go.IntKind.i64 0,Value.int Go.IntKind.i64 0,Value.int Go.IntKind.i64 0,Value.int Go.IntKind.i64 0,Value.int Go.IntKind.i64 0,Value.int Go.IntKind.i64 0,Value.int Go.IntKind.i64 0,Value.int Go.IntKind.i64 0,Value.int Go.IntKind.i64 0]:=zAg (zv:=Value.agg #[Value.slice none 0 0,Value.int Go.IntKind.i64 0,Value.slice none 0 0,Value.slice none 0 0,Value.int Go.IntKind.i64 0,Value.int Go.IntKind.i64 0,Value.int Go.IntKind.i64 0,Value.slice none 0 0,Value.slice none 0 0,Value.int Go.IntKind.i64 0,Value.int Go.IntKind.i64 0,Value.int Go.IntKind.i64 0,Value.int Go.IntKind.i64 0,Value.int Go.IntKind.i64 0,Value.int Go.IntKind.i64 0,Value.slice none 0 0,Value.int Go.IntKind.i64 0,Value.int Go.IntKind.i64 0,Value.int Go.IntKind.i64 0,Value.int Go.IntKind.i64 0,Value.int Go.IntKind.i64 0,Value.int Go.IntKind.i64 0,Value.int Go.IntKind.i64 0,Value.int Go.IntKind.i64 0,Value.int Go.IntKind.i64 0]) (by kernel_rfl) rfl Tryz.underlying36 (by kernel_rfl)
instance : TyI Tryz.prog 38 (TypeDesc.int Go.IntKind.i64) 1 false:=⟨Tryz.underlying38,Tryz.sizeOf38,Tryz.isAgg38⟩
instance : TyI Tryz.prog 47 (TypeDesc.slice 3) 1 false:=⟨Tryz.underlying47,Tryz.sizeOf47,Tryz.isAgg47⟩
instance : TyZ Tryz.prog 47 [Value.slice none 0 0]:=⟨fun w=>⟨_,Tryz.zeroValue47 w,rfl⟩⟩
instance : TyI Tryz.prog 54 (TypeDesc.func #[28] #[4] false) 1 false:=⟨Tryz.underlying54,Tryz.sizeOf54,Tryz.isAgg54⟩
instance : TyI Tryz.prog 55 (TypeDesc.slice 60) 1 false:=⟨Tryz.underlying55,Tryz.sizeOf55,Tryz.isAgg55⟩
instance : TyI Tryz.prog 57 (TypeDesc.struct #[{ name := "Id",type:=3,offset:=0,embedded:=false,tag := "",pkgPath := "",byteOffset:=0 },{ name := "Nation",type:=3,offset:=1,embedded:=false,tag := "",pkgPath := "",byteOffset:=8 },{ name := "Age",type:=3,offset:=2,embedded:=false,tag := "",pkgPath := "",byteOffset:=16 },{ name := "Rides",type:=55,offset:=3,embedded:=false,tag := "",pkgPath := "",byteOffset:=24 }]) 4 true:=⟨Tryz.underlying57,Tryz.sizeOf57,Tryz.isAgg57⟩
instance : TyZ Tryz.prog 57 [Value.int Go.IntKind.i64 0,Value.int Go.IntKind.i64 0,Value.int Go.IntKind.i64 0,Value.slice none 0 0]:=⟨fun w=>⟨_,Tryz.zeroValue57 w,rfl⟩⟩
instance : TyB Tryz.prog 57 [(0,1),(1,1),(2,1),(3,1)] [Value.int Go.IntKind.i64 0,Value.int Go.IntKind.i64 0,Value.int Go.IntKind.i64 0,Value.slice none 0 0]:=zAg (zv:=Value.agg #[Value.int Go.IntKind.i64 0,Value.int Go.IntKind.i64 0,Value.int Go.IntKind.i64 0,Value.slice none 0 0]) (by kernel_rfl) rfl Tryz.underlying57 (by kernel_rfl)
instance : TyI Tryz.prog 58 (TypeDesc.slice 148) 1 false:=⟨Tryz.underlying58,Tryz.sizeOf58,Tryz.isAgg58⟩
instance : TyI Tryz.prog 60 (TypeDesc.struct #[{ name := "Start",type:=3,offset:=0,embedded:=false,tag := "",pkgPath := "",byteOffset:=0 },{ name := "Now",type:=3,offset:=1,embedded:=false,tag := "",pkgPath := "",byteOffset:=8 },{ name := "Signals",type:=58,offset:=2,embedded:=false,tag := "",pkgPath := "",byteOffset:=16 }]) 3 true:=⟨Tryz.underlying60,Tryz.sizeOf60,Tryz.isAgg60⟩
instance : TyZ Tryz.prog 60 [Value.int Go.IntKind.i64 0,Value.int Go.IntKind.i64 0,Value.slice none 0 0]:=⟨fun w=>⟨_,Tryz.zeroValue60 w,rfl⟩⟩
instance : TyB Tryz.prog 60 [(0,1),(1,1),(2,1)] [Value.int Go.IntKind.i64 0,Value.int Go.IntKind.i64 0,Value.slice none 0 0]:=zAg (zv:=Value.agg #[Value.int Go.IntKind.i64 0,Value.int Go.IntKind.i64 0,Value.slice none 0 0]) (by kernel_rfl) rfl Tryz.underlying60 (by kernel_rfl)
instance : TyI Tryz.prog 61 (TypeDesc.pointer 80) 1 false:=⟨Tryz.underlying61,Tryz.sizeOf61,Tryz.isAgg61⟩
instance : TyI Tryz.prog 75 (TypeDesc.slice 169) 1 false:=⟨Tryz.underlying75,Tryz.sizeOf75,Tryz.isAgg75⟩
instance : TyI Tryz.prog 77 (TypeDesc.struct #[{ name := "Drift",type:=3,offset:=0,embedded:=false,tag := "",pkgPath := "",byteOffset:=0 },{ name := "Syncs",type:=75,offset:=1,embedded:=false,tag := "",pkgPath := "",byteOffset:=8 }]) 2 true:=⟨Tryz.underlying77,Tryz.sizeOf77,Tryz.isAgg77⟩
instance : TyZ Tryz.prog 77 [Value.int Go.IntKind.i64 0,Value.slice none 0 0]:=⟨fun w=>⟨_,Tryz.zeroValue77 w,rfl⟩⟩
instance : TyB Tryz.prog 77 [(0,1),(1,1)] [Value.int Go.IntKind.i64 0,Value.slice none 0 0]:=zAg (zv:=Value.agg #[Value.int Go.IntKind.i64 0,Value.slice none 0 0]) (by kernel_rfl) rfl Tryz.underlying77 (by kernel_rfl)
instance : TyI Tryz.prog 78 (TypeDesc.slice 5) 1 false:=⟨Tryz.underlying78,Tryz.sizeOf78,Tryz.isAgg78⟩
instance : TyZ Tryz.prog 78 [Value.slice none 0 0]:=⟨fun w=>⟨_,Tryz.zeroValue78 w,rfl⟩⟩
instance : TyI Tryz.prog 80 (TypeDesc.struct #[{ name := "Training",type:=36,offset:=0,embedded:=true,tag := "",pkgPath := "",byteOffset:=0 },{ name := "has",type:=47,offset:=25,embedded:=false,tag := "",pkgPath := "kreisel/turns",byteOffset:=296 },{ name := "runs",type:=3,offset:=26,embedded:=false,tag := "",pkgPath := "kreisel/turns",byteOffset:=320 }]) 27 true:=⟨Tryz.underlying80,Tryz.sizeOf80,Tryz.isAgg80⟩
instance : TyZ Tryz.prog 80 [Value.slice none 0 0,Value.int Go.IntKind.i64 0,Value.slice none 0 0,Value.slice none 0 0,Value.int Go.IntKind.i64 0,Value.int Go.IntKind.i64 0,Value.int Go.IntKind.i64 0,Value.slice none 0 0,Value.slice none 0 0,Value.int Go.IntKind.i64 0,Value.int Go.IntKind.i64 0,Value.int Go.IntKind.i64 0,Value.int Go.IntKind.i64 0,Value.int Go.IntKind.i64 0,Value.int Go.IntKind.i64 0,Value.slice none 0 0,Value.int Go.IntKind.i64 0,Value.int Go.IntKind.i64 0,Value.int Go.IntKind.i64 0,Value.int Go.IntKind.i64 0,Value.int Go.IntKind.i64 0,Value.int Go.IntKind.i64 0,Value.int Go.IntKind.i64 0,Value.int Go.IntKind.i64 0,Value.int Go.IntKind.i64 0,Value.slice none 0 0,Value.int Go.IntKind.i64 0]:=⟨fun w=>⟨_,Tryz.zeroValue80 w,rfl⟩⟩
instance : TyB Tryz.prog 80 [(0,25),(25,1),(26,1)] [Value.slice none 0 0,Value.int Go.IntKind.i64 0,Value.slice none 0 0,Value.slice none 0 0,Value.int Go.IntKind.i64 0,Value.int Go.IntKind.i64 0,Value.int Go.IntKind.i64 0,Value.slice none 0 0,Value.slice none 0 0,Value.int Go.IntKind.i64 0,Value.int Go.IntKind.i64 0,Value.int Go.IntKind.i64 0,Value.int Go.IntKind.i64 0,Value.int Go.IntKind.i64 0,Value.int Go.IntKind.i64 0,Value.slice none 0 0,Value.int Go.IntKind.i64 0,Value.int Go.IntKind.i64 0,Value.int Go.IntKind.i64 0,Value.int Go.IntKind.i64 0,Value.int Go.IntKind.i64 0,Value.int Go.IntKind.i64 0,Value.int Go.IntKind.i64 0,Value.int Go.IntKind.i64 0,Value.int Go.IntKind.i64 0,Value.slice none 0 0,Value.int Go.IntKind.i64 0]:=zAg (zv:=Value.agg #[Value.slice none 0 0,Value.int Go.IntKind.i64 0,Value.slice none 0 0,Value.slice none 0 0,Value.int Go.IntKind.i64 0,Value.int Go.IntKind.i64 0,Value.int Go.IntKind.i64 0,Value.slice none 0 0,Value.slice none 0 0,Value.int Go.IntKind.i64 0,Value.int Go.IntKind.i64 0,Value.int Go.IntKind.i64 0,Value.int Go.IntKind.i64 0,Value.int Go.IntKind.i64 0,Value.int Go.IntKind.i64 0,Value.slice none 0 0,Value.int Go.IntKind.i64 0,Value.int Go.IntKind.i64 0,Value.int Go.IntKind.i64 0,Value.int Go.IntKind.i64 0,Value.int Go.IntKind.i64 0,Value.int Go.IntKind.i64 0,Value.int Go.IntKind.i64 0,Value.int Go.IntKind.i64 0,Value.int Go.IntKind.i64 0,Value.slice none 0 0,Value.int Go.IntKind.i64 0]) (by kernel_rfl) rfl Tryz.underlying80 (by kernel_rfl)
instance : TyI Tryz.prog 83 (TypeDesc.func #[5] #[4] false) 1 false:=⟨Tryz.underlying83,Tryz.sizeOf83,Tryz.isAgg83⟩
instance : TyI Tryz.prog 85 (TypeDesc.struct #[{ name := "Lo",type:=3,offset:=0,embedded:=false,tag := "",pkgPath := "",byteOffset:=0 },{ name := "Hi",type:=3,offset:=1,embedded:=false,tag := "",pkgPath := "",byteOffset:=8 }]) 2 true:=⟨Tryz.underlying85,Tryz.sizeOf85,Tryz.isAgg85⟩
instance : TyZ Tryz.prog 85 [Value.int Go.IntKind.i64 0,Value.int Go.IntKind.i64 0]:=⟨fun w=>⟨_,Tryz.zeroValue85 w,rfl⟩⟩
instance : TyB Tryz.prog 85 [(0,1),(1,1)] [Value.int Go.IntKind.i64 0,Value.int Go.IntKind.i64 0]:=zAg (zv:=Value.agg #[Value.int Go.IntKind.i64 0,Value.int Go.IntKind.i64 0]) (by kernel_rfl) rfl Tryz.underlying85 (by kernel_rfl)
instance : TyI Tryz.prog 91 (TypeDesc.func #[3] #[4] false) 1 false:=⟨Tryz.underlying91,Tryz.sizeOf91,Tryz.isAgg91⟩
instance : TyI Tryz.prog 96 (TypeDesc.slice 124) 1 false:=⟨Tryz.underlying96,Tryz.sizeOf96,Tryz.isAgg96⟩
instance : TyZ Tryz.prog 96 [Value.slice none 0 0]:=⟨fun w=>⟨_,Tryz.zeroValue96 w,rfl⟩⟩
instance : TyI Tryz.prog 104 (TypeDesc.struct #[{ name := "Id",type:=3,offset:=0,embedded:=false,tag := "",pkgPath := "",byteOffset:=0 },{ name := "Wish",type:=3,offset:=1,embedded:=false,tag := "",pkgPath := "",byteOffset:=8 },{ name := "Sleds",type:=3,offset:=2,embedded:=false,tag := "",pkgPath := "",byteOffset:=16 }]) 3 true:=⟨Tryz.underlying104,Tryz.sizeOf104,Tryz.isAgg104⟩
instance : TyZ Tryz.prog 104 [Value.int Go.IntKind.i64 0,Value.int Go.IntKind.i64 0,Value.int Go.IntKind.i64 0]:=⟨fun w=>⟨_,Tryz.zeroValue104 w,rfl⟩⟩
instance : TyB Tryz.prog 104 [(0,1),(1,1),(2,1)] [Value.int Go.IntKind.i64 0,Value.int Go.IntKind.i64 0,Value.int Go.IntKind.i64 0]:=zAg (zv:=Value.agg #[Value.int Go.IntKind.i64 0,Value.int Go.IntKind.i64 0,Value.int Go.IntKind.i64 0]) (by kernel_rfl) rfl Tryz.underlying104 (by kernel_rfl)
instance : TyI Tryz.prog 105 (TypeDesc.func #[104] #[3] false) 1 false:=⟨Tryz.underlying105,Tryz.sizeOf105,Tryz.isAgg105⟩
instance : TyI Tryz.prog 108 (TypeDesc.struct #[{ name := "Nation",type:=3,offset:=0,embedded:=false,tag := "",pkgPath := "",byteOffset:=0 },{ name := "After",type:=3,offset:=1,embedded:=false,tag := "",pkgPath := "",byteOffset:=8 }]) 2 true:=⟨Tryz.underlying108,Tryz.sizeOf108,Tryz.isAgg108⟩
instance : TyZ Tryz.prog 108 [Value.int Go.IntKind.i64 0,Value.int Go.IntKind.i64 0]:=⟨fun w=>⟨_,Tryz.zeroValue108 w,rfl⟩⟩
instance : TyB Tryz.prog 108 [(0,1),(1,1)] [Value.int Go.IntKind.i64 0,Value.int Go.IntKind.i64 0]:=zAg (zv:=Value.agg #[Value.int Go.IntKind.i64 0,Value.int Go.IntKind.i64 0]) (by kernel_rfl) rfl Tryz.underlying108 (by kernel_rfl)
instance : TyI Tryz.prog 109 (TypeDesc.func #[108] #[3] false) 1 false:=⟨Tryz.underlying109,Tryz.sizeOf109,Tryz.isAgg109⟩
instance : TyI Tryz.prog 111 (TypeDesc.func #[57] #[3] false) 1 false:=⟨Tryz.underlying111,Tryz.sizeOf111,Tryz.isAgg111⟩
instance : TyI Tryz.prog 118 (TypeDesc.slice 85) 1 false:=⟨Tryz.underlying118,Tryz.sizeOf118,Tryz.isAgg118⟩
instance : TyZ Tryz.prog 118 [Value.slice none 0 0]:=⟨fun w=>⟨_,Tryz.zeroValue118 w,rfl⟩⟩
instance : TyI Tryz.prog 119 (TypeDesc.slice 4) 1 false:=⟨Tryz.underlying119,Tryz.sizeOf119,Tryz.isAgg119⟩
instance : TyZ Tryz.prog 119 [Value.slice none 0 0]:=⟨fun w=>⟨_,Tryz.zeroValue119 w,rfl⟩⟩
instance : TyI Tryz.prog 121 (TypeDesc.struct #[{ name := "least",type:=47,offset:=0,embedded:=false,tag := "",pkgPath := "kreisel/kreiselref05",byteOffset:=0 },{ name := "times",type:=118,offset:=1,embedded:=false,tag := "",pkgPath := "kreisel/kreiselref05",byteOffset:=24 },{ name := "some",type:=119,offset:=2,embedded:=false,tag := "",pkgPath := "kreisel/kreiselref05",byteOffset:=48 }]) 3 true:=⟨Tryz.underlying121,Tryz.sizeOf121,Tryz.isAgg121⟩
instance : TyZ Tryz.prog 121 [Value.slice none 0 0,Value.slice none 0 0,Value.slice none 0 0]:=⟨fun w=>⟨_,Tryz.zeroValue121 w,rfl⟩⟩
instance : TyB Tryz.prog 121 [(0,1),(1,1),(2,1)] [Value.slice none 0 0,Value.slice none 0 0,Value.slice none 0 0]:=zAg (zv:=Value.agg #[Value.slice none 0 0,Value.slice none 0 0,Value.slice none 0 0]) (by kernel_rfl) rfl Tryz.underlying121 (by kernel_rfl)
instance : TyI Tryz.prog 124 (TypeDesc.struct #[{ name := "Right",type:=47,offset:=0,embedded:=false,tag := "",pkgPath := "",byteOffset:=0 },{ name := "First",type:=47,offset:=1,embedded:=false,tag := "",pkgPath := "",byteOffset:=24 },{ name := "Last",type:=47,offset:=2,embedded:=false,tag := "",pkgPath := "",byteOffset:=48 }]) 3 true:=⟨Tryz.underlying124,Tryz.sizeOf124,Tryz.isAgg124⟩
instance : TyZ Tryz.prog 124 [Value.slice none 0 0,Value.slice none 0 0,Value.slice none 0 0]:=⟨fun w=>⟨_,Tryz.zeroValue124 w,rfl⟩⟩
instance : TyB Tryz.prog 124 [(0,1),(1,1),(2,1)] [Value.slice none 0 0,Value.slice none 0 0,Value.slice none 0 0]:=zAg (zv:=Value.agg #[Value.slice none 0 0,Value.slice none 0 0,Value.slice none 0 0]) (by kernel_rfl) rfl Tryz.underlying124 (by kernel_rfl)
instance : TyI Tryz.prog 126 (TypeDesc.struct #[{ name := "so",type:=54,offset:=0,embedded:=false,tag := "",pkgPath := "kreisel/beam",byteOffset:=0 }]) 1 true:=⟨Tryz.underlying126,Tryz.sizeOf126,Tryz.isAgg126⟩
instance : TyZ Tryz.prog 126 [Value.nilFunc]:=⟨fun w=>⟨_,Tryz.zeroValue126 w,rfl⟩⟩
instance : TyB Tryz.prog 126 [(0,1)] [Value.nilFunc]:=zAg (zv:=Value.agg #[Value.nilFunc]) (by kernel_rfl) rfl Tryz.underlying126 (by kernel_rfl)
instance : TyI Tryz.prog 127 (TypeDesc.array 4 126) 4 true:=⟨Tryz.underlying127,Tryz.sizeOf127,Tryz.isAgg127⟩
instance : TyZ Tryz.prog 127 [Value.nilFunc,Value.nilFunc,Value.nilFunc,Value.nilFunc]:=⟨fun w=>⟨_,Tryz.zeroValue127 w,rfl⟩⟩
instance : TyBA Tryz.prog 127 1 [Value.nilFunc,Value.nilFunc,Value.nilFunc,Value.nilFunc]:=zHv (zv:=Value.agg #[Value.nilFunc,Value.nilFunc,Value.nilFunc,Value.nilFunc]) (by kernel_rfl) rfl Tryz.underlying127 (by kernel_rfl)
instance : TyI Tryz.prog 129 (TypeDesc.pointer 160) 1 false:=⟨Tryz.underlying129,Tryz.sizeOf129,Tryz.isAgg129⟩
instance : TyI Tryz.prog 134 (TypeDesc.struct #[{ name := "Id",type:=3,offset:=0,embedded:=false,tag := "",pkgPath := "",byteOffset:=0 },{ name := "Long",type:=85,offset:=1,embedded:=false,tag := "",pkgPath := "",byteOffset:=8 },{ name := "Fall",type:=85,offset:=3,embedded:=false,tag := "",pkgPath := "",byteOffset:=24 },{ name := "Radius",type:=85,offset:=5,embedded:=false,tag := "",pkgPath := "",byteOffset:=40 },{ name := "Side",type:=5,offset:=7,embedded:=false,tag := "",pkgPath := "",byteOffset:=56 },{ name := "Wall",type:=3,offset:=8,embedded:=false,tag := "",pkgPath := "",byteOffset:=64 }]) 9 true:=⟨Tryz.underlying134,Tryz.sizeOf134,Tryz.isAgg134⟩
instance : TyZ Tryz.prog 134 [Value.int Go.IntKind.i64 0,Value.int Go.IntKind.i64 0,Value.int Go.IntKind.i64 0,Value.int Go.IntKind.i64 0,Value.int Go.IntKind.i64 0,Value.int Go.IntKind.i64 0,Value.int Go.IntKind.i64 0,Value.int Go.IntKind.u8 0,Value.int Go.IntKind.i64 0]:=⟨fun w=>⟨_,Tryz.zeroValue134 w,rfl⟩⟩
instance : TyB Tryz.prog 134 [(0,1),(1,2),(3,2),(5,2),(7,1),(8,1)] [Value.int Go.IntKind.i64 0,Value.int Go.IntKind.i64 0,Value.int Go.IntKind.i64 0,Value.int Go.IntKind.i64 0,Value.int Go.IntKind.i64 0,Value.int Go.IntKind.i64 0,Value.int Go.IntKind.i64 0,Value.int Go.IntKind.u8 0,Value.int Go.IntKind.i64 0]:=zAg (zv:=Value.agg #[Value.int Go.IntKind.i64 0,Value.int Go.IntKind.i64 0,Value.int Go.IntKind.i64 0,Value.int Go.IntKind.i64 0,Value.int Go.IntKind.i64 0,Value.int Go.IntKind.i64 0,Value.int Go.IntKind.i64 0,Value.int Go.IntKind.u8 0,Value.int Go.IntKind.i64 0]) (by kernel_rfl) rfl Tryz.underlying134 (by kernel_rfl)
instance : TyI Tryz.prog 136 (TypeDesc.func #[77] #[4] false) 1 false:=⟨Tryz.underlying136,Tryz.sizeOf136,Tryz.isAgg136⟩
instance : TyI Tryz.prog 139 (TypeDesc.struct #[{ name := "Stretch",type:=3,offset:=0,embedded:=false,tag := "",pkgPath := "",byteOffset:=0 },{ name := "Off",type:=85,offset:=1,embedded:=false,tag := "",pkgPath := "",byteOffset:=8 }]) 3 true:=⟨Tryz.underlying139,Tryz.sizeOf139,Tryz.isAgg139⟩
instance : TyZ Tryz.prog 139 [Value.int Go.IntKind.i64 0,Value.int Go.IntKind.i64 0,Value.int Go.IntKind.i64 0]:=⟨fun w=>⟨_,Tryz.zeroValue139 w,rfl⟩⟩
instance : TyB Tryz.prog 139 [(0,1),(1,2)] [Value.int Go.IntKind.i64 0,Value.int Go.IntKind.i64 0,Value.int Go.IntKind.i64 0]:=zAg (zv:=Value.agg #[Value.int Go.IntKind.i64 0,Value.int Go.IntKind.i64 0,Value.int Go.IntKind.i64 0]) (by kernel_rfl) rfl Tryz.underlying139 (by kernel_rfl)
instance : TyI Tryz.prog 141 (TypeDesc.struct #[{ name := "Spot",type:=139,offset:=0,embedded:=false,tag := "",pkgPath := "",byteOffset:=0 },{ name := "Clock",type:=3,offset:=3,embedded:=false,tag := "",pkgPath := "",byteOffset:=24 }]) 4 true:=⟨Tryz.underlying141,Tryz.sizeOf141,Tryz.isAgg141⟩
instance : TyB Tryz.prog 141 [(0,3),(3,1)] [Value.int Go.IntKind.i64 0,Value.int Go.IntKind.i64 0,Value.int Go.IntKind.i64 0,Value.int Go.IntKind.i64 0]:=zAg (zv:=Value.agg #[Value.int Go.IntKind.i64 0,Value.int Go.IntKind.i64 0,Value.int Go.IntKind.i64 0,Value.int Go.IntKind.i64 0]) (by kernel_rfl) rfl Tryz.underlying141 (by kernel_rfl)
instance : TyI Tryz.prog 143 (TypeDesc.func #[] #[38] false) 1 false:=⟨Tryz.underlying143,Tryz.sizeOf143,Tryz.isAgg143⟩
instance : TyZ Tryz.prog 143 [Value.nilFunc]:=⟨fun w=>⟨_,Tryz.zeroValue143 w,rfl⟩⟩
instance : TyI Tryz.prog 148 (TypeDesc.struct #[{ name := "Beam",type:=3,offset:=0,embedded:=false,tag := "",pkgPath := "",byteOffset:=0 },{ name := "Read",type:=3,offset:=1,embedded:=false,tag := "",pkgPath := "",byteOffset:=8 }]) 2 true:=⟨Tryz.underlying148,Tryz.sizeOf148,Tryz.isAgg148⟩
instance : TyZ Tryz.prog 148 [Value.int Go.IntKind.i64 0,Value.int Go.IntKind.i64 0]:=⟨fun w=>⟨_,Tryz.zeroValue148 w,rfl⟩⟩
instance : TyB Tryz.prog 148 [(0,1),(1,1)] [Value.int Go.IntKind.i64 0,Value.int Go.IntKind.i64 0]:=zAg (zv:=Value.agg #[Value.int Go.IntKind.i64 0,Value.int Go.IntKind.i64 0]) (by kernel_rfl) rfl Tryz.underlying148 (by kernel_rfl)
instance : TyI Tryz.prog 155 (TypeDesc.func #[141] #[4] false) 1 false:=⟨Tryz.underlying155,Tryz.sizeOf155,Tryz.isAgg155⟩
instance : TyI Tryz.prog 156 (TypeDesc.slice 143) 1 false:=⟨Tryz.underlying156,Tryz.sizeOf156,Tryz.isAgg156⟩
instance : TyZ Tryz.prog 156 [Value.slice none 0 0]:=⟨fun w=>⟨_,Tryz.zeroValue156 w,rfl⟩⟩
instance : TyI Tryz.prog 157 (TypeDesc.slice 162) 1 false:=⟨Tryz.underlying157,Tryz.sizeOf157,Tryz.isAgg157⟩
instance : TyZ Tryz.prog 157 [Value.slice none 0 0]:=⟨fun w=>⟨_,Tryz.zeroValue157 w,rfl⟩⟩
instance : TyI Tryz.prog 158 (TypeDesc.slice 164) 1 false:=⟨Tryz.underlying158,Tryz.sizeOf158,Tryz.isAgg158⟩
instance : TyZ Tryz.prog 158 [Value.slice none 0 0]:=⟨fun w=>⟨_,Tryz.zeroValue158 w,rfl⟩⟩
instance : TyI Tryz.prog 160 (TypeDesc.struct #[{ name := "Line",type:=28,offset:=0,embedded:=true,tag := "",pkgPath := "",byteOffset:=0 },{ name := "ride",type:=60,offset:=7,embedded:=false,tag := "",pkgPath := "kreisel/beam",byteOffset:=104 },{ name := "least",type:=47,offset:=10,embedded:=false,tag := "",pkgPath := "kreisel/beam",byteOffset:=144 },{ name := "times",type:=157,offset:=11,embedded:=false,tag := "",pkgPath := "kreisel/beam",byteOffset:=168 },{ name := "forward",type:=158,offset:=12,embedded:=false,tag := "",pkgPath := "kreisel/beam",byteOffset:=192 },{ name := "back",type:=158,offset:=13,embedded:=false,tag := "",pkgPath := "kreisel/beam",byteOffset:=216 }]) 14 true:=⟨Tryz.underlying160,Tryz.sizeOf160,Tryz.isAgg160⟩
instance : TyZ Tryz.prog 160 [Value.slice none 0 0,Value.int Go.IntKind.i64 0,Value.slice none 0 0,Value.slice none 0 0,Value.int Go.IntKind.i64 0,Value.int Go.IntKind.i64 0,Value.int Go.IntKind.i64 0,Value.int Go.IntKind.i64 0,Value.int Go.IntKind.i64 0,Value.slice none 0 0,Value.slice none 0 0,Value.slice none 0 0,Value.slice none 0 0,Value.slice none 0 0]:=⟨fun w=>⟨_,Tryz.zeroValue160 w,rfl⟩⟩
instance : TyB Tryz.prog 160 [(0,7),(7,3),(10,1),(11,1),(12,1),(13,1)] [Value.slice none 0 0,Value.int Go.IntKind.i64 0,Value.slice none 0 0,Value.slice none 0 0,Value.int Go.IntKind.i64 0,Value.int Go.IntKind.i64 0,Value.int Go.IntKind.i64 0,Value.int Go.IntKind.i64 0,Value.int Go.IntKind.i64 0,Value.slice none 0 0,Value.slice none 0 0,Value.slice none 0 0,Value.slice none 0 0,Value.slice none 0 0]:=zAg (zv:=Value.agg #[Value.slice none 0 0,Value.int Go.IntKind.i64 0,Value.slice none 0 0,Value.slice none 0 0,Value.int Go.IntKind.i64 0,Value.int Go.IntKind.i64 0,Value.int Go.IntKind.i64 0,Value.int Go.IntKind.i64 0,Value.int Go.IntKind.i64 0,Value.slice none 0 0,Value.slice none 0 0,Value.slice none 0 0,Value.slice none 0 0,Value.slice none 0 0]) (by kernel_rfl) rfl Tryz.underlying160 (by kernel_rfl)
instance : TyI Tryz.prog 162 (TypeDesc.map 3 85) 1 false:=⟨Tryz.underlying162,Tryz.sizeOf162,Tryz.isAgg162⟩
instance : TyZ Tryz.prog 162 [Value.map none]:=⟨fun w=>⟨_,Tryz.zeroValue162 w,rfl⟩⟩
instance : TyI Tryz.prog 164 (TypeDesc.map 166 3) 1 false:=⟨Tryz.underlying164,Tryz.sizeOf164,Tryz.isAgg164⟩
instance : TyZ Tryz.prog 164 [Value.map none]:=⟨fun w=>⟨_,Tryz.zeroValue164 w,rfl⟩⟩
instance : TyI Tryz.prog 166 (TypeDesc.struct #[{ name := "right",type:=3,offset:=0,embedded:=false,tag := "",pkgPath := "kreisel/beam",byteOffset:=0 },{ name := "missed",type:=3,offset:=1,embedded:=false,tag := "",pkgPath := "kreisel/beam",byteOffset:=8 }]) 2 true:=⟨Tryz.underlying166,Tryz.sizeOf166,Tryz.isAgg166⟩
instance : TyZ Tryz.prog 166 [Value.int Go.IntKind.i64 0,Value.int Go.IntKind.i64 0]:=⟨fun w=>⟨_,Tryz.zeroValue166 w,rfl⟩⟩
instance : TyB Tryz.prog 166 [(0,1),(1,1)] [Value.int Go.IntKind.i64 0,Value.int Go.IntKind.i64 0]:=zAg (zv:=Value.agg #[Value.int Go.IntKind.i64 0,Value.int Go.IntKind.i64 0]) (by kernel_rfl) rfl Tryz.underlying166 (by kernel_rfl)
instance : TyI Tryz.prog 169 (TypeDesc.struct #[{ name := "At",type:=3,offset:=0,embedded:=false,tag := "",pkgPath := "",byteOffset:=0 },{ name := "Ahead",type:=85,offset:=1,embedded:=false,tag := "",pkgPath := "",byteOffset:=8 }]) 3 true:=⟨Tryz.underlying169,Tryz.sizeOf169,Tryz.isAgg169⟩
instance : TyZ Tryz.prog 169 [Value.int Go.IntKind.i64 0,Value.int Go.IntKind.i64 0,Value.int Go.IntKind.i64 0]:=⟨fun w=>⟨_,Tryz.zeroValue169 w,rfl⟩⟩
instance : TyB Tryz.prog 169 [(0,1),(1,2)] [Value.int Go.IntKind.i64 0,Value.int Go.IntKind.i64 0,Value.int Go.IntKind.i64 0]:=zAg (zv:=Value.agg #[Value.int Go.IntKind.i64 0,Value.int Go.IntKind.i64 0,Value.int Go.IntKind.i64 0]) (by kernel_rfl) rfl Tryz.underlying169 (by kernel_rfl)
instance : TyI Tryz.prog 172 (TypeDesc.func #[3,85] #[4] false) 1 false:=⟨Tryz.underlying172,Tryz.sizeOf172,Tryz.isAgg172⟩
instance : TyI Tryz.prog 179 (TypeDesc.struct #[{ name := "Track",type:=24,offset:=0,embedded:=true,tag := "",pkgPath := "",byteOffset:=0 }]) 1 true:=⟨Tryz.underlying179,Tryz.sizeOf179,Tryz.isAgg179⟩
instance : TyZ Tryz.prog 179 [Value.slice none 0 0]:=⟨fun w=>⟨_,Tryz.zeroValue179 w,rfl⟩⟩
instance : TyB Tryz.prog 179 [(0,1)] [Value.slice none 0 0]:=zAg (zv:=Value.agg #[Value.slice none 0 0]) (by kernel_rfl) rfl Tryz.underlying179 (by kernel_rfl)
instance : TyI Tryz.prog 191 (TypeDesc.slice 139) 1 false:=⟨Tryz.underlying191,Tryz.sizeOf191,Tryz.isAgg191⟩
instance : TyZ Tryz.prog 191 [Value.slice none 0 0]:=⟨fun w=>⟨_,Tryz.zeroValue191 w,rfl⟩⟩
instance : TyI Tryz.prog 193 (TypeDesc.func #[3,139] #[4] false) 1 false:=⟨Tryz.underlying193,Tryz.sizeOf193,Tryz.isAgg193⟩
instance : FoI Tryz.prog 24 0 0:=foI (T:=24) (m:=0) inferInstance rfl (inferInstance:TyI Tryz.prog 22 _ _ _) rfl rfl
instance : FoI Tryz.prog 28 0 0:=foI (T:=28) (m:=0) inferInstance rfl (inferInstance:TyI Tryz.prog 24 _ _ _) rfl rfl
instance : FoI Tryz.prog 28 1 1:=foI (T:=28) (m:=1) inferInstance rfl (inferInstance:TyI Tryz.prog 3 _ _ _) rfl rfl
instance : FoI Tryz.prog 28 2 2:=foI (T:=28) (m:=2) inferInstance rfl (inferInstance:TyI Tryz.prog 25 _ _ _) rfl rfl
instance : FoI Tryz.prog 28 3 3:=foI (T:=28) (m:=3) inferInstance rfl (inferInstance:TyI Tryz.prog 26 _ _ _) rfl rfl
instance : FoI Tryz.prog 28 4 4:=foI (T:=28) (m:=4) inferInstance rfl (inferInstance:TyI Tryz.prog 3 _ _ _) rfl rfl
instance : FoI Tryz.prog 28 5 5:=foI (T:=28) (m:=5) inferInstance rfl (inferInstance:TyI Tryz.prog 3 _ _ _) rfl rfl
instance : FoI Tryz.prog 28 6 6:=foI (T:=28) (m:=6) inferInstance rfl (inferInstance:TyI Tryz.prog 3 _ _ _) rfl rfl
instance : FoI Tryz.prog 33 0 0:=foI (T:=33) (m:=0) inferInstance rfl (inferInstance:TyI Tryz.prog 3 _ _ _) rfl rfl
instance : FoI Tryz.prog 33 1 1:=foI (T:=33) (m:=1) inferInstance rfl (inferInstance:TyI Tryz.prog 3 _ _ _) rfl rfl
instance : FoI Tryz.prog 33 2 2:=foI (T:=33) (m:=2) inferInstance rfl (inferInstance:TyI Tryz.prog 3 _ _ _) rfl rfl
instance : FoI Tryz.prog 36 0 0:=foI (T:=36) (m:=0) inferInstance rfl (inferInstance:TyI Tryz.prog 28 _ _ _) rfl rfl
instance : FoI Tryz.prog 36 1 7:=foI (T:=36) (m:=1) inferInstance rfl (inferInstance:TyI Tryz.prog 29 _ _ _) rfl rfl
instance : FoI Tryz.prog 36 2 8:=foI (T:=36) (m:=2) inferInstance rfl (inferInstance:TyI Tryz.prog 30 _ _ _) rfl rfl
instance : FoI Tryz.prog 36 3 9:=foI (T:=36) (m:=3) inferInstance rfl (inferInstance:TyI Tryz.prog 3 _ _ _) rfl rfl
instance : FoI Tryz.prog 36 4 10:=foI (T:=36) (m:=4) inferInstance rfl (inferInstance:TyI Tryz.prog 3 _ _ _) rfl rfl
instance : FoI Tryz.prog 36 5 11:=foI (T:=36) (m:=5) inferInstance rfl (inferInstance:TyI Tryz.prog 3 _ _ _) rfl rfl
instance : FoI Tryz.prog 36 6 12:=foI (T:=36) (m:=6) inferInstance rfl (inferInstance:TyI Tryz.prog 3 _ _ _) rfl rfl
instance : FoI Tryz.prog 36 7 13:=foI (T:=36) (m:=7) inferInstance rfl (inferInstance:TyI Tryz.prog 3 _ _ _) rfl rfl
instance : FoI Tryz.prog 36 8 14:=foI (T:=36) (m:=8) inferInstance rfl (inferInstance:TyI Tryz.prog 3 _ _ _) rfl rfl
instance : FoI Tryz.prog 36 9 15:=foI (T:=36) (m:=9) inferInstance rfl (inferInstance:TyI Tryz.prog 31 _ _ _) rfl rfl
instance : FoI Tryz.prog 36 10 16:=foI (T:=36) (m:=10) inferInstance rfl (inferInstance:TyI Tryz.prog 34 _ _ _) rfl rfl
instance : FoI Tryz.prog 57 0 0:=foI (T:=57) (m:=0) inferInstance rfl (inferInstance:TyI Tryz.prog 3 _ _ _) rfl rfl
instance : FoI Tryz.prog 57 1 1:=foI (T:=57) (m:=1) inferInstance rfl (inferInstance:TyI Tryz.prog 3 _ _ _) rfl rfl
instance : FoI Tryz.prog 57 2 2:=foI (T:=57) (m:=2) inferInstance rfl (inferInstance:TyI Tryz.prog 3 _ _ _) rfl rfl
instance : FoI Tryz.prog 57 3 3:=foI (T:=57) (m:=3) inferInstance rfl (inferInstance:TyI Tryz.prog 55 _ _ _) rfl rfl
instance : FoI Tryz.prog 60 0 0:=foI (T:=60) (m:=0) inferInstance rfl (inferInstance:TyI Tryz.prog 3 _ _ _) rfl rfl
instance : FoI Tryz.prog 60 1 1:=foI (T:=60) (m:=1) inferInstance rfl (inferInstance:TyI Tryz.prog 3 _ _ _) rfl rfl
instance : FoI Tryz.prog 60 2 2:=foI (T:=60) (m:=2) inferInstance rfl (inferInstance:TyI Tryz.prog 58 _ _ _) rfl rfl
instance : FoI Tryz.prog 77 0 0:=foI (T:=77) (m:=0) inferInstance rfl (inferInstance:TyI Tryz.prog 3 _ _ _) rfl rfl
instance : FoI Tryz.prog 77 1 1:=foI (T:=77) (m:=1) inferInstance rfl (inferInstance:TyI Tryz.prog 75 _ _ _) rfl rfl
instance : FoI Tryz.prog 80 0 0:=foI (T:=80) (m:=0) inferInstance rfl (inferInstance:TyI Tryz.prog 36 _ _ _) rfl rfl
instance : FoI Tryz.prog 80 1 25:=foI (T:=80) (m:=1) inferInstance rfl (inferInstance:TyI Tryz.prog 47 _ _ _) rfl rfl
instance : FoI Tryz.prog 80 2 26:=foI (T:=80) (m:=2) inferInstance rfl (inferInstance:TyI Tryz.prog 3 _ _ _) rfl rfl
instance : FoI Tryz.prog 85 0 0:=foI (T:=85) (m:=0) inferInstance rfl (inferInstance:TyI Tryz.prog 3 _ _ _) rfl rfl
instance : FoI Tryz.prog 85 1 1:=foI (T:=85) (m:=1) inferInstance rfl (inferInstance:TyI Tryz.prog 3 _ _ _) rfl rfl
instance : FoI Tryz.prog 104 0 0:=foI (T:=104) (m:=0) inferInstance rfl (inferInstance:TyI Tryz.prog 3 _ _ _) rfl rfl
instance : FoI Tryz.prog 104 1 1:=foI (T:=104) (m:=1) inferInstance rfl (inferInstance:TyI Tryz.prog 3 _ _ _) rfl rfl
instance : FoI Tryz.prog 104 2 2:=foI (T:=104) (m:=2) inferInstance rfl (inferInstance:TyI Tryz.prog 3 _ _ _) rfl rfl
instance : FoI Tryz.prog 108 0 0:=foI (T:=108) (m:=0) inferInstance rfl (inferInstance:TyI Tryz.prog 3 _ _ _) rfl rfl
instance : FoI Tryz.prog 108 1 1:=foI (T:=108) (m:=1) inferInstance rfl (inferInstance:TyI Tryz.prog 3 _ _ _) rfl rfl
instance : FoI Tryz.prog 121 0 0:=foI (T:=121) (m:=0) inferInstance rfl (inferInstance:TyI Tryz.prog 47 _ _ _) rfl rfl
instance : FoI Tryz.prog 121 1 1:=foI (T:=121) (m:=1) inferInstance rfl (inferInstance:TyI Tryz.prog 118 _ _ _) rfl rfl
instance : FoI Tryz.prog 121 2 2:=foI (T:=121) (m:=2) inferInstance rfl (inferInstance:TyI Tryz.prog 119 _ _ _) rfl rfl
instance : FoI Tryz.prog 124 0 0:=foI (T:=124) (m:=0) inferInstance rfl (inferInstance:TyI Tryz.prog 47 _ _ _) rfl rfl
instance : FoI Tryz.prog 124 1 1:=foI (T:=124) (m:=1) inferInstance rfl (inferInstance:TyI Tryz.prog 47 _ _ _) rfl rfl
instance : FoI Tryz.prog 124 2 2:=foI (T:=124) (m:=2) inferInstance rfl (inferInstance:TyI Tryz.prog 47 _ _ _) rfl rfl
instance : FoI Tryz.prog 126 0 0:=foI (T:=126) (m:=0) inferInstance rfl (inferInstance:TyI Tryz.prog 54 _ _ _) rfl rfl
instance : FoI Tryz.prog 134 0 0:=foI (T:=134) (m:=0) inferInstance rfl (inferInstance:TyI Tryz.prog 3 _ _ _) rfl rfl
instance : FoI Tryz.prog 134 1 1:=foI (T:=134) (m:=1) inferInstance rfl (inferInstance:TyI Tryz.prog 85 _ _ _) rfl rfl
instance : FoI Tryz.prog 134 2 3:=foI (T:=134) (m:=2) inferInstance rfl (inferInstance:TyI Tryz.prog 85 _ _ _) rfl rfl
instance : FoI Tryz.prog 134 3 5:=foI (T:=134) (m:=3) inferInstance rfl (inferInstance:TyI Tryz.prog 85 _ _ _) rfl rfl
instance : FoI Tryz.prog 134 4 7:=foI (T:=134) (m:=4) inferInstance rfl (inferInstance:TyI Tryz.prog 5 _ _ _) rfl rfl
instance : FoI Tryz.prog 134 5 8:=foI (T:=134) (m:=5) inferInstance rfl (inferInstance:TyI Tryz.prog 3 _ _ _) rfl rfl
instance : FoI Tryz.prog 139 0 0:=foI (T:=139) (m:=0) inferInstance rfl (inferInstance:TyI Tryz.prog 3 _ _ _) rfl rfl
instance : FoI Tryz.prog 139 1 1:=foI (T:=139) (m:=1) inferInstance rfl (inferInstance:TyI Tryz.prog 85 _ _ _) rfl rfl
instance : FoI Tryz.prog 141 0 0:=foI (T:=141) (m:=0) inferInstance rfl (inferInstance:TyI Tryz.prog 139 _ _ _) rfl rfl
instance : FoI Tryz.prog 141 1 3:=foI (T:=141) (m:=1) inferInstance rfl (inferInstance:TyI Tryz.prog 3 _ _ _) rfl rfl
instance : FoI Tryz.prog 148 0 0:=foI (T:=148) (m:=0) inferInstance rfl (inferInstance:TyI Tryz.prog 3 _ _ _) rfl rfl
instance : FoI Tryz.prog 148 1 1:=foI (T:=148) (m:=1) inferInstance rfl (inferInstance:TyI Tryz.prog 3 _ _ _) rfl rfl
instance : FoI Tryz.prog 160 0 0:=foI (T:=160) (m:=0) inferInstance rfl (inferInstance:TyI Tryz.prog 28 _ _ _) rfl rfl
instance : FoI Tryz.prog 160 1 7:=foI (T:=160) (m:=1) inferInstance rfl (inferInstance:TyI Tryz.prog 60 _ _ _) rfl rfl
instance : FoI Tryz.prog 160 2 10:=foI (T:=160) (m:=2) inferInstance rfl (inferInstance:TyI Tryz.prog 47 _ _ _) rfl rfl
instance : FoI Tryz.prog 160 3 11:=foI (T:=160) (m:=3) inferInstance rfl (inferInstance:TyI Tryz.prog 157 _ _ _) rfl rfl
instance : FoI Tryz.prog 160 4 12:=foI (T:=160) (m:=4) inferInstance rfl (inferInstance:TyI Tryz.prog 158 _ _ _) rfl rfl
instance : FoI Tryz.prog 160 5 13:=foI (T:=160) (m:=5) inferInstance rfl (inferInstance:TyI Tryz.prog 158 _ _ _) rfl rfl
instance : FoI Tryz.prog 166 0 0:=foI (T:=166) (m:=0) inferInstance rfl (inferInstance:TyI Tryz.prog 3 _ _ _) rfl rfl
instance : FoI Tryz.prog 166 1 1:=foI (T:=166) (m:=1) inferInstance rfl (inferInstance:TyI Tryz.prog 3 _ _ _) rfl rfl
instance : FoI Tryz.prog 169 0 0:=foI (T:=169) (m:=0) inferInstance rfl (inferInstance:TyI Tryz.prog 3 _ _ _) rfl rfl
instance : FoI Tryz.prog 169 1 1:=foI (T:=169) (m:=1) inferInstance rfl (inferInstance:TyI Tryz.prog 85 _ _ _) rfl rfl
instance : FoI Tryz.prog 179 0 0:=foI (T:=179) (m:=0) inferInstance rfl (inferInstance:TyI Tryz.prog 24 _ _ _) rfl rfl
instance : zr Tryz.prog 2:=⟨Tryz.call2⟩
instance : zr Tryz.prog 3:=⟨Tryz.call3⟩
instance : zr Tryz.prog 4:=⟨Tryz.call4⟩
instance : zr Tryz.prog 5:=⟨Tryz.call5⟩
instance : zr Tryz.prog 6:=⟨Tryz.call6⟩
instance : zr Tryz.prog 7:=⟨Tryz.call7⟩
instance : zr Tryz.prog 8:=⟨Tryz.call8⟩
instance : zr Tryz.prog 9:=⟨Tryz.call9⟩
instance : zr Tryz.prog 10:=⟨Tryz.call10⟩
instance : zr Tryz.prog 11:=⟨Tryz.call11⟩
instance : zr Tryz.prog 12:=⟨Tryz.call12⟩
instance : zr Tryz.prog 13:=⟨Tryz.call13⟩
instance : zr Tryz.prog 14:=⟨Tryz.call14⟩
instance : zr Tryz.prog 15:=⟨Tryz.call15⟩
instance : zr Tryz.prog 16:=⟨Tryz.call16⟩
instance : zr Tryz.prog 17:=⟨Tryz.call17⟩
instance : zr Tryz.prog 18:=⟨Tryz.call18⟩
instance : zr Tryz.prog 19:=⟨Tryz.call19⟩
instance : zr Tryz.prog 20:=⟨Tryz.call20⟩
instance : zr Tryz.prog 21:=⟨Tryz.call21⟩
instance : zr Tryz.prog 22:=⟨Tryz.call22⟩
instance : zr Tryz.prog 23:=⟨Tryz.call23⟩
instance : zr Tryz.prog 24:=⟨Tryz.call24⟩
instance : zr Tryz.prog 25:=⟨Tryz.call25⟩
instance : zr Tryz.prog 26:=⟨Tryz.call26⟩
instance : zr Tryz.prog 27:=⟨Tryz.call27⟩
instance : zr Tryz.prog 28:=⟨Tryz.call28⟩
instance : zr Tryz.prog 29:=⟨Tryz.call29⟩
instance : zr Tryz.prog 30:=⟨Tryz.call30⟩
instance : zr Tryz.prog 31:=⟨Tryz.call31⟩
instance : zr Tryz.prog 32:=⟨Tryz.call32⟩
instance : zr Tryz.prog 33:=⟨Tryz.call33⟩
instance : zr Tryz.prog 34:=⟨Tryz.call34⟩
instance : zr Tryz.prog 35:=⟨Tryz.call35⟩
instance : zr Tryz.prog 36:=⟨Tryz.call36⟩
instance : zr Tryz.prog 37:=⟨Tryz.call37⟩
instance : zr Tryz.prog 38:=⟨Tryz.call38⟩
instance : zr Tryz.prog 39:=⟨Tryz.call39⟩
instance : zr Tryz.prog 40:=⟨Tryz.call40⟩
instance : zr Tryz.prog 41:=⟨Tryz.call41⟩
instance : zr Tryz.prog 42:=⟨Tryz.call42⟩
instance : zr Tryz.prog 43:=⟨Tryz.call43⟩
instance : zr Tryz.prog 44:=⟨Tryz.call44⟩
instance : zr Tryz.prog 45:=⟨Tryz.call45⟩
instance : zr Tryz.prog 46:=⟨Tryz.call46⟩
instance : zr Tryz.prog 47:=⟨Tryz.call47⟩
instance : zr Tryz.prog 48:=⟨Tryz.call48⟩
instance : zr Tryz.prog 49:=⟨Tryz.call49⟩
instance : zr Tryz.prog 50:=⟨Tryz.call50⟩
instance : zr Tryz.prog 51:=⟨Tryz.call51⟩
instance : zr Tryz.prog 52:=⟨Tryz.call52⟩
instance : zr Tryz.prog 53:=⟨Tryz.call53⟩
instance : zr Tryz.prog 54:=⟨Tryz.call54⟩
instance : zr Tryz.prog 55:=⟨Tryz.call55⟩
instance : zr Tryz.prog 56:=⟨Tryz.call56⟩
instance : zr Tryz.prog 57:=⟨Tryz.call57⟩
instance : zr Tryz.prog 58:=⟨Tryz.call58⟩
instance : zr Tryz.prog 59:=⟨Tryz.call59⟩
instance : zr Tryz.prog 60:=⟨Tryz.call60⟩
instance : zr Tryz.prog 61:=⟨Tryz.call61⟩
instance : zr Tryz.prog 62:=⟨Tryz.call62⟩
instance : zr Tryz.prog 63:=⟨Tryz.call63⟩
instance : zr Tryz.prog 64:=⟨Tryz.call64⟩
instance : zr Tryz.prog 65:=⟨Tryz.call65⟩
instance : zr Tryz.prog 66:=⟨Tryz.call66⟩
instance : zr Tryz.prog 67:=⟨Tryz.call67⟩
instance : zr Tryz.prog 68:=⟨Tryz.call68⟩
instance : zr Tryz.prog 69:=⟨Tryz.call69⟩
instance : zr Tryz.prog 70:=⟨Tryz.call70⟩
instance : zr Tryz.prog 71:=⟨Tryz.call71⟩
instance : zr Tryz.prog 72:=⟨Tryz.call72⟩
instance : zr Tryz.prog 73:=⟨Tryz.call73⟩
instance : zr Tryz.prog 74:=⟨Tryz.call74⟩
instance : zr Tryz.prog 75:=⟨Tryz.call75⟩
instance : zr Tryz.prog 76:=⟨Tryz.call76⟩
instance : zr Tryz.prog 77:=⟨Tryz.call77⟩
instance : zr Tryz.prog 78:=⟨Tryz.call78⟩
instance : zr Tryz.prog 79:=⟨Tryz.call79⟩
instance : zr Tryz.prog 80:=⟨Tryz.call80⟩
instance : zr Tryz.prog 81:=⟨Tryz.call81⟩
instance : zr Tryz.prog 82:=⟨Tryz.call82⟩
instance : zr Tryz.prog 83:=⟨Tryz.call83⟩
instance : zr Tryz.prog 84:=⟨Tryz.call84⟩
instance : zr Tryz.prog 85:=⟨Tryz.call85⟩
instance : zr Tryz.prog 86:=⟨Tryz.call86⟩
instance : zr Tryz.prog 87:=⟨Tryz.call87⟩
instance : zr Tryz.prog 88:=⟨Tryz.call88⟩
instance : zr Tryz.prog 89:=⟨Tryz.call89⟩
instance : zr Tryz.prog 90:=⟨Tryz.call90⟩
instance : zr Tryz.prog 91:=⟨Tryz.call91⟩
instance : zr Tryz.prog 92:=⟨Tryz.call92⟩
instance : zr Tryz.prog 93:=⟨Tryz.call93⟩
instance : zr Tryz.prog 94:=⟨Tryz.call94⟩
instance : zr Tryz.prog 95:=⟨Tryz.call95⟩
instance : zr Tryz.prog 96:=⟨Tryz.call96⟩
instance : zr Tryz.prog 97:=⟨Tryz.call97⟩
instance : zr Tryz.prog 98:=⟨Tryz.call98⟩
instance : zr Tryz.prog 99:=⟨Tryz.call99⟩
instance : zr Tryz.prog 100:=⟨Tryz.call100⟩
instance : zr Tryz.prog 101:=⟨Tryz.call101⟩
instance : zr Tryz.prog 102:=⟨Tryz.call102⟩
instance : zr Tryz.prog 103:=⟨Tryz.call103⟩
instance : zr Tryz.prog 104:=⟨Tryz.call104⟩
instance : zr Tryz.prog 105:=⟨Tryz.call105⟩
instance : zr Tryz.prog 106:=⟨Tryz.call106⟩
instance : zr Tryz.prog 107:=⟨Tryz.call107⟩
instance : zr Tryz.prog 108:=⟨Tryz.call108⟩
instance : zr Tryz.prog 109:=⟨Tryz.call109⟩
instance : zr Tryz.prog 110:=⟨Tryz.call110⟩
instance : zr Tryz.prog 111:=⟨Tryz.call111⟩
instance : zr Tryz.prog 112:=⟨Tryz.call112⟩
instance : zr Tryz.prog 113:=⟨Tryz.call113⟩
instance : zr Tryz.prog 114:=⟨Tryz.call114⟩
instance : zr Tryz.prog 115:=⟨Tryz.call115⟩
instance : zr Tryz.prog 116:=⟨Tryz.call116⟩
instance : zr Tryz.prog 117:=⟨Tryz.call117⟩
instance : zr Tryz.prog 118:=⟨Tryz.call118⟩
end Go.Proofs.YtfiekidciiighaaGreat
