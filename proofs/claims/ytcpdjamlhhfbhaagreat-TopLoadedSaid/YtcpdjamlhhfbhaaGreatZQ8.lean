/- ZQ8 -/
import Derived.Test.YtcpdjamlhhfbhaaGreatZQ7
import Derived.Test.YtcpdjamlhhfbhaaGreatZQ6
import Derived.Shelf.SlSortCmp.NoneTotal
import Derived.Shelf.Sort.Plain
import Derived.Shelf.Slices.In.SortNone
import Derived.Scope
set_option linter.unusedSimpArgs false
set_option linter.unusedVariables false
namespace Go.Proofs.YtcpdjamlhhfbhaaGreat
variable {ro : Option Nat}
open Go.RowKit
set_option maxRecDepth 20000
def vSl (s:SlM):Value:=.agg #[.int .u8 s.cls,.int .i64 s.start.lo,.int .i64 s.start.hi,.int .i64 s.rub.lo,.int .i64 s.rub.hi,.int .i64 s.drag.lo,.int .i64 s.drag.hi,.int .i64 s.weight.lo,.int .i64 s.weight.hi,.int .i64 s.steer.lo,.int .i64 s.steer.hi]
theorem zDw (n lo hi:Int) (w:World):Gv Tryz.prog 24 [.int .i64 n,.int .i64 lo,.int .i64 hi] w (.bool (inB lo hi n)):=by
 unfold Gv inB
 (refine ze (n:=15) Tryz.func24 rfl rfl rfl ?_)
 (repeat' (first|((with_reducible refine zV ?_);first|refine zO rfl rfl rfl ?_|refine zD rfl rfl rfl ?_|refine zr rfl rfl rfl rfl ?_|refine zN rfl rfl rfl ?_|(refine zd rfl rfl rfl rfl rfl (fun h=>?_) (fun h=>?_)<;>(dsimp only [cmpP] at h;(try (exfalso;omega)))))|(with_reducible first|refine zW ?_|refine zC ?_|refine zU ?_|refine zB ?_|refine zX ?_)))
 all_goals exact zk (by exact rTm rfl) () trivial (by simp [resV];omega) (fun _ h=>h.sub (by (repeat constructor)))
theorem zHo (s:Sp) (lo hi:Int) (w:World):Gv Tryz.prog 25 [.agg #[.int .i64 s.lo,.int .i64 s.hi],.int .i64 lo,.int .i64 hi] w (.bool (zAt s lo hi)):=by
 unfold Gv
 (refine ze (n:=19) Tryz.func25 rfl rfl rfl ?_)
 (repeat' (first|((with_reducible refine zV ?_);first|refine zO rfl rfl rfl ?_|refine zD rfl rfl rfl ?_|(refine zQ rfl rfl rfl ?_;refine ⟨_,rfl,?_⟩)|refine zS rfl rfl rfl ?_|refine zr rfl rfl rfl rfl ?_|refine zN rfl rfl rfl ?_|(refine zd rfl rfl rfl rfl rfl (fun h=>?_) (fun h=>?_)<;>(dsimp only [cmpP] at h;(try (exfalso;omega))))|(refine zBN rfl rfl rfl rfl (fun _ _ q=>zDw _ _ _ _) (fun h=>?_) (fun h=>?_)<;>(simp only [zAu,zEN] at h)<;>(try (exfalso;omega)))|(refine zl rfl rfl rfl rfl (fun b=>?_)))|(with_reducible first|refine zW ?_|refine zC ?_|refine zU ?_|refine zB ?_|refine zX ?_)))
 all_goals first|(refine zk (by exact rTm rfl) () trivial ?_ (fun _ h=>h.sub (by (repeat constructor)));refine congrArg Value.bool ?_;refine zAa.2 ?_;omega)|(refine zk (by exact rTm rfl) () trivial ?_ (fun _ h=>h.sub (by (repeat constructor)));refine congrArg Value.bool ?_;refine zBn.2 ?_;omega)
set_option maxHeartbeats 2000000 in
theorem zFs (s:SlM) (w:World) (hc:0≤s.cls∧s.cls≤255):Gv Tryz.prog 8 [vSl s] w (.bool (zDC s)):=by
 obtain ⟨B,hB⟩:∃ B,B=zDC s:=⟨_,rfl⟩
 have hno:(zBq s→False)→B=false:=fun h=>by rw [hB];exact Bool.eq_false_iff.2 (fun h9=>h (zB7.1 h9))
 have hyes:zBq s→B=true:=fun h=>by rw [hB];exact zB7.2 h
 rw [← hB]
 clear hB
 obtain ⟨cls,st,ru,dr,we,se⟩:=s
 simp only at hc
 unfold Gv vSl
 simp only
 (refine ze (n:=32) Tryz.func8 rfl rfl rfl ?_)
 (repeat' (first|((with_reducible refine zV ?_);first|refine zO rfl rfl rfl ?_|refine zD rfl rfl rfl ?_|(refine zQ rfl rfl rfl ?_;refine ⟨_,rfl,?_⟩)|refine zS rfl rfl rfl ?_|refine zr rfl rfl rfl rfl ?_|refine zN rfl rfl rfl ?_|(refine zBN rfl rfl rfl rfl (fun _ _ q=>zDw _ _ _ _) (fun h=>?_) (fun h=>?_)<;>(simp only [zAu,zEN] at h)<;>(try (exfalso;omega)))|(refine zBN rfl rfl rfl rfl (fun _ _ q=>zHo _ _ _ _) (fun h=>?_) (fun h=>?_)<;>(simp only [zAa,zBn] at h)<;>(try (exfalso;omega)))|(refine zl rfl rfl rfl rfl (fun b=>?_))|refine zEF rfl rfl rfl (IntWalk.i64_in _ (by omega)) ?_)|(with_reducible first|refine zW ?_|refine zC ?_|refine zU ?_|refine zB ?_|refine zX ?_)))
 all_goals first|(refine zk (by exact rTm rfl) () trivial ?_ (fun _ h=>h.sub (by (repeat constructor)));refine congrArg Value.bool (hyes ⟨by simp only;omega,by simp only;omega,by simp only;omega,by simp only;omega,by simp only;omega,by simp only;omega⟩);done)|(refine zk (by exact rTm rfl) () trivial ?_ (fun _ h=>h.sub (by (repeat constructor)));refine congrArg Value.bool (hno fun hF=>?_);have h1:=hF.cls;have h2:=hF.start;have h3:=hF.rub;have h4:=hF.drag;have h5:=hF.weight;have h6:=hF.steer;simp only at h1 h2 h3 h4 h5 h6;omega)
end Go.Proofs.YtcpdjamlhhfbhaaGreat
namespace Go.Proofs.YtcpdjamlhhfbhaaGreat.Two
open Go.ChangeShapes Go.WideShapes Go.ChangeAt Go.RowKit
set_option maxRecDepth 20000
section
variable {H : Type} {enc:TypeId × Value→H} {w:World} {held:Bool} {n:Nat} {cs:List Value} {x:DataW H × List MemPlace}
set_option maxRecDepth 20000 in
theorem open_sl {base:Nat} {r:Reach} {v:Value} {dd:DataW H} {p:List MemPlace} (hv:Value.okWide Tryz.prog w r base 28 v) (h:DataW.Trod enc Tryz.prog w 0 (fun _=>true) held 28 v dd p):∃ s:SlM,v=vSl s∧0≤s.cls∧s.cls≤255:=by
 obtain ⟨cs,rfl,_⟩:=okWide_struct Tryz.underlying28 hv
 obtain ⟨fuel,hf⟩:=h
 have hl:=zCu Tryz.underlying28 hf (k:=11) (by kernel_rfl)
 obtain ⟨n0,y0,h0⟩:=zAG Tryz.underlying28 hf (j:=0) rfl rfl (k:=1) (by kernel_rfl)
 obtain ⟨n1,y1,h1⟩:=zAG Tryz.underlying28 hf (j:=1) rfl rfl (k:=2) (by kernel_rfl)
 obtain ⟨n2,y2,h2⟩:=zAG Tryz.underlying28 hf (j:=2) rfl rfl (k:=2) (by kernel_rfl)
 obtain ⟨n3,y3,h3⟩:=zAG Tryz.underlying28 hf (j:=3) rfl rfl (k:=2) (by kernel_rfl)
 obtain ⟨n4,y4,h4⟩:=zAG Tryz.underlying28 hf (j:=4) rfl rfl (k:=2) (by kernel_rfl)
 obtain ⟨n5,y5,h5⟩:=zAG Tryz.underlying28 hf (j:=5) rfl rfl (k:=2) (by kernel_rfl)
 obtain ⟨c,e0,f0⟩:=rd_u8 Tryz.underlying5 h0
 obtain ⟨s1,e1,_⟩:=zDZ h1
 obtain ⟨s2,e2,_⟩:=zDZ h2
 obtain ⟨s3,e3,_⟩:=zDZ h3
 obtain ⟨s4,e4,_⟩:=zDZ h4
 obtain ⟨s5,e5,_⟩:=zDZ h5
 refine ⟨⟨c,s1,s2,s3,s4,s5⟩,?_,f0⟩
 obtain ⟨l⟩:=cs
 match l,hl with
 | [c0,c1,c2,c3,c4,c5,c6,c7,c8,c9,c10],_ =>
  simp [Value.cells,zo] at e0 e1 e2 e3 e4 e5
  simp [vSl,e0,e1,e2,e3,e4,e5]
end
end Go.Proofs.YtcpdjamlhhfbhaaGreat.Two
namespace Go.Proofs.YtcpdjamlhhfbhaaGreat
open Go.Shelf
set_option maxRecDepth 20000
def zHe : Ren where
 f:=fun x=>match x with | 6=>119 | 15=>126 | 14=>140 | 28=>150 | 29=>151 | 20=>156 | 21=>157 | 22=>158 | 23=>159 | 24=>160 | 25=>161 | 26=>162 | 27=>163 | 46=>170 | 47=>165 | 48=>166 | 49=>171 | 50=>172 | 57=>174|n=>n
 t:=fun x=>match x with | 22=>55 | 24=>26 | 25=>195 | 3=>3 | 39=>198 | 0=>0 | 53=>102 | 55=>224 | 4=>4 | 46=>216 | 45=>215 | 50=>220 | 5=>5 | 9=>9 | 66=>234 | 70=>238 | 76=>242 | 77=>243|n=>n
 g:=fun n=>n
theorem sortSp : SlLaysF0.n6 Tryz.prog zHe where
 mixed:=by kernel_rfl
 f6:=⟨Tryz.f119.name,by decide,Tryz.func119.trans (congrArg some (by kernel_rfl))⟩
 f14:=⟨Tryz.f140.name,by decide,Tryz.func140.trans (congrArg some (by kernel_rfl))⟩
 f15:=Tryz.func126.trans (congrArg some (by kernel_rfl))
 f20:=⟨Tryz.f156.name,by decide,Tryz.func156.trans (congrArg some (by kernel_rfl))⟩
 f21:=⟨Tryz.f157.name,by decide,Tryz.func157.trans (congrArg some (by kernel_rfl))⟩
 f22:=⟨Tryz.f158.name,by decide,Tryz.func158.trans (congrArg some (by kernel_rfl))⟩
 f23:=⟨Tryz.f159.name,by decide,Tryz.func159.trans (congrArg some (by kernel_rfl))⟩
 f24:=⟨Tryz.f160.name,by decide,Tryz.func160.trans (congrArg some (by kernel_rfl))⟩
 f25:=⟨Tryz.f161.name,by decide,Tryz.func161.trans (congrArg some (by kernel_rfl))⟩
 f26:=⟨Tryz.f162.name,by decide,Tryz.func162.trans (congrArg some (by kernel_rfl))⟩
 f27:=⟨Tryz.f163.name,by decide,Tryz.func163.trans (congrArg some (by kernel_rfl))⟩
 f28:=Tryz.func150.trans (congrArg some (by kernel_rfl))
 f29:=Tryz.func151.trans (congrArg some (by kernel_rfl))
 f46:=⟨Tryz.f170.name,by decide,Tryz.func170.trans (congrArg some (by kernel_rfl))⟩
 f47:=Tryz.func165.trans (congrArg some (by kernel_rfl))
 f48:=Tryz.func166.trans (congrArg some (by kernel_rfl))
 f49:=⟨Tryz.f171.name,by decide,Tryz.func171.trans (congrArg some (by kernel_rfl))⟩
 f50:=⟨Tryz.f172.name,by decide,Tryz.func172.trans (congrArg some (by kernel_rfl))⟩
 f57:=⟨Tryz.f174.name,by decide,Tryz.func174.trans (congrArg some (by kernel_rfl))⟩
 t0:=Tryz.underlying0
 a0:=Tryz.isAgg0
 z0:=Tryz.sizeOf0
 v0:=Tryz.zeroValue0
 t3:=Tryz.underlying3
 a3:=Tryz.isAgg3
 z3:=Tryz.sizeOf3
 v3:=Tryz.zeroValue3
 t4:=Tryz.underlying4
 a4:=Tryz.isAgg4
 z4:=Tryz.sizeOf4
 v4:=Tryz.zeroValue4
 t5:=Tryz.underlying5
 a5:=Tryz.isAgg5
 z5:=Tryz.sizeOf5
 v5:=Tryz.zeroValue5
 t9:=Tryz.underlying9
 a9:=Tryz.isAgg9
 z9:=Tryz.sizeOf9
 v9:=Tryz.zeroValue9
 t22:=Tryz.underlying55
 a22:=Tryz.isAgg55
 z22:=Tryz.sizeOf55
 v22:=Tryz.zeroValue55
 t25:=Tryz.underlying195
 a25:=Tryz.isAgg195
 z25:=Tryz.sizeOf195
 v25:=Tryz.zeroValue195
 t39:=Tryz.underlying198
 a39:=Tryz.isAgg198
 z39:=Tryz.sizeOf198
 v39:=Tryz.zeroValue198
 t45:=Tryz.underlying215
 a45:=Tryz.isAgg215
 z45:=Tryz.sizeOf215
 v45:=Tryz.zeroValue215
 t46:=Tryz.underlying216
 a46:=Tryz.isAgg216
 z46:=Tryz.sizeOf216
 v46:=Tryz.zeroValue216
 t50:=Tryz.underlying220
 a50:=Tryz.isAgg220
 z50:=Tryz.sizeOf220
 v50:=Tryz.zeroValue220
 t53:=Tryz.underlying102
 a53:=Tryz.isAgg102
 z53:=Tryz.sizeOf102
 v53:=Tryz.zeroValue102
 t55:=Tryz.underlying224
 a55:=Tryz.isAgg224
 z55:=Tryz.sizeOf224
 v55:=Tryz.zeroValue224
 t66:=Tryz.underlying234
 a66:=Tryz.isAgg234
 z66:=Tryz.sizeOf234
 v66:=Tryz.zeroValue234
 t70:=Tryz.underlying238
 a70:=Tryz.isAgg238
 z70:=Tryz.sizeOf238
 v70:=Tryz.zeroValue238
 t76:=Tryz.underlying242
 a76:=Tryz.isAgg242
 z76:=Tryz.sizeOf242
 v76:=Tryz.zeroValue242
 t77:=Tryz.underlying243
 a77:=Tryz.isAgg243
 z77:=Tryz.sizeOf243
 v77:=Tryz.zeroValue243
end Go.Proofs.YtcpdjamlhhfbhaaGreat
namespace Go.Proofs.YtcpdjamlhhfbhaaGreat
open Go.Shelf
set_option maxRecDepth 20000
def zIa : Ren where
 f:=fun x=>match x with | 189=>87 | 125=>126 | 257=>125 | 128=>150 | 129=>151 | 294=>141 | 295=>142 | 296=>143 | 297=>144 | 298=>145 | 299=>146 | 216=>147 | 300=>148 | 301=>149 | 328=>164 | 329=>165 | 330=>166 | 331=>167 | 332=>168 | 215=>169 | 343=>173|n=>n
 t:=fun x=>match x with | 28=>32 | 3=>3 | 46=>198 | 0=>0 | 51=>102 | 53=>224 | 4=>4 | 183=>216 | 182=>215 | 131=>220 | 5=>5 | 9=>9 | 218=>234 | 222=>238 | 228=>242 | 229=>243|n=>n
 g:=fun n=>n
theorem sortI : Lays.n189 Tryz.prog zIa where
 mixed:=by kernel_rfl
 f125:=Tryz.func126.trans (congrArg some (by kernel_rfl))
 f128:=Tryz.func150.trans (congrArg some (by kernel_rfl))
 f129:=Tryz.func151.trans (congrArg some (by kernel_rfl))
 f189:=Tryz.func87.trans (congrArg some (by kernel_rfl))
 f215:=Tryz.func169.trans (congrArg some (by kernel_rfl))
 f216:=Tryz.func147.trans (congrArg some (by kernel_rfl))
 f257:=Tryz.func125.trans (congrArg some (by kernel_rfl))
 f294:=Tryz.func141.trans (congrArg some (by kernel_rfl))
 f295:=Tryz.func142.trans (congrArg some (by kernel_rfl))
 f296:=Tryz.func143.trans (congrArg some (by kernel_rfl))
 f297:=Tryz.func144.trans (congrArg some (by kernel_rfl))
 f298:=Tryz.func145.trans (congrArg some (by kernel_rfl))
 f299:=Tryz.func146.trans (congrArg some (by kernel_rfl))
 f300:=Tryz.func148.trans (congrArg some (by kernel_rfl))
 f301:=Tryz.func149.trans (congrArg some (by kernel_rfl))
 f328:=Tryz.func164.trans (congrArg some (by kernel_rfl))
 f329:=Tryz.func165.trans (congrArg some (by kernel_rfl))
 f330:=Tryz.func166.trans (congrArg some (by kernel_rfl))
 f331:=Tryz.func167.trans (congrArg some (by kernel_rfl))
 f332:=Tryz.func168.trans (congrArg some (by kernel_rfl))
 f343:=Tryz.func173.trans (congrArg some (by kernel_rfl))
 t0:=Tryz.underlying0
 a0:=Tryz.isAgg0
 z0:=Tryz.sizeOf0
 v0:=Tryz.zeroValue0
 t3:=Tryz.underlying3
 a3:=Tryz.isAgg3
 z3:=Tryz.sizeOf3
 v3:=Tryz.zeroValue3
 t4:=Tryz.underlying4
 a4:=Tryz.isAgg4
 z4:=Tryz.sizeOf4
 v4:=Tryz.zeroValue4
 t5:=Tryz.underlying5
 a5:=Tryz.isAgg5
 z5:=Tryz.sizeOf5
 v5:=Tryz.zeroValue5
 t9:=Tryz.underlying9
 a9:=Tryz.isAgg9
 z9:=Tryz.sizeOf9
 v9:=Tryz.zeroValue9
 t28:=Tryz.underlying32
 a28:=Tryz.isAgg32
 z28:=Tryz.sizeOf32
 v28:=Tryz.zeroValue32
 t46:=Tryz.underlying198
 a46:=Tryz.isAgg198
 z46:=Tryz.sizeOf198
 v46:=Tryz.zeroValue198
 t51:=Tryz.underlying102
 a51:=Tryz.isAgg102
 z51:=Tryz.sizeOf102
 v51:=Tryz.zeroValue102
 t53:=Tryz.underlying224
 a53:=Tryz.isAgg224
 z53:=Tryz.sizeOf224
 v53:=Tryz.zeroValue224
 t131:=Tryz.underlying220
 a131:=Tryz.isAgg220
 z131:=Tryz.sizeOf220
 v131:=Tryz.zeroValue220
 t182:=Tryz.underlying215
 a182:=Tryz.isAgg215
 z182:=Tryz.sizeOf215
 v182:=Tryz.zeroValue215
 t183:=Tryz.underlying216
 a183:=Tryz.isAgg216
 z183:=Tryz.sizeOf216
 v183:=Tryz.zeroValue216
 t218:=Tryz.underlying234
 a218:=Tryz.isAgg234
 z218:=Tryz.sizeOf234
 v218:=Tryz.zeroValue234
 t222:=Tryz.underlying238
 a222:=Tryz.isAgg238
 z222:=Tryz.sizeOf238
 v222:=Tryz.zeroValue238
 t228:=Tryz.underlying242
 a228:=Tryz.isAgg242
 z228:=Tryz.sizeOf242
 v228:=Tryz.zeroValue242
 t229:=Tryz.underlying243
 a229:=Tryz.isAgg243
 z229:=Tryz.sizeOf243
 v229:=Tryz.zeroValue243
end Go.Proofs.YtcpdjamlhhfbhaaGreat
namespace Go.Proofs.YtcpdjamlhhfbhaaGreat
def zAn (L:List Sp) (n:Int):Prop:=∃ s∈L,s.lo≤n∧n≤s.hi
def zDV (few:List Sp) (s:Sp):List Sp:=match few.getLast? with
 | none=>[s]
 | some p=>if s.lo≤p.hi+1 then few.dropLast++[⟨p.lo,max p.hi s.hi⟩] else few++[s]
def zEM (l:List Sp):List Sp:=l.foldl zDV []
def zAe (l:List Sp) (i:Nat):List Sp:=zEM (l.take i)
theorem zCD {l:List Sp}:zAe l 0=[]:=by simp [zAe,zEM]
theorem zCE {l:List Sp} {i:Nat} {s:Sp} (h:l[i]?=some s):zAe l (i+1)=zDV (zAe l i) s:=by
 unfold zAe zEM
 rw [List.take_add_one,h,List.foldl_append]
 rfl
theorem zDF {l:List Sp}:zAe l l.length=zEM l:=by simp [zAe]
structure zBJ (L:List Sp):Prop where
 ord:∀ s∈L,s.lo≤s.hi
 gap:L.Pairwise fun a b=>a.hi+1<b.lo
theorem zBJ.nil : zBJ []:=⟨by simp,List.Pairwise.nil⟩
theorem addM_len {few:List Sp} {s:Sp}:(zDV few s).length≤few.length+1:=by
 unfold zDV
 cases h:few.getLast? with
 | none=>simp
 | some p =>
  simp only
  have hne:few≠[]:=by rintro rfl;simp at h
  split
  ·rw [List.length_append,List.length_dropLast];simp
  ·simp
theorem zH7 {few:List Sp} {s:Sp} (hc:zBJ few) (hs:s.lo≤s.hi) (hlo:∀ p∈few,p.lo≤s.lo):zBJ (zDV few s)∧(∀ p∈zDV few s,p.lo≤s.lo)∧∀ n,zAn (zDV few s) n↔zAn few n∨s.lo≤n∧n≤s.hi:=by
 rcases List.eq_nil_or_concat few with rfl | ⟨L,p,rfl⟩
 ·refine ⟨⟨by intro q hq;simp [zDV] at hq;subst hq;exact hs,by simp [zDV]⟩,by simp [zDV],fun n=>by simp [zDV,zAn]⟩
 ·have hg:=List.pairwise_append.1 (by simpa using hc.gap)
  have ho:∀ q∈L,q.lo≤q.hi:=fun q hq=>hc.ord q (by simp [hq])
  have hp:p.lo≤p.hi:=hc.ord p (by simp)
  have hpl:p.lo≤s.lo:=hlo p (by simp)
  have hgp:∀ q∈L,q.hi+1<p.lo:=fun q hq=>hg.2.2 q hq p (by simp)
  have hll:∀ q∈L,q.lo≤s.lo:=fun q hq=>hlo q (by simp [hq])
  unfold zDV
  simp only [List.concat_eq_append,List.getLast?_append,List.getLast?_singleton,Option.some_or,List.dropLast_concat]
  split
  ·rename_i h
   refine ⟨⟨fun q hq=>?_,?_⟩,fun q hq=>?_,fun n=>?_⟩
   ·rcases List.mem_append.1 hq with h1|h1
    ·exact ho q h1
    ·rw [List.mem_singleton.1 h1];simp only;omega
   ·refine List.pairwise_append.2 ⟨hg.1,by simp,fun q hq b hb=>?_⟩
    rw [List.mem_singleton.1 hb];exact hgp q hq
   ·rcases List.mem_append.1 hq with h1|h1
    ·exact hll q h1
    ·rw [List.mem_singleton.1 h1];exact hpl
   ·unfold zAn
    constructor
    ·rintro ⟨q,hq,h1,h2⟩
     rcases List.mem_append.1 hq with h3|h3
     ·exact .inl ⟨q,by simp [h3],h1,h2⟩
     ·rw [List.mem_singleton.1 h3] at h1 h2
      simp only at h1 h2
      by_cases h4:n≤p.hi
      ·exact .inl ⟨p,by simp,h1,h4⟩
      ·exact .inr ⟨by omega,by omega⟩
    ·rintro (⟨q,hq,h1,h2⟩ | ⟨h1,h2⟩)
     ·rcases List.mem_append.1 hq with h3|h3
      ·exact ⟨q,by simp [h3],h1,h2⟩
      ·rw [List.mem_singleton.1 h3] at h1 h2
       exact ⟨⟨p.lo,max p.hi s.hi⟩,by simp,h1,by simp only;omega⟩
     ·exact ⟨⟨p.lo,max p.hi s.hi⟩,by simp,by simp only;omega,by simp only;omega⟩
  ·rename_i h
   refine ⟨⟨fun q hq=>?_,?_⟩,fun q hq=>?_,fun n=>?_⟩
   ·rcases List.mem_append.1 hq with h1|h1
    ·exact hc.ord q (by simpa using h1)
    ·rw [List.mem_singleton.1 h1];exact hs
   ·refine List.pairwise_append.2 ⟨by simpa using hc.gap,by simp,fun q hq b hb=>?_⟩
    rw [List.mem_singleton.1 hb]
    rcases List.mem_append.1 hq with h1|h1
    ·have:=hgp q h1;omega
    ·rw [List.mem_singleton.1 h1];omega
   ·rcases List.mem_append.1 hq with h1|h1
    ·exact hlo q (by simpa using h1)
    ·rw [List.mem_singleton.1 h1];exact Int.le_refl _
   ·unfold zAn
    constructor
    ·rintro ⟨q,hq,h1,h2⟩
     rcases List.mem_append.1 hq with h3|h3
     ·exact .inl ⟨q,by simpa using h3,h1,h2⟩
     ·rw [List.mem_singleton.1 h3] at h1 h2;exact .inr ⟨h1,h2⟩
    ·rintro (⟨q,hq,h1,h2⟩ | ⟨h1,h2⟩)
     ·exact ⟨q,List.mem_append.2 (.inl (by simpa using hq)),h1,h2⟩
     ·exact ⟨s,by simp,h1,h2⟩
def zEU (l:List Sp):Prop:=l.Pairwise fun a b=>a.lo≤b.lo
theorem zB5 {l:List Sp} (ho:∀ s∈l,s.lo≤s.hi) (hs:zEU l):∀ i,i≤l.length→zBJ (zAe l i)∧(∀ p∈zAe l i,∀ s∈l.drop i,p.lo≤s.lo)∧∀ n,zAn (zAe l i) n↔zAn (l.take i) n
 | 0,_=>by
  rw [zCD]
  exact ⟨zBJ.nil,by simp,fun n=>by simp [zAn]⟩
 | i+1,h=>by
  obtain ⟨c1,c2,c3⟩:=zB5 ho hs i (by omega)
  obtain ⟨s,hi⟩:∃ s,l[i]?=some s:=⟨_,List.getElem?_eq_getElem (by omega)⟩
  have hsm:=List.mem_of_getElem? hi
  have hd:l.drop i=s::l.drop (i+1):=by
   rw [List.drop_eq_getElem_cons (by omega)]
   congr 1
   rw [List.getElem?_eq_getElem (by omega)] at hi
   exact Option.some.inj hi
  have hsd:∀ x∈l.drop (i+1),s.lo≤x.lo:=by
   have h1:zEU (l.drop i):=List.Pairwise.sublist (List.drop_sublist _ _) hs
   rw [hd] at h1
   exact (List.pairwise_cons.1 h1).1
  rw [zCE hi]
  obtain ⟨d1,d2,d3⟩:=zH7 c1 (ho s hsm) (fun p hp=>c2 p hp s (by rw [hd];simp))
  refine ⟨d1,fun p hp x hx=>Int.le_trans (d2 p hp) (hsd x hx),fun n=>?_⟩
  rw [d3,c3,List.take_add_one,hi]
  unfold zAn
  constructor
  ·rintro (⟨q,hq,h1,h2⟩ | ⟨h1,h2⟩)
   ·exact ⟨q,List.mem_append.2 (.inl hq),h1,h2⟩
   ·exact ⟨s,by simp,h1,h2⟩
  ·rintro ⟨q,hq,h1,h2⟩
   rcases List.mem_append.1 hq with h3|h3
   ·exact .inl ⟨q,h3,h1,h2⟩
   ·simp at h3;subst h3;exact .inr ⟨h1,h2⟩
theorem zEd {l:List Sp} (ho:∀ s∈l,s.lo≤s.hi) (hs:zEU l):zBJ (zEM l)∧∀ n,zAn (zEM l) n↔zAn l n:=by
 have:=zB5 ho hs l.length (Nat.le_refl _)
 rw [zDF,List.take_length] at this
 exact ⟨this.1,this.2.2⟩
theorem zBm {l:List Sp}:∀ i,(zAe l i).length≤i
 | 0=>by simp [zCD]
 | i+1=>by
  cases h:l[i]? with
  | none =>
   have:zAe l (i+1)=zAe l i:=by unfold zAe;rw [List.take_add_one,h];simp
   rw [this];have:=zBm (l:=l) i;omega
  | some s=>rw [zCE h];have:=addM_len (few:=zAe l i) (s:=s);have:=zBm (l:=l) i;omega
theorem zF2 {l m:List Sp} (h:l.Perm m) {n:Int}:zAn l n↔zAn m n:=by
 unfold zAn
 constructor
 ·rintro ⟨s,hs,h1⟩;exact ⟨s,h.mem_iff.1 hs,h1⟩
 ·rintro ⟨s,hs,h1⟩;exact ⟨s,h.mem_iff.2 hs,h1⟩
theorem zH3 {L:List Sp} (hc:zBJ L) {a z:Sp} (ha:L[0]?=some a) (hz:L[L.length - 1]?=some z) {n:Int} (hn:zAn L n):a.lo≤n∧n≤z.hi:=by
 obtain ⟨s,hs,h1,h2⟩:=hn
 obtain ⟨i,hi⟩:=List.mem_iff_getElem?.1 hs
 have hlt:=(List.getElem?_eq_some_iff.1 hi).1
 have hpw:=List.pairwise_iff_getElem.1 hc.gap
 have ea:=(List.getElem?_eq_some_iff.1 ha).2
 have ez:=(List.getElem?_eq_some_iff.1 hz).2
 have ei:=(List.getElem?_eq_some_iff.1 hi).2
 have oa:=hc.ord a (List.mem_of_getElem? ha)
 have oz:=hc.ord z (List.mem_of_getElem? hz)
 constructor
 ·by_cases h:i=0
  ·subst h;rw [ha] at hi;cases hi;exact h1
  ·have:=hpw 0 i (by omega) hlt (by omega)
   rw [ea,ei] at this;omega
 ·by_cases h:i=L.length - 1
  ·subst h;rw [hz] at hi;cases hi;exact h2
  ·have:=hpw i (L.length - 1) hlt (by omega) (by omega)
   rw [ez,ei] at this;omega
def zAy (a b:List Sp):List Sp:=a.flatMap fun s=>b.map fun t=>⟨s.lo+t.lo,s.hi+t.hi⟩
theorem zF1 {a b:List Sp} (ha:∀ s∈a,s.lo≤s.hi) (hb:∀ s∈b,s.lo≤s.hi) {n:Int}:zAn (zAy a b) n↔∃ x y,zAn a x∧zAn b y∧n=x+y:=by
 unfold zAn zAy
 constructor
 ·rintro ⟨u,hu,h1,h2⟩
  obtain ⟨s,hs,hu⟩:=List.mem_flatMap.1 hu
  obtain ⟨t,ht,rfl⟩:=List.mem_map.1 hu
  have:=ha s hs
  have:=hb t ht
  simp only at h1 h2
  by_cases h:n≤s.lo+t.hi
  ·exact ⟨s.lo,n - s.lo,⟨s,hs,by omega,by omega⟩,⟨t,ht,by omega,by omega⟩,by omega⟩
  ·exact ⟨n - t.hi,t.hi,⟨s,hs,by omega,by omega⟩,⟨t,ht,by omega,by omega⟩,by omega⟩
 ·rintro ⟨x,y,⟨s,hs,h1,h2⟩,⟨t,ht,h3,h4⟩,rfl⟩
  exact ⟨⟨s.lo+t.lo,s.hi+t.hi⟩,List.mem_flatMap.2 ⟨s,hs,List.mem_map.2 ⟨t,ht,rfl⟩⟩,by simp only;omega,by simp only;omega⟩
def zBO : List (List Sp)→Int→Prop
 | [],n=>n=0
 | L::r,n=>∃ x y,zAn L x∧zBO r y∧n=x+y
theorem zHG {X:List Sp} {R:Int→Prop} {T:List Sp} (hT:∀ n,zAn T n↔R n) {l h t:Int} (h1:l≤t) (h2:t≤h) (ht:∃ x y,zAn X x∧R y∧t=x+y):∃ x∈X,∃ u∈T,u.lo≤h - x.lo∧l - x.hi≤u.hi:=by
 obtain ⟨x,y,⟨s,hs,a1,a2⟩,hy,rfl⟩:=ht
 obtain ⟨u,hu,b1,b2⟩:=(hT y).2 hy
 exact ⟨s,hs,u,hu,by omega,by omega⟩
theorem zHH {R:Int→Prop} {T:List Sp} (hT:∀ n,zAn T n↔R n) (hord:∀ u∈T,u.lo≤u.hi) {l h:Int} {x u:Sp} (hx:x.lo≤x.hi) (hlh:l≤h) (hu:u∈T) (h1:u.lo≤h - x.lo) (h2:l - x.hi≤u.hi):∃ t,l - x.hi≤t∧t≤h - x.lo∧R t:=by
 have:=hord u hu
 refine ⟨max u.lo (l - x.hi),by omega,by omega,(hT _).1 ⟨u,hu,by omega,by omega⟩⟩
end Go.Proofs.YtcpdjamlhhfbhaaGreat
namespace Go.Proofs.YtcpdjamlhhfbhaaGreat
def zDG (h k W:Int):Int:=h - min h (h * k / W)
theorem zDi {h h' k W:Int} (h0:0≤h) (hh:h≤h') (hk:0≤k) (hW:0<W):zDG h k W≤zDG h' k W:=by
 unfold zDG
 by_cases hkW:k≤W
 ·have e1:h' * k=h * k+(h' - h) * k:=by rw [Int.sub_mul];omega
  have e2:(h' - h) * k≤(h' - h) * W:=Int.mul_le_mul_of_nonneg_left hkW (by omega)
  have e3:h' * k / W≤(h * k+(h' - h) * W) / W:=Int.ediv_le_ediv hW (by omega)
  rw [Int.add_mul_ediv_right _ _ (by omega)] at e3
  have e4:h * k / W≤h:=by
   have:h * k≤h * W:=Int.mul_le_mul_of_nonneg_left hkW h0
   have:=Int.ediv_le_ediv hW this
   rwa [Int.mul_ediv_cancel _ (by omega)] at this
  omega
 ·have e4:h≤h * k / W:=by
   have:h * W≤h * k:=Int.mul_le_mul_of_nonneg_left (by omega) h0
   have:=Int.ediv_le_ediv hW this
   rwa [Int.mul_ediv_cancel _ (by omega)] at this
  omega
theorem zCw {h k W W':Int} (h0:0≤h) (hk:0≤k) (hW:0<W) (hWW:W≤W'):zDG h k W≤zDG h k W':=by
 unfold zDG
 have hn:0≤h * k:=Int.mul_nonneg h0 hk
 generalize h * k=n at *
 have:n / W'≤n / W:=by
  have h1:=Int.ediv_nonneg hn (show 0≤W by omega)
  have h2:=Int.lt_ediv_add_one_mul_self n hW
  refine Int.lt_add_one_iff.1 ((Int.ediv_lt_iff_lt_mul (by omega)).2 (Int.lt_of_lt_of_le h2 ?_))
  exact Int.mul_le_mul_of_nonneg_left hWW (by omega)
 omega
def z8 (s:SlM) (w:Sp):SlM:=⟨s.cls,s.start,s.rub,s.drag,w,s.steer⟩
theorem zCL {b:Bool} {s:SlM} {x:St} {h:Int}:zEc b s x h=max 0 (zDG h (zAP b s.drag false * zAP b x.long false) (100 * zAP b s.weight true)+zAP b x.fall true - zFK b s (zAP b x.long false)):=by
 unfold zEc airI zDG
 rw [Int.mul_assoc]
 omega
theorem zGf {b:Bool} {s:SlM} {w:Sp} {l:Int}:zFK b (z8 s w) l=zFK b s l:=rfl
theorem zCf {s:SlM} {t:List St} {a:Sp} {T:Int} (hs:zBq (z8 s a)) (ht:∀ x∈t,StF x) (h1:a.lo≤T) (h2:T≤a.hi):∀ i,zAH false (z8 s a) t i≤zAH false (z8 s ⟨T,T⟩) t i∧zAH true (z8 s ⟨T,T⟩) t i≤zAH true (z8 s a) t i
 | 0=>⟨Int.le_refl _,Int.le_refl _⟩
 | i+1=>by
  have ih:=zCf hs ht h1 h2 i
  have hw:=hs.weight
  simp only [z8] at hw
  have hs1:zBq (z8 s ⟨T,T⟩):=⟨hs.cls,hs.start,hs.rub,hs.drag,by simp only [z8];omega,hs.steer⟩
  cases h:t[i]? with
  | none=>simp only [zAH,h];exact ih
  | some x =>
   have hx:=ht x (List.mem_of_getElem? h)
   rw [zBS h,zBS h,zBS h,zBS h]
   have i1:=(zCH (b:=false) hs ht i).1
   have i2:=(zCH (b:=true) hs1 ht i).1
   have hd:=hs.drag
   have hl:=hx.long
   constructor
   ·rw [zCL,zCL]
    have k1:=zA2 (b:=false) (f:=false) hd.1 hd.2.1 hd.2.2
    have k2:=zA2 (b:=false) (f:=false) hl.1 hl.2.1 hl.2.2
    have k3:=Int.mul_nonneg k1.1 (show 0≤zAP false x.long false by omega)
    have w1:zAP false (z8 s a).weight true=a.lo:=rfl
    have w2:zAP false (z8 s ⟨T,T⟩).weight true=T:=rfl
    rw [zGf,zGf,w1,w2]
    have e1:=zDi (k:=zAP false (z8 s a).drag false * zAP false x.long false) (W:=100 * a.lo) i1 ih.1 k3 (by omega)
    have e2:=zCw (h:=zAH false (z8 s ⟨T,T⟩) t i) (k:=zAP false (z8 s a).drag false * zAP false x.long false) (W:=100 * a.lo) (W':=100 * T) (by omega) k3 (by omega) (by omega)
    have e3:zAP false (z8 s ⟨T,T⟩).drag false=zAP false (z8 s a).drag false:=rfl
    rw [e3]
    omega
   ·rw [zCL,zCL]
    have k1:=zA2 (b:=true) (f:=false) hd.1 hd.2.1 hd.2.2
    have k2:=zA2 (b:=true) (f:=false) hl.1 hl.2.1 hl.2.2
    have k3:=Int.mul_nonneg k1.1 (show 0≤zAP true x.long false by omega)
    have w1:zAP true (z8 s a).weight true=a.hi:=rfl
    have w2:zAP true (z8 s ⟨T,T⟩).weight true=T:=rfl
    rw [zGf,zGf,w1,w2]
    have e1:=zDi (k:=zAP true (z8 s a).drag false * zAP true x.long false) (W:=100 * T) i2 ih.2 k3 (by omega)
    have e2:=zCw (h:=zAH true (z8 s a) t i) (k:=zAP true (z8 s a).drag false * zAP true x.long false) (W:=100 * T) (W':=100 * a.hi) (by omega) k3 (by omega) (by omega)
    have e3:zAP true (z8 s ⟨T,T⟩).drag false=zAP true (z8 s a).drag false:=rfl
    rw [e3]
    omega
theorem lo_hi {s:SlM} {t:List St} (hs:zBq s) (ht:∀ x∈t,StF x):∀ i,zAH false s t i≤zAH true s t i
 | 0=>by have:=hs.start;simp only [zAH,zAP];simp;omega
 | i+1=>by
  have ih:=lo_hi hs ht i
  cases h:t[i]? with
  | none=>simp only [zAH,h];exact ih
  | some x =>
   have hx:=ht x (List.mem_of_getElem? h)
   rw [zBS h,zBS h,zCL,zCL]
   have i1:=(zCH (b:=false) hs ht i).1
   have hd:=hs.drag
   have hl:=hx.long
   have hf:=hx.fall
   have hw:=hs.weight
   have hr:=hs.rub
   have w1:zAP false s.weight true=s.weight.lo:=rfl
   have w2:zAP true s.weight true=s.weight.hi:=rfl
   have d1:zAP false s.drag false=s.drag.hi:=rfl
   have d2:zAP true s.drag false=s.drag.lo:=rfl
   have l1:zAP false x.long false=x.long.hi:=rfl
   have l2:zAP true x.long false=x.long.lo:=rfl
   have f1:zAP false x.fall true=x.fall.lo:=rfl
   have f2:zAP true x.fall true=x.fall.hi:=rfl
   have r1:zAP false s.rub false=s.rub.hi:=rfl
   have r2:zAP true s.rub false=s.rub.lo:=rfl
   unfold zFK
   rw [w1,w2,d1,d2,l1,l2,f1,f2,r1,r2]
   have hk:s.drag.lo * x.long.lo≤s.drag.hi * x.long.hi:=Int.mul_le_mul hd.2.1 hl.2.1 (by omega) (by omega)
   have hk0:0≤s.drag.lo * x.long.lo:=Int.mul_nonneg hd.1 (by omega)
   have hi1:s.rub.lo * x.long.lo≤s.rub.hi * x.long.hi:=Int.mul_le_mul hr.2.1 hl.2.1 (by omega) (by omega)
   have hi2:s.rub.lo * x.long.lo / 100≤s.rub.hi * x.long.hi / 100:=Int.ediv_le_ediv (by omega) hi1
   have e1:=zDi (k:=s.drag.hi * x.long.hi) (W:=100 * s.weight.lo) i1 ih (by omega) (by omega)
   have e2:=zCw (h:=zAH true s t i) (k:=s.drag.hi * x.long.hi) (W:=100 * s.weight.lo) (W':=100 * s.weight.hi) (by omega) (by omega) (by omega) (by omega)
   have e3:zDG (zAH true s t i) (s.drag.hi * x.long.hi) (100 * s.weight.hi)≤zDG (zAH true s t i) (s.drag.lo * x.long.lo) (100 * s.weight.hi):=by
    unfold zDG
    have:zAH true s t i * (s.drag.lo * x.long.lo)≤zAH true s t i * (s.drag.hi * x.long.hi):=Int.mul_le_mul_of_nonneg_left hk (by omega)
    have:=Int.ediv_le_ediv (show 0<100 * s.weight.hi by omega) this
    omega
   omega
def zEm (b:Bool) (s:SlM) (x:St) (h:Int):Int:=if 10 * zAP b x.radius false=0 then 0 else 1200 * h / (10 * zAP b x.radius false)+zAP b s.steer true
def hgtI (b:Bool) (s:SlM) (t:List St) (i:Nat) (x:St):Int:=zEm b s x (max (zAH b s t i) (zAH b s t (i+1)))
def zC7 (b:Bool) (s:SlM) (t:List St):Prop:=∃ (i:Nat) (x:St),t[i]?=some x∧x.side≠0∧x.wall<hgtI b s t i x
open Classical in
noncomputable def zEY (s:SlM) (t:List St):Int:=if zC7 false s t then 0 else if zC7 true s t then 1 else 2
theorem zGI {b:Bool} {s:SlM} {x:St} {h h':Int} (hr:0≤zAP b x.radius false) (hh:h≤h'):zEm b s x h≤zEm b s x h':=by
 unfold zEm
 split
 ·exact Int.le_refl _
 ·have:1200 * h / (10 * zAP b x.radius false)≤1200 * h' / (10 * zAP b x.radius false):=Int.ediv_le_ediv (by omega) (by omega)
  omega
theorem zGZ {s:SlM} {t:List St} {a:Sp} {T:Int} (hv:valid t=true) (hs:zBq (z8 s a)) (h1:a.lo≤T) (h2:T≤a.hi):zEY (z8 s a) t=1∨zEY (z8 s a) t=zEY (z8 s ⟨T,T⟩) t:=by
 have ht:=zDn hv
 have hw:=hs.weight
 simp only [z8] at hw
 have hs1:zBq (z8 s ⟨T,T⟩):=⟨hs.cls,hs.start,hs.rub,hs.drag,by simp only [z8];omega,hs.steer⟩
 have hb:=zCf hs ht h1 h2
 have hl:=lo_hi hs1 ht
 have hrad:∀ x∈t,0≤x.radius.lo∧x.radius.lo≤x.radius.hi:=by
  have:∀ {l:List St} {c:Int},okFrom c l=true→∀ x∈l,0≤x.radius.lo∧x.radius.lo≤x.radius.hi:=by
   intro l
   induction l with
   | nil=>intro c _ x hx;cases hx
   | cons y l ih =>
    intro c h x hx
    simp only [okFrom,Bool.and_eq_true] at h
    rcases List.mem_cons.1 hx with rfl|hx
    ·have h3:=h.1
     unfold zEI at h3
     simp only [Bool.and_eq_true,Bool.or_eq_true,zAa,decide_eq_true_eq,zCT] at h3
     omega
    ·exact ih h.2 x hx
  unfold valid at hv
  simp only [Bool.and_eq_true] at hv
  exact this hv.2
 have hr0:∀ b,∀ x∈t,0≤zAP b x.radius false:=fun b x hx=>by
  have:=hrad x hx
  unfold zAP;split<;>omega
 -- the worst of all throws: the worst of one throws
 have t1:zC7 false (z8 s a) t→zC7 false (z8 s ⟨T,T⟩) t:=fun ⟨i,x,e1,e2,e3⟩=>by
  refine ⟨i,x,e1,e2,Int.lt_of_lt_of_le e3 ?_⟩
  have:=zGI (s:=z8 s a) (hr0 false x (List.mem_of_getElem? e1)) (show max (zAH false (z8 s a) t i) (zAH false (z8 s a) t (i+1))≤max (zAH false (z8 s ⟨T,T⟩) t i) (zAH false (z8 s ⟨T,T⟩) t (i+1)) by have:=(hb i).1;have:=(hb (i+1)).1;omega)
  exact this
 have t2:zC7 true (z8 s ⟨T,T⟩) t→zC7 true (z8 s a) t:=fun ⟨i,x,e1,e2,e3⟩=>by
  refine ⟨i,x,e1,e2,Int.lt_of_lt_of_le e3 ?_⟩
  have:=zGI (s:=z8 s a) (hr0 true x (List.mem_of_getElem? e1)) (show max (zAH true (z8 s ⟨T,T⟩) t i) (zAH true (z8 s ⟨T,T⟩) t (i+1))≤max (zAH true (z8 s a) t i) (zAH true (z8 s a) t (i+1)) by have:=(hb i).2;have:=(hb (i+1)).2;omega)
  exact this
 have t3:zC7 false (z8 s ⟨T,T⟩) t→zC7 true (z8 s ⟨T,T⟩) t:=fun ⟨i,x,e1,e2,e3⟩=>by
  refine ⟨i,x,e1,e2,Int.lt_of_lt_of_le e3 ?_⟩
  have hx:=List.mem_of_getElem? e1
  have hst:=hs.steer
  have hra:=hrad x hx
  have a1:=(zCH (b:=false) hs1 ht i).1
  have hm:max (zAH false (z8 s ⟨T,T⟩) t i) (zAH false (z8 s ⟨T,T⟩) t (i+1))≤max (zAH true (z8 s ⟨T,T⟩) t i) (zAH true (z8 s ⟨T,T⟩) t (i+1)):=by have:=hl i;have:=hl (i+1);omega
  unfold hgtI
  generalize max (zAH true (z8 s ⟨T,T⟩) t i) (zAH true (z8 s ⟨T,T⟩) t (i+1))=m2 at *
  have hm0:0≤max (zAH false (z8 s ⟨T,T⟩) t i) (zAH false (z8 s ⟨T,T⟩) t (i+1)):=by omega
  generalize max (zAH false (z8 s ⟨T,T⟩) t i) (zAH false (z8 s ⟨T,T⟩) t (i+1))=m1 at *
  unfold zEm
  have r1:zAP false x.radius false=x.radius.hi:=rfl
  have r2:zAP true x.radius false=x.radius.lo:=rfl
  have s1:zAP false (z8 s ⟨T,T⟩).steer true=s.steer.lo:=rfl
  have s2:zAP true (z8 s ⟨T,T⟩).steer true=s.steer.hi:=rfl
  have hs2:s.steer.lo≤s.steer.hi:=hst.2.1
  rw [r1,r2,s1,s2]
  -- in a curve both ends of the radius are above 0
  have hcur:0<x.radius.lo∨x.side=0:=by
   have:∀ {l:List St} {c:Int},okFrom c l=true→∀ x∈l,0<x.radius.lo∨x.side=0:=by
    intro l
    induction l with
    | nil=>intro c _ x hx;cases hx
    | cons y l ih =>
     intro c h x hx
     simp only [okFrom,Bool.and_eq_true] at h
     rcases List.mem_cons.1 hx with rfl|hx
     ·have h3:=h.1
      unfold zEI at h3
      simp only [Bool.and_eq_true,Bool.or_eq_true,zAa,decide_eq_true_eq,zCT] at h3
      rcases h3.2 with h4|h4
      ·exact .inr h4.1
      ·exact .inl (by omega)
     ·exact ih h.2 x hx
   unfold valid at hv
   simp only [Bool.and_eq_true] at hv
   exact this hv.2 x hx
  rcases hcur with hc|hc
  ·rw [if_neg (by omega),if_neg (by omega)]
   have q1:1200 * m1 / (10 * x.radius.hi)≤1200 * m1 / (10 * x.radius.lo):=by
    have hn:0≤1200 * m1:=by omega
    generalize 1200 * m1=n at *
    have h3:=Int.ediv_nonneg hn (show 0≤10 * x.radius.lo by omega)
    have h4:=Int.lt_ediv_add_one_mul_self n (show 0<10 * x.radius.lo by omega)
    refine Int.lt_add_one_iff.1 ((Int.ediv_lt_iff_lt_mul (by omega)).2 (Int.lt_of_lt_of_le h4 ?_))
    exact Int.mul_le_mul_of_nonneg_left (by omega) (by omega)
   have q2:1200 * m1 / (10 * x.radius.lo)≤1200 * m2 / (10 * x.radius.lo):=Int.ediv_le_ediv (by omega) (by omega)
   omega
  ·exact absurd hc e2
 unfold zEY
 by_cases c1:zC7 false (z8 s a) t
 ·right;rw [if_pos c1,if_pos (t1 c1)]
 ·rw [if_neg c1]
  by_cases c2:zC7 true (z8 s a) t
  ·left;rw [if_pos c2]
  ·right
   rw [if_neg c2,if_neg (fun h=>c2 (t2 (t3 h))),if_neg (fun h=>c2 (t2 h))]
end Go.Proofs.YtcpdjamlhhfbhaaGreat
namespace Go.Proofs.YtcpdjamlhhfbhaaGreat
open Go.RowKit
set_option maxRecDepth 20000
section
variable {P : Program} {w0:World} {n:Nat} {d:List Deferred} {R:List (Nat × Value)} {H:List Ent} {Q:Exit→Act→World→Prop}
theorem zC4 {ι α:Type} {g:Operand} {ps:Array Tmp} {assign body:Code} {gf:FuncId} {lb:List Value} {bs:List Nat} (D:List α→List Ent) (enc:α→List Value) (N:List α→α→Prop) (E:List α→Prop) (I:List α→ι→Prop) (C:ι→List Ent) (s0:ι)
  (hg:evR R g=some (.func (.func gf) #[] lb.toArray)) [ci:zi P gf] (hs:Out H (D []++(C s0++[.dfr bs]))) (h0:I [] s0)
  (hps:∀ x,(enc x).length=ps.size) (hpn:∀ p∈ps.toList,p<n)
  (hit:SeqG P gf lb D enc N E w0)
  (hround:∀ (l:Nat) (ys:List α) (x:α) (s:ι) (r:Loop) (W:World) (HH:List Ent),N ys x→I ys s→r.state = .ready→r.pending=none→Below w0.heap.size w0 W →
   U w0 n [] (zEo ps.toList (enc x)++R) ((D (ys++[x])++(C s++[.lrec l r,.dfr (r.defers::bs)]))++[.oldx W w0.heap.size (feet HH)]) (assign.wpI (some l) P (rndA P l body (rndB P l W HH true (fun s'=>D (ys++[x])++(C s'++[.lrec l r,.dfr (r.defers::bs)])) (I (ys++[x]))))))
  (hdone:∀ b ys s,E ys→I ys s→U w0 n (dL (b::bs)) R (D ys++(C s++[.dfr (b::bs)])) (Q .normal)):U w0 n (dL bs) R H ((Code.rangeFunc g ps assign body).wpI none P Q) :=
 u_rangeG D enc N E I C s0 hg hs h0 hps hpn hit (fun l ys x s r W h1 h2 h3 h4 h5=>hround l ys x s r W _ h1 h2 h3 h4 h5) hdone
end
end Go.Proofs.YtcpdjamlhhfbhaaGreat
namespace Go.Proofs.YtcpdjamlhhfbhaaGreat
variable {ro : Option Nat}
open Go.RowKit
class Ctb (α:Type):Prop where ex:∃ f:Nat→α,∀ z,∃ n,f n=z
def zCY : Nat→Nat × Nat
 | 0=>(0,0)
 | n+1=>match zCY n with
  | (0,b)=>(b+1,0)
  | (a+1,b)=>(a,b+1)
theorem zEC : ∀ s b,b≤s→∃ n,zCY n=(s - b,b)
  | 0, b, h => ⟨0, by obtain rfl : b = 0 := by omega
                      rfl⟩
  | s+1,0,_=>by
    obtain ⟨n,hn⟩:=zEC s s (Nat.le_refl _)
    refine ⟨n+1,?_⟩
    simp only [zCY,hn,Nat.sub_self]
    rfl
  | s+1,b+1,h=>by
    obtain ⟨n,hn⟩:=zEC (s+1) b (by omega)
    refine ⟨n+1,?_⟩
    rw [show s+1 - b=(s - b)+1 by omega] at hn
    simp only [zCY,hn]
    rw [show s+1 - (b+1)=s - b by omega]
theorem zED (p:Nat × Nat):∃ n,zCY n=p:=by
 obtain ⟨a,b⟩:=p
 obtain ⟨n,hn⟩:=zEC (a+b) b (by omega)
 exact ⟨n,by rw [hn,Nat.add_sub_cancel]⟩
instance : Ctb Nat:=⟨id,fun z=>⟨z,rfl⟩⟩
instance : Ctb Unit:=⟨fun _=>(),fun _=>⟨0,rfl⟩⟩
instance ctb_prod {α β:Type} [i:Ctb α] [j:Ctb β]:Ctb (α × β):=by
 obtain ⟨f,hf⟩:=i.ex
 obtain ⟨g,hg⟩:=j.ex
 refine ⟨fun n=>(f (zCY n).1,g (zCY n).2),fun z=>?_⟩
 obtain ⟨a,ha⟩:=hf z.1
 obtain ⟨b,hb⟩:=hg z.2
 obtain ⟨n,hn⟩:=zED (a,b)
 exact ⟨n,by simp only [hn,ha,hb]⟩
instance ctb_opt {α:Type} [i:Ctb α]:Ctb (Option α):=by
 obtain ⟨f,hf⟩:=i.ex
 refine ⟨fun n=>match n with | 0=>none|n+1=>some (f n),fun z=>?_⟩
 cases z with
 | none=>exact ⟨0,rfl⟩
 | some a=>obtain ⟨n,hn⟩:=hf a;exact ⟨n+1,by simp only [hn]⟩
theorem zGi {α β:Type} (h:α→β) (hs:∀ z,∃ x,h x=z) [i:Ctb α]:Ctb β:=by
 obtain ⟨f,hf⟩:=i.ex
 refine ⟨fun n=>h (f n),fun z=>?_⟩
 obtain ⟨x,rfl⟩:=hs z
 obtain ⟨n,rfl⟩:=hf x
 exact ⟨n,rfl⟩
instance : Ctb Int:=zGi (α:=Nat × Nat) (fun p=>(p.1:Int) - p.2) fun z=>⟨(z.toNat,(-z).toNat),by simp only;omega⟩
instance : Ctb Addr:=zGi (α:=Nat × Nat × Option Nat) (fun p=>⟨p.1,p.2.1,p.2.2⟩) fun z=>⟨(z.block,z.off,z.spot),rfl⟩
instance ctb_list {α:Type} [i:Ctb α]:Ctb (List α):=by
 obtain ⟨f,hf⟩:=i.ex
 have key:∀ l:List α,∃ n,(fun n=>(Nat.rec (fun _=>[]) (fun _ g c=>f (zCY c).1::g (zCY c).2) (zCY n).1:Nat→List α) (zCY n).2) n=l:=by
  have h2:∀ l:List α,∃ c,(Nat.rec (fun _=>[]) (fun _ g c=>f (zCY c).1::g (zCY c).2) l.length:Nat→List α) c=l:=by
   intro l
   induction l with
   | nil=>exact ⟨0,rfl⟩
   | cons x l ih =>
    obtain ⟨c,hc⟩:=ih
    obtain ⟨n,hn⟩:=hf x
    obtain ⟨m,hm⟩:=zED (n,c)
    refine ⟨m,?_⟩
    show f (zCY m).1::_=_
    rw [hm,hn]
    exact congrArg _ hc
  intro l
  obtain ⟨c,hc⟩:=h2 l
  obtain ⟨n,hn⟩:=zED (l.length,c)
  exact ⟨n,by simp only [hn];exact hc⟩
 exact ⟨_,key⟩
noncomputable def deC (α:Type) [i:Ctb α]:Nat→α:=i.ex.choose
theorem deC_any {α:Type} [i:Ctb α] (z:α):∃ n,deC α n=z:=i.ex.choose_spec z
def Ent.fact (q:Prop):Ent:=⟨fun _=>False,fun _=>q,fun _ _ _ _ h=>h⟩
theorem own_fact {base:Nat} {w:World} {H:List Ent} {q:Prop} (hq:q) (h:Own base w H):Own base w (.fact q::H) :=
 ⟨fun e he=>by
  rcases List.mem_cons.1 he with rfl|he
  ·exact hq
  ·exact h.here e he,fun e he b hb=>by
  rcases List.mem_cons.1 he with rfl|he
  ·cases hb
  ·exact h.foot e he b hb,List.pairwise_cons.2 ⟨(fun f _ b hb=>by cases hb),h.apart⟩⟩
theorem zIH {w0:World} {n:Nat} {d:List Deferred} {R:List (Nat × Value)} {H H':List Ent} {X:Act→World→Prop} {q:Prop} (ht:Take H (.fact q) H') (h:q→U w0 n d R H' X):U w0 n d R H X:=fun a w k=>h (k.own.here _ ht.mem) a w ⟨k.size,k.defers,k.regs,k.below,(k.own.take ht).tail⟩
theorem zFa {P:Program} {T:TypeId} {s:Nat} {g:Bool} [i1:TyI P T .bool s g] (a b:Bool) (w:World):(Op.equalIn Op.maxDepth T (.bool a) (.bool b)).run P w = .ok (a == b) w:=by
 show (Op.equalIn (9999+1) T (.bool a) (.bool b)).run P w=_
 have e:=run_underlying i1.und w
 unfold Op.equalIn
 simp [e]
end Go.Proofs.YtcpdjamlhhfbhaaGreat
namespace Go.Proofs.YtcpdjamlhhfbhaaGreat.Two
variable {ro : Option Nat}
open Go.RowKit
section
variable {S : List (Nat × Nat)} {I:List (Nat × Nat × Nat × List Ent)} {P:Program} {w0:World} {n:Nat} {d:List Deferred} {R R0:List (Nat × Value)} {H H' H0:List Ent} {Q:Exit→Act→World→Prop} {ops:Array Oper} {bs:List (List Bool)} {b:List Bool} {k:Nat} {o:Oper} {rest:List Oper} {T:List Rw} {t:Tmp} {Hk:zAr→List Ent} {x y:Operand} {v:Value}
theorem zER {α:Type} [Ctb α] {V:α→Value} {E:α→List Ent} {p:α→Prop} {f:FuncId} {fx:Operand} {xs:Array Operand} {ts:Array TypeId} {vs:zAr→List Value} {cap:Array Value} (hop:o.op = .call ⟨.value fx,xs,ts⟩) (hw:∀ G,want (Rk R0 ops b o T G) ops o=some true) (hd:o.dst=some t) (hf:∀ G,evR (Rk R0 ops b o T G) fx=some (.func (.func f) #[] cap)) (hx:∀ G,evs (Rk R0 ops b o T G) xs.toList=some (vs G)) [ci:zi P f]
  (hc:∀ G a w,Kn w0 n d (Rk R0 ops b o T G) (Hk G) a w→Ret P f (vs G++cap.toList) w V E p) (h:zBa ro S I P w0 n d ops R0 H0 Q bs (k+1) rest (⟨k,some t,fun G=>(V (deC α (G k).g),.fact (p (deC α (G k).g))::E (deC α (G k).g))⟩::T)):CAt ro S I P w0 n d ops R0 H0 Q b bs k o rest T Hk:=by
 refine zGH (f:=fun G=>(V (deC α (G k).g),.fact (p (deC α (G k).g))::E (deC α (G k).g))) (fun G G' hG=>by simp only [hG k (.inl rfl)]) (fun G a w q K hK=>?_) (by rw [hd];exact h)
 rw [zBh q (hw G),if_pos rfl]
 unfold Oper.wp execOp;rw [hop]
 have e1:xs.map a.eval=(vs G).toArray:=by apply Array.ext';simpa using q.evs (hx G)
 have e2:(vs G).toArray++cap=(vs G++cap.toList).toArray:=by apply Array.ext';simp
 simp only [resolve,q.ev (hf G),e1,Deferred.ofValue,Sem.run_bind,Sem.run_pure,Result.andThen_ok,invoke,Array.empty_append,e2,ci.ent,Oper.upon_enter]
 refine Calls.mono (hc G a w q).calls ?_
 rintro e w' ⟨z,hp,rfl,hb,hE⟩
 obtain ⟨m,hm⟩:=deC_any z
 exact hK _ _ _ ⟨⟨m,none,0⟩,by simp only [upW,if_true,hm]⟩ hb (own_fact hp hE)
end
end Go.Proofs.YtcpdjamlhhfbhaaGreat.Two
namespace Go.Proofs.YtcpdjamlhhfbhaaGreat
section
variable {k k':RdK}
inductive Wide (k:RdK):Nat→List Opn→List Opn→Prop
 | nil (b:Nat):Wide k b [] []
 | cons {b:Nat} {o o':Opn} {os os':List Opn}:o∈k.opts b→o.sig=o'.sig→o.lo≤o'.lo→o'.hi≤o.hi→Wide k (b+1) os os'→Wide k b (o::os) (o'::os')
theorem Wide.len {b:Nat} {os os':List Opn} (h:Wide k b os os'):os.length=os'.length:=by
 induction h with
 | nil=>rfl
 | cons _ _ _ _ _ ih=>simp [ih]
theorem Wide.get {b:Nat} {os os':List Opn} (h:Wide k b os os') (n:Nat) {o':Opn} (ho:os'[n]?=some o'):∃ o,os[n]?=some o∧o'.hi≤o.hi:=by
 induction h generalizing n with
 | nil=>simp at ho
 | cons a1 a2 a3 a4 _ ih =>
  cases n with
  | zero=>simp at ho;subst ho;exact ⟨_,rfl,a4⟩
  | succ n=>simpa using ih n (by simpa using ho)
end
end Go.Proofs.YtcpdjamlhhfbhaaGreat
namespace Go.Proofs.YtcpdjamlhhfbhaaGreat
section
variable {k k':RdK} {n:Int}
inductive Late (n:Int) (k k':RdK):Nat→List Opn→List Opn→Prop
 | nil (b:Nat):Late n k k' b [] []
 | cons {b:Nat} {o o':Opn} {os os':List Opn}:o'∈k'.opts b→o'.sig=o.sig→(∀ t,k.start≤t→t≤k.now→(o.lo≤t↔o'.lo≤t+n)∧(t≤o.hi↔t+n≤o'.hi))→Late n k k' (b+1) os os'→Late n k k' b (o::os) (o'::os')
theorem Late.len {b:Nat} {os os':List Opn} (h:Late n k k' b os os'):os'.length=os.length:=by
 induction h with
 | nil=>rfl
 | cons _ _ _ _ ih=>simp [ih]
theorem Late.get {b:Nat} {os os':List Opn} (h:Late n k k' b os os') (j:Nat) {o:Opn} (ho:os[j]?=some o):∃ o',os'[j]?=some o'∧∀ t,k.start≤t→t≤k.now→(o.lo≤t↔o'.lo≤t+n)∧(t≤o.hi↔t+n≤o'.hi):=by
 induction h generalizing j with
 | nil=>simp at ho
 | cons a1 a2 a3 _ ih =>
  cases j with
  | zero=>simp at ho;subst ho;exact ⟨_,rfl,a3⟩
  | succ j=>simpa using ih j (by simpa using ho)
end
end Go.Proofs.YtcpdjamlhhfbhaaGreat
namespace Go.Proofs.YtcpdjamlhhfbhaaGreat
structure Sgn where
 beam:Int
 read:Int
deriving DecidableEq
instance : Inhabited Sgn:=⟨⟨0,0⟩⟩
structure Rid where
 start:Int
 now:Int
 sigs:List Sgn
deriving DecidableEq
instance : Inhabited Rid:=⟨⟨0,0,[]⟩⟩
end Go.Proofs.YtcpdjamlhhfbhaaGreat
namespace Go.Proofs.YtcpdjamlhhfbhaaGreat
variable {ro : Option Nat}
open Go.RowKit
set_option maxRecDepth 20000
def encSy (s:Sy):List Value:=[.int .i64 s.at_,.int .i64 s.ah.lo,.int .i64 s.ah.hi]
structure CkM where
 c:Clk
 A:Option Addr
 cap:Nat
instance : Inhabited CkM:=⟨⟨default,none,0⟩⟩
def encCk (x:CkM):List Value:=[.int .i64 x.c.drift,.slice x.A x.c.syncs.length x.cap]
structure Bm where
 spot:Spot
 clock:Int
instance : Inhabited Bm:=⟨⟨⟨0,⟨0,0⟩⟩,0⟩⟩
def encBm (b:Bm):List Value:=[.int .i64 b.spot.st,.int .i64 b.spot.off.lo,.int .i64 b.spot.off.hi,.int .i64 b.clock]
def encSg (s:Sgn):List Value:=[.int .i64 s.beam,.int .i64 s.read]
theorem one_sy (b:Sy):∀ v∈encSy b,v.oneCell'=true:=by intro v hv;simp [encSy] at hv;rcases hv with rfl|rfl|rfl<;>rfl
theorem one_ck (b:CkM):∀ v∈encCk b,v.oneCell'=true:=by intro v hv;simp [encCk] at hv;rcases hv with rfl|rfl<;>rfl
theorem one_bm (b:Bm):∀ v∈encBm b,v.oneCell'=true:=by intro v hv;simp [encBm] at hv;rcases hv with rfl|rfl|rfl|rfl<;>rfl
theorem one_sg (b:Sgn):∀ v∈encSg b,v.oneCell'=true:=by intro v hv;simp [encSg] at hv;rcases hv with rfl|rfl<;>rfl
instance : zBX encSy 3:=⟨fun _=>rfl,one_sy⟩
instance : zBX encCk 2:=⟨fun _=>rfl,one_ck⟩
instance : zBX encBm 4:=⟨fun _=>rfl,one_bm⟩
instance : zBX encSg 2:=⟨fun _=>rfl,one_sg⟩
theorem zDH {α:Type} {p:α→Bool} {l:List α} {i:Nat} (h:i<l.length) (hp:p l[i]=true) (hb:∀ j y,j<i→l[j]?=some y→p y=false):zCB p l=i:=by
 have:l.findIdx? p=some i:=List.findIdx?_eq_some_iff_getElem.2 ⟨h,hp,fun j hj=>by
  have:=hb j l[j] hj (List.getElem?_eq_getElem (by omega))
  simp [this]⟩
 unfold zCB;rw [this]
theorem zCS {α:Type} {p:α→Bool} {l:List α} (h:∀ y∈l,p y=false):zCB p l = -1:=by
 have:l.findIdx? p=none:=by rw [List.findIdx?_eq_none_iff];intro x hx;simp [h x hx]
 unfold zCB;rw [this]
set_option maxHeartbeats 1000000 in
theorem zH0 (l:List Int) (A:Option Addr) (cap:Nat) (kf:FuncId) [zi Tryz.prog kf] (cs:Array Value) (p:Int→Bool) (w:World) (hk:zAB encI 1 w A l) (hl:l.length≤1000000)
  (hp:∀ x W,x∈l→Below w.heap.size w W→Gv Tryz.prog kf ([.int .i64 x]++cs.toList) W (.bool (p x))) :
  Gv Tryz.prog 103 [.slice A l.length cap,.func (.func kf) #[] cs] w (.int .i64 (zCB p l)):=by
 unfold Gv
 (refine ze (n:=19) Tryz.func103 rfl rfl rfl ?_)
 (repeat' (first|((with_reducible refine zV ?_);first|refine zO rfl rfl rfl ?_|refine zD rfl rfl rfl ?_|refine zj rfl rfl rfl ?_)|(with_reducible first|refine zW ?_|refine zC ?_|refine zU ?_|refine zB ?_|refine zP ?_)))
 refine zAC (ι:=Nat) [0,1,7] rfl (fun i=>i≤l.length∧∀ j y,j<i→l[j]?=some y→p y=false) (fun i=>[(8,.int .i64 (i:Int))]) (fun _=>[]) (fun i=>l.length - i) 0 ⟨Nat.zero_le _,fun j y h=>by omega⟩ (by (repeat first|exact lK1|refine zp rfl ?_)) (by (repeat constructor)) ?_
 rintro i ⟨hi,hb⟩
 simp only [zAm,List.cons_append,List.nil_append]
 by_cases hlt:i<l.length
 ·have hx:l[i]?=some l[i]:=by simp [hlt]
  obtain ⟨b,o,rfl,hblt,hc⟩:=hk.at_ hlt
  have:InS w b o encI 1 l:=⟨hk⟩
  have:zAZ l i l[i]:=⟨hx⟩
  (repeat' (first|((with_reducible refine zV ?_);first|refine zO rfl rfl rfl ?_|refine zD rfl rfl rfl ?_|(refine zQ rfl rfl rfl ?_;refine ⟨_,rfl,?_⟩)|(refine zd rfl rfl rfl rfl rfl (fun h=>?_) (fun h=>?_)<;>(dsimp only [cmpP] at h;(try (exfalso;omega))))|(refine zBN rfl rfl rfl rfl (fun _ _ q=>hp _ _ (List.getElem_mem hlt) q.below) (fun h=>?_) (fun h=>?_)<;>(try (exfalso;omega)))|refine zb rfl rfl rfl rfl (by omega) ?_|refine zK rfl rfl rfl rfl rfl (by omega) ?_)|(with_reducible first|refine zW ?_|refine zC ?_|refine zU ?_|refine zB ?_|refine zX ?_|refine zT ?_|refine zF ?_|refine zP ?_|refine zY ?_|refine za ?_)|((with_reducible refine zI ?_ ?_);(· exact rfl))|((with_reducible refine zH ?_ ?_);(· exact rfl))))
  ·have e1:=zDH hlt h hb
   exact zk (by exact rTm rfl) () trivial (by rw [e1];rfl) (fun _ h=>h.sub (by (repeat constructor)))
  ·refine z6 (i+1) ⟨by omega,fun j y hj hy=>?_⟩ (by omega) (by (repeat first|exact lK1|refine zp rfl ?_)) (by (repeat constructor))
   by_cases e:j=i
   ·subst e;rw [hx] at hy;cases hy;exact h
   ·exact hb j y (by omega) hy
 ·obtain rfl:i=l.length:=by omega
  have e1:=zCS (p:=p) (l:=l) (fun y hy=>by
   obtain ⟨j,hj⟩:=List.mem_iff_getElem?.1 hy
   exact hb j y (List.getElem?_eq_some_iff.1 hj).1 hj)
  (repeat' (first|((with_reducible refine zV ?_);first|refine zD rfl rfl rfl ?_|(refine zd rfl rfl rfl rfl rfl (fun h=>?_) (fun h=>?_)<;>(dsimp only [cmpP] at h;(try (exfalso;omega)))))|(with_reducible first|refine zW ?_|refine zC ?_|refine zU ?_|refine zB ?_|refine zX ?_|refine zZ ?_|refine zG ?_|refine zJ ?_)|((with_reducible refine zH ?_ ?_);(· exact rfl))))
  exact zk (by exact rTm rfl) () trivial (by rw [e1];rfl) (fun _ h=>h.sub (by (repeat constructor)))
theorem ci_con (l:List Int) (A:Option Addr) (cap:Nat) (kf:FuncId) [zi Tryz.prog kf] (cs:Array Value) (p:Int→Bool) (w:World) (hk:zAB encI 1 w A l) (hl:l.length≤1000000)
  (hp:∀ x W,x∈l→Below w.heap.size w W→Gv Tryz.prog kf ([.int .i64 x]++cs.toList) W (.bool (p x))) :
  Gv Tryz.prog 61 [.slice A l.length cap,.func (.func kf) #[] cs] w (.bool (l.any p)):=by
 unfold Gv
 have hf:=zCn p l
 (refine ze (n:=9) Tryz.func61 rfl rfl rfl ?_)
 (repeat' (first|((with_reducible refine zV ?_);first|refine zO rfl rfl rfl ?_|refine zD rfl rfl rfl ?_|(refine zd rfl rfl rfl rfl rfl (fun h=>?_) (fun h=>?_)<;>(dsimp only [cmpP] at h;(try (exfalso;omega))))|refine zn rfl rfl rfl rfl (fun _ _ q=>zH0 l A cap kf cs p _ (hk.below q.below) hl (fun x W hx hW=>hp x W hx (q.below.trans (hW.mono q.base)))) ?_)|(with_reducible first|refine zW ?_|refine zC ?_|refine zU ?_|refine zB ?_|refine zX ?_)))
 all_goals exact zk (by exact rTm rfl) () trivial (by simp only [resV];rw [← hf];simp;omega) (fun _ h=>h.sub (by (repeat constructor)))
end Go.Proofs.YtcpdjamlhhfbhaaGreat
namespace Go.Proofs.YtcpdjamlhhfbhaaGreat
variable {ro : Option Nat}
open Go.RowKit
theorem zBl {P:Program} {b:Frame} {a:Act} {k:List Item} {cs:List Frame} {w:World} {c:Code}:step P (lone (b.atR a (.code (.scope c)::k)) cs w) = .next (lone (b.atR a (.code c :: .inScope c::k)) cs w) :=
 step_lone_go (by simp [stepG,stepG.exec,Frame.atR])
theorem zFZ {P:Program} {b:Frame} {a:Act} {k:List Item} {cs:List Frame} {w:World} {c:Code}:step P (lone (b.atR a (.inScope c::k)) cs w) = .next (lone (b.atR a k) cs w) :=
 step_lone_go (by simp [stepG,stepG.exec,Frame.atR])
theorem zHa {F:Fence} {n:Nat} {P:Program} {Q:Exit→Act→World→Prop} {a:Act} {w:World} {c:Code} (h:c.wpIn F n P (Exit.noGoto Q) a w):(Code.scope c).wpIn F n P Q a w:=by
 intro b k cs hro hb hr
 have h0:(lone (b.atR a (.code (.scope c)::k)) cs w).fenced P F:=fenced_calm hb hr rfl
 obtain ⟨e,a₁,w₁,hq,harr⟩:=h b (.inScope c::k) cs hro hb hr
 cases e with
 | normal=>exact ⟨.normal,a₁,w₁,hq,.head h0 zBl (StepsIn.trans harr (.one (fenced_calm hb hr rfl) zFZ))⟩
 | exit id =>
  have hx:exitTo id (.inScope c::k)=exitTo id k:=by simp [exitTo]
  exact ⟨.exit id,a₁,w₁,hq,fun k' hk=>.head h0 zBl (harr.1 k' (by rw [hx];exact hk)),
   fun hr' hk=>let ⟨k₁,h1,h2⟩:=harr.2 hr' (by rw [hx];exact hk);⟨k₁,h1,.head h0 zBl h2⟩⟩
 | goto l=>exact hq.elim
 | ret=>exact ⟨_,a₁,w₁,hq,.of_steps (.one h0 zBl) harr⟩
 | panic ch=>exact ⟨_,a₁,w₁,hq,.of_steps (.one h0 zBl) harr⟩
 | outgrown=>exact ⟨_,a₁,w₁,hq,.of_steps (.one h0 zBl) harr⟩
section
variable {P : Program} {w0:World} {n:Nat} {d:List Deferred} {R:List (Nat × Value)} {H:List Ent} {Q:Exit→Act→World→Prop}
theorem zBG {c:Code} (h:U w0 n d R H (c.wpI ro P (Exit.noGoto Q))):U w0 n d R H ((Code.scope c).wpI ro P Q):=fun a w k=>zHa (h a w k)
theorem zAi (h:U w0 n d R H (Q .normal)):U w0 n d R H (Exit.noGoto Q .normal):=h
theorem zAh (h:U w0 n d R H (Q .ret)):U w0 n d R H (Exit.noGoto Q .ret):=h
theorem zAj {id:Nat} (h:U w0 n d R H (Q (.exit id))):U w0 n d R H (Exit.noGoto Q (.exit id)):=h
end
section
variable {P : Program} {w0:World} {n:Nat} {d:List Deferred} {R:List (Nat × Value)} {H H':List Ent} {Q:Exit→Act→World→Prop} {ops:Array Oper} {rest:List Oper} {o:Oper} {t:Tmp} {x y:Operand}
theorem zGo {T1:TypeId} {ps:Array (Nat × Operand)} {s:Nat} {z:List Value} {qs:List (Nat × Value)} (hop:o.op = .build T1 ps) [i1:TyBA P T1 s z] (hrd:rdy R ops n o=some t) (hp:evp R ps.toList=some qs)
  (h:∃ cs,fillL (fun i=>some (i * s,s)) z qs=some cs∧U w0 n d ((t,.agg cs.toArray)::R) H (wpL ro P ops Q rest)):U w0 n d R H (wpL ro P ops Q (o::rest)):=by
 obtain ⟨cs,hf,h⟩:=h
 exact zAg hrd (fun a w q=>by
  unfold execOp;rw [hop]
  have e1:(ps.map fun (i,x)=>(i,a.eval x)).toList=qs:=by rw [Array.toList_map];exact q.evp hp
  have e2:P.built T1 (ps.map fun (i,x)=>(i,a.eval x)).toList=some cs.toArray:=by
   rw [i1.bui,e1]
   exact fill_eq _ qs z cs hf
  simp only [Sem.run_bind,run_build w T1 _ _ e2,Result.andThen_ok,Sem.run_pure]) h
end
end Go.Proofs.YtcpdjamlhhfbhaaGreat
namespace Go.Proofs.YtcpdjamlhhfbhaaGreat
open Go.RowKit
theorem InC.below {w W:World} {b off:Nat} {vs:List Value} (h:InC w b off vs) (hb:Below w.heap.size w W):InC W b off vs:=⟨fun j v hv=>by
 have h1:=h.cells j v hv
 rw [hb.cell (p:=⟨b,off+j,none⟩) (World.block_lt_of_cell? w _ h1)];exact h1⟩
end Go.Proofs.YtcpdjamlhhfbhaaGreat
