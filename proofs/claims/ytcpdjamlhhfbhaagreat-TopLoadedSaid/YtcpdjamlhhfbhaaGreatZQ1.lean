/- ZQ1 -/
import Derived.WalkKit
import Derived.Test.YtcpdjamlhhfbhaaGreatProg
import Derived.WalkLawsBesides
import Derived.WalkSpells
import Derived.Deep.QuietTactic
import Derived.BigQuiet
import Derived.Lib.Hide
import Derived.Deep.AppendLies
import Derived.Deep.Draws
import Derived.Deep.Light
import Derived.Maps.AppendAt
import Derived.Test.YtcpdjamlhhfbhaaGreatRows
import Derived.ProofKit
import Derived.OpenShut
import Derived.Carry
import Derived.Deep.Slices
import Derived.Deep.Fields
import Derived.RangeFuncCalls
import Derived.RangeFuncLeaves
import Derived.Shelf.Abstract
import Derived.OwnWalkIn
import Derived.TacticsInMore
import Derived.LoopNIn
import Derived.LoopIn
import Derived.Maps.OwnIn
set_option linter.unusedSimpArgs false
set_option linter.unusedVariables false
namespace Go.Proofs.YtcpdjamlhhfbhaaGreat
structure Sp where
 lo:Int
 hi:Int
structure St where
 id:Int
 long:Sp
 fall:Sp
 radius:Sp
 side:Int
 wall:Int
structure Me where
 kind:Int
 frm:Int
 to:Int
 value:Sp
structure Spot where
 st:Int
 off:Sp
instance : DecidableEq Sp:=fun a b=>decidable_of_iff (a.lo=b.lo∧a.hi=b.hi) (by cases a;cases b;simp)
instance : DecidableEq St:=fun a b=>decidable_of_iff (a.id=b.id∧a.long=b.long∧a.fall=b.fall∧a.radius=b.radius∧a.side=b.side∧a.wall=b.wall) (by cases a;cases b;simp)
instance : DecidableEq Me:=fun a b=>decidable_of_iff (a.kind=b.kind∧a.frm=b.frm∧a.to=b.to∧a.value=b.value) (by cases a;cases b;simp)
instance : Inhabited Sp:=⟨⟨0,0⟩⟩
instance : Inhabited St:=⟨⟨0,⟨0,0⟩,⟨0,0⟩,⟨0,0⟩,0,0⟩⟩
instance : Inhabited Me:=⟨⟨0,0,0,⟨0,0⟩⟩⟩
def encI (x:Int):List Value:=[.int .i64 x]
def encU (x:Int):List Value:=[.int .u32 x]
def zo (s:Sp):List Value:=[.int .i64 s.lo,.int .i64 s.hi]
def zA3 (s:St):List Value:=[.int .i64 s.id,.int .i64 s.long.lo,.int .i64 s.long.hi,.int .i64 s.fall.lo,.int .i64 s.fall.hi,.int .i64 s.radius.lo,.int .i64 s.radius.hi,.int .u8 s.side,.int .i64 s.wall]
def encMe (m:Me):List Value:=[.int .u8 m.kind,.int .i64 m.frm,.int .i64 m.to,.int .i64 m.value.lo,.int .i64 m.value.hi]
def vSp (s:Sp):Value:=.agg #[.int .i64 s.lo,.int .i64 s.hi]
def vSt (s:St):Value:=.agg #[.int .i64 s.id,.int .i64 s.long.lo,.int .i64 s.long.hi,.int .i64 s.fall.lo,.int .i64 s.fall.hi,.int .i64 s.radius.lo,.int .i64 s.radius.hi,.int .u8 s.side,.int .i64 s.wall]
def zCo (a b:Sp):Bool:=decide (a=b)
def eqSt (a b:St):Bool:=decide (a=b)
end Go.Proofs.YtcpdjamlhhfbhaaGreat
namespace Go.Proofs.YtcpdjamlhhfbhaaGreat
def inB (lo hi n:Int):Bool:=decide (lo≤n∧n≤hi)
def zAt (s:Sp) (lo hi:Int):Bool:=inB lo hi s.lo && inB lo hi s.hi && decide (s.lo≤s.hi)
def zEI (last:Int) (s:St):Bool :=
 inB (last+1) 9999 s.id && zAt s.long 1 30000 && zAt s.fall 0 5000 && inB 0 5000 s.wall &&
  (decide (s.side=0) && zCo s.radius ⟨0,0⟩ || inB 1 2 s.side && zAt s.radius 500 20000)
def okFrom (last:Int):List St→Bool
 | []=>true
 | s::r=>zEI last s && okFrom s.id r
def valid (t:List St):Bool:=inB 1 12 t.length && okFrom (-1) t
theorem zAu {lo hi n:Int}:inB lo hi n=true↔lo≤n∧n≤hi:=by simp [inB]
theorem zEN {lo hi n:Int}:inB lo hi n=false↔¬ (lo≤n∧n≤hi):=by simp [inB]
theorem zAa {s:Sp} {lo hi:Int}:zAt s lo hi=true↔lo≤s.lo∧s.lo≤s.hi∧s.hi≤hi:=by
 simp [zAt,inB];omega
def FitT (t:List St):Prop:=∀ s∈t,0≤s.side∧s.side≤255
theorem zBn {s:Sp} {lo hi:Int}:zAt s lo hi=false↔¬ (lo≤s.lo∧s.lo≤s.hi∧s.hi≤hi):=by
 rw [← zAa];simp
theorem zCT {a b:Sp}:zCo a b=true↔a.lo=b.lo∧a.hi=b.hi:=by
 cases a;cases b;simp [zCo]
theorem eqSp_no {a b:Sp}:zCo a b=false↔¬ (a.lo=b.lo∧a.hi=b.hi):=by
 rw [← zCT];simp
end Go.Proofs.YtcpdjamlhhfbhaaGreat
namespace Go.Proofs.YtcpdjamlhhfbhaaGreat
open Go.RowKit
def zAs (f:FuncId) (args:Array Value) (w:World) (v:Value):Prop :=
 Calls Tryz.prog f args w fun e w'=>e = .returned v∧Below w.heap.size w w'
theorem zAs.of {f:FuncId} {args:Array Value} {w:World} {v v':Value} (h:zAs f args w v) (hv:v=v'):zAs f args w v':=hv ▸ h
theorem enters {f:FuncId} {fn:Func} {c:Code} (hf:Tryz.prog.funcs[f]?=some fn) (hname:(fn.name == "runtime.NumGoroutine")=false) (hb:fn.body=some c) (args:Array Value) (w:World):(callFunc f args).run Tryz.prog w = .ok (.enter f args) w:=by
 have hne:¬ (fn.name == "runtime.NumGoroutine")=true:=by rw [hname];simp
 simp [callFunc,run_program,Sem.run_bind,Result.andThen,hf,hb]
 intro h;simp [h] at hname
theorem zBA {v v':Value} (h:v=v'):Ending.returned v=Ending.returned v':=by rw [h]
def zAB {α:Type} (enc:α→List Value) (k:Nat) (w:World) (A:Option Addr) (xs:List α):Prop :=
 ∀ i x,xs[i]?=some x→∃ b o,A=some ⟨b,o,none⟩∧b<w.heap.size∧∀ j v,(enc x)[j]?=some v→w.cell? ⟨b,o+i * k+j,none⟩=some v
section
variable {α : Type} {enc:α→List Value} {k:Nat} {w w':World} {A:Option Addr} {xs:List α}
theorem zAB.below (h:zAB enc k w A xs) (hb:Below w.heap.size w w'):zAB enc k w' A xs:=by
 intro i x hx
 obtain ⟨b,o,hA,hlt,hc⟩:=h i x hx
 exact ⟨b,o,hA,by have:=hb.size;omega,fun j v hv=>by rw [hb.cell hlt];exact hc j v hv⟩
theorem zAB.nil : zAB enc k w A []:=fun i x hx=>by simp at hx
theorem zAB.at_ (h:zAB enc k w A xs) {i:Nat} (hi:i<xs.length) :
  ∃ b o,A=some ⟨b,o,none⟩∧b<w.heap.size∧∀ j v,(enc xs[i])[j]?=some v→w.cell? ⟨b,o+i * k+j,none⟩=some v:=h i _ (by simp [hi])
theorem zAB.alloc (h:zAB enc k w A xs) (o:Obj):zAB enc k (w.alloc o) A xs:=h.below ((Below.refl _ _).alloc (Nat.le_refl _) o)
end
theorem below_drewN {B:Nat} {a w:World} (h:Below B a w) (n:Nat):Below B a (w.drewN n):=⟨h.os,h.tape,h.output,h.size,h.block⟩
theorem zAK (w:World) (o:Obj):Below w.heap.size w (w.alloc o):=(Below.refl _ _).alloc (Nat.le_refl _) o
theorem zD4 {w w1:World} (h:Below w.heap.size w w1) (o:Obj):Below w.heap.size w (w1.alloc o):=h.alloc h.size o
theorem zBW {w w1 w2:World} (h:Below w.heap.size w w1) (h':Below w1.heap.size w1 w2):Below w.heap.size w w2:=h.trans (h'.mono h.size)
theorem bcell {W w1:World} (hb:Below W.heap.size W w1):(∀ b o,b<W.heap.size→w1.cell? ⟨b,o,none⟩=W.cell? ⟨b,o,none⟩)∧(∀ b o,b<W.heap.size→w1.frozen? ⟨b,o,none⟩=W.frozen? ⟨b,o,none⟩) :=
 ⟨fun b o h=>hb.cell (p:=⟨b,o,none⟩) h,fun b o h=>hb.frozen (p:=⟨b,o,none⟩) h⟩
def Blk (w:World) (g:Nat) (cs:Array Value):Prop:=∃ t:TypeId,w.heap[g]?=some (.cells cs t (0,0))
section
variable {w w':World} {g:Nat} {cs:Array Value}
theorem Blk.lt (h:Blk w g cs):g<w.heap.size:=by
 obtain ⟨t,h⟩:=h
 exact (Array.getElem?_eq_some_iff.1 h).1
theorem Blk.cell (h:Blk w g cs) (i:Nat):w.cell? ⟨g,i,none⟩=cs[i]?:=by obtain ⟨t,h⟩:=h;simp [World.cell?,h]
theorem Blk.frozen (h:Blk w g cs) (i:Nat):w.frozen? ⟨g,i,none⟩=false:=by obtain ⟨t,h⟩:=h;simp [World.frozen?,h]
theorem Blk.new (w:World) (t:TypeId) (cs:Array Value):Blk (w.alloc (.cells cs t)) w.heap.size cs:=⟨t,heap_alloc_new w _⟩
theorem Blk.alloc (h:Blk w g cs) (o:Obj):Blk (w.alloc o) g cs:=by obtain ⟨t,k⟩:=h;exact ⟨t,(Below.heap_alloc w o g (Blk.lt ⟨t,k⟩)).trans k⟩
theorem Blk.set_ (h:Blk w g cs) (i:Nat) (u:Value):Blk (w.setCell ⟨g,i,none⟩ u) g (cs.setIfInBounds i u):=by
 obtain ⟨t,h⟩:=h
 refine ⟨t,?_⟩
 simp [World.setCell,Array.getElem?_modify,h]
theorem Blk.below {B:Nat} (h:Blk w g cs) (hb:Below B w w') (hg:g<B):Blk w' g cs:=by obtain ⟨t,h⟩:=h;exact ⟨t,(hb.block g hg).trans h⟩
theorem Blk.past (h:Blk w g cs) (hb:Below w.heap.size w w'):Blk w' g cs:=h.below hb h.lt
theorem Blk.cast {cs':Array Value} (h:Blk w g cs) (e:cs=cs'):Blk w g cs':=e ▸ h
theorem Blk.facts (h:Blk w g cs):(∀ i,w.cell? ⟨g,i,none⟩=cs[i]?)∧(∀ i,w.frozen? ⟨g,i,none⟩=false)∧g<w.heap.size:=⟨h.cell,h.frozen,h.lt⟩
end
attribute [irreducible] Blk
end Go.Proofs.YtcpdjamlhhfbhaaGreat
namespace Go.Proofs.YtcpdjamlhhfbhaaGreat
open Go.RowKit
structure zFW (w:World) where
 world:World
 below:Below w.heap.size w world
instance {w : World}:Nonempty (zFW w):=⟨⟨w,Below.refl _ _⟩⟩
theorem zFW.cell_at {w:World} (g:zFW w) {a:Addr} (h:(w.cell? a).isSome=true):g.world.cell? a=w.cell? a:=by
 obtain ⟨u,hu⟩:=Option.isSome_iff_exists.1 h
 exact g.below.cell (World.block_lt_of_cell? w a hu)
attribute [go_sem] zFW.cell_at
theorem zEv {P:Program} {id:Nat} {Q:Exit→Act→World→Prop} {a:Act} {w:World} {l:List Oper} (hm:P.follows .mixedOrders=true) (hB:Region.lexB .any l.toArray=true)
  (h:wpQuiet P l.toArray (fun w'=>∃ g:zFW w,w'=g.world) (fun a'=>∀ w',(∃ g:zFW w,w'=g.world)→Q .normal a' w') l a):(Code.region id l.toArray true).wp P Q a w :=
 wp_region_quiet (C:=fun w'=>∃ g:zFW w,w'=g.world) hm hB ⟨⟨w.drew,(Below.refl _ _).drew⟩,rfl⟩ (by simpa using h)
theorem grow_nil {P:Program} {w:World} {ops:Array Oper} {K:Act→World→Prop} {a:Act} (h:∀ w',Below w.heap.size w w'→K a w') :
  wpQuiet P ops (fun w'=>∃ g:zFW w,w'=g.world) (fun a'=>∀ w',(∃ g:zFW w,w'=g.world)→K a' w') [] a :=
 wpQuiet_nil fun _ ⟨g,hg⟩=>hg ▸ h g.world g.below
theorem zDQ {f:FuncId} {args:Array Value} {w:World} {v:Value} {g:zFW w} (h:zAs f args g.world v) :
  Calls Tryz.prog f args g.world fun e w'=>e = .returned v∧∃ g':zFW w,w'=g'.world :=
 h.mono fun _ w' ⟨he,hb⟩=>⟨he,⟨w',zBW g.below hb⟩,rfl⟩
end Go.Proofs.YtcpdjamlhhfbhaaGreat
namespace Go.Proofs.YtcpdjamlhhfbhaaGreat
open Go.ChangeShapes Go.WideShapes Go.ChangeAt Go.RowKit
theorem ownKnobs : ownKnob Tryz.prog.godebug=none:=by kernel_rfl
theorem laidOuts : laidOutB Tryz.prog=true:=by kernel_rfl
section
variable {H : Type} {enc:TypeId × Value→H} {P:Program} {w w':World} {sp sp':Nat→Bool}
theorem zDX (hl:laidOutB P=true):∀ {ts:List TypeId} {vs:List Value} {ds:List (DataW H)} {ps:List MemPlace},(∀ t∈ts,P.readableRec t=true∧t<P.types.size)→DataW.TrodAll enc P w 0 (fun _=>true) true ts vs ds ps →
  (∀ p∈ps,w.sameAt w' p)→(∀ p∈ps,sp' p.block=true)→DataW.TrodAll enc P w' 0 sp' true ts vs ds ps
 | [],vs,ds,ps,_,h,_,_=>by
  obtain ⟨rfl,rfl,rfl⟩:=trodAll_nil h
  exact trodAll_mk0
 | t::ts,vs,ds,ps,hr,h,h1,h2=>by
  obtain ⟨v,vs',d,ds',p,q,rfl,rfl,rfl,hv,hrest⟩:=trodAll_cons h
  have ht:=hr t (by simp)
  exact trodAll_cons_mk (WideElems.Trod_stays hl ht.1 ht.2 hv (fun x hx=>h1 x (by simp [hx])) (fun x hx=>h2 x (by simp [hx])))
   (zDX hl (fun u hu=>hr u (by simp [hu])) hrest (fun x hx=>h1 x (by simp [hx])) (fun x hx=>h2 x (by simp [hx])))
theorem law_post (hlaid:laidOutB P=true) {f:Func} {s:ChangeSpec} {tb:TypeId} {args:Array Value} {ds gs:List (DataW H)} {before:List MemPlace} (hW:DataW.Whole enc P f.params.toList s.vars false w args.toList ds gs before)
  (hv:s.vars=[]) (hs:s.fn H (ds++gs) = { results:=[.lit (.bool true)],args:=ds }) (hr:f.resultTypes=#[tb]) (hb:P.underlying tb=some .bool) (hp:∀ t∈f.params.toList,P.readableRec t=true∧t<P.types.size) (hB:Below w.heap.size w w') :
  s.post enc P f false true false false w args (.bool true) w':=by
 have hlt:∀ p∈before,p.block<w.heap.size:=fun p hp=>hW.lt p hp
 have hW':=hW
 obtain ⟨pa,pv,hA,hV,rfl,hfz,hn⟩:=hW
 rw [hv] at hV
 obtain ⟨rfl,rfl⟩:=trodVars_none hV
 simp only [List.append_nil] at hW' hlt hfz hn hs
 have hargs:∀ sp':Nat→Bool,(∀ p∈pa,sp' p.block=true)→DataW.TrodAll enc P w' 0 sp' true f.params.toList args.toList ds pa:=fun sp' h=>zDX hlaid hp hA (fun p hp=>hB.same (hlt p hp)) h
 have hres:∀ (b:Nat) (sp':Nat→Bool) (hd:Bool),DataW.TrodAll enc P w' b sp' hd f.resultTypes.toList ((Value.bool true).resultList f.resultTypes.size) [.lit (.bool true)] []:=fun b sp' hd=>by
  rw [hr]
  exact trodAll_mk1 (shut_bool hb true)
 have hold:∀ p∈pa,(fun b=>decide (b<w.heap.size)) p.block=true:=fun p hp=>by simpa using hlt p hp
 refine ⟨ds,[],pa,[],pa,[],hW',?_,?_,?_,World.keptBut_mono (fun p hp=>⟨hp,Or.inr (Or.inl hp)⟩) (hB.frame (·∈pa)),fun h=>by cases h⟩
 ·rw [List.append_nil,hs];exact hres _ _ _
 ·rw [List.append_nil,hs];exact hargs _ hold
 ·rw [List.append_nil,hs,hv];exact rfl
end
section
variable {H : Type} {enc:TypeId × Value→H} {w:World} {sp:Nat→Bool} {held:Bool} {n:Nat} {cs:List Value} {x:DataW H × List MemPlace}
def In64 (v:Int):Prop:=-9223372036854775808≤v∧v≤9223372036854775807
theorem in64 {v:Int} (h:(Lit.int .i64 v).wf=true):In64 v:=by
 simp [Lit.wf,IntKind.min,IntKind.max,IntKind.signed,IntKind.bits] at h
 unfold In64;omega
theorem inU8 {v:Int} (h:(Lit.int .u8 v).wf=true):0≤v∧v≤255:=by
 simp [Lit.wf,IntKind.min,IntKind.max,IntKind.signed,IntKind.bits] at h
 omega
theorem inU32 {v:Int} (h:(Lit.int .u32 v).wf=true):0≤v∧v≤4294967295:=by
 simp [Lit.wf,IntKind.min,IntKind.max,IntKind.signed,IntKind.bits] at h
 omega
theorem zBj {T:TypeId} (hT:Tryz.prog.underlying T=some (.int .i64)) (h:DataW.trod enc Tryz.prog w 0 sp held n T cs=some x):∃ v,cs=[.int .i64 v]∧In64 v:=by
 obtain ⟨v,h1,_,h2⟩:=DataW.trod_int hT h
 exact ⟨v,h1,in64 h2⟩
theorem rd_u8 {T:TypeId} (hT:Tryz.prog.underlying T=some (.int .u8)) (h:DataW.trod enc Tryz.prog w 0 sp held n T cs=some x):∃ v,cs=[.int .u8 v]∧0≤v∧v≤255:=by
 obtain ⟨v,h1,_,h2⟩:=DataW.trod_int hT h
 exact ⟨v,h1,inU8 h2⟩
theorem rd_u32 {T:TypeId} (hT:Tryz.prog.underlying T=some (.int .u32)) (h:DataW.trod enc Tryz.prog w 0 sp held n T cs=some x):∃ v,cs=[.int .u32 v]∧0≤v∧v≤4294967295:=by
 obtain ⟨v,h1,_,h2⟩:=DataW.trod_int hT h
 exact ⟨v,h1,inU32 h2⟩
theorem zAG {P:Program} {T:TypeId} {fs:Array Field} (hT:P.underlying T=some (.struct fs)) (h:DataW.trod enc P w 0 sp held n T cs=some x) {j:Nat} {f:Field} (hj:fs[j]?=some f) {off k:Nat} (ho:f.offset=off) (hk:P.cellsOf f.type=k) :
  ∃ n' y,DataW.trod enc P w 0 sp held n' f.type ((cs.drop off).take k)=some y:=by
 obtain ⟨xs,n',_,_,_,hl,hf⟩:=DataW.trod_struct hT h
 have:=hf j f hj
 rw [ho,hk] at this
 have hlt:j<xs.length:=by rw [hl];exact (Array.getElem?_eq_some_iff.1 hj).1
 rw [List.getElem?_eq_getElem hlt] at this
 exact ⟨n',_,this⟩
theorem zCu {P:Program} {T:TypeId} {fs:Array Field} (hT:P.underlying T=some (.struct fs)) (h:DataW.trod enc P w 0 sp held n T cs=some x) {k:Nat} (hk:P.cellsOf T=k):cs.length=k:=by
 obtain ⟨xs,n',_,_,hc,_⟩:=DataW.trod_struct hT h
 rw [hc,hk]
def FitSp (s:Sp):Prop:=In64 s.lo∧In64 s.hi
def FitSt (s:St):Prop:=In64 s.id∧FitSp s.long∧FitSp s.fall∧FitSp s.radius∧(0≤s.side∧s.side≤255)∧In64 s.wall
theorem zDZ (h:DataW.trod enc Tryz.prog w 0 sp held n 26 cs=some x):∃ s:Sp,cs=zo s∧FitSp s:=by
 have hl:=zCu Tryz.underlying26 h (k:=2) (by kernel_rfl)
 obtain ⟨n0,y0,h0⟩:=zAG Tryz.underlying26 h (j:=0) rfl rfl (k:=1) (by kernel_rfl)
 obtain ⟨n1,y1,h1⟩:=zAG Tryz.underlying26 h (j:=1) rfl rfl (k:=1) (by kernel_rfl)
 obtain ⟨a,e0,f0⟩:=zBj Tryz.underlying3 h0
 obtain ⟨b,e1,f1⟩:=zBj Tryz.underlying3 h1
 match cs,hl with
 | [c0,c1],_ =>
  simp at e0 e1
  exact ⟨⟨a,b⟩,by simp [zo,e0,e1],f0,f1⟩
theorem rd_st (h:DataW.trod enc Tryz.prog w 0 sp held n 70 cs=some x):∃ s:St,cs=zA3 s∧FitSt s:=by
 have hl:=zCu Tryz.underlying70 h (k:=9) (by kernel_rfl)
 obtain ⟨n0,y0,h0⟩:=zAG Tryz.underlying70 h (j:=0) rfl rfl (k:=1) (by kernel_rfl)
 obtain ⟨n1,y1,h1⟩:=zAG Tryz.underlying70 h (j:=1) rfl rfl (k:=2) (by kernel_rfl)
 obtain ⟨n2,y2,h2⟩:=zAG Tryz.underlying70 h (j:=2) rfl rfl (k:=2) (by kernel_rfl)
 obtain ⟨n3,y3,h3⟩:=zAG Tryz.underlying70 h (j:=3) rfl rfl (k:=2) (by kernel_rfl)
 obtain ⟨n4,y4,h4⟩:=zAG Tryz.underlying70 h (j:=4) rfl rfl (k:=1) (by kernel_rfl)
 obtain ⟨n5,y5,h5⟩:=zAG Tryz.underlying70 h (j:=5) rfl rfl (k:=1) (by kernel_rfl)
 obtain ⟨a,e0,f0⟩:=zBj Tryz.underlying3 h0
 obtain ⟨b,e1,f1⟩:=zDZ h1
 obtain ⟨c,e2,f2⟩:=zDZ h2
 obtain ⟨d,e3,f3⟩:=zDZ h3
 obtain ⟨e,e4,f4⟩:=rd_u8 Tryz.underlying5 h4
 obtain ⟨f,e5,f5⟩:=zBj Tryz.underlying3 h5
 match cs,hl with
 | [c0,c1,c2,c3,c4,c5,c6,c7,c8],_ =>
  simp [zo] at e0 e1 e2 e3 e4 e5
  exact ⟨⟨a,b,c,d,e,f⟩,by simp [zA3,e0,e1,e2,e3,e4,e5],f0,f1,f2,f3,f4,f5⟩
theorem zCj {α:Type} {en:α→List Value} {k:Nat} {ok:α→Prop} {T e:TypeId} (hT:Tryz.prog.underlying T=some (.slice e)) (hk:Tryz.prog.cellsOf e=k) (hk0:0<k) (hen:∀ z,(en z).length=k)
  (hel:∀ n cs x,DataW.trod enc Tryz.prog w 0 (fun _=>true) held n e cs=some x→∃ z:α,cs=en z∧ok z) (h:DataW.trod enc Tryz.prog w 0 (fun _=>true) held n T cs=some x) :
  ∃ (A:Option Addr) (xs:List α) (c:Nat),cs=[.slice A xs.length c]∧zAB en k w A xs∧(∀ z∈xs,ok z)∧xs.length≤c∧c≤maxLen:=by
 rcases Go.Deep.open_slice hT h with ⟨rfl,_⟩ | ⟨a,len,cap,m,n',D,Pl,rfl,_,hlc,hcm,hm,_,hi⟩
 ·exact ⟨none,[],0,rfl,zAB.nil,by simp,by simp,by simp⟩
 ·simp only [if_true] at hm
  subst hm
  have hz:∀ i,i<len→∃ z:α,ok z∧a.spot=none∧∀ j v,(en z)[j]?=some v→w.cell? ⟨a.block,a.off+i * k+j,none⟩=some v:=by
   intro i hil
   obtain ⟨cs',hc,ht⟩:=hi i (by omega)
   obtain ⟨z,rfl,hok⟩:=hel _ _ _ ht
   rw [hk] at hc
   obtain ⟨_,_,hcell⟩:=World.cells?_some hc
   have hc0:=hcell 0 hk0
   have hl0:=hen z
   have hs:a.spot=none:=by
    have h1:∃ v,w.cell? ((a.add (i * k)).add 0)=some v:=by
     rw [hc0];exact ⟨(en z)[0]'(by omega),List.getElem?_eq_getElem (by omega)⟩
    obtain ⟨v,hv⟩:=h1
    simp only [Addr.add,if_true] at hv
    by_cases h0:i * k=0
    ·rw [if_pos h0] at hv
     cases hsp:a.spot with
     | none=>rfl
     | some s=>simp [World.cell?,hsp] at hv;split at hv<;>cases hv
    · -- a later one: the first one tells
     obtain ⟨cs0,hc',ht'⟩:=hi 0 (by omega)
     rw [hk] at hc'
     obtain ⟨z0,rfl,_⟩:=hel _ _ _ ht'
     obtain ⟨_,_,hcell'⟩:=World.cells?_some hc'
     have h2:=hcell' 0 hk0
     simp only [Nat.zero_mul,Addr.add,if_true] at h2
     have hl1:=hen z0
     rw [List.getElem?_eq_getElem (by omega)] at h2
     cases hsp:a.spot with
     | none=>rfl
     | some s=>simp [World.cell?,hsp] at h2;split at h2<;>cases h2
   refine ⟨z,hok,hs,fun j v hv=>?_⟩
   have hj:j<k:=by rw [← hl0];exact (List.getElem?_eq_some_iff.1 hv).1
   have:=hcell j hj
   rw [hv] at this
   obtain ⟨b,o,s⟩:=a
   simp only at hs
   subst hs
   have e1:((⟨b,o,none⟩:Addr).add (i * k)).add j=⟨b,o+i * k+j,none⟩:=by
    simp only [Addr.add];split<;>split<;>simp_all<;>omega
   rw [e1] at this
   exact this
  rcases Nat.eq_zero_or_pos len with h0|h0
  ·subst h0
   exact ⟨some a,[],_,rfl,zAB.nil,by simp,by simp,hcm⟩
  ·have hs:a.spot=none:=(hz 0 h0).choose_spec.2.1
   obtain ⟨b,o,s⟩:=a
   simp only at hs
   subst hs
   let f:Nat→α:=fun i=>if h:i<len then (hz i h).choose else (hz 0 h0).choose
   refine ⟨some ⟨b,o,none⟩,(List.range len).map f,m,by simp,?_,?_,by simpa using hlc,hcm⟩
   ·intro i z hiz
    rw [List.getElem?_map] at hiz
    obtain ⟨i',hi',rfl⟩:=Option.map_eq_some_iff.1 hiz
    obtain ⟨hlt,rfl⟩:=List.getElem?_eq_some_iff.1 hi'
    simp only [List.length_range] at hlt
    simp only [List.getElem_range]
    have hsp:=(hz i hlt).choose_spec.2.2
    have hf:f i=(hz i hlt).choose:=by simp [f,hlt]
    rw [hf]
    refine ⟨b,o,rfl,?_,hsp⟩
    have hlen:=hen (hz i hlt).choose
    have:=hsp 0 _ (List.getElem?_eq_getElem (by omega))
    exact World.block_lt_of_cell? w _ this
   ·intro z hz'
    obtain ⟨i,hi',rfl⟩:=List.mem_map.1 hz'
    have hlt:=List.mem_range.1 hi'
    have hf:f i=(hz i hlt).choose:=by simp [f,hlt]
    rw [hf]
    exact (hz i hlt).choose_spec.1
set_option maxRecDepth 20000 in
theorem zHq {base:Nat} {r:Reach} {v:Value} {dd:DataW H} {p:List MemPlace} (hv:Value.okWide Tryz.prog w r base 24 v) (h:DataW.Trod enc Tryz.prog w 0 (fun _=>true) held 24 v dd p) :
  ∃ (A:Option Addr) (t:List St) (c:Nat),v = .agg #[.slice A t.length c]∧zAB zA3 9 w A t∧(∀ s∈t,FitSt s)∧t.length≤c∧c≤maxLen:=by
 obtain ⟨cs,rfl,_⟩:=okWide_struct Tryz.underlying24 hv
 obtain ⟨fuel,hf⟩:=h
 have hl:=zCu Tryz.underlying24 hf (k:=1) (by kernel_rfl)
 obtain ⟨n0,y0,h0⟩:=zAG Tryz.underlying24 hf (j:=0) rfl rfl (k:=1) (by kernel_rfl)
 obtain ⟨A,t,c,e0,hs,hfit,h1,h2⟩:=zCj (en:=zA3) (k:=9) (ok:=FitSt) Tryz.underlying22 (by kernel_rfl) (by omega) (fun _=>rfl) (fun _ _ _ h=>rd_st h) h0
 refine ⟨A,t,c,?_,hs,hfit,h1,h2⟩
 obtain ⟨l⟩:=cs
 match l,hl with
 | [c0],_ =>
  simp [Value.cells] at e0
  rw [e0]
end
end Go.Proofs.YtcpdjamlhhfbhaaGreat
namespace Go.Proofs.YtcpdjamlhhfbhaaGreat
open Go.RowKit
abbrev zEV := Act→List Nat→World→Prop
def zGb (ops:Array Oper) (o:Oper):List Tmp :=
 (o.op.operands.toList.filterMap fun | .tmp t=>some t | _=>none) ++
 (match o.guard with|some (j,_)=>((ops[j]?).bind (·.dst)).toList|none=>[])
def dirB (ops:Array Oper) (i k:Nat):Bool:=match ops[i]? with|some o=>o.after.any (fun e=>Region.binds .any e && e.on == k)|none=>false
def conOf (con:List (Nat × List Nat)) (i:Nat):List Nat:=(con.filter (·.1 == i)).flatMap (·.2)
def exOf (con:List (Nat × List Nat)) (r:Nat):Bool:=con.any fun c=>c.2.contains r
def zD8 (ops:Array Oper) (con:List (Nat × List Nat)) (m i:Nat):List Nat :=
 (((List.range ops.size).filter fun k=>dirB ops i k && !exOf con (m+k)).map (m + ·))++conOf con i
section
variable (P : Program) (ops:Array Oper) (X:Nat→Prop) (a₀:Act) (w₀:World) (As:Nat→zEV) (con:List (Nat × List Nat)) (m:Nat)
structure Cls (w:World):Prop where
 os:w.os=w₀.os
 tape:w.tape=w₀.tape
 output:w.output=w₀.output
 size:w₀.heap.size≤w.heap.size
 block:∀ b,b<w₀.heap.size→¬ X b→w.heap[b]?=w₀.heap[b]?
def zH8 (i:Nat) (o:Oper) (a:Act) (w:World) (S:Nat→List Nat) (a':Act) (w':World):Prop :=
 ∃ v S',a'=a.put o.dst v∧w'.os=w.os∧w'.tape=w.tape∧w'.output=w.output∧w.heap.size≤w'.heap.size ∧
  (∀ b,b<w.heap.size→(∀ r∈conOf con i,b ∉ S r)→w'.heap[b]?=w.heap[b]?) ∧
  (∀ b∈S',(w.heap.size≤b∧b<w'.heap.size)∨(∃ r∈conOf con i,b∈S r)∨(exOf con (m+i)=false∧∃ r∈zD8 ops con m i,exOf con r=false∧b∈S r)) ∧
  As (m+i) a' S' w'
def OpOk (i:Nat) (o:Oper):Prop :=
 ∀ (a:Act) (w:World) (S:Nat→List Nat),a.tmps.size=a₀.tmps.size→a.defers=a₀.defers→Cls X w₀ w →
  (∀ t∈zGb ops o,(∀ k o',k<i→ops[k]?=some o'→o'.dst≠some t)→a.tmps.getD t undef=a₀.tmps.getD t undef) →
  (∀ r∈zD8 ops con m i,As r a (S r) w) →
  if Region.wanted o (yielded ops a.tmps) then o.wp P a w (zH8 ops As con m i o a w S) (fun _ _ _=>False) else zH8 ops As con m i o a w S (a.put o.dst undef) w
end
theorem zHA {P:Program} {o:Oper} {a:Act} {w:World} {K K':Act→World→Prop} {Q:Exit→Act→World→Prop} (h:o.wp P a w K (fun _ _ _=>False)) (hk:∀ a w,K a w→K' a w):o.wp P a w K' Q:=by
 unfold Oper.wp at *
 generalize (execOp a.eval o).run P w=r at *
 cases r with
 | ok n w' =>
  cases n<;>simp only [Oper.upon] at *<;>first|exact hk _ _ h|exact h.mono (fun e w'' he=>by cases e<;>first|exact hk _ _ he|exact he.elim|exact (by obtain ⟨_,_,hf⟩:=he;exact hf.elim))|exact h.mono (fun v w'' he=>hk _ _ he)|exact h.elim
 | halt x w'=>cases x<;>simp only [Oper.upon] at *<;>exact h.elim
theorem zBo {a:Act} {d:Option Tmp} {v:Value} {t:Tmp} (h:d≠some t):(a.put d v).tmps.getD t undef=a.tmps.getD t undef:=by
 cases d with
 | none=>rfl
 | some d =>
  have hne:d≠t:=fun e=>h (by rw [e])
  simp [Act.put,Array.getElem?_setIfInBounds_ne hne]
theorem size_put {a:Act} {d:Option Tmp} {v:Value}:(a.put d v).tmps.size=a.tmps.size:=by cases d<;>simp [Act.put]
theorem zDl {a:Act} {d:Option Tmp} {v:Value}:(a.put d v).defers=a.defers:=by cases d<;>simp [Act.put]
section
variable {P : Program} {ops:Array Oper} {X:Nat→Prop} {a₀:Act} {w₀:World} {As:Nat→zEV} {con:List (Nat × List Nat)} {m:Nat} {Q:Exit→Act→World→Prop}
theorem dirB_lt {i k:Nat} (h:dirB ops i k=true):i<ops.size:=by
 unfold dirB at h
 split at h
 ·rename_i o ho;exact (Array.getElem?_eq_some_iff.1 ho).1
 ·cases h
theorem count_set {listed:Array Bool} {i:Nat} (hi:i<listed.size) (h:listed.getD i true=false):(listed.setIfInBounds i true).toList.count false+1=listed.toList.count false:=by
 have hv:listed[i]=false:=by simpa [Array.getElem?_eq_getElem hi] using h
 have hl:i<listed.toList.length:=by simpa using hi
 have hv':listed.toList[i]=false:=by simpa using hv
 have hpos:0<listed.toList.count false:=by
  rw [List.count_pos_iff,← hv'];exact List.getElem_mem _
 have h2:=List.count_set (a:=true) (b:=false) hl
 rw [Array.toList_setIfInBounds,h2,hv']
 simp only [beq_self_eq_true,if_true]
 have:((true == false)=true)=False:=by simp
 simp only [this,if_false]
 omega
end
end Go.Proofs.YtcpdjamlhhfbhaaGreat
namespace Go.Proofs.YtcpdjamlhhfbhaaGreat
open Go.RowKit
section
variable {P : Program} {ops:Array Oper} {X:Nat→Prop} {a₀:Act} {w₀:World} {As:Nat→zEV} {con:List (Nat × List Nat)} {m:Nat}
def restB (ops:Array Oper) (i:Nat) (t:Tmp):Bool :=
 (match ops[i]? with|some o=>(zGb ops o).contains t|none=>false) && (List.range i).all fun k=>match ops[k]? with|some o=>!(o.dst == some t)|none=>true
theorem rest_of {a:Act} {i:Nat} {o:Oper} (ho:ops[i]?=some o) (h:∀ t∈zGb ops o,(∀ k o',k<i→ops[k]?=some o'→o'.dst≠some t)→a.tmps.getD t undef=a₀.tmps.getD t undef) {t:Tmp} (hb:restB ops i t=true):a.tmps.getD t undef=a₀.tmps.getD t undef:=by
 simp only [restB,ho,Bool.and_eq_true,List.all_eq_true,List.mem_range,List.contains_iff_mem] at hb
 refine h t hb.1 (fun k o' hk hko hd=>?_)
 have:=hb.2 k hk
 simp [hko,hd] at this
theorem av_of {i r:Nat} (h:(zD8 ops con m i).contains r=true):r∈zD8 ops con m i:=List.contains_iff_mem.1 h
def asn (d:Option Tmp) (V:List Nat→Value) (pS:List Nat→Prop) (Bs:List Nat→List (Nat × Array Value)):zEV:=fun a S w =>
 pS S∧(∀ t,d=some t→a.tmps.getD t undef=V S)∧∀ p∈Bs S,p.1∈S∧Blk w p.1 p.2
def vA (t:Tmp) (v:Value):zEV:=asn (some t) (fun _=>v) (fun _=>True) (fun _=>[])
def nA : zEV:=asn none (fun _=>undef) (fun _=>True) (fun _=>[])
def bA (t:Tmp) (f:Nat→Value) (cs:Array Value):zEV:=asn (some t) (fun S=>f (S.getD 0 0)) (fun S=>S.length=1) (fun S=>[(S.getD 0 0,cs)])
def slA (t:Tmp) (n:Nat) (cs:Array Value):zEV:=bA t (fun g=>.slice (some ⟨g,0,none⟩) n n) cs
def pA (t:Tmp) (cs:Array Value):zEV:=bA t (fun g=>.pointer (some ⟨g,0,none⟩)) cs
def oA (b:Nat) (cs:Array Value):zEV:=asn none (fun _=>undef) (fun S=>S=[b]) (fun _=>[(b,cs)])
def voA (t:Tmp) (v:Value) (b:Nat) (cs:Array Value):zEV:=asn (some t) (fun _=>v) (fun S=>S=[b]) (fun _=>[(b,cs)])
def OpD (P:Program) (ops:Array Oper) (X:Nat→Prop) (a₀:Act) (w₀:World) (As:Nat→zEV) (con:List (Nat × List Nat)) (m i:Nat) (o:Oper):Prop:=ops[i]?=some o→OpOk P ops X a₀ w₀ As con m i o
theorem OpOk.of {i:Nat} {o:Oper}
  (h:∀ (a:Act) (w:World) (S:Nat→List Nat),a.tmps.size=a₀.tmps.size→Cls X w₀ w→(∀ t,restB ops i t=true→a.tmps.getD t undef=a₀.tmps.getD t undef)→(∀ r,(zD8 ops con m i).contains r=true→As r a (S r) w) →
   ∀ K:Act→World→Prop,(∀ v w',zH8 ops As con m i o a w S (a.put o.dst v) w'→K (a.put o.dst v) w')→if Region.wanted o (yielded ops a.tmps)=true then Oper.wp P o a w K (fun _ _ _=>False) else K (a.put o.dst undef) w) :
  OpD P ops X a₀ w₀ As con m i o :=
 fun ho a w S hs _ hC hr hav=>h a w S hs hC (fun _ hb=>rest_of ho hr hb) (fun r hb=>hav r (av_of hb)) _ (fun _ _ h=>h)
theorem Cls.cells {w:World} (h:Cls X w₀ w):(∀ b o,b<w₀.heap.size→¬ X b→w.cell? ⟨b,o,none⟩=w₀.cell? ⟨b,o,none⟩)∧(∀ b o,b<w₀.heap.size→¬ X b→w.frozen? ⟨b,o,none⟩=w₀.frozen? ⟨b,o,none⟩) :=
 ⟨fun b o hb hx=>by simp [World.cell?,h.block b hb hx],fun b o hb hx=>by simp [World.frozen?,h.block b hb hx]⟩
def zCJ (p:Nat→Prop):Nat→Nat→Prop
 | _,0=>True
 | k,n+1=>p k∧zCJ p (k+1) n
theorem zCJ.get {p:Nat→Prop}:∀ {n k:Nat},zCJ p k n→∀ r,k≤r→r<k+n→p r
 | 0,_,_,r,h1,h2=>by omega
 | n+1,k,⟨h,hr⟩,r,h1,h2=>by
  by_cases hk:r=k
  ·exact hk ▸ h
  ·exact zCJ.get hr r (by omega) (by omega)
theorem zCJ.nil {p:Nat→Prop} {k:Nat}:zCJ p k 0:=trivial
theorem zCJ.cons {p:Nat→Prop} {k n:Nat} (h:p k) (hr:zCJ p (k+1) n):zCJ p k (n+1):=⟨h,hr⟩
def zEB (P:Program) (ops:Array Oper) (X:Nat→Prop) (a₀:Act) (w₀:World) (As:Nat→zEV) (con:List (Nat × List Nat)) (m:Nat):Nat→List Oper→Prop
 | _,[]=>True
 | i,o::l=>OpD P ops X a₀ w₀ As con m i o∧zEB P ops X a₀ w₀ As con m (i+1) l
theorem zEB.nil {k:Nat}:zEB P ops X a₀ w₀ As con m k []:=trivial
theorem zEB.cons {k:Nat} {o:Oper} {l:List Oper} (h:OpD P ops X a₀ w₀ As con m k o) (hr:zEB P ops X a₀ w₀ As con m (k+1) l):zEB P ops X a₀ w₀ As con m k (o::l):=⟨h,hr⟩
theorem zEB.get : ∀ {l:List Oper} {k:Nat},zEB P ops X a₀ w₀ As con m k l→∀ i o,l[i]?=some o→ops[k+i]?=some o→OpOk P ops X a₀ w₀ As con m (k+i) o
 | [],_,_,i,o,h,_=>by simp at h
 | x::l,k,⟨h,hr⟩,0,o,ho,hk=>by
  simp at ho;subst ho;exact h hk
 | x::l,k,⟨h,hr⟩,i+1,o,ho,hk=>by
  have:=zEB.get hr i o (by simpa using ho)
  rw [show k+(i+1)=k+1+i by omega] at hk ⊢
  exact this hk
end
attribute [irreducible] asn
attribute [reducible] vA nA bA slA pA oA voA
end Go.Proofs.YtcpdjamlhhfbhaaGreat
namespace Go.Proofs.YtcpdjamlhhfbhaaGreat
open Go.RowKit
structure Off (lo hi:Nat) (W W':World):Prop where
 os:W'.os=W.os
 tape:W'.tape=W.tape
 output:W'.output=W.output
 size:W.heap.size≤W'.heap.size
 block:∀ k,k<W.heap.size→¬ (lo≤k∧k<hi)→W'.heap[k]?=W.heap[k]?
structure On (lo hi:Nat) (W W':World):Prop where
 os:W'.os=W.os
 tape:W'.tape=W.tape
 output:W'.output=W.output
 size:W.heap.size≤W'.heap.size
 block:∀ k,lo≤k→k<hi→W'.heap[k]?=W.heap[k]?
theorem Below.off {n lo hi:Nat} {W W':World} (h:Below n W W') (hlo:∀ k,k<W.heap.size→¬ (lo≤k∧k<hi)→k<n):Off lo hi W W' :=
 ⟨h.os,h.tape,h.output,h.size,fun k hk hn=>h.block k (hlo k hk hn)⟩
theorem Blk.off {lo hi g:Nat} {W W':World} {cs:Array Value} (h:Blk W g cs) (ho:Off lo hi W W') (hg:g<lo):Blk W' g cs:=by
 have hl:=h.lt
 unfold Blk at h ⊢
 obtain ⟨t,h⟩:=h
 exact ⟨t,(ho.block g hl (by omega)).trans h⟩
end Go.Proofs.YtcpdjamlhhfbhaaGreat
namespace Go.Proofs.YtcpdjamlhhfbhaaGreat
open Go.RowKit
def Row {α:Type} (enc:α→List Value) (k:Nat) (e:TypeId) (base:Nat) (w:World) (v:Value) (xs:List α):Prop :=
 w.ownsRow base e k v xs.length (xs.flatMap enc)
section
variable {α : Type} {enc:α→List Value} {k:Nat} {e:TypeId} {base:Nat} {w w':World} {v:Value} {xs:List α}
theorem Row.nil : Row enc k e base w (.slice none 0 0) ([]:List α):=World.ownsRow_nil _ _ _ _
theorem Row.same (h:Row enc k e base w v xs) (hb:∀ g,v.ownBlock=some g→w'.heap[g]?=w.heap[g]?):Row enc k e base w' v xs:=by
 obtain ⟨h1,h2⟩:=h
 refine ⟨h1,?_⟩
 rcases h2 with h2 | ⟨g,cap,cur,rfl,h3,h4,h5⟩
 ·exact .inl h2
 ·exact .inr ⟨g,cap,cur,rfl,h3,(hb g rfl).trans h4,h5⟩
theorem Row.lt (h:Row enc k e base w v xs):∀ g,v.ownBlock=some g→base≤g∧g<w.heap.size:=World.ownsRow.lt h
theorem Row.off {lo hi:Nat} (h:Row enc k e base w v xs) (ho:Off lo hi w w') (hb:hi≤base):Row enc k e base w' v xs :=
 h.same fun g hg=>ho.block g (h.lt g hg).2 (by have:=(h.lt g hg).1;omega)
theorem Row.form (h:Row enc k e base w v xs):∃ A c,v = .slice A xs.length c:=by
 obtain ⟨_,h2⟩:=h
 rcases h2 with ⟨rfl,h⟩ | ⟨g,cap,cur,rfl,_⟩
 ·exact ⟨none,0,by rw [h]⟩
 ·exact ⟨_,_,rfl⟩
theorem zCy (henc:∀ x,(enc x).length=k):∀ (xs:List α) (i:Nat) (x:α),xs[i]?=some x→∀ j u,(enc x)[j]?=some u→(xs.flatMap enc)[i * k+j]?=some u
 | [],i,x,h,_,_,_=>by simp at h
 | y::r,0,x,h,j,u,hj=>by
  simp at h;subst h
  simp only [List.flatMap_cons,Nat.zero_mul,Nat.zero_add]
  rw [List.getElem?_append_left (by have:=List.getElem?_eq_some_iff.1 hj;exact this.1)]
  exact hj
 | y::r,i+1,x,h,j,u,hj=>by
  simp only [List.flatMap_cons]
  have hl:=henc y
  rw [List.getElem?_append_right (by rw [hl,Nat.succ_mul];omega)]
  have:=zCy henc r i x (by simpa using h) j u hj
  rw [show (i+1) * k+j - (enc y).length=i * k+j by rw [hl,Nat.succ_mul];omega]
  exact this
theorem Row.slAt (h:Row enc k e base w v xs) (henc:∀ x,(enc x).length=k):∃ A c,v = .slice A xs.length c∧zAB enc k w A xs:=by
 obtain ⟨h1,h2⟩:=h
 rcases h2 with ⟨rfl,h⟩ | ⟨g,cap,cur,rfl,h3,h4,h5,h6,h7,h8⟩
 ·refine ⟨none,0,by rw [h],?_⟩
  intro i x hx
  rw [List.eq_nil_of_length_eq_zero h] at hx;simp at hx
 ·refine ⟨_,_,rfl,fun i x hx=>⟨g,0,rfl,(Array.getElem?_eq_some_iff.1 h4).1,fun j u hj=>?_⟩⟩
  have hf:=zCy henc xs i x hx j u hj
  rw [← h8] at hf
  simp only [World.cell?,h4,Nat.zero_add]
  rw [List.getElem?_take] at hf
  split at hf
  ·simpa using hf
  ·cases hf
end
theorem zFN {α:Type} {enc:α→List Value} {k:Nat} (henc:∀ x,(enc x).length=k):∀ (xs:List α) (j:Nat) (u:Value),(xs.flatMap enc)[j]?=some u→∃ i x l,xs[i]?=some x∧(enc x)[l]?=some u∧j=i * k+l
 | [],j,u,h=>by simp at h
 | y::r,j,u,h=>by
  simp only [List.flatMap_cons] at h
  by_cases hj:j<(enc y).length
  ·rw [List.getElem?_append_left hj] at h
   exact ⟨0,y,j,by simp,h,by simp⟩
  ·rw [List.getElem?_append_right (by omega)] at h
   obtain ⟨i,x,l,h1,h2,h3⟩:=zFN henc r _ u h
   have:=henc y
   exact ⟨i+1,x,l,by simpa using h1,h2,by rw [Nat.succ_mul];omega⟩
section
variable {α : Type} {enc:α→List Value} {k:Nat} {e:TypeId} {P:Program}
structure Elem (P:Program) (t e:TypeId) (k bytes:Nat) (z:Value):Prop where
 under:P.underlying t=some (.slice e)
 info:∃ i,P.info? e=some i∧i.zero=some z∧i.size=k∧i.bytes=bytes
 zs:z.cells.size=k
 pos:0<k
end
theorem elem_sp : Elem Tryz.prog 55 26 2 16 (.agg #[.int .i64 0,.int .i64 0]) :=
 ⟨by simp [go_sem],info_parts (by kernel_rfl),by rfl,by decide⟩
theorem elem_i : Elem Tryz.prog 32 3 1 8 (.int .i64 0) :=
 ⟨by simp [go_sem],info_parts (by kernel_rfl),by rfl,by decide⟩
theorem one_sp {x:Sp}:∀ u∈zo x,u.oneCell'=true:=by simp [zo,Value.oneCell']
theorem one_st (x:St):∀ u∈zA3 x,u.oneCell'=true:=by simp [zA3,Value.oneCell']
theorem one_me (x:Me):∀ u∈encMe x,u.oneCell'=true:=by simp [encMe,Value.oneCell']
theorem one_i {x:Int}:∀ u∈encI x,u.oneCell'=true:=by simp [encI,Value.oneCell']
end Go.Proofs.YtcpdjamlhhfbhaaGreat
