/- S1 -/
import Derived.WalkKit
import Derived.Test.YtcpdjamlhhfbhaaGreatProg
import Derived.WalkLawsBesides
import Derived.WalkSpells
import Derived.Deep.QuietTactic
import Derived.BigQuiet
import Derived.Lib.Hide
import Derived.Deep.AppendLies
import Derived.Deep.Draws
import Derived.Deep.Light
import Derived.Maps.AppendAt
import Derived.Test.YtcpdjamlhhfbhaaGreatRows
import Derived.ProofKit
import Derived.OpenShut
import Derived.Carry
import Derived.Deep.Slices
import Derived.Deep.Fields
set_option linter.unusedSimpArgs false
set_option linter.unusedVariables false
namespace Go.Proofs.YtcpdjamlhhfbhaaGreat
structure Sp where
 lo:Int
 hi:Int
structure St where
 id:Int
 long:Sp
 fall:Sp
 radius:Sp
 side:Int
 wall:Int
structure Me where
 kind:Int
 frm:Int
 to:Int
 value:Sp
structure Spot where
 st:Int
 off:Sp
instance : DecidableEq Sp:=fun a b=>decidable_of_iff (a.lo=b.lo∧a.hi=b.hi) (by cases a;cases b;simp)
instance : DecidableEq St:=fun a b=>decidable_of_iff (a.id=b.id∧a.long=b.long∧a.fall=b.fall∧a.radius=b.radius∧a.side=b.side∧a.wall=b.wall) (by cases a;cases b;simp)
instance : DecidableEq Me:=fun a b=>decidable_of_iff (a.kind=b.kind∧a.frm=b.frm∧a.to=b.to∧a.value=b.value) (by cases a;cases b;simp)
instance : Inhabited Sp:=⟨⟨0,0⟩⟩
instance : Inhabited St:=⟨⟨0,⟨0,0⟩,⟨0,0⟩,⟨0,0⟩,0,0⟩⟩
instance : Inhabited Me:=⟨⟨0,0,0,⟨0,0⟩⟩⟩
def encI (x:Int):List Value:=[.int .i64 x]
def zAM (s:Sp):List Value:=[.int .i64 s.lo,.int .i64 s.hi]
def zq (s:St):List Value:=[.int .i64 s.id,.int .i64 s.long.lo,.int .i64 s.long.hi,.int .i64 s.fall.lo,.int .i64 s.fall.hi,.int .i64 s.radius.lo,.int .i64 s.radius.hi,.int .u8 s.side,.int .i64 s.wall]
def encMe (m:Me):List Value:=[.int .u8 m.kind,.int .i64 m.frm,.int .i64 m.to,.int .i64 m.value.lo,.int .i64 m.value.hi]
def vSp (s:Sp):Value:=.agg #[.int .i64 s.lo,.int .i64 s.hi]
def vSt (s:St):Value:=.agg #[.int .i64 s.id,.int .i64 s.long.lo,.int .i64 s.long.hi,.int .i64 s.fall.lo,.int .i64 s.fall.hi,.int .i64 s.radius.lo,.int .i64 s.radius.hi,.int .u8 s.side,.int .i64 s.wall]
def zCH (a b:Sp):Bool:=decide (a=b)
def eqSt (a b:St):Bool:=decide (a=b)
end Go.Proofs.YtcpdjamlhhfbhaaGreat
namespace Go.Proofs.YtcpdjamlhhfbhaaGreat
def inB (lo hi n:Int):Bool:=decide (lo≤n∧n≤hi)
def zAh (s:Sp) (lo hi:Int):Bool:=inB lo hi s.lo && inB lo hi s.hi && decide (s.lo≤s.hi)
def zD3 (last:Int) (s:St):Bool :=
 inB (last+1) 9999 s.id && zAh s.long 1 30000 && zAh s.fall 0 5000 && inB 0 5000 s.wall &&
  (decide (s.side=0) && zCH s.radius ⟨0,0⟩ || inB 1 2 s.side && zAh s.radius 500 20000)
def okFrom (last:Int):List St→Bool
 | []=>true
 | s::r=>zD3 last s && okFrom s.id r
def valid (t:List St):Bool:=inB 1 12 t.length && okFrom (-1) t
theorem zy {lo hi n:Int}:inB lo hi n=true↔lo≤n∧n≤hi:=by simp [inB]
theorem zBo {lo hi n:Int}:inB lo hi n=false↔¬ (lo≤n∧n≤hi):=by simp [inB]
theorem zx {s:Sp} {lo hi:Int}:zAh s lo hi=true↔lo≤s.lo∧s.lo≤s.hi∧s.hi≤hi:=by
 simp [zAh,inB];omega
def zBs (t:List St):Prop:=∀ s∈t,0≤s.side∧s.side≤255
theorem zAQ {s:Sp} {lo hi:Int}:zAh s lo hi=false↔¬ (lo≤s.lo∧s.lo≤s.hi∧s.hi≤hi):=by
 rw [← zx];simp
theorem zCk {a b:Sp}:zCH a b=true↔a.lo=b.lo∧a.hi=b.hi:=by
 cases a;cases b;simp [zCH]
theorem zGu {a b:Sp}:zCH a b=false↔¬ (a.lo=b.lo∧a.hi=b.hi):=by
 rw [← zCk];simp
structure zDS (s:St):Prop where
 id0:0≤s.id
 id1:s.id≤9999
 l0:1≤s.long.lo
 l1:s.long.lo≤s.long.hi
 l2:s.long.hi≤30000
 f0:0≤s.fall.lo
 f1:s.fall.lo≤s.fall.hi
 f2:s.fall.hi≤5000
theorem zG5 {last:Int} {s:St} (h:zD3 last s=true) (hl:-1≤last):zDS s∧last<s.id:=by
 simp only [zD3,Bool.and_eq_true,zy,zx] at h
 obtain ⟨⟨⟨⟨h1,h2⟩,h3⟩,_⟩,_⟩:=h
 exact ⟨⟨by omega,by omega,by omega,by omega,by omega,by omega,by omega,by omega⟩,by omega⟩
theorem zFx {t:List St}:∀ {last:Int},okFrom last t=true→-1≤last→∀ s∈t,zDS s∧last<s.id:=by
 induction t with
 | nil=>intro _ _ _ s hs;cases hs
 | cons x r ih =>
  intro last h hl s hs
  simp only [okFrom,Bool.and_eq_true] at h
  have hx:=zG5 h.1 hl
  rcases List.mem_cons.1 hs with rfl|hm
  ·exact hx
  ·have:=ih h.2 (by have:=hx.1.id0;omega) s hm
   exact ⟨this.1,by have:=hx.2;omega⟩
theorem zAy {t:List St} (h:valid t=true):∀ s∈t,zDS s:=by
 simp only [valid,Bool.and_eq_true] at h
 exact fun s hs=>(zFx h.2 (by omega) s hs).1
theorem zBR {t:List St} (h:valid t=true):1≤t.length∧t.length≤12:=by
 simp only [valid,Bool.and_eq_true,zy] at h
 omega
def zAG (a b:Sp):Sp:=⟨a.lo+b.lo,a.hi+b.hi⟩
def near (B:Int) (s:Sp):Prop:=-B≤s.lo∧s.lo≤B∧-B≤s.hi∧s.hi≤B
def zDo (l:List Sp):Sp:=l.foldl zAG ⟨0,0⟩
def longs (t:List St):List Sp:=t.map (·.long)
def falls (t:List St):List Sp:=t.map (·.fall)
def zQ (t:List St) (i j:Nat):Sp:=zDo ((longs t).extract i j)
def zY (t:List St) (i j:Nat):Sp:=zDo ((falls t).extract i j)
def mark (t:List St) (i:Nat):Sp:=zQ t 0 i
def marks (t:List St):List Sp:=(List.range (t.length+1)).map (mark t)
end Go.Proofs.YtcpdjamlhhfbhaaGreat
namespace Go.Proofs.YtcpdjamlhhfbhaaGreat
def soAt {α:Type} (p:Nat→α→Bool) (l:List α) (i:Nat):Bool:=match l[i]? with|some x=>p i x|none=>false
def zAr {α:Type} (p:Nat→α→Bool) (l:List α) (k:Nat):List Int:=((List.range k).filter (soAt p l)).map Int.ofNat
def picks {α:Type} (p:Nat→α→Bool) (l:List α):List Int:=zAr p l l.length
theorem zBz {α:Type} {p:Nat→α→Bool} {l:List α} {k:Nat} (h:soAt p l k=true):zAr p l (k+1)=zAr p l k++[(k:Int)]:=by
 simp [zAr,List.range_succ,List.filter_append,h]
theorem zCR {α:Type} {p:Nat→α→Bool} {l:List α} {k:Nat} (h:soAt p l k=false):zAr p l (k+1)=zAr p l k:=by
 simp [zAr,List.range_succ,List.filter_append,h]
theorem zDu {α:Type} (p:Nat→α→Bool) (l:List α) (k:Nat):(zAr p l k).length≤k:=by
 unfold zAr;rw [List.length_map];exact Nat.le_trans (List.length_filter_le _ _) (by simp)
end Go.Proofs.YtcpdjamlhhfbhaaGreat
namespace Go.Proofs.YtcpdjamlhhfbhaaGreat
open Go.RowKit
def zAE (f:FuncId) (args:Array Value) (w:World) (v:Value):Prop :=
 Calls Tryz.prog f args w fun e w'=>e = .returned v∧Below w.heap.size w w'
theorem zAE.of {f:FuncId} {args:Array Value} {w:World} {v v':Value} (h:zAE f args w v) (hv:v=v'):zAE f args w v':=hv ▸ h
theorem enters {f:FuncId} {fn:Func} {c:Code} (hf:Tryz.prog.funcs[f]?=some fn) (hname:(fn.name == "runtime.NumGoroutine")=false) (hb:fn.body=some c) (args:Array Value) (w:World):(callFunc f args).run Tryz.prog w = .ok (.enter f args) w:=by
 have hne:¬ (fn.name == "runtime.NumGoroutine")=true:=by rw [hname];simp
 simp [callFunc,run_program,Sem.run_bind,Result.andThen,hf,hb]
 intro h;simp [h] at hname
theorem zAk {v v':Value} (h:v=v'):Ending.returned v=Ending.returned v':=by rw [h]
def zg {α:Type} (enc:α→List Value) (k:Nat) (w:World) (A:Option Addr) (xs:List α):Prop :=
 ∀ i x,xs[i]?=some x→∃ b o,A=some ⟨b,o,none⟩∧b<w.heap.size∧∀ j v,(enc x)[j]?=some v→w.cell? ⟨b,o+i * k+j,none⟩=some v
section
variable {α : Type} {enc:α→List Value} {k:Nat} {w w':World} {A:Option Addr} {xs:List α}
theorem zg.below (h:zg enc k w A xs) (hb:Below w.heap.size w w'):zg enc k w' A xs:=by
 intro i x hx
 obtain ⟨b,o,hA,hlt,hc⟩:=h i x hx
 exact ⟨b,o,hA,by have:=hb.size;omega,fun j v hv=>by rw [hb.cell hlt];exact hc j v hv⟩
theorem zg.nil : zg enc k w A []:=fun i x hx=>by simp at hx
theorem zg.at_ (h:zg enc k w A xs) {i:Nat} (hi:i<xs.length) :
  ∃ b o,A=some ⟨b,o,none⟩∧b<w.heap.size∧∀ j v,(enc xs[i])[j]?=some v→w.cell? ⟨b,o+i * k+j,none⟩=some v:=h i _ (by simp [hi])
theorem zg.alloc (h:zg enc k w A xs) (o:Obj):zg enc k (w.alloc o) A xs:=h.below ((Below.refl _ _).alloc (Nat.le_refl _) o)
end
theorem below_drewN {B:Nat} {a w:World} (h:Below B a w) (n:Nat):Below B a (w.drewN n):=⟨h.os,h.tape,h.output,h.size,h.block⟩
theorem zk (w:World) (o:Obj):Below w.heap.size w (w.alloc o):=(Below.refl _ _).alloc (Nat.le_refl _) o
theorem zAL {w w1:World} (h:Below w.heap.size w w1) (o:Obj):Below w.heap.size w (w1.alloc o):=h.alloc h.size o
theorem zA3 {w w1 w2:World} (h:Below w.heap.size w w1) (h':Below w1.heap.size w1 w2):Below w.heap.size w w2:=h.trans (h'.mono h.size)
theorem bcell {W w1:World} (hb:Below W.heap.size W w1):(∀ b o,b<W.heap.size→w1.cell? ⟨b,o,none⟩=W.cell? ⟨b,o,none⟩)∧(∀ b o,b<W.heap.size→w1.frozen? ⟨b,o,none⟩=W.frozen? ⟨b,o,none⟩) :=
 ⟨fun b o h=>hb.cell (p:=⟨b,o,none⟩) h,fun b o h=>hb.frozen (p:=⟨b,o,none⟩) h⟩
def Blk (w:World) (g:Nat) (cs:Array Value):Prop:=∃ t:TypeId,w.heap[g]?=some (.cells cs t (0,0))
section
variable {w w':World} {g:Nat} {cs:Array Value}
theorem Blk.lt (h:Blk w g cs):g<w.heap.size:=by
 obtain ⟨t,h⟩:=h
 exact (Array.getElem?_eq_some_iff.1 h).1
theorem Blk.cell (h:Blk w g cs) (i:Nat):w.cell? ⟨g,i,none⟩=cs[i]?:=by obtain ⟨t,h⟩:=h;simp [World.cell?,h]
theorem Blk.frozen (h:Blk w g cs) (i:Nat):w.frozen? ⟨g,i,none⟩=false:=by obtain ⟨t,h⟩:=h;simp [World.frozen?,h]
theorem Blk.new (w:World) (t:TypeId) (cs:Array Value):Blk (w.alloc (.cells cs t)) w.heap.size cs:=⟨t,heap_alloc_new w _⟩
theorem Blk.new' {w:World} {t:TypeId} {cs:Array Value} {g:Nat} (h:g=w.heap.size):Blk (w.alloc (.cells cs t)) g cs:=h ▸ Blk.new w t cs
theorem Blk.alloc (h:Blk w g cs) (o:Obj):Blk (w.alloc o) g cs:=by obtain ⟨t,k⟩:=h;exact ⟨t,(Below.heap_alloc w o g (Blk.lt ⟨t,k⟩)).trans k⟩
theorem Blk.zAg (h:Blk w g cs) (i:Nat) (u:Value):Blk (w.setCell ⟨g,i,none⟩ u) g (cs.setIfInBounds i u):=by
 obtain ⟨t,h⟩:=h
 refine ⟨t,?_⟩
 simp [World.setCell,Array.getElem?_modify,h]
theorem Blk.far (h:Blk w g cs) {p:Addr} (hp:g≠p.block) (u:Value):Blk (w.setCell p u) g cs:=by obtain ⟨t,h⟩:=h;exact ⟨t,(Below.heap_setCell w p u g hp).trans h⟩
theorem Blk.below {B:Nat} (h:Blk w g cs) (hb:Below B w w') (hg:g<B):Blk w' g cs:=by obtain ⟨t,h⟩:=h;exact ⟨t,(hb.block g hg).trans h⟩
theorem Blk.past (h:Blk w g cs) (hb:Below w.heap.size w w'):Blk w' g cs:=h.below hb h.lt
theorem Blk.cast {cs':Array Value} (h:Blk w g cs) (e:cs=cs'):Blk w g cs':=e ▸ h
theorem Blk.facts (h:Blk w g cs):(∀ i,w.cell? ⟨g,i,none⟩=cs[i]?)∧(∀ i,w.frozen? ⟨g,i,none⟩=false)∧g<w.heap.size:=⟨h.cell,h.frozen,h.lt⟩
end
def zL (w:World) (g:Nat) (p:Array Value→Prop):Prop:=∃ cs,Blk w g cs∧p cs
section
variable {w : World} {g:Nat} {p:Array Value→Prop}
theorem zAt {cs:Array Value} (h:zL w g (· = cs)):Blk w g cs:=by obtain ⟨_,h,rfl⟩:=h;exact h
theorem zL.alloc (h:zL w g p) (o:Obj):zL (w.alloc o) g p:=by obtain ⟨cs,h,hp⟩:=h;exact ⟨cs,h.alloc o,hp⟩
theorem zL.drew (h:zL w g p):zL w.drew g p:=h
theorem zL.drewN (h:zL w g p) (n:Nat):zL (w.drewN n) g p:=h
theorem zL.far {b i:Nat} (h:zL w g p) (u:Value) (hp:g≠b):zL (w.setCell ⟨b,i,none⟩ u) g p:=by
 obtain ⟨cs,h,hq⟩:=h;exact ⟨cs,h.far (p:=⟨b,i,none⟩) hp u,hq⟩
theorem zL.zAg {b i:Nat} {u:Value} (h:zL w g fun cs=>p (cs.setIfInBounds i u)) (hg:b=g):zL (w.setCell ⟨b,i,none⟩ u) g p:=by
 subst hg;obtain ⟨cs,h,hq⟩:=h;exact ⟨_,h.zAg i u,hq⟩
theorem zL.leaf {cs:Array Value} (h:Blk w g cs) (hp:p cs):zL w g p:=⟨cs,h,hp⟩
theorem zL.zAs {t:TypeId} {cs:Array Value} (hg:g=w.heap.size) (hp:p cs):zL (w.alloc (.cells cs t)) g p:=⟨cs,Blk.new' hg,hp⟩
end
theorem zAX {B:Nat} {a w:World} {b i:Nat} {u:Value} (h:Below B a w) (hp:B≤b):Below B a (w.setCell ⟨b,i,none⟩ u):=h.setCell (p:=⟨b,i,none⟩) hp u
theorem zA4 {B:Nat} {a w:World} (h:Below B a w):Below B a w.drew:=h.drew
attribute [irreducible] Blk
end Go.Proofs.YtcpdjamlhhfbhaaGreat
namespace Go.Proofs.YtcpdjamlhhfbhaaGreat
open Go.RowKit
structure zEj (w:World) where
 world:World
 below:Below w.heap.size w world
instance {w : World}:Nonempty (zEj w):=⟨⟨w,Below.refl _ _⟩⟩
theorem zEj.cell_at {w:World} (g:zEj w) {a:Addr} (h:(w.cell? a).isSome=true):g.world.cell? a=w.cell? a:=by
 obtain ⟨u,hu⟩:=Option.isSome_iff_exists.1 h
 exact g.below.cell (World.block_lt_of_cell? w a hu)
attribute [go_sem] zEj.cell_at
theorem zEB {P:Program} {id:Nat} {Q:Exit→Act→World→Prop} {a:Act} {w:World} {l:List Oper} (hm:P.follows .mixedOrders=true) (hB:Region.lexB .any l.toArray=true)
  (h:wpQuiet P l.toArray (fun w'=>∃ g:zEj w,w'=g.world) (fun a'=>∀ w',(∃ g:zEj w,w'=g.world)→Q .normal a' w') l a):(Code.region id l.toArray true).wp P Q a w :=
 wp_region_quiet (C:=fun w'=>∃ g:zEj w,w'=g.world) hm hB ⟨⟨w.drew,(Below.refl _ _).drew⟩,rfl⟩ (by simpa using h)
theorem grow_nil {P:Program} {w:World} {ops:Array Oper} {K:Act→World→Prop} {a:Act} (h:∀ w',Below w.heap.size w w'→K a w') :
  wpQuiet P ops (fun w'=>∃ g:zEj w,w'=g.world) (fun a'=>∀ w',(∃ g:zEj w,w'=g.world)→K a' w') [] a :=
 wpQuiet_nil fun _ ⟨g,hg⟩=>hg ▸ h g.world g.below
theorem zCr {f:FuncId} {args:Array Value} {w:World} {v:Value} {g:zEj w} (h:zAE f args g.world v) :
  Calls Tryz.prog f args g.world fun e w'=>e = .returned v∧∃ g':zEj w,w'=g'.world :=
 h.mono fun _ w' ⟨he,hb⟩=>⟨he,⟨w',zA3 g.below hb⟩,rfl⟩
end Go.Proofs.YtcpdjamlhhfbhaaGreat
namespace Go.Proofs.YtcpdjamlhhfbhaaGreat
open Go.ChangeShapes Go.WideShapes Go.ChangeAt Go.RowKit
theorem ownKnobs : ownKnob Tryz.prog.godebug=none:=by kernel_rfl
theorem laidOuts : laidOutB Tryz.prog=true:=by kernel_rfl
section
variable {H : Type} {enc:TypeId × Value→H} {P:Program} {w w':World} {sp sp':Nat→Bool}
theorem zCy (hl:laidOutB P=true):∀ {ts:List TypeId} {vs:List Value} {ds:List (DataW H)} {ps:List MemPlace},(∀ t∈ts,P.readableRec t=true∧t<P.types.size)→DataW.TrodAll enc P w 0 (fun _=>true) true ts vs ds ps →
  (∀ p∈ps,w.sameAt w' p)→(∀ p∈ps,sp' p.block=true)→DataW.TrodAll enc P w' 0 sp' true ts vs ds ps
 | [],vs,ds,ps,_,h,_,_=>by
  obtain ⟨rfl,rfl,rfl⟩:=trodAll_nil h
  exact trodAll_mk0
 | t::ts,vs,ds,ps,hr,h,h1,h2=>by
  obtain ⟨v,vs',d,ds',p,q,rfl,rfl,rfl,hv,hrest⟩:=trodAll_cons h
  have ht:=hr t (by simp)
  exact trodAll_cons_mk (WideElems.Trod_stays hl ht.1 ht.2 hv (fun x hx=>h1 x (by simp [hx])) (fun x hx=>h2 x (by simp [hx])))
   (zCy hl (fun u hu=>hr u (by simp [hu])) hrest (fun x hx=>h1 x (by simp [hx])) (fun x hx=>h2 x (by simp [hx])))
theorem law_post (hlaid:laidOutB P=true) {f:Func} {s:ChangeSpec} {tb:TypeId} {args:Array Value} {ds gs:List (DataW H)} {before:List MemPlace} (hW:DataW.Whole enc P f.params.toList s.vars false w args.toList ds gs before)
  (hv:s.vars=[]) (hs:s.fn H (ds++gs) = { results:=[.lit (.bool true)],args:=ds }) (hr:f.resultTypes=#[tb]) (hb:P.underlying tb=some .bool) (hp:∀ t∈f.params.toList,P.readableRec t=true∧t<P.types.size) (hB:Below w.heap.size w w') :
  s.post enc P f false true false false w args (.bool true) w':=by
 have hlt:∀ p∈before,p.block<w.heap.size:=fun p hp=>hW.lt p hp
 have hW':=hW
 obtain ⟨pa,pv,hA,hV,rfl,hfz,hn⟩:=hW
 rw [hv] at hV
 obtain ⟨rfl,rfl⟩:=trodVars_none hV
 simp only [List.append_nil] at hW' hlt hfz hn hs
 have hargs:∀ sp':Nat→Bool,(∀ p∈pa,sp' p.block=true)→DataW.TrodAll enc P w' 0 sp' true f.params.toList args.toList ds pa:=fun sp' h=>zCy hlaid hp hA (fun p hp=>hB.same (hlt p hp)) h
 have hres:∀ (b:Nat) (sp':Nat→Bool) (hd:Bool),DataW.TrodAll enc P w' b sp' hd f.resultTypes.toList ((Value.bool true).resultList f.resultTypes.size) [.lit (.bool true)] []:=fun b sp' hd=>by
  rw [hr]
  exact trodAll_mk1 (shut_bool hb true)
 have hold:∀ p∈pa,(fun b=>decide (b<w.heap.size)) p.block=true:=fun p hp=>by simpa using hlt p hp
 refine ⟨ds,[],pa,[],pa,[],hW',?_,?_,?_,World.keptBut_mono (fun p hp=>⟨hp,Or.inr (Or.inl hp)⟩) (hB.frame (·∈pa)),fun h=>by cases h⟩
 ·rw [List.append_nil,hs];exact hres _ _ _
 ·rw [List.append_nil,hs];exact hargs _ hold
 ·rw [List.append_nil,hs,hv];exact rfl
end
section
variable {H : Type} {enc:TypeId × Value→H} {w:World} {sp:Nat→Bool} {held:Bool} {n:Nat} {cs:List Value} {x:DataW H × List MemPlace}
def In64 (v:Int):Prop:=-9223372036854775808≤v∧v≤9223372036854775807
theorem in64 {v:Int} (h:(Lit.int .i64 v).wf=true):In64 v:=by
 simp [Lit.wf,IntKind.min,IntKind.max,IntKind.signed,IntKind.bits] at h
 unfold In64;omega
theorem inU8 {v:Int} (h:(Lit.int .u8 v).wf=true):0≤v∧v≤255:=by
 simp [Lit.wf,IntKind.min,IntKind.max,IntKind.signed,IntKind.bits] at h
 omega
theorem zFQ {T:TypeId} (hT:Tryz.prog.underlying T=some (.int .i64)) (h:DataW.trod enc Tryz.prog w 0 sp held n T cs=some x):∃ v,cs=[.int .i64 v]∧In64 v:=by
 obtain ⟨v,h1,_,h2⟩:=DataW.trod_int hT h
 exact ⟨v,h1,in64 h2⟩
theorem rd_u8 {T:TypeId} (hT:Tryz.prog.underlying T=some (.int .u8)) (h:DataW.trod enc Tryz.prog w 0 sp held n T cs=some x):∃ v,cs=[.int .u8 v]∧0≤v∧v≤255:=by
 obtain ⟨v,h1,_,h2⟩:=DataW.trod_int hT h
 exact ⟨v,h1,inU8 h2⟩
theorem zAY {P:Program} {T:TypeId} {fs:Array Field} (hT:P.underlying T=some (.struct fs)) (h:DataW.trod enc P w 0 sp held n T cs=some x) {j:Nat} {f:Field} (hj:fs[j]?=some f) {off k:Nat} (ho:f.offset=off) (hk:P.cellsOf f.type=k) :
  ∃ n' y,DataW.trod enc P w 0 sp held n' f.type ((cs.drop off).take k)=some y:=by
 obtain ⟨xs,n',_,_,_,hl,hf⟩:=DataW.trod_struct hT h
 have:=hf j f hj
 rw [ho,hk] at this
 have hlt:j<xs.length:=by rw [hl];exact (Array.getElem?_eq_some_iff.1 hj).1
 rw [List.getElem?_eq_getElem hlt] at this
 exact ⟨n',_,this⟩
theorem zFP {P:Program} {T:TypeId} {fs:Array Field} (hT:P.underlying T=some (.struct fs)) (h:DataW.trod enc P w 0 sp held n T cs=some x) {k:Nat} (hk:P.cellsOf T=k):cs.length=k:=by
 obtain ⟨xs,n',_,_,hc,_⟩:=DataW.trod_struct hT h
 rw [hc,hk]
def FitSp (s:Sp):Prop:=In64 s.lo∧In64 s.hi
def FitSt (s:St):Prop:=In64 s.id∧FitSp s.long∧FitSp s.fall∧FitSp s.radius∧(0≤s.side∧s.side≤255)∧In64 s.wall
theorem zDs (h:DataW.trod enc Tryz.prog w 0 sp held n 26 cs=some x):∃ s:Sp,cs=zAM s∧FitSp s:=by
 have hl:=zFP Tryz.underlying26 h (k:=2) (by kernel_rfl)
 obtain ⟨n0,y0,h0⟩:=zAY Tryz.underlying26 h (j:=0) rfl rfl (k:=1) (by kernel_rfl)
 obtain ⟨n1,y1,h1⟩:=zAY Tryz.underlying26 h (j:=1) rfl rfl (k:=1) (by kernel_rfl)
 obtain ⟨a,e0,f0⟩:=zFQ Tryz.underlying3 h0
 obtain ⟨b,e1,f1⟩:=zFQ Tryz.underlying3 h1
 match cs,hl with
 | [c0,c1],_ =>
  simp at e0 e1
  exact ⟨⟨a,b⟩,by simp [zAM,e0,e1],f0,f1⟩
theorem rd_st (h:DataW.trod enc Tryz.prog w 0 sp held n 70 cs=some x):∃ s:St,cs=zq s∧FitSt s:=by
 have hl:=zFP Tryz.underlying70 h (k:=9) (by kernel_rfl)
 obtain ⟨n0,y0,h0⟩:=zAY Tryz.underlying70 h (j:=0) rfl rfl (k:=1) (by kernel_rfl)
 obtain ⟨n1,y1,h1⟩:=zAY Tryz.underlying70 h (j:=1) rfl rfl (k:=2) (by kernel_rfl)
 obtain ⟨n2,y2,h2⟩:=zAY Tryz.underlying70 h (j:=2) rfl rfl (k:=2) (by kernel_rfl)
 obtain ⟨n3,y3,h3⟩:=zAY Tryz.underlying70 h (j:=3) rfl rfl (k:=2) (by kernel_rfl)
 obtain ⟨n4,y4,h4⟩:=zAY Tryz.underlying70 h (j:=4) rfl rfl (k:=1) (by kernel_rfl)
 obtain ⟨n5,y5,h5⟩:=zAY Tryz.underlying70 h (j:=5) rfl rfl (k:=1) (by kernel_rfl)
 obtain ⟨a,e0,f0⟩:=zFQ Tryz.underlying3 h0
 obtain ⟨b,e1,f1⟩:=zDs h1
 obtain ⟨c,e2,f2⟩:=zDs h2
 obtain ⟨d,e3,f3⟩:=zDs h3
 obtain ⟨e,e4,f4⟩:=rd_u8 Tryz.underlying5 h4
 obtain ⟨f,e5,f5⟩:=zFQ Tryz.underlying3 h5
 match cs,hl with
 | [c0,c1,c2,c3,c4,c5,c6,c7,c8],_ =>
  simp [zAM] at e0 e1 e2 e3 e4 e5
  exact ⟨⟨a,b,c,d,e,f⟩,by simp [zq,e0,e1,e2,e3,e4,e5],f0,f1,f2,f3,f4,f5⟩
theorem rd_slice {α:Type} {en:α→List Value} {k:Nat} {ok:α→Prop} {T e:TypeId} (hT:Tryz.prog.underlying T=some (.slice e)) (hk:Tryz.prog.cellsOf e=k) (hk0:0<k) (hen:∀ z,(en z).length=k)
  (hel:∀ n cs x,DataW.trod enc Tryz.prog w 0 (fun _=>true) held n e cs=some x→∃ z:α,cs=en z∧ok z) (h:DataW.trod enc Tryz.prog w 0 (fun _=>true) held n T cs=some x) :
  ∃ (A:Option Addr) (xs:List α) (c:Nat),cs=[.slice A xs.length c]∧zg en k w A xs∧(∀ z∈xs,ok z)∧xs.length≤c∧c≤maxLen:=by
 rcases Go.Deep.open_slice hT h with ⟨rfl,_⟩ | ⟨a,len,cap,m,n',D,Pl,rfl,_,hlc,hcm,hm,_,hi⟩
 ·exact ⟨none,[],0,rfl,zg.nil,by simp,by simp,by simp⟩
 ·simp only [if_true] at hm
  subst hm
  have hz:∀ i,i<len→∃ z:α,ok z∧a.spot=none∧∀ j v,(en z)[j]?=some v→w.cell? ⟨a.block,a.off+i * k+j,none⟩=some v:=by
   intro i hil
   obtain ⟨cs',hc,ht⟩:=hi i (by omega)
   obtain ⟨z,rfl,hok⟩:=hel _ _ _ ht
   rw [hk] at hc
   obtain ⟨_,_,hcell⟩:=World.cells?_some hc
   have hc0:=hcell 0 hk0
   have hl0:=hen z
   have hs:a.spot=none:=by
    have h1:∃ v,w.cell? ((a.add (i * k)).add 0)=some v:=by
     rw [hc0];exact ⟨(en z)[0]'(by omega),List.getElem?_eq_getElem (by omega)⟩
    obtain ⟨v,hv⟩:=h1
    simp only [Addr.add,if_true] at hv
    by_cases h0:i * k=0
    ·rw [if_pos h0] at hv
     cases hsp:a.spot with
     | none=>rfl
     | some s=>simp [World.cell?,hsp] at hv;split at hv<;>cases hv
    · -- a later one: the first one tells
     obtain ⟨cs0,hc',ht'⟩:=hi 0 (by omega)
     rw [hk] at hc'
     obtain ⟨z0,rfl,_⟩:=hel _ _ _ ht'
     obtain ⟨_,_,hcell'⟩:=World.cells?_some hc'
     have h2:=hcell' 0 hk0
     simp only [Nat.zero_mul,Addr.add,if_true] at h2
     have hl1:=hen z0
     rw [List.getElem?_eq_getElem (by omega)] at h2
     cases hsp:a.spot with
     | none=>rfl
     | some s=>simp [World.cell?,hsp] at h2;split at h2<;>cases h2
   refine ⟨z,hok,hs,fun j v hv=>?_⟩
   have hj:j<k:=by rw [← hl0];exact (List.getElem?_eq_some_iff.1 hv).1
   have:=hcell j hj
   rw [hv] at this
   obtain ⟨b,o,s⟩:=a
   simp only at hs
   subst hs
   have e1:((⟨b,o,none⟩:Addr).add (i * k)).add j=⟨b,o+i * k+j,none⟩:=by
    simp only [Addr.add];split<;>split<;>simp_all<;>omega
   rw [e1] at this
   exact this
  rcases Nat.eq_zero_or_pos len with h0|h0
  ·subst h0
   exact ⟨some a,[],_,rfl,zg.nil,by simp,by simp,hcm⟩
  ·have hs:a.spot=none:=(hz 0 h0).choose_spec.2.1
   obtain ⟨b,o,s⟩:=a
   simp only at hs
   subst hs
   let f:Nat→α:=fun i=>if h:i<len then (hz i h).choose else (hz 0 h0).choose
   refine ⟨some ⟨b,o,none⟩,(List.range len).map f,m,by simp,?_,?_,by simpa using hlc,hcm⟩
   ·intro i z hiz
    rw [List.getElem?_map] at hiz
    obtain ⟨i',hi',rfl⟩:=Option.map_eq_some_iff.1 hiz
    obtain ⟨hlt,rfl⟩:=List.getElem?_eq_some_iff.1 hi'
    simp only [List.length_range] at hlt
    simp only [List.getElem_range]
    have hsp:=(hz i hlt).choose_spec.2.2
    have hf:f i=(hz i hlt).choose:=by simp [f,hlt]
    rw [hf]
    refine ⟨b,o,rfl,?_,hsp⟩
    have hlen:=hen (hz i hlt).choose
    have:=hsp 0 _ (List.getElem?_eq_getElem (by omega))
    exact World.block_lt_of_cell? w _ this
   ·intro z hz'
    obtain ⟨i,hi',rfl⟩:=List.mem_map.1 hz'
    have hlt:=List.mem_range.1 hi'
    have hf:f i=(hz i hlt).choose:=by simp [f,hlt]
    rw [hf]
    exact (hz i hlt).choose_spec.1
set_option maxRecDepth 20000 in
theorem zGS {base:Nat} {r:Reach} {v:Value} {dd:DataW H} {p:List MemPlace} (hv:Value.okWide Tryz.prog w r base 24 v) (h:DataW.Trod enc Tryz.prog w 0 (fun _=>true) held 24 v dd p) :
  ∃ (A:Option Addr) (t:List St) (c:Nat),v = .agg #[.slice A t.length c]∧zg zq 9 w A t∧(∀ s∈t,FitSt s)∧t.length≤c∧c≤maxLen:=by
 obtain ⟨cs,rfl,_⟩:=okWide_struct Tryz.underlying24 hv
 obtain ⟨fuel,hf⟩:=h
 have hl:=zFP Tryz.underlying24 hf (k:=1) (by kernel_rfl)
 obtain ⟨n0,y0,h0⟩:=zAY Tryz.underlying24 hf (j:=0) rfl rfl (k:=1) (by kernel_rfl)
 obtain ⟨A,t,c,e0,hs,hfit,h1,h2⟩:=rd_slice (en:=zq) (k:=9) (ok:=FitSt) Tryz.underlying22 (by kernel_rfl) (by omega) (fun _=>rfl) (fun _ _ _ h=>rd_st h) h0
 refine ⟨A,t,c,?_,hs,hfit,h1,h2⟩
 obtain ⟨l⟩:=cs
 match l,hl with
 | [c0],_ =>
  simp [Value.cells] at e0
  rw [e0]
end
end Go.Proofs.YtcpdjamlhhfbhaaGreat
