/- B1 -/
import Derived.WalkKit
import Derived.Test.YtcpdjamlhhfbhaaDoorProg
import Derived.WalkLawsBesides
import Derived.WalkSpells
import Derived.Deep.QuietTactic
import Derived.BigQuiet
import Derived.Lib.Hide
import Derived.Deep.AppendLies
import Derived.Deep.Draws
import Derived.Deep.Light
import Derived.Maps.AppendAt
import Derived.Test.YtcpdjamlhhfbhaaDoorRows
import Derived.ProofKit
import Derived.OpenShut
import Derived.Carry
import Derived.Deep.Slices
import Derived.Deep.Fields
set_option linter.unusedSimpArgs false
set_option linter.unusedVariables false
namespace Go.Proofs.YtcpdjamlhhfbhaaDoor
structure Sp where
 lo:Int
 hi:Int
structure St where
 id:Int
 long:Sp
 fall:Sp
 radius:Sp
 side:Int
 wall:Int
structure Me where
 kind:Int
 frm:Int
 to:Int
 value:Sp
structure Spot where
 st:Int
 off:Sp
instance : DecidableEq Sp:=fun a b=>decidable_of_iff (a.lo=b.lo∧a.hi=b.hi) (by cases a;cases b;simp)
instance : DecidableEq St:=fun a b=>decidable_of_iff (a.id=b.id∧a.long=b.long∧a.fall=b.fall∧a.radius=b.radius∧a.side=b.side∧a.wall=b.wall) (by cases a;cases b;simp)
instance : DecidableEq Me:=fun a b=>decidable_of_iff (a.kind=b.kind∧a.frm=b.frm∧a.to=b.to∧a.value=b.value) (by cases a;cases b;simp)
instance : Inhabited Sp:=⟨⟨0,0⟩⟩
instance : Inhabited St:=⟨⟨0,⟨0,0⟩,⟨0,0⟩,⟨0,0⟩,0,0⟩⟩
instance : Inhabited Me:=⟨⟨0,0,0,⟨0,0⟩⟩⟩
def encI (x:Int):List Value:=[.int .i64 x]
def zBH (s:Sp):List Value:=[.int .i64 s.lo,.int .i64 s.hi]
def zO (s:St):List Value:=[.int .i64 s.id,.int .i64 s.long.lo,.int .i64 s.long.hi,.int .i64 s.fall.lo,.int .i64 s.fall.hi,.int .i64 s.radius.lo,.int .i64 s.radius.hi,.int .u8 s.side,.int .i64 s.wall]
def zAt (m:Me):List Value:=[.int .u8 m.kind,.int .i64 m.frm,.int .i64 m.to,.int .i64 m.value.lo,.int .i64 m.value.hi]
def vSp (s:Sp):Value:=.agg #[.int .i64 s.lo,.int .i64 s.hi]
def vSt (s:St):Value:=.agg #[.int .i64 s.id,.int .i64 s.long.lo,.int .i64 s.long.hi,.int .i64 s.fall.lo,.int .i64 s.fall.hi,.int .i64 s.radius.lo,.int .i64 s.radius.hi,.int .u8 s.side,.int .i64 s.wall]
def vMe (m:Me):Value:=.agg #[.int .u8 m.kind,.int .i64 m.frm,.int .i64 m.to,.int .i64 m.value.lo,.int .i64 m.value.hi]
def zB7 (a b:Sp):Bool:=decide (a=b)
def eqSt (a b:St):Bool:=decide (a=b)
def eqMe (a b:Me):Bool:=decide (a=b)
end Go.Proofs.YtcpdjamlhhfbhaaDoor
namespace Go.Proofs.YtcpdjamlhhfbhaaDoor
def inB (lo hi n:Int):Bool:=decide (lo≤n∧n≤hi)
def zB5 (s:Sp) (lo hi:Int):Bool:=inB lo hi s.lo && inB lo hi s.hi && decide (s.lo≤s.hi)
def stOk (last:Int) (s:St):Bool :=
 inB (last+1) 9999 s.id && zB5 s.long 1 30000 && zB5 s.fall 0 5000 && inB 0 5000 s.wall &&
  (decide (s.side=0) && zB7 s.radius ⟨0,0⟩ || inB 1 2 s.side && zB5 s.radius 500 20000)
def okFrom (last:Int):List St→Bool
 | []=>true
 | s::r=>stOk last s && okFrom s.id r
def valid (t:List St):Bool:=inB 1 12 t.length && okFrom (-1) t
theorem zAS {lo hi n:Int}:inB lo hi n=true↔lo≤n∧n≤hi:=by simp [inB]
theorem zCl {lo hi n:Int}:inB lo hi n=false↔¬ (lo≤n∧n≤hi):=by simp [inB]
theorem zA4 {s:Sp} {lo hi:Int}:zB5 s lo hi=true↔lo≤s.lo∧s.lo≤s.hi∧s.hi≤hi:=by
 simp [zB5,inB];omega
def zCb (t:List St):Prop:=∀ s∈t,0≤s.side∧s.side≤255
theorem zCU {s:Sp} {lo hi:Int}:zB5 s lo hi=false↔¬ (lo≤s.lo∧s.lo≤s.hi∧s.hi≤hi):=by
 rw [← zA4];simp
theorem zFM {a b:Sp}:zB7 a b=true↔a.lo=b.lo∧a.hi=b.hi:=by
 cases a;cases b;simp [zB7]
theorem zHa {a b:Sp}:zB7 a b=false↔¬ (a.lo=b.lo∧a.hi=b.hi):=by
 rw [← zFM];simp
structure zDB (s:St):Prop where
 id0:0≤s.id
 id1:s.id≤9999
 l0:1≤s.long.lo
 l1:s.long.lo≤s.long.hi
 l2:s.long.hi≤30000
 f0:0≤s.fall.lo
 f1:s.fall.lo≤s.fall.hi
 f2:s.fall.hi≤5000
theorem zHp {last:Int} {s:St} (h:stOk last s=true) (hl:-1≤last):zDB s∧last<s.id:=by
 simp only [stOk,Bool.and_eq_true,zAS,zA4] at h
 obtain ⟨⟨⟨⟨h1,h2⟩,h3⟩,_⟩,_⟩:=h
 exact ⟨⟨by omega,by omega,by omega,by omega,by omega,by omega,by omega,by omega⟩,by omega⟩
theorem zGb {t:List St}:∀ {last:Int},okFrom last t=true→-1≤last→∀ s∈t,zDB s∧last<s.id:=by
 induction t with
 | nil=>intro _ _ _ s hs;cases hs
 | cons x r ih =>
  intro last h hl s hs
  simp only [okFrom,Bool.and_eq_true] at h
  have hx:=zHp h.1 hl
  rcases List.mem_cons.1 hs with rfl|hm
  ·exact hx
  ·have:=ih h.2 (by have:=hx.1.id0;omega) s hm
   exact ⟨this.1,by have:=hx.2;omega⟩
theorem zAi {t:List St} (h:valid t=true):∀ s∈t,zDB s:=by
 simp only [valid,Bool.and_eq_true] at h
 exact fun s hs=>(zGb h.2 (by omega) s hs).1
theorem zAl {t:List St} (h:valid t=true):1≤t.length∧t.length≤12:=by
 simp only [valid,Bool.and_eq_true,zAS] at h
 omega
def zAT (a b:Sp):Sp:=⟨a.lo+b.lo,a.hi+b.hi⟩
def near (B:Int) (s:Sp):Prop:=-B≤s.lo∧s.lo≤B∧-B≤s.hi∧s.hi≤B
def zEu (l:List Sp):Sp:=l.foldl zAT ⟨0,0⟩
def longs (t:List St):List Sp:=t.map (·.long)
def falls (t:List St):List Sp:=t.map (·.fall)
def zE (t:List St) (i j:Nat):Sp:=zEu ((longs t).extract i j)
def zU (t:List St) (i j:Nat):Sp:=zEu ((falls t).extract i j)
def mark (t:List St) (i:Nat):Sp:=zE t 0 i
def marks (t:List St):List Sp:=(List.range (t.length+1)).map (mark t)
end Go.Proofs.YtcpdjamlhhfbhaaDoor
namespace Go.Proofs.YtcpdjamlhhfbhaaDoor
def zCe {α:Type} (p:Nat→α→Bool) (l:List α) (i:Nat):Bool:=match l[i]? with|some x=>p i x|none=>false
def z0 {α:Type} (p:Nat→α→Bool) (l:List α) (k:Nat):List Int:=((List.range k).filter (zCe p l)).map Int.ofNat
def picks {α:Type} (p:Nat→α→Bool) (l:List α):List Int:=z0 p l l.length
theorem zAq {α:Type} {p:Nat→α→Bool} {l:List α} {k:Nat} (h:zCe p l k=true):z0 p l (k+1)=z0 p l k++[(k:Int)]:=by
 simp [z0,List.range_succ,List.filter_append,h]
theorem zA2 {α:Type} {p:Nat→α→Bool} {l:List α} {k:Nat} (h:zCe p l k=false):z0 p l (k+1)=z0 p l k:=by
 simp [z0,List.range_succ,List.filter_append,h]
theorem zBN {α:Type} (p:Nat→α→Bool) (l:List α) (k:Nat):(z0 p l k).length≤k:=by
 unfold z0;rw [List.length_map];exact Nat.le_trans (List.length_filter_le _ _) (by simp)
end Go.Proofs.YtcpdjamlhhfbhaaDoor
namespace Go.Proofs.YtcpdjamlhhfbhaaDoor
open Go.RowKit
def Does (f:FuncId) (args:Array Value) (w:World) (Q:Value→World→Prop):Prop :=
 Calls Tryd.prog f args w fun e w'=>∃ v,e = .returned v∧Below w.heap.size w w'∧Q v w'
def zw (f:FuncId) (args:Array Value) (w:World) (v:Value):Prop :=
 Calls Tryd.prog f args w fun e w'=>e = .returned v∧Below w.heap.size w w'
theorem zw.of {f:FuncId} {args:Array Value} {w:World} {v v':Value} (h:zw f args w v) (hv:v=v'):zw f args w v':=hv ▸ h
theorem enters {f:FuncId} {fn:Func} {c:Code} (hf:Tryd.prog.funcs[f]?=some fn) (hname:(fn.name == "runtime.NumGoroutine")=false) (hb:fn.body=some c) (args:Array Value) (w:World):(callFunc f args).run Tryd.prog w = .ok (.enter f args) w:=by
 have hne:¬ (fn.name == "runtime.NumGoroutine")=true:=by rw [hname];simp
 simp [callFunc,run_program,Sem.run_bind,Result.andThen,hf,hb]
 intro h;simp [h] at hname
theorem zAo {v v':Value} (h:v=v'):Ending.returned v=Ending.returned v':=by rw [h]
def zS {α:Type} (enc:α→List Value) (k:Nat) (w:World) (A:Option Addr) (xs:List α):Prop :=
 ∀ i x,xs[i]?=some x→∃ b o,A=some ⟨b,o,none⟩∧b<w.heap.size∧∀ j v,(enc x)[j]?=some v→w.cell? ⟨b,o+i * k+j,none⟩=some v
section
variable {α : Type} {enc:α→List Value} {k:Nat} {w w':World} {A:Option Addr} {xs:List α}
theorem zS.below (h:zS enc k w A xs) (hb:Below w.heap.size w w'):zS enc k w' A xs:=by
 intro i x hx
 obtain ⟨b,o,hA,hlt,hc⟩:=h i x hx
 exact ⟨b,o,hA,by have:=hb.size;omega,fun j v hv=>by rw [hb.cell hlt];exact hc j v hv⟩
theorem zS.nil : zS enc k w A []:=fun i x hx=>by simp at hx
theorem zS.at_ (h:zS enc k w A xs) {i:Nat} (hi:i<xs.length) :
  ∃ b o,A=some ⟨b,o,none⟩∧b<w.heap.size∧∀ j v,(enc xs[i])[j]?=some v→w.cell? ⟨b,o+i * k+j,none⟩=some v:=h i _ (by simp [hi])
theorem zS.alloc (h:zS enc k w A xs) (o:Obj):zS enc k (w.alloc o) A xs:=h.below ((Below.refl _ _).alloc (Nat.le_refl _) o)
end
theorem below_drewN {B:Nat} {a w:World} (h:Below B a w) (n:Nat):Below B a (w.drewN n):=⟨h.os,h.tape,h.output,h.size,h.block⟩
theorem zl (w:World) (o:Obj):Below w.heap.size w (w.alloc o):=(Below.refl _ _).alloc (Nat.le_refl _) o
theorem zd {w w1:World} (h:Below w.heap.size w w1) (o:Obj):Below w.heap.size w (w1.alloc o):=h.alloc h.size o
theorem zu {w w1 w2:World} (h:Below w.heap.size w w1) (h':Below w1.heap.size w1 w2):Below w.heap.size w w2:=h.trans (h'.mono h.size)
theorem bcell {W w1:World} (hb:Below W.heap.size W w1):(∀ b o,b<W.heap.size→w1.cell? ⟨b,o,none⟩=W.cell? ⟨b,o,none⟩)∧(∀ b o,b<W.heap.size→w1.frozen? ⟨b,o,none⟩=W.frozen? ⟨b,o,none⟩) :=
 ⟨fun b o h=>hb.cell (p:=⟨b,o,none⟩) h,fun b o h=>hb.frozen (p:=⟨b,o,none⟩) h⟩
def Blk (w:World) (g:Nat) (cs:Array Value):Prop:=∃ t:TypeId,w.heap[g]?=some (.cells cs t (0,0))
section
variable {w w':World} {g:Nat} {cs:Array Value}
theorem Blk.lt (h:Blk w g cs):g<w.heap.size:=by
 obtain ⟨t,h⟩:=h
 exact (Array.getElem?_eq_some_iff.1 h).1
theorem Blk.cell (h:Blk w g cs) (i:Nat):w.cell? ⟨g,i,none⟩=cs[i]?:=by obtain ⟨t,h⟩:=h;simp [World.cell?,h]
theorem Blk.frozen (h:Blk w g cs) (i:Nat):w.frozen? ⟨g,i,none⟩=false:=by obtain ⟨t,h⟩:=h;simp [World.frozen?,h]
theorem Blk.new (w:World) (t:TypeId) (cs:Array Value):Blk (w.alloc (.cells cs t)) w.heap.size cs:=⟨t,heap_alloc_new w _⟩
theorem Blk.new' {w:World} {t:TypeId} {cs:Array Value} {g:Nat} (h:g=w.heap.size):Blk (w.alloc (.cells cs t)) g cs:=h ▸ Blk.new w t cs
theorem Blk.alloc (h:Blk w g cs) (o:Obj):Blk (w.alloc o) g cs:=by obtain ⟨t,k⟩:=h;exact ⟨t,(Below.heap_alloc w o g (Blk.lt ⟨t,k⟩)).trans k⟩
theorem Blk.zy (h:Blk w g cs) (i:Nat) (u:Value):Blk (w.setCell ⟨g,i,none⟩ u) g (cs.setIfInBounds i u):=by
 obtain ⟨t,h⟩:=h
 refine ⟨t,?_⟩
 simp [World.setCell,Array.getElem?_modify,h]
theorem Blk.far (h:Blk w g cs) {p:Addr} (hp:g≠p.block) (u:Value):Blk (w.setCell p u) g cs:=by obtain ⟨t,h⟩:=h;exact ⟨t,(Below.heap_setCell w p u g hp).trans h⟩
theorem Blk.below {B:Nat} (h:Blk w g cs) (hb:Below B w w') (hg:g<B):Blk w' g cs:=by obtain ⟨t,h⟩:=h;exact ⟨t,(hb.block g hg).trans h⟩
theorem Blk.past (h:Blk w g cs) (hb:Below w.heap.size w w'):Blk w' g cs:=h.below hb h.lt
theorem Blk.cast {cs':Array Value} (h:Blk w g cs) (e:cs=cs'):Blk w g cs':=e ▸ h
theorem Blk.facts (h:Blk w g cs):(∀ i,w.cell? ⟨g,i,none⟩=cs[i]?)∧(∀ i,w.frozen? ⟨g,i,none⟩=false)∧g<w.heap.size:=⟨h.cell,h.frozen,h.lt⟩
end
def zB (w:World) (g:Nat) (p:Array Value→Prop):Prop:=∃ cs,Blk w g cs∧p cs
section
variable {w : World} {g:Nat} {p:Array Value→Prop}
theorem zAK {cs:Array Value} (h:zB w g (· = cs)):Blk w g cs:=by obtain ⟨_,h,rfl⟩:=h;exact h
theorem zB.alloc (h:zB w g p) (o:Obj):zB (w.alloc o) g p:=by obtain ⟨cs,h,hp⟩:=h;exact ⟨cs,h.alloc o,hp⟩
theorem zB.drew (h:zB w g p):zB w.drew g p:=h
theorem zB.drewN (h:zB w g p) (n:Nat):zB (w.drewN n) g p:=h
theorem zB.far {b i:Nat} (h:zB w g p) (u:Value) (hp:g≠b):zB (w.setCell ⟨b,i,none⟩ u) g p:=by
 obtain ⟨cs,h,hq⟩:=h;exact ⟨cs,h.far (p:=⟨b,i,none⟩) hp u,hq⟩
theorem zB.zy {b i:Nat} {u:Value} (h:zB w g fun cs=>p (cs.setIfInBounds i u)) (hg:b=g):zB (w.setCell ⟨b,i,none⟩ u) g p:=by
 subst hg;obtain ⟨cs,h,hq⟩:=h;exact ⟨_,h.zy i u,hq⟩
theorem zB.leaf {cs:Array Value} (h:Blk w g cs) (hp:p cs):zB w g p:=⟨cs,h,hp⟩
theorem zB.zAJ {t:TypeId} {cs:Array Value} (hg:g=w.heap.size) (hp:p cs):zB (w.alloc (.cells cs t)) g p:=⟨cs,Blk.new' hg,hp⟩
end
theorem za {B:Nat} {a w:World} {b i:Nat} {u:Value} (h:Below B a w) (hp:B≤b):Below B a (w.setCell ⟨b,i,none⟩ u):=h.setCell (p:=⟨b,i,none⟩) hp u
theorem zn {B:Nat} {a w:World} (h:Below B a w):Below B a w.drew:=h.drew
attribute [irreducible] Blk
end Go.Proofs.YtcpdjamlhhfbhaaDoor
namespace Go.Proofs.YtcpdjamlhhfbhaaDoor
open Go.RowKit
structure Grow (w:World) where
 world:World
 below:Below w.heap.size w world
instance {w : World}:Nonempty (Grow w):=⟨⟨w,Below.refl _ _⟩⟩
theorem Grow.cell_at {w:World} (g:Grow w) {a:Addr} (h:(w.cell? a).isSome=true):g.world.cell? a=w.cell? a:=by
 obtain ⟨u,hu⟩:=Option.isSome_iff_exists.1 h
 exact g.below.cell (World.block_lt_of_cell? w a hu)
attribute [go_sem] Grow.cell_at
end Go.Proofs.YtcpdjamlhhfbhaaDoor
namespace Go.Proofs.YtcpdjamlhhfbhaaDoor
open Go.ChangeShapes Go.WideShapes Go.ChangeAt Go.RowKit
theorem ownKnobs : ownKnob Tryd.prog.godebug=none:=by kernel_rfl
theorem laidOuts : laidOutB Tryd.prog=true:=by kernel_rfl
section
variable {H : Type} {enc:TypeId × Value→H} {P:Program} {w w':World} {sp sp':Nat→Bool}
theorem zDT (hl:laidOutB P=true):∀ {ts:List TypeId} {vs:List Value} {ds:List (DataW H)} {ps:List MemPlace},(∀ t∈ts,P.readableRec t=true∧t<P.types.size)→DataW.TrodAll enc P w 0 (fun _=>true) true ts vs ds ps →
  (∀ p∈ps,w.sameAt w' p)→(∀ p∈ps,sp' p.block=true)→DataW.TrodAll enc P w' 0 sp' true ts vs ds ps
 | [],vs,ds,ps,_,h,_,_=>by
  obtain ⟨rfl,rfl,rfl⟩:=trodAll_nil h
  exact trodAll_mk0
 | t::ts,vs,ds,ps,hr,h,h1,h2=>by
  obtain ⟨v,vs',d,ds',p,q,rfl,rfl,rfl,hv,hrest⟩:=trodAll_cons h
  have ht:=hr t (by simp)
  exact trodAll_cons_mk (WideElems.Trod_stays hl ht.1 ht.2 hv (fun x hx=>h1 x (by simp [hx])) (fun x hx=>h2 x (by simp [hx])))
   (zDT hl (fun u hu=>hr u (by simp [hu])) hrest (fun x hx=>h1 x (by simp [hx])) (fun x hx=>h2 x (by simp [hx])))
theorem law_post (hlaid:laidOutB P=true) {f:Func} {s:ChangeSpec} {tb:TypeId} {args:Array Value} {ds gs:List (DataW H)} {before:List MemPlace} (hW:DataW.Whole enc P f.params.toList s.vars false w args.toList ds gs before)
  (hv:s.vars=[]) (hs:s.fn H (ds++gs) = { results:=[.lit (.bool true)],args:=ds }) (hr:f.resultTypes=#[tb]) (hb:P.underlying tb=some .bool) (hp:∀ t∈f.params.toList,P.readableRec t=true∧t<P.types.size) (hB:Below w.heap.size w w') :
  s.post enc P f false true false false w args (.bool true) w':=by
 have hlt:∀ p∈before,p.block<w.heap.size:=fun p hp=>hW.lt p hp
 have hW':=hW
 obtain ⟨pa,pv,hA,hV,rfl,hfz,hn⟩:=hW
 rw [hv] at hV
 obtain ⟨rfl,rfl⟩:=trodVars_none hV
 simp only [List.append_nil] at hW' hlt hfz hn hs
 have hargs:∀ sp':Nat→Bool,(∀ p∈pa,sp' p.block=true)→DataW.TrodAll enc P w' 0 sp' true f.params.toList args.toList ds pa:=fun sp' h=>zDT hlaid hp hA (fun p hp=>hB.same (hlt p hp)) h
 have hres:∀ (b:Nat) (sp':Nat→Bool) (hd:Bool),DataW.TrodAll enc P w' b sp' hd f.resultTypes.toList ((Value.bool true).resultList f.resultTypes.size) [.lit (.bool true)] []:=fun b sp' hd=>by
  rw [hr]
  exact trodAll_mk1 (shut_bool hb true)
 have hold:∀ p∈pa,(fun b=>decide (b<w.heap.size)) p.block=true:=fun p hp=>by simpa using hlt p hp
 refine ⟨ds,[],pa,[],pa,[],hW',?_,?_,?_,World.keptBut_mono (fun p hp=>⟨hp,Or.inr (Or.inl hp)⟩) (hB.frame (·∈pa)),fun h=>by cases h⟩
 ·rw [List.append_nil,hs];exact hres _ _ _
 ·rw [List.append_nil,hs];exact hargs _ hold
 ·rw [List.append_nil,hs,hv];exact rfl
end
end Go.Proofs.YtcpdjamlhhfbhaaDoor
