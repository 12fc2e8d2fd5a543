/- A11 -/
import Derived.Test.YtfiekidciiighaaGreatA8
import Derived.Maps.RangeRun
import Derived.Test.YtfiekidciiighaaGreatA10
import Derived.Test.YtfiekidciiighaaGreatA1
set_option linter.unusedSimpArgs false
set_option linter.unusedVariables false
namespace Go.Proofs.YtfiekidciiighaaGreat
variable {ro : Option Nat}
open Go.RowKit
open Go.ChangeMaps (setBlock)
set_option linter.unusedSectionVars false
def zCs {α β:Type} [DecidableEq α] (f:α→β) (a:α) (b:β):α→β:=fun x=>if x=a then b else f x
structure KeyT (P:Program) (T:TypeId) {K:Type} [DecidableEq K] (kv:K→Value):Prop where
 chk:∀ e k w,(Instr.checkKey e 10000 T (kv k)).run P w = .ok () w
 eq:∀ k k' w,(Op.equal T (kv k) (kv k')).run P w = .ok (decide (k=k')) w
 und:∃ d,P.underlying T=some d∧∀ k v,Instr.sameNow d (kv k) v=none
 bits:∀ k,Instr.sameBits 10000 (kv k) (kv k)=true
section
variable {K V:Type} [DecidableEq K] {kv:K→Value} {vv:V→Value}
def zBz (kv:K→Value) (vv:V→Value) (x:K × V × Nat):MapEntry:=⟨kv x.1,vv x.2.1,x.2.2⟩
def look : List (K × V × Nat)→K→Option V
 | [],_=>none
 | x::r,k=>if k=x.1 then some x.2.1 else look r k
def findA : List (K × V × Nat)→K→Nat→Option (Nat × V)
 | [],_,_=>none
 | x::r,k,i=>if k=x.1 then some (i,x.2.1) else findA r k (i+1)
structure MOk (l:List (K × V × Nat)) (c:Nat):Prop where
 keys:(l.map (·.1)).Nodup
 born:(l.map (·.2.2)).Nodup
 lt:∀ x∈l,x.2.2<c
theorem zD6 {k:K}:∀ {l:List (K × V × Nat)} (i:Nat),look l k=none→findA l k i=none∧∀ x∈l,x.1≠k
 | [],_,_=>⟨rfl,by simp⟩
 | x::r,i,h=>by
  simp only [look] at h
  by_cases e:k=x.1
  ·rw [if_pos e] at h;cases h
  ·rw [if_neg e] at h
   obtain ⟨h1,h2⟩:=zD6 (l:=r) (i+1) h
   simp only [findA]
   rw [if_neg e]
   refine ⟨h1,fun y hy=>?_⟩
   rcases List.mem_cons.1 hy with rfl|hy
   ·exact fun h=>e h.symm
   ·exact h2 y hy
theorem zCn {k:K} {v:V}:∀ {l:List (K × V × Nat)} (i:Nat),look l k=some v→∃ j b,findA l k i=some (i+j,v)∧l[j]?=some (k,v,b)
 | [],_,h=>by cases h
 | x::r,i,h=>by
  simp only [look] at h
  simp only [findA]
  by_cases e:k=x.1
  ·rw [if_pos e] at h ⊢
   simp only [Option.some.injEq] at h
   subst h
   subst e
   exact ⟨0,x.2.2,rfl,rfl⟩
  ·rw [if_neg e] at h ⊢
   obtain ⟨j,b,h1,h2⟩:=zCn (l:=r) (i+1) h
   exact ⟨j+1,b,by rw [h1];congr 2;omega,by simpa using h2⟩
theorem zDg {k:K} {v:V} {b:Nat} {l:List (K × V × Nat)} (hk:(l.map (·.1)).Nodup) (h:(k,v,b)∈l):look l k=some v:=by
 induction l with
 | nil=>cases h
 | cons x r ih =>
  simp only [look]
  rw [List.map_cons,List.nodup_cons] at hk
  rcases List.mem_cons.1 h with rfl|h
  ·simp
  ·rw [if_neg]
   ·exact ih hk.2 h
   ·rintro rfl
    exact hk.1 (List.mem_map.2 ⟨_,h,rfl⟩)
theorem zEp {k:K} {v:V} {c:Nat}:∀ {l:List (K × V × Nat)},look l k=none→look (l++[(k,v,c)])=zCs (look l) k (some v)
 | [],_=>by funext x;simp [look,zCs]
 | y::r,h=>by
  simp only [look] at h
  by_cases e:k=y.1
  ·rw [if_pos e] at h;cases h
  ·rw [if_neg e] at h
   have ih:=zEp (l:=r) (v:=v) (c:=c) h
   funext x
   have:=congrFun ih x
   simp only [List.cons_append,look,zCs] at this ⊢
   rw [this]
   by_cases h1:x=y.1
   ·rw [if_pos h1,if_neg (fun h2=>e (h2.symm.trans h1)),if_pos h1]
   ·rw [if_neg h1,if_neg h1]
theorem zJm {k:K} {v v':V} {b:Nat}:∀ {l:List (K × V × Nat)} {j:Nat},(l.map (·.1)).Nodup→l[j]?=some (k,v,b)→look (l.set j (k,v',b))=zCs (look l) k (some v')
 | [],j,_,h=>by simp at h
 | y::r,0,hn,h=>by
  simp at h
  subst h
  funext x
  simp only [List.set_cons_zero,look,zCs]
  by_cases h1:x=k<;>simp [h1]
 | y::r,j+1,hn,h=>by
  rw [List.map_cons,List.nodup_cons] at hn
  have h':r[j]?=some (k,v,b):=by simpa using h
  have ih:=zJm (l:=r) (j:=j) (v':=v') hn.2 h'
  have hne:k≠y.1:=fun e=>hn.1 (List.mem_map.2 ⟨_,List.mem_of_getElem? h',e⟩)
  funext x
  have:=congrFun ih x
  simp only [List.set_cons_succ,look,zCs] at this ⊢
  rw [this]
  by_cases h1:x=y.1
  ·rw [if_pos h1,if_neg (fun h2=>hne (h2.symm.trans h1)),if_pos h1]
  ·rw [if_neg h1,if_neg h1]
theorem zJn : look ([]:List (K × V × Nat))=fun _=>none:=by funext x;rfl
theorem MOk.nil (c:Nat):MOk ([]:List (K × V × Nat)) c:=⟨by simp,by simp,by simp⟩
theorem MOk.push {l:List (K × V × Nat)} {c:Nat} {k:K} {v:V} (h:MOk l c) (hk:look l k=none):MOk (l++[(k,v,c)]) (c+1):=by
 refine ⟨?_,?_,?_⟩
 ·rw [List.map_append,List.nodup_append]
  refine ⟨h.keys,by simp,?_⟩
  intro a ha b hb e
  subst e
  simp at hb
  subst hb
  obtain ⟨x,hx,rfl⟩:=List.mem_map.1 ha
  exact (zD6 0 hk).2 x hx rfl
 ·rw [List.map_append,List.nodup_append]
  refine ⟨h.born,by simp,?_⟩
  intro a ha b hb e
  subst e
  simp at hb
  subst hb
  obtain ⟨x,hx,e⟩:=List.mem_map.1 ha
  have:=h.lt x hx
  omega
 ·intro x hx
  rcases List.mem_append.1 hx with hx|hx
  ·have:=h.lt x hx;omega
  ·simp at hx;subst hx;simp
theorem zFO {α β:Type} {f:α→β}:∀ {l:List α} {j:Nat} {x y:α},l[j]?=some x→f x=f y→(l.set j y).map f=l.map f
 | [],_,_,_,h,_=>by simp at h
 | a::r,0,x,y,h,e=>by simp at h;subst h;simp [e]
 | a::r,j+1,x,y,h,e=>by
  have h':r[j]?=some x:=by simpa using h
  simp [zFO h' e]
theorem MOk.set {l:List (K × V × Nat)} {c j:Nat} {k:K} {v v':V} {b:Nat} (h:MOk l c) (hj:l[j]?=some (k,v,b)):MOk (l.set j (k,v',b)) c:=by
 refine ⟨?_,?_,?_⟩
 ·rw [zFO (y:=(k,v',b)) hj rfl];exact h.keys
 ·rw [zFO (y:=(k,v',b)) hj rfl];exact h.born
 ·intro x hx
  rcases List.mem_or_eq_of_mem_set hx with hx|rfl
  ·exact h.lt x hx
  ·exact h.lt (k,v,b) (List.mem_of_getElem? hj)
theorem zHM {α:Type} {f:α→α} {a b:α}:∀ {l:List α} {j:Nat},l[j]?=some a→f a=b→l.modify j f=l.set j b
 | [],_,h,_=>by simp at h
 | x::r,0,h,e=>by simp at h;subst h;simp [e]
 | x::r,j+1,h,e=>by
  have h':r[j]?=some a:=by simpa using h
  simp [zHM h' e]
theorem zH1 {P:Program} {T:TypeId} (hT:KeyT P T kv) (k:K) (w:World):∀ (l:List (K × V × Nat)) (i:Nat),(Instr.findAsking T (kv k) (l.map (zBz kv vv)) i).run P w = .ok ((findA l k i).map fun p=>(p.1,vv p.2)) w
 | [],i=>by simp [Instr.findAsking,findA]
 | x::r,i=>by
  have h1:=hT.eq k x.1 w
  have ih:=zH1 hT k w r (i+1)
  simp only [List.map_cons,Instr.findAsking,findA,Sem.run_bind,zBz]
  rw [h1]
  simp only [Result.andThen_ok]
  by_cases e:k=x.1
  ·simp [e]
  ·simp only [e,decide_false,Bool.false_eq_true,if_false]
   exact ih
theorem zH0 {P:Program} {T:TypeId} (hT:KeyT P T kv) (k:K) (w:World) (l:List (K × V × Nat)):(Instr.findKey T (kv k) (l.map (zBz kv vv))).run P w = .ok ((findA l k 0).map fun p=>(p.1,vv p.2)) w:=by
 obtain ⟨d,hd,hs⟩:=hT.und
 have e1:=run_underlying hd w
 simp only [Instr.findKey,Sem.run_bind,e1,Result.andThen_ok]
 cases l with
 | nil=>simp [Instr.findNow,findA]
 | cons x r =>
  have:Instr.findNow d (kv k) ((x::r).map (zBz kv vv)) 0=none:=by
   simp only [List.map_cons,Instr.findNow,hs]
  rw [this]
  exact zH1 hT k w (x::r) 0
theorem zLn {P:Program} {T:TypeId} (hT:KeyT P T kv) (k:K) (w:World):(Instr.keyThatStays (kv k) (kv k)).run P w = .ok (kv k) w:=by
 simp [Instr.keyThatStays,hT.bits k]
end
def Ent.ml {K V:Type} (m:Nat) (kv:K→Value) (vv:V→Value) (l:List (K × V × Nat)) (c:Nat):Ent:=⟨(· = m),fun w=>w.heap[m]?=some (.map (l.map (zBz kv vv)).toArray c),fun _ _ _ h hp=>(h m rfl).trans hp⟩
def Ent.fm {K V:Type} [DecidableEq K] (m:Nat) (kv:K→Value) (vv:V→Value) (f:K→Option V):Ent:=⟨(· = m),fun w=>∃ l c,w.heap[m]?=some (.map (l.map (zBz kv vv)).toArray c)∧MOk l c∧look l=f,fun w w' _ h hp=>by
 obtain ⟨l,c,hp,h1,h2⟩:=hp
 exact ⟨l,c,(h m rfl).trans hp,h1,h2⟩⟩
def Ent.fms {K V:Type} [DecidableEq K] (m:Nat) (kv:K→Value) (vv:V→Value) (f:K→Option V) (k:K) (s:Nat):Ent:=⟨(· = m),fun w=>∃ l c v,w.heap[m]?=some (.map (l.map (zBz kv vv)).toArray c)∧MOk l c∧look l=f∧(k,v,s)∈l,fun w w' _ h hp=>by
 obtain ⟨l,c,v,hp,h1,h2⟩:=hp
 exact ⟨l,c,v,(h m rfl).trans hp,h1,h2⟩⟩
theorem fms_fm {K V:Type} [DecidableEq K] {m:Nat} {kv:K→Value} {vv:V→Value} {f:K→Option V} {k:K} {s:Nat} {w:World}:(Ent.fms m kv vv f k s).p w→(Ent.fm m kv vv f).p w:=fun ⟨l,c,v,h1,h2,h3,_⟩=>⟨l,c,h1,h2,h3⟩
class MapR (H:List Ent) (m:Nat) {K V:Type} [DecidableEq K] (kv:outParam (K→Value)) (vv:outParam (V→Value)) (f:outParam (K→Option V)):Prop where
 rd:∀ base w,Own base w H→∃ l c,w.heap[m]?=some (.map (l.map (zBz kv vv)).toArray c)∧MOk l c∧look l=f
instance mapR_fm {H:List Ent} {m:Nat} {K V:Type} [DecidableEq K] {kv:K→Value} {vv:V→Value} {f:K→Option V}:MapR (.fm m kv vv f::H) m kv vv f:=⟨fun _ _ ho=>ho.here (.fm m kv vv f) (by simp)⟩
instance mapR_fms {H:List Ent} {m:Nat} {K V:Type} [DecidableEq K] {kv:K→Value} {vv:V→Value} {f:K→Option V} {k:K} {s:Nat}:MapR (.fms m kv vv f k s::H) m kv vv f:=⟨fun _ _ ho=>fms_fm (ho.here (.fms m kv vv f k s) (by simp))⟩
instance (priority := low) mapR_there {e:Ent} {H:List Ent} {m:Nat} {K V:Type} [DecidableEq K] {kv:K→Value} {vv:V→Value} {f:K→Option V} [i:MapR H m kv vv f]:MapR (e::H) m kv vv f:=⟨fun b w ho=>i.rd b w ho.tail⟩
section
variable {P : Program} {w0:World} {n:Nat} {d:List Deferred} {R:List (Nat × Value)} {H H' H1 H2:List Ent} {Q:Exit→Act→World→Prop} {ops:Array Oper} {rest:List Oper} {o:Oper} {t:Tmp} {x y z:Operand} {v:Value} {X:Act→World→Prop}
variable {K V:Type} [DecidableEq K] {kv:K→Value} {vv:V→Value} {f:K→Option V}
theorem zKZ {base m c':Nat} {w:World} {e e':Ent} {es':Array MapEntry} (h:Own base w (e::H')) (he:e.S=(· = m)) (he':e'.S=(· = m)) (hB:base≤w.heap.size) (hp:e'.p (setBlock w m (.map es' c'))):Own base (setBlock w m (.map es' c')) (e'::H'):=by
 have hf:=h.foot e (by simp) m (by rw [he])
 refine h.turn (by simp [setBlock]) (fun b hb hn=>?_) hB hp (fun b hb=>?_)
 ·rw [he] at hn
  have hne:m≠b:=fun e=>hn e.symm
  simp only [setBlock];rw [Array.getElem?_setIfInBounds_ne hne]
 ·rw [he'] at hb;rw [he];cases hb;exact ⟨.inl rfl,by simp [setBlock,hf.2]⟩
theorem zJp {w:World} {m c':Nat} {es':Array MapEntry} {base:Nat} {e:Ent} (h:Own base w (e::H')) (he:e.S=(· = m)):(setBlock w m (.map es' c')).heap[m]?=some (.map es' c'):=by
 have hf:=h.foot e (by simp) m (by rw [he])
 simp [setBlock,hf.2]
theorem u_fmMake (K V:Type) [DecidableEq K] (kv:K→Value) (vv:V→Value) {T1:TypeId} (hop:o.op = .makeMap T1 none) (hrd:rdy R ops n o=some t) (h:∀ m,U w0 n d ((t,.map (some m))::R) (.fm m kv vv (fun _=>none)::H) (wpL ro P ops Q rest)):U w0 n d R H (wpL ro P ops Q (o::rest)) :=
 zFY (rW hrd) fun a w q K' hK=>by
  unfold Oper.wp execOp;rw [hop]
  have hrun:(Instr.makeMap T1 none).run P w = .ok (.map (some w.heap.size)) (w.alloc (.map #[] 0)):=rfl
  simp only [Option.map_none,Sem.run_bind,hrun,Result.andThen_ok,Sem.run_pure,Oper.upon_value,(rD hrd)]
  refine hK _ _ (h w.heap.size _ _ ((q.call (E:=[.fm w.heap.size kv vv (fun _=>none)]) (zAU w _) ⟨fun e he=>?_,fun e he b hb=>?_,by simp⟩).put (rT hrd)))
  ·simp only [List.mem_singleton] at he;subst he
   exact ⟨[],0,heap_alloc_new w _,MOk.nil 0,zJn⟩
  ·simp only [List.mem_singleton] at he;subst he;cases hb;simp
theorem zLo {T1 kt et:TypeId} {s m c:Nat} {g:Bool} {zv:V} {l:List (K × V × Nat)} {w:World} (co:Bool) (k:K) [i1:TyI P T1 (.map kt et) s g] (hT:KeyT P kt kv) (hz:∀ w,(zeroValue et).run P w = .ok (vv zv) w) (hb:w.heap[m]?=some (.map (l.map (zBz kv vv)).toArray c)) :
  (Instr.lookup T1 (.map (some m)) (kv k) co).run P w = .ok (if co then .tuple #[vv ((look l k).getD zv),.bool (look l k).isSome] else vv ((look l k).getD zv)) w:=by
 have e1:=run_underlying i1.und w
 have e2:=fun e=>hT.chk e k w
 have e3:=zH0 (vv:=vv) hT k w l
 cases hl:look l k with
 | none =>
  rw [(zD6 0 hl).1] at e3
  cases co<;>simp [Instr.lookup,Sem.run_bind,e1,getObj,Sem.run,hb,e2,e3,hz]
 | some u =>
  obtain ⟨j,b,h1,_⟩:=zCn 0 hl
  rw [h1] at e3
  cases co<;>simp [Instr.lookup,Sem.run_bind,e1,getObj,Sem.run,hb,e2,e3,hz]
theorem zDJ {T1 kt et:TypeId} {s m:Nat} {g:Bool} {zv:V} (k:K) (u:V) (bb:Bool) (hop:o.op = .lookup T1 x y true) [i1:TyI P T1 (.map kt et) s g] (hT:KeyT P kt kv) (hz:∀ w,(zeroValue et).run P w = .ok (vv zv) w) (hx:evR R x=some (.map (some m))) (hy:evR R y=some (kv k)) [im:MapR H m kv vv f] (hv:(f k).getD zv=u) (hb':(f k).isSome=bb):Ev P w0 n d R H o (.tuple #[vv u,.bool bb]):=fun a w q=>by
 obtain ⟨l,c,hb,hl,rfl⟩:=im.rd _ _ q.own
 have:=zLo (P:=P) (T1:=T1) (kt:=kt) (et:=et) (s:=s) (g:=g) (zv:=zv) true k hT hz hb
 rw [hv,hb'] at this
 unfold execOp;rw [hop]
 simp only [Sem.run_bind,q.ev hx,q.ev hy,this,Result.andThen_ok,Sem.run_pure,if_true]
theorem zJP {T1 kt et:TypeId} {s m c:Nat} {g:Bool} {l:List (K × V × Nat)} {w:World} (k:K) (v:V) [i1:TyI P T1 (.map kt et) s g] (hT:KeyT P kt kv) (hb:w.heap[m]?=some (.map (l.map (zBz kv vv)).toArray c)) (hl:MOk l c) :
  ∃ l' c',(Instr.mapUpdate T1 (.map (some m)) (kv k) (vv v)).run P w = .ok () (setBlock w m (.map (l'.map (zBz kv vv)).toArray c'))∧MOk l' c'∧look l'=zCs (look l) k (some v):=by
 have e1:=run_underlying i1.und w
 have e2:=fun e=>hT.chk e k w
 have e3:=zH0 (vv:=vv) hT k w l
 cases hk:look l k with
 | none =>
  rw [(zD6 0 hk).1] at e3
  refine ⟨l++[(k,v,c)],c+1,?_,hl.push hk,zEp hk⟩
  simp [Instr.mapUpdate,Sem.run_bind,e1,getObj,Sem.run,hb,e2,e3,setObj,setBlock,zBz]
 | some u =>
  obtain ⟨j,b,h1,h2⟩:=zCn 0 hk
  rw [h1] at e3
  have e4:=zLn hT k w
  have hlt:j<l.length:=(List.getElem?_eq_some_iff.1 h2).1
  refine ⟨l.set j (k,v,b),c,?_,hl.set h2,zJm hl.keys h2⟩
  have e7:l[j]=(k,u,b):=by rw [List.getElem?_eq_getElem hlt] at h2;exact Option.some.inj h2
  have e8:(Instr.keyThatStays (zBz kv vv (k,u,b)).key (kv k)).run P w = .ok (kv k) w:=e4
  have e9:∀ f:MapEntry→MapEntry,f (zBz kv vv (k,u,b))=zBz kv vv (k,v,b)→(l.map (zBz kv vv)).modify j f=(l.map (zBz kv vv)).set j (zBz kv vv (k,v,b)):=fun f hf=>zHM (by simp [h2]) hf
  simp only [Nat.zero_add] at e3
  simp [Instr.mapUpdate,Sem.run_bind,e1,getObj,Sem.run,hb,e2,e3,setObj,setBlock,e7,h2,hlt,e4]
  rw [e8]
  simp only [Result.andThen_ok,hb]
  rw [e9 _ rfl]
theorem own_fm {base m c':Nat} {w:World} {e:Ent} {l':List (K × V × Nat)} (h:Own base w (e::H')) (he:e.S=(· = m)) (hB:base≤w.heap.size) (h1:MOk l' c') (h2:look l'=f):Own base (setBlock w m (.map (l'.map (zBz kv vv)).toArray c')) (.fm m kv vv f::H') :=
 zKZ h he rfl hB ⟨l',c',zJp h he,h1,h2⟩
theorem zGh {T1 kt et:TypeId} {s m:Nat} {g:Bool} (k:K) (u:V) (hop:o.op = .mapUpdate T1 x y z) [i1:TyI P T1 (.map kt et) s g] (hT:KeyT P kt kv) (hw:want R ops o=some true) (hd:o.dst=none) (hx:evR R x=some (.map (some m))) (hy:evR R y=some (kv k)) (hz:evR R z=some (vv u)) (ht:Take H (.fm m kv vv f) H')
  (h:U w0 n d R (.fm m kv vv (zCs f k (some u))::H') (wpL ro P ops Q rest)):U w0 n d R H (wpL ro P ops Q (o::rest)) :=
 zFY hw fun a w q K' hK=>by
  have ho:=q.own.take ht
  obtain ⟨l,c,hb,hl,rfl⟩:=ho.here (.fm m kv vv f) (by simp)
  have hf:=ho.foot (.fm m kv vv (look l)) (by simp) m rfl
  obtain ⟨l',c',hrun,h1,h2⟩:=zJP (P:=P) (T1:=T1) (et:=et) (s:=s) (g:=g) k u hT hb hl
  unfold Oper.wp execOp;rw [hop]
  simp only [Sem.run_bind,q.ev hx,q.ev hy,q.ev hz,hrun,Result.andThen_ok,Sem.run_pure,Oper.upon_skip,hd]
  exact hK _ _ (h _ _ (q.heap (q.below.trans (zER hf.1)) (own_fm ho rfl q.base h1 h2)))
theorem zCt {m:Nat} (ht:Take H (.fm m kv vv f) H') (h:∀ l c,MOk l c→look l=f→U w0 n d R (.ml m kv vv l c::H') X):U w0 n d R H X:=fun a w q=>by
 have ho:=q.own.take ht
 obtain ⟨l,c,hb,hl,he⟩:=ho.here (.fm m kv vv f) (by simp)
 exact h l c hl he a w (q.heap q.below (ho.recast (fun _=>hb) (fun _ h=>h)))
theorem zDZ {m c:Nat} {l:List (K × V × Nat)} (ht:Take H (.ml m kv vv l c) H') (hl:MOk l c) (he:look l=f) (h:U w0 n d R (.fm m kv vv f::H') X):U w0 n d R H X:=fun a w q=>by
 have ho:=q.own.take ht
 exact h a w (q.heap q.below (ho.recast (e':=.fm m kv vv f) (fun hp=>⟨l,c,hp,hl,he⟩) (fun _ h=>h)))
def Ent.itl (r m c:Nat) (seen:List Nat):Ent:=⟨(· = r),fun w=>w.heap[r]?=some (.mapIter (some m) c seen.toArray c),fun _ _ _ h hp=>(h r rfl).trans hp⟩
theorem own_itl (w:World) (m c:Nat):Own w.heap.size (w.alloc (.mapIter (some m) c #[] c)) [.itl w.heap.size m c []] :=
 ⟨fun e he=>by simp only [List.mem_singleton] at he;subst he;exact heap_alloc_new w _,fun e he b hb=>by simp only [List.mem_singleton] at he;subst he;cases hb;simp,by simp⟩
theorem zD1 {T1 kt et:TypeId} {s m c:Nat} {g:Bool} {l:List (K × V × Nat)} (hop:o.op = .range T1 x) [i1:TyI P T1 (.map kt et) s g] (hrd:rdy R ops n o=some t) (hx:evR R x=some (.map (some m))) (hm:Take H (.ml m kv vv l c) H')
  (h:∀ r,U w0 n d ((t,.pointer (some ⟨r,0,none⟩))::R) (.itl r m c []::H) (wpL ro P ops Q rest)):U w0 n d R H (wpL ro P ops Q (o::rest)) :=
 zFY (rW hrd) fun a w q K' hK=>by
  have e1:=run_underlying i1.und w
  have e2:w.heap[m]?=some (.map (l.map (zBz kv vv)).toArray c):=q.own.here _ hm.mem
  unfold Oper.wp execOp;rw [hop]
  have hrun:(Instr.range T1 (.map (some m))).run P w = .ok (.pointer (some ⟨w.heap.size,0,none⟩)) (w.alloc (.mapIter (some m) c #[] c)):=by
   simp [Instr.range,e1,getObj,Sem.run_bind,Sem.run,e2]
  simp only [Sem.run_bind,q.ev hx,hrun,Result.andThen_ok,Sem.run_pure,Oper.upon_value,(rD hrd)]
  exact hK _ _ (h w.heap.size _ _ ((q.call (zAU w _) (own_itl w m c)).put (rT hrd)))
theorem zEz {m r c:Nat} {seen:List Nat} {l:List (K × V × Nat)} (hop:o.op = .next x false) (hrd:rdy R ops n o=some t) (hx:evR R x=some (.pointer (some ⟨r,0,none⟩))) (htk:Take H (.itl r m c seen) H') (hm:Take H (.ml m kv vv l c) H1) (hl:MOk l c)
  (h1:(∀ x∈l,x.2.2∈seen)→U w0 n d ((t,.tuple #[.bool false])::R) H (wpL ro P ops Q rest))
  (h2:∀ x∈l,x.2.2 ∉ seen→U w0 n d ((t,.tuple #[.bool true,kv x.1,vv x.2.1])::R) (.itl r m c (seen++[x.2.2])::H') (wpL ro P ops Q rest)):U w0 n d R H (wpL ro P ops Q (o::rest)) :=
 zFY (rW hrd) fun a w q K' hK=>by
  have e2:w.heap[m]?=some (.map (l.map (zBz kv vv)).toArray c):=q.own.here _ hm.mem
  have ho:=q.own.take htk
  have hr:w.heap[r]?=some (.mapIter (some m) c seen.toArray c):=ho.here (.itl r m c seen) (by simp)
  have hfoot:=ho.foot (.itl r m c seen) (by simp) r rfl
  have hold:∀ x∈((l.map (zBz kv vv)).toArray).toList,x.born<c:=fun x hx=>by
   simp only [List.mem_map] at hx
   obtain ⟨y,hy,rfl⟩:=hx
   exact hl.lt y hy
  unfold Oper.wp execOp;rw [hop]
  rcases run_next_at (P:=P) w o.type r m c c seen.toArray (l.map (zBz kv vv)).toArray c hr e2 hold (Nat.le_refl _) with ⟨h0,hrun⟩ | ⟨e,he,w1,hw1,hrun⟩
  ·simp only [Sem.run_bind,q.ev hx,hrun,Result.andThen_ok,Sem.run_pure,Oper.upon_value,(rD hrd)]
   refine hK _ _ (h1 (fun y hy=>?_) _ _ (q.put (rT hrd)))
   have h9:leftOf (l.map (zBz kv vv)).toArray seen.toArray=#[]:=Array.eq_empty_of_size_eq_zero h0
   unfold leftOf at h9
   rw [Array.filter_eq_empty_iff] at h9
   have:=h9 (zBz kv vv y) (by simp only [List.mem_toArray,List.mem_map];exact ⟨y,hy,rfl⟩)
   simpa [zBz] using this
  ·have he':e∈l.map (zBz kv vv)∧e.born ∉ seen:=by
    unfold leftOf at he
    simpa using he
   obtain ⟨y,hy,rfl⟩:=List.mem_map.1 he'.1
   simp only [Sem.run_bind,q.ev hx,hrun,Result.andThen_ok,Sem.run_pure,Oper.upon_value,(rD hrd)]
   refine hK _ _ (h2 y hy he'.2 _ _ ((q.heap (q.below.trans ?_) (ho.turn ?_ ?_ q.base ?_ ?_)).put (rT hrd)))
   ·rcases hw1 with rfl|rfl<;>exact ⟨rfl,rfl,rfl,by simp [setBlock],fun b hb=>by
     simp only [setBlock]
     rw [Array.getElem?_setIfInBounds_ne (by have:=hfoot.1;omega)]
     try rfl⟩
   ·rcases hw1 with rfl|rfl<;>simp [setBlock]
   ·intro b hb hn
    have hne:r≠b:=fun e=>hn e.symm
    rcases hw1 with rfl|rfl<;>(simp only [setBlock];rw [Array.getElem?_setIfInBounds_ne hne];try rfl)
   ·rcases hw1 with rfl|rfl<;>simp [Ent.itl,setBlock,zBz,hfoot.2]
   ·intro b hb
    cases hb
    refine ⟨.inl rfl,?_⟩
    rcases hw1 with rfl|rfl<;>simp [setBlock,hfoot.2]
theorem zDa {m r c:Nat} {seen:List Nat} {l:List (K × V × Nat)} {p:K × V × Nat} (hop:o.op = .entry x) (hrd:rdy R ops n o=some t) (hx:evR R x=some (.pointer (some ⟨r,0,none⟩))) (htk:Take H (.itl r m c (seen++[p.2.2])) H') (hm:Take H (.ml m kv vv l c) H1) (hl:MOk l c) (hp:p∈l)
  (h:U w0 n d ((t,.tuple #[kv p.1,vv p.2.1])::R) H (wpL ro P ops Q rest)):U w0 n d R H (wpL ro P ops Q (o::rest)) :=
 zBD hrd (fun a w q=>by
  have e2:w.heap[m]?=some (.map (l.map (zBz kv vv)).toArray c):=q.own.here _ hm.mem
  have hr:w.heap[r]?=some (.mapIter (some m) c (seen++[p.2.2]).toArray c):=(q.own.take htk).here (.itl r m c (seen++[p.2.2])) (by simp)
  have e3:(seen++[p.2.2]).toArray=seen.toArray.push (zBz kv vv p).born:=by simp [zBz]
  rw [e3] at hr
  have hnd:(((l.map (zBz kv vv)).toArray).toList.map (·.born)).Nodup:=by
   have:=hl.born
   simpa [Function.comp_def,zBz] using this
  have:=run_entry_at (P:=P) w r m c seen.toArray (l.map (zBz kv vv)).toArray c (zBz kv vv p) hr e2 (by simp only [List.mem_map];exact ⟨p,hp,rfl⟩) hnd
  unfold execOp;rw [hop]
  simp only [Sem.run_bind,q.ev hx,this,Result.andThen_ok,Sem.run_pure]
  rfl) h
def zFi (l:List (K × V × Nat)) (seen:List Nat):Nat:=(l.filter fun x=>!seen.contains x.2.2).length
theorem zIL {α:Type} {p q:α→Bool} (h:∀ z,q z=true→p z=true):∀ l:List α,(l.filter q).length≤(l.filter p).length
 | []=>by simp
 | z::r=>by
  have ih:=zIL h r
  cases hq:q z with
  | true=>rw [List.filter_cons_of_pos hq,List.filter_cons_of_pos (h z hq),List.length_cons,List.length_cons];omega
  | false =>
   rw [List.filter_cons_of_neg (by simp [hq])]
   cases hp:p z with
   | true=>rw [List.filter_cons_of_pos hp,List.length_cons];omega
   | false=>rw [List.filter_cons_of_neg (by simp [hp])];exact ih
theorem zIK {α:Type} {p q:α→Bool} {x:α} (h:∀ z,q z=true→p z=true) (hp:p x=true) (hq:q x=false):∀ {l:List α},x∈l→(l.filter q).length<(l.filter p).length
 | [],hx=>by cases hx
 | z::r,hx=>by
  rcases List.mem_cons.1 hx with rfl|hx
  ·rw [List.filter_cons_of_neg (by simp [hq]),List.filter_cons_of_pos hp,List.length_cons]
   have:=zIL h r;omega
  ·have ih:=zIK h hp hq hx
   cases hq:q z with
   | true=>rw [List.filter_cons_of_pos hq,List.filter_cons_of_pos (h z hq),List.length_cons,List.length_cons];omega
   | false =>
    rw [List.filter_cons_of_neg (by simp [hq])]
    cases hp:p z with
    | true=>rw [List.filter_cons_of_pos hp,List.length_cons];omega
    | false=>rw [List.filter_cons_of_neg (by simp [hp])];exact ih
theorem zDF {l:List (K × V × Nat)} {seen:List Nat} {x:K × V × Nat} (hx:x∈l) (hn:x.2.2 ∉ seen):zFi l (seen++[x.2.2])<zFi l seen:=by
 unfold zFi
 refine zIK (fun z hz=>?_) (by simpa using hn) (by simp) hx
 simp at hz ⊢
 exact hz.1
end
section
variable {P : Program} {w0:World} {n:Nat} {d:List Deferred} {R:List (Nat × Value)} {H H':List Ent} {Q:Exit→Act→World→Prop} {ops:Array Oper} {o:Oper} {K:Act→World→Prop}
def qk (K:Act→World→Prop):Exit→Act→World→Prop:=fun e a w=>match e with | .normal=>K a w | _=>False
abbrev wpA (ro:Option Nat) (P:Program) (ops:Array Oper) (Q:Exit→Act→World→Prop) (fuel:Nat) (listed:Array Bool):Act→World→Prop:=wpAnyIn (FW ro) 9 P .any ops Q fuel listed
inductive AllU (w0:World) (n:Nat) (d:List Deferred) (R:List (Nat × Value)) (H:List Ent) (ro:Option Nat) (P:Program) (ops:Array Oper) (Q:Exit→Act→World→Prop) (fuel:Nat) (listed:Array Bool):List Nat→Prop
 | nil:AllU w0 n d R H ro P ops Q fuel listed []
 | cons {i:Nat} {l:List Nat} {o:Oper} (ho:ops[i]?=some o) (h:U w0 n d R H (wpL ro P ops (qk (wpA ro P ops Q fuel (listed.setIfInBounds i true))) [o])) (hr:AllU w0 n d R H ro P ops Q fuel listed l):AllU w0 n d R H ro P ops Q fuel listed (i::l)
end
end Go.Proofs.YtfiekidciiighaaGreat
namespace Go.Proofs.YtfiekidciiighaaGreat
variable {ro : Option Nat}
open Go.RowKit
open Go.ChangeMaps (setBlock)
set_option maxRecDepth 20000
section
variable {P : Program} {w0:World} {n:Nat} {d:List Deferred} {R:List (Nat × Value)} {H H':List Ent} {Q:Exit→Act→World→Prop} {ops:Array Oper} {rest:List Oper} {o:Oper} {t:Tmp} {x y z:Operand} {v:Value} {T T':TypeId} {k:IntKind} {i j:Int}
theorem u_addW (hop:o.op = .binOp .add T x y T') (hrd:rdy R ops n o=some t) (hx:evR R x=some (.int k i)) (hy:evR R y=some (.int k j)) (h:U w0 n d ((t,.int k (k.wrap (i+j)))::R) H (wpL ro P ops Q rest)):U w0 n d R H (wpL ro P ops Q (o::rest)) :=
 zBD hrd (fun a w q=>by unfold execOp;rw [hop];simp [q.ev hx,q.ev hy,eqGuard,binOp,Op.intArith]) h
theorem zIe (hop:o.op = .binOp .sub T x y T') (hrd:rdy R ops n o=some t) (hx:evR R x=some (.int k i)) (hy:evR R y=some (.int k j)) (h:U w0 n d ((t,.int k (k.wrap (i - j)))::R) H (wpL ro P ops Q rest)):U w0 n d R H (wpL ro P ops Q (o::rest)) :=
 zBD hrd (fun a w q=>by unfold execOp;rw [hop];simp [q.ev hx,q.ev hy,eqGuard,binOp,Op.intArith]) h
theorem zKC (hop:o.op = .binOp .mul T x y T') (hrd:rdy R ops n o=some t) (hx:evR R x=some (.int k i)) (hy:evR R y=some (.int k j)) (h:U w0 n d ((t,.int k (k.wrap (i * j)))::R) H (wpL ro P ops Q rest)):U w0 n d R H (wpL ro P ops Q (o::rest)) :=
 zBD hrd (fun a w q=>by unfold execOp;rw [hop];simp [q.ev hx,q.ev hy,eqGuard,binOp,Op.intArith]) h
theorem u_quoW (hop:o.op = .binOp .quo T x y T') (hrd:rdy R ops n o=some t) (hx:evR R x=some (.int k i)) (hy:evR R y=some (.int k j)) (h1:j≠0) (h:U w0 n d ((t,.int k (k.wrap (i.tdiv j)))::R) H (wpL ro P ops Q rest)):U w0 n d R H (wpL ro P ops Q (o::rest)) :=
 zBD hrd (fun a w q=>by unfold execOp;rw [hop];simp [q.ev hx,q.ev hy,eqGuard,binOp,Op.intDiv,h1]) h
end
section
variable {P : Program} {w0:World} {n:Nat} {d:List Deferred} {R:List (Nat × Value)} {H:List Ent} {o:Oper} {x y:Operand} {v u:Value} {T T':TypeId} {k:IntKind} {i j:Int}
theorem zHz {s off:Nat} {g:Bool} {td:TypeDesc} {vs:List Value} (i1:TyI P T td s g) (hv:rdv g (vs.drop off) s=some v) (w:World):(Go.part T vs.toArray off).run P w = .ok v w:=by
 unfold Go.part
 simp only [Sem.run_bind,i1.agg,Result.andThen_ok]
 cases g
 ·simp only [rdv,List.getElem?_drop,Nat.add_zero] at hv
  simp [hv]
 ·unfold rdv at hv
  simp only at hv
  cases hb:Nat.ble s (vs.drop off).length with
  | false=>rw [hb] at hv;cases hv
  | true =>
   rw [hb] at hv
   simp only [cond_true,Option.some.injEq] at hv
   simp only [if_true,Sem.run_bind,i1.siz,Result.andThen_ok,Sem.run_pure,← hv]
   congr 2
   rw [List.extract_toArray]
   simp [List.extract_eq_take_drop]
theorem zDl {e:TypeId} {s s' m I:Nat} {g g':Bool} {td:TypeDesc} {vs:List Value} (hop:o.op = .index T x y) [i1:TyI P T (.array m e) s g] [i2:TyI P e td s' g'] (hx:evR R x=some (.agg vs.toArray)) (hy:evR R y=some (.int k i)) (hI:i=(I:Int)) (hi:I<m) (hv:rdv g' (vs.drop (I * s')) s'=some v):Ev P w0 n d R H o v :=
 (fun a w q=>by
  subst hI
  unfold execOp;rw [hop]
  have e1:=run_underlying i1.und w
  have e2:=i2.siz w
  have e3:=zHz i2 hv w
  have h0:(0:Int)≤I:=by omega
  have h1:(I:Int)<m:=by omega
  simp [q.ev hx,q.ev hy,Instr.index,asIntOf,e1,e2,hi,e3])
theorem zFq {s s' m:Nat} {fs:Array Field} {f:Field} {g g':Bool} {td:TypeDesc} {vs:List Value} (hop:o.op = .field T x m) [i1:TyI P T (.struct fs) s g] (hx:evR R x=some (.agg vs.toArray)) (hf:fs[m]?=some f) (i2:TyI P f.type td s' g') (hv:rdv g' (vs.drop f.offset) s'=some v):Ev P w0 n d R H o v :=
 (fun a w q=>by
  unfold execOp;rw [hop]
  have e1:=run_underlying i1.und w
  have e3:=zHz i2 hv w
  simp [q.ev hx,Instr.field,asAgg,e1,hf,e3])
end
theorem Out.all : ∀ H:List Ent,Out H H
 | []=>.nil _
 | e::H=>.cons (.here e H) (Out.all H)
section
variable {K V:Type} [DecidableEq K]
def Ent.mps (kv:K→Value) (vv:V→Value) (L:List (Nat × (K→Option V))):Ent :=
 ⟨fun b=>b∈L.map Prod.fst,fun w=>(L.map Prod.fst).Nodup∧∀ p∈L,(Ent.fm p.1 kv vv p.2).p w,fun w w' hs h hp=>⟨hp.1,fun p hm=>(Ent.fm p.1 kv vv p.2).loc w w' hs (fun b hb=>h b (by cases hb;exact List.mem_map_of_mem hm)) (hp.2 p hm)⟩⟩
variable {kv : K→Value} {vv:V→Value} {base:Nat} {w:World} {H H':List Ent} {L1 L2:List (Nat × (K→Option V))} {m:Nat} {f:K→Option V}
theorem zKb (h:Own base w (.mps kv vv (L1++(m,f)::L2)::H)):Own base w (.fm m kv vv f :: .mps kv vv (L1++L2)::H):=by
 obtain ⟨h1,h2⟩:=h.here (.mps kv vv (L1++(m,f)::L2)) (by simp)
 have hf:=h.foot (.mps kv vv (L1++(m,f)::L2)) (by simp)
 have ha:=List.pairwise_cons.1 h.apart
 have hsub:∀ b,b∈(L1++L2).map Prod.fst→b∈(L1++(m,f)::L2).map Prod.fst:=fun b hb=>by
  simp only [List.map_append,List.map_cons,List.mem_append,List.mem_cons] at hb ⊢
  rcases hb with hb|hb
  ·exact .inl hb
  ·exact .inr (.inr hb)
 have hm:m∈(L1++(m,f)::L2).map Prod.fst:=by simp
 simp only [List.map_append,List.map_cons] at h1
 obtain ⟨n1,n2,n3⟩:=List.nodup_append.1 h1
 obtain ⟨n4,n5⟩:=List.nodup_cons.1 n2
 have hnm:m ∉ (L1++L2).map Prod.fst:=by
  simp only [List.map_append,List.mem_append,not_or]
  exact ⟨fun hb=>n3 _ hb _ (by simp) rfl,n4⟩
 refine ⟨fun e he=>?_,fun e he b hb=>?_,List.pairwise_cons.2 ⟨fun e he b hb hb'=>?_,List.pairwise_cons.2 ⟨fun e he b hb=>ha.1 e he b (hsub b hb),ha.2⟩⟩⟩
 ·rcases List.mem_cons.1 he with rfl|he
  ·exact h2 (m,f) (by simp)
  ·rcases List.mem_cons.1 he with rfl|he
   ·refine ⟨?_,fun p hp=>h2 p ?_⟩
    ·rw [List.map_append];exact List.nodup_append.2 ⟨n1,n5,fun a ha b hb=>n3 a ha b (List.mem_cons_of_mem _ hb)⟩
    ·rcases List.mem_append.1 hp with hp|hp
     ·exact List.mem_append_left _ hp
     ·exact List.mem_append_right _ (List.mem_cons_of_mem _ hp)
   ·exact h.here e (List.mem_cons_of_mem _ he)
 ·rcases List.mem_cons.1 he with rfl|he
  ·cases hb;exact hf m hm
  ·rcases List.mem_cons.1 he with rfl|he
   ·exact hf b (hsub b hb)
   ·exact h.foot e (List.mem_cons_of_mem _ he) b hb
 ·cases hb
  rcases List.mem_cons.1 he with rfl|he
  ·exact hnm hb'
  ·exact ha.1 e he m hm hb'
theorem zLt (h:Own base w (.fm m kv vv f :: .mps kv vv (L1++L2)::H)):Own base w (.mps kv vv (L1++(m,f)::L2)::H):=by
 obtain ⟨a1,a2⟩:=List.pairwise_cons.1 h.apart
 obtain ⟨a3,a4⟩:=List.pairwise_cons.1 a2
 obtain ⟨h1,h2⟩:=h.here (.mps kv vv (L1++L2)) (by simp)
 have hfm:=h.here (.fm m kv vv f) (by simp)
 have hnm:m ∉ (L1++L2).map Prod.fst:=a1 (.mps kv vv (L1++L2)) (by simp) m rfl
 have hmem:∀ b,b∈(L1++(m,f)::L2).map Prod.fst→b=m∨b∈(L1++L2).map Prod.fst:=fun b hb=>by
  simp only [List.map_append,List.map_cons,List.mem_append,List.mem_cons] at hb ⊢
  rcases hb with hb|hb|hb
  ·exact .inr (.inl hb)
  ·exact .inl hb
  ·exact .inr (.inr hb)
 refine ⟨fun e he=>?_,fun e he b hb=>?_,List.pairwise_cons.2 ⟨fun e he b hb hb'=>?_,a4⟩⟩
 ·rcases List.mem_cons.1 he with rfl|he
  ·refine ⟨?_,fun p hp=>?_⟩
   ·simp only [List.map_append,List.map_cons]
    simp only [List.map_append,List.mem_append,not_or] at hnm
    rw [List.map_append] at h1
    obtain ⟨n1,n2,n3⟩:=List.nodup_append.1 h1
    refine List.nodup_append.2 ⟨n1,List.nodup_cons.2 ⟨hnm.2,n2⟩,fun a ha b hb=>?_⟩
    rcases List.mem_cons.1 hb with rfl|hb
    ·rintro rfl;exact hnm.1 ha
    ·exact n3 a ha b hb
   ·rcases List.mem_append.1 hp with hp|hp
    ·exact h2 p (List.mem_append_left _ hp)
    ·rcases List.mem_cons.1 hp with rfl|hp
     ·exact hfm
     ·exact h2 p (List.mem_append_right _ hp)
  ·exact h.here e (List.mem_cons_of_mem _ (List.mem_cons_of_mem _ he))
 ·rcases List.mem_cons.1 he with rfl|he
  ·rcases hmem b hb with rfl|hb
   ·exact h.foot (.fm b kv vv f) (by simp) b rfl
   ·exact h.foot (.mps kv vv (L1++L2)) (by simp) b hb
  ·exact h.foot e (List.mem_cons_of_mem _ (List.mem_cons_of_mem _ he)) b hb
 ·rcases hmem b hb with rfl|hb
  ·exact a1 e (List.mem_cons_of_mem _ he) b rfl hb'
  ·exact a3 e he b hb hb'
theorem zJa (h:Own base w H):Own base w (.mps kv vv []::H) :=
 ⟨fun e he=>by
  rcases List.mem_cons.1 he with rfl|he
  ·exact ⟨by simp,fun p hp=>by cases hp⟩
  ·exact h.here e he,fun e he b hb=>by
  rcases List.mem_cons.1 he with rfl|he
  ·cases hb
  ·exact h.foot e he b hb,List.pairwise_cons.2 ⟨fun e _ b hb=>(by cases hb),h.apart⟩⟩
section
variable {n : Nat} {d:List Deferred} {R:List (Nat × Value)} {X:Act→World→Prop} {w0:World}
theorem u_mpsOut (ht:Take H (.mps kv vv (L1++(m,f)::L2)) H') (h:U w0 n d R (.fm m kv vv f :: .mps kv vv (L1++L2)::H') X):U w0 n d R H X:=fun a w q=>h a w (q.heap q.below (zKb (q.own.take ht)))
theorem zFZ {H1:List Ent} (L1 L2:List (Nat × (K→Option V))) (ht:Take H (.fm m kv vv f) H1) (ht2:Take H1 (.mps kv vv (L1++L2)) H') (h:U w0 n d R (.mps kv vv (L1++(m,f)::L2)::H') X):U w0 n d R H X:=fun a w q=>by
 have h1:=q.own.take ht
 refine h a w (q.heap q.below (zLt ?_))
 refine h1.sub (Out.cons (Take.here _ _) (Out.cons ht2 ?_))
 exact Out.all H'
theorem u_mps0 (kv:K→Value) (vv:V→Value) (h:U w0 n d R (.mps kv vv []::H) X):U w0 n d R H X:=fun a w q=>h a w (q.heap q.below (zJa q.own))
end
end
end Go.Proofs.YtfiekidciiighaaGreat
namespace Go.Proofs.YtfiekidciiighaaGreat.Two
variable {ro : Option Nat}
open Go.RowKit
theorem zKY {A:Option Addr} {c s:Nat}:partA A c 0 s=A:=by
 unfold partA
 split
 ·rfl
 ·cases A with
  | none=>rfl
  | some a=>simp [Addr.add]
theorem e_prefix {P:Program} {w0:World} {n:Nat} {d:List Deferred} {R:List (Nat × Value)} {H:List Ent} {o:Oper} {x:Operand} {T1 e:TypeId} {td:TypeDesc} {s s' m c:Nat} {g g':Bool} {A:Option Addr} {hi:Option Operand} {u:Int} (M:Nat) (hop:o.op = .slice T1 x none hi none) [i1:TyI P T1 (.slice e) s g] [i2:TyI P e td s' g'] (hx:evR R x=some (.slice A m c)) (hu:bnd R hi m=some u) (hM:u=(M:Int)) (h2:M≤c):Ev P w0 n d R H o (.slice A M c):=by
 have h:=e_slice (P:=P) (w0:=w0) (n:=n) (d:=d) (H:=H) (l:=0) 0 M hop hx rfl hu rfl hM (Nat.zero_le _) h2
 rw [zKY] at h
 exact h
section
variable {S : List (Nat × Nat)} {I:List (Nat × Nat × Nat × List Ent)} {P:Program} {w0:World} {n:Nat} {d:List Deferred} {R0:List (Nat × Value)} {H0:List Ent} {Q:Exit→Act→World→Prop} {ops:Array Oper} {bs:List (List Bool)} {b:List Bool} {k:Nat} {o:Oper} {rest:List Oper} {T:List Rw} {t:Tmp} {Hk:zAp→List Ent} {x y:Operand}
theorem zJz {T1:TypeId} {td:TypeDesc} {s off gb lo hi:Nat} {g:Bool} {vy:zAp→Value} {cs:List Value} {cs':zAp→List Value} (hkE:(k,lo,hi,[Ent.blk gb cs])∈I) (hfree:takes S k=false) (hop:o.op = .store T1 x y) [i1:TyI P T1 td s g] (hw:∀ G,want (Rk R0 ops b o T G) ops o=some true) (hd:o.dst=none) (hx:∀ G,evR (Rk R0 ops b o T G) x=some (.pointer (some ⟨gb,off,none⟩))) (hy:∀ G,evR (Rk R0 ops b o T G) y=some (vy G))
  (hv:∀ G,Nat.beq (vy G).cells.toList.length s=true) (hv1:∀ G,(vy G).cells.toList.all Value.oneCell'=true) (hl:Nat.ble (off+s) cs.length=true) (hc:∀ G,put1 cs off (vy G).cells.toList=cs' G) (hcs:zFW b k cs')
  (h:zBC ro S I P w0 n d ops R0 H0 Q bs (k+1) rest (⟨k,none,fun G=>(undef,[.blk gb (cs' G)])⟩::T)):zBC ro S I P w0 n d ops R0 H0 Q (b::bs) k (o::rest) T:=by
 refine zI0 (f:=fun G=>(undef,[.blk gb (cs' G)])) hkE hfree (fun G G' hG=>by simp only [hcs.loc G G' hG]) (fun G L a w q ho K hK=>?_) (by rw [hd];exact h)
 refine zHw hop (hw G) hd (hx G) (hy G) (hv G) (hv1 G) hl (hc G) q ho (fun w' hB hO=>?_)
 have:=hK undef [.blk gb (cs' G)] w' ⟨⟨0,none,0⟩,by simp only [hcs.up]⟩ hB hO
 rw [hd] at this
 exact this
end
end Go.Proofs.YtfiekidciiighaaGreat.Two
namespace Go.Proofs.YtfiekidciiighaaGreat
structure Opn where
 sig:Int
 lo:Int
 hi:Int
deriving DecidableEq
structure RdK where
 m:Nat
 least:Nat→Int
 opts:Nat→List Opn
 start:Int
 now:Int
 misses:Int
 fakes:Int
 nsig:Int
structure Tal where
 right:Int
 missed:Int
deriving DecidableEq
def Tal.plus (a b:Tal):Tal:=⟨a.right+b.right,a.missed+b.missed⟩
def zBm (s:Int):Tal:=if s<0 then ⟨0,1⟩ else ⟨1,0⟩
def zBH : List Opn→Tal
 | []=>⟨0,0⟩
 | o::os=>(zBm o.sig).plus (zBH os)
theorem zC4 (a b:List Opn):zBH (a++b)=(zBH a).plus (zBH b):=by
 induction a with
 | nil=>simp [zBH,Tal.plus]
 | cons o os ih=>simp only [List.cons_append,zBH,ih,Tal.plus,Int.add_assoc]
theorem zE3 (a b:Tal):a.plus b=b.plus a:=by simp only [Tal.plus,Int.add_comm]
theorem zHE (a b c:Tal):(a.plus b).plus c=a.plus (b.plus c):=by simp only [Tal.plus,Int.add_assoc]
theorem zKe (s:Int):0≤(zBm s).right∧0≤(zBm s).missed:=by unfold zBm;split<;>simp
theorem zDc (os:List Opn):0≤(zBH os).right∧0≤(zBH os).missed:=by
 induction os with
 | nil=>simp [zBH]
 | cons o os ih=>have:=zKe o.sig;simp only [zBH,Tal.plus];omega
section
variable (k : RdK)
def zAi (b:Nat) (x:Int) (o:Opn):Int:=max (x+k.least b) o.lo
def feas : Nat→Int→List Opn→Prop
 | _,_,[]=>True
 | b,x,o::os=>o∈k.opts b∧(zAi k b x o≤o.hi∧zAi k b x o≤k.now)∧feas (b+1) (zAi k b x o) os
def zA2 : Nat→Int→List Opn→Int
 | _,x,[]=>x
 | b,x,o::os=>zA2 (b+1) (zAi k b x o) os
def zCi : Nat→List Opn→Int
 | _,[]=>k.now
 | b,o::os=>min (zCi (b+1) os) o.hi - k.least b
def bfeas : Nat→List Opn→Prop
 | _,[]=>True
 | b,o::os=>o∈k.opts b∧o.lo≤min (zCi k (b+1) os) o.hi∧bfeas (b+1) os
def zEN (t:Tal):Bool:=decide (t.missed≤k.misses) && decide (k.nsig - t.right≤k.fakes)
def zEW (os:List Opn):Prop:=os.length≤k.m∧feas k 0 k.start os∧zEN k (zBH os)=true
end
section
variable {k : RdK}
theorem zHV (hl:∀ b,0≤k.least b):∀ (os:List Opn) (b:Nat),zCi k b os≤k.now
 | [],_=>Int.le_refl _
 | o::os,b=>by have:=zHV hl os (b+1);have:=hl b;simp only [zCi];omega
theorem zFn (hl:∀ b,0≤k.least b):∀ (os:List Opn) (b:Nat) (x:Int),x≤k.now→(feas k b x os↔bfeas k b os∧x≤zCi k b os)
 | [],b,x,hx=>by simp [feas,bfeas,zCi,hx]
 | o::os,b,x,hx=>by
  have hn:=zHV hl os (b+1)
  simp only [feas,bfeas,zCi]
  constructor
  ·rintro ⟨h1,⟨h2,h3⟩,h4⟩
   have:=(zFn hl os (b+1) _ h3).1 h4
   unfold zAi at *
   exact ⟨⟨h1,by omega,this.1⟩,by omega⟩
  ·rintro ⟨⟨h1,h2,h3⟩,h4⟩
   have h5:zAi k b x o≤k.now:=by unfold zAi;omega
   exact ⟨h1,⟨by unfold zAi;omega,h5⟩,(zFn hl os (b+1) _ h5).2 ⟨h3,by unfold zAi;omega⟩⟩
theorem zCp : ∀ (a c:List Opn) (b:Nat) (x:Int),feas k b x (a++c)↔feas k b x a∧feas k (b+a.length) (zA2 k b x a) c
 | [],c,b,x=>by simp [feas,zA2]
 | o::a,c,b,x=>by
  simp only [List.cons_append,feas,zA2,List.length_cons,zCp a c (b+1)]
  rw [show b+1+a.length=b+(a.length+1) by omega]
  simp only [and_assoc]
theorem zB4 : ∀ (a c:List Opn) (b:Nat) (x:Int),zA2 k b x (a++c)=zA2 k (b+a.length) (zA2 k b x a) c
 | [],c,b,x=>by simp [zA2]
 | o::a,c,b,x=>by simp only [List.cons_append,zA2,List.length_cons,zB4 a c (b+1)];rw [show b+1+a.length=b+(a.length+1) by omega]
theorem zIF : ∀ (os:List Opn) (b:Nat) (x:Int),x≤k.now→feas k b x os→zA2 k b x os≤k.now
 | [],_,_,h,_=>h
 | o::os,b,x,h,hf=>zIF os (b+1) _ hf.2.1.2 hf.2.2
theorem zJo (hl:∀ b,0≤k.least b):∀ (os:List Opn) (b:Nat) (x:Int),x≤zA2 k b x os
 | [],_,_=>Int.le_refl _
 | o::os,b,x=>by have:=zJo hl os (b+1) (zAi k b x o);have:=hl b;simp only [zA2];unfold zAi at *;omega
def zAy {K:Type} (S:K→Int→Prop) (f:K→Option Int):Prop:=∀ x,(∀ v,f x=some v→S x v∧∀ u,S x u→v≤u)∧(f x=none→∀ u,¬ S x u)
def zA4 {K:Type} (S:K→Int→Prop) (f:K→Option Int):Prop:=∀ x,(∀ v,f x=some v→S x v∧∀ u,S x u→u≤v)∧(f x=none→∀ u,¬ S x u)
theorem zAy.none {K:Type}:zAy (fun _ _=>False) (fun _:K=>Option.none):=fun x=>⟨fun v h=>(by cases h),fun _ _ h=>h⟩
theorem zA4.none {K:Type}:zA4 (fun _ _=>False) (fun _:K=>Option.none):=fun x=>⟨fun v h=>(by cases h),fun _ _ h=>h⟩
theorem zAy.congr {K:Type} {S S':K→Int→Prop} {f:K→Option Int} (h:zAy S f) (hs:∀ x u,S x u↔S' x u):zAy S' f:=fun x=>⟨fun v hv=>⟨(hs _ _).1 ((h x).1 v hv).1,fun u hu=>((h x).1 v hv).2 u ((hs _ _).2 hu)⟩,fun hn u hu=>(h x).2 hn u ((hs _ _).2 hu)⟩
theorem zA4.congr {K:Type} {S S':K→Int→Prop} {f:K→Option Int} (h:zA4 S f) (hs:∀ x u,S x u↔S' x u):zA4 S' f:=fun x=>⟨fun v hv=>⟨(hs _ _).1 ((h x).1 v hv).1,fun u hu=>((h x).1 v hv).2 u ((hs _ _).2 hu)⟩,fun hn u hu=>(h x).2 hn u ((hs _ _).2 hu)⟩
theorem zAy.fewer {K:Type} {S S':K→Int→Prop} {f:K→Option Int} (h:zAy S f) (h1:∀ x u,S x u→S' x u) (h2:∀ x u,S' x u→∃ v,v≤u∧S x v):zAy S' f:=fun x=>⟨fun v hv=>⟨h1 _ _ ((h x).1 v hv).1,fun u hu=>by
 obtain ⟨a,ha,hs⟩:=h2 x u hu
 have:=((h x).1 v hv).2 a hs;omega⟩,fun hn u hu=>by
 obtain ⟨a,ha,hs⟩:=h2 x u hu
 exact (h x).2 hn a hs⟩
theorem zA4.fewer {K:Type} {S S':K→Int→Prop} {f:K→Option Int} (h:zA4 S f) (h1:∀ x u,S x u→S' x u) (h2:∀ x u,S' x u→∃ v,u≤v∧S x v):zA4 S' f:=fun x=>⟨fun v hv=>⟨h1 _ _ ((h x).1 v hv).1,fun u hu=>by
 obtain ⟨a,ha,hs⟩:=h2 x u hu
 have:=((h x).1 v hv).2 a hs;omega⟩,fun hn u hu=>by
 obtain ⟨a,ha,hs⟩:=h2 x u hu
 exact (h x).2 hn a hs⟩
theorem zAy.keep {K:Type} {S:K→Int→Prop} {f:K→Option Int} {y:K} {b v:Int} (h:zAy S f) (hy:f y=some v) (hb:v≤b):zAy (fun x u=>S x u∨(x=y∧u=b)) f:=fun x=>⟨fun a ha=>⟨.inl ((h x).1 a ha).1,fun u hu=>by
 rcases hu with hu | ⟨rfl,rfl⟩
 ·exact ((h x).1 a ha).2 u hu
 ·rw [hy] at ha;cases ha;exact hb⟩,fun hn u hu=>by
 rcases hu with hu | ⟨rfl,rfl⟩
 ·exact (h x).2 hn u hu
 ·rw [hy] at hn;cases hn⟩
theorem zA4.keep {K:Type} {S:K→Int→Prop} {f:K→Option Int} {y:K} {b v:Int} (h:zA4 S f) (hy:f y=some v) (hb:b≤v):zA4 (fun x u=>S x u∨(x=y∧u=b)) f:=fun x=>⟨fun a ha=>⟨.inl ((h x).1 a ha).1,fun u hu=>by
 rcases hu with hu | ⟨rfl,rfl⟩
 ·exact ((h x).1 a ha).2 u hu
 ·rw [hy] at ha;cases ha;exact hb⟩,fun hn u hu=>by
 rcases hu with hu | ⟨rfl,rfl⟩
 ·exact (h x).2 hn u hu
 ·rw [hy] at hn;cases hn⟩
theorem zAy.put {K:Type} [DecidableEq K] {S:K→Int→Prop} {f:K→Option Int} {y:K} {b:Int} (h:zAy S f) (hy:∀ v,f y=some v→b≤v):zAy (fun x u=>S x u∨(x=y∧u=b)) (fun x=>if x=y then some b else f x):=fun x=>by
 by_cases e:x=y
 ·subst e
  simp only [if_true]
  refine ⟨fun v hv=>?_,fun hn=>by cases hn⟩
  cases hv
  refine ⟨.inr ⟨trivial,rfl⟩,fun u hu=>?_⟩
  rcases hu with hu | ⟨_,rfl⟩
  ·cases hf:f x with
   | none=>exact absurd hu ((h x).2 hf u)
   | some v=>have:=hy v hf;have:=((h x).1 v hf).2 u hu;omega
  ·exact Int.le_refl _
 ·simp only [e,if_false,false_and,or_false]
  exact h x
theorem zA4.put {K:Type} [DecidableEq K] {S:K→Int→Prop} {f:K→Option Int} {y:K} {b:Int} (h:zA4 S f) (hy:∀ v,f y=some v→v≤b):zA4 (fun x u=>S x u∨(x=y∧u=b)) (fun x=>if x=y then some b else f x):=fun x=>by
 by_cases e:x=y
 ·subst e
  simp only [if_true]
  refine ⟨fun v hv=>?_,fun hn=>by cases hn⟩
  cases hv
  refine ⟨.inr ⟨trivial,rfl⟩,fun u hu=>?_⟩
  rcases hu with hu | ⟨_,rfl⟩
  ·cases hf:f x with
   | none=>exact absurd hu ((h x).2 hf u)
   | some v=>have:=hy v hf;have:=((h x).1 v hf).2 u hu;omega
  ·exact Int.le_refl _
 ·simp only [e,if_false,false_and,or_false]
  exact h x
def SF (k:RdK) (n:Nat) (t:Tal) (v:Int):Prop:=∃ os:List Opn,os.length=n∧feas k 0 k.start os∧zBH os=t∧zA2 k 0 k.start os=v
def SB (k:RdK) (b:Nat) (t:Tal) (v:Int):Prop:=∃ os:List Opn,b+os.length≤k.m∧bfeas k b os∧zBH os=t∧zCi k b os=v
theorem sf_zero (t:Tal) (v:Int):SF k 0 t v↔t=⟨0,0⟩∧v=k.start:=by
 constructor
 ·rintro ⟨os,h,_,rfl,rfl⟩
  obtain rfl:=List.eq_nil_of_length_eq_zero h
  exact ⟨rfl,rfl⟩
 ·rintro ⟨rfl,rfl⟩;exact ⟨[],rfl,trivial,rfl,rfl⟩
theorem zLB (n:Nat) (t:Tal) (v:Int):SF k (n+1) t v↔∃ s a o,SF k n s a∧o∈k.opts n∧zAi k n a o≤min o.hi k.now∧t=s.plus (zBm o.sig)∧v=zAi k n a o:=by
 constructor
 ·rintro ⟨os,h,hf,rfl,rfl⟩
  obtain ⟨pre,o,rfl⟩:∃ pre o,os=pre++[o]:=by
   have:os≠[]:=by intro e;subst e;simp at h
   exact ⟨os.dropLast,os.getLast this,(List.dropLast_concat_getLast this).symm⟩
  simp only [List.length_append,List.length_cons,List.length_nil,Nat.add_right_cancel_iff] at h
  rw [zCp] at hf
  obtain ⟨h1,h2⟩:=hf
  simp only [feas,Nat.zero_add,h] at h2
  refine ⟨zBH pre,zA2 k 0 k.start pre,o,⟨pre,h,h1,rfl,rfl⟩,h2.1,by omega,?_,?_⟩
  ·rw [zC4];simp [zBH,Tal.plus]
  ·rw [zB4];simp [zA2,h]
 ·rintro ⟨s,a,o,⟨os,rfl,h1,rfl,rfl⟩,h2,h3,rfl,rfl⟩
  refine ⟨os++[o],by simp,?_,?_,?_⟩
  ·rw [zCp]
   exact ⟨h1,by simp only [feas,Nat.zero_add];exact ⟨h2,by omega,trivial⟩⟩
  ·rw [zC4];simp [zBH,Tal.plus]
  ·rw [zB4];simp [zA2]
theorem sb_last (t:Tal) (v:Int) (b:Nat) (h:k.m≤b) (hb:b≤k.m):SB k b t v↔t=⟨0,0⟩∧v=k.now:=by
 constructor
 ·rintro ⟨os,hl,_,rfl,rfl⟩
  obtain rfl:os=[]:=List.eq_nil_of_length_eq_zero (by omega)
  exact ⟨rfl,rfl⟩
 ·rintro ⟨rfl,rfl⟩;exact ⟨[],by simp;omega,trivial,rfl,rfl⟩
theorem zIl (b:Nat) (hb:b<k.m) (t:Tal) (v:Int):SB k b t v↔(t=⟨0,0⟩∧v=k.now)∨∃ s e o,SB k (b+1) s e∧o∈k.opts b∧o.lo≤min e o.hi∧t=s.plus (zBm o.sig)∧v=min e o.hi - k.least b:=by
 constructor
 ·rintro ⟨os,hl,hf,rfl,rfl⟩
  cases os with
  | nil=>exact .inl ⟨rfl,rfl⟩
  | cons o os =>
   simp only [List.length_cons] at hl
   obtain ⟨h1,h2,h3⟩:=hf
   exact .inr ⟨zBH os,zCi k (b+1) os,o,⟨os,by omega,h3,rfl,rfl⟩,h1,h2,zE3 _ _,rfl⟩
 ·rintro (⟨rfl,rfl⟩ | ⟨s,e,o,⟨os,hl,h3,rfl,rfl⟩,h1,h2,rfl,rfl⟩)
  ·exact ⟨[],by simp;omega,trivial,rfl,rfl⟩
  ·exact ⟨o::os,by simp;omega,⟨h1,h2,h3⟩,zE3 _ _,rfl⟩
theorem min_step {n:Nat} {f g:Tal→Option Int} (hf:zAy (SF k n) f) (hg:zAy (fun t v=>∃ s a o,f s=some a∧o∈k.opts n∧zAi k n a o≤min o.hi k.now∧t=s.plus (zBm o.sig)∧v=zAi k n a o) g):zAy (SF k (n+1)) g:=by
 refine hg.fewer ?_ ?_
 ·rintro t v ⟨s,a,o,h1,h2,h3,h4,h5⟩
  exact (zLB n t v).2 ⟨s,a,o,((hf s).1 a h1).1,h2,h3,h4,h5⟩
 ·rintro t v hv
  obtain ⟨s,a,o,h1,h2,h3,h4,h5⟩:=(zLB n t v).1 hv
  cases hs:f s with
  | none=>exact absurd h1 ((hf s).2 hs a)
  | some a' =>
   have:=((hf s).1 a' hs).2 a h1
   have e:zAi k n a' o≤zAi k n a o:=by unfold zAi;omega
   exact ⟨zAi k n a' o,by omega,s,a',o,hs,h2,by omega,h4,rfl⟩
theorem max_step {b:Nat} (hb:b<k.m) {f g:Tal→Option Int} (hf:zA4 (SB k (b+1)) f) (hg:zA4 (fun t v=>(t=⟨0,0⟩∧v=k.now)∨∃ s e o,f s=some e∧o∈k.opts b∧o.lo≤min e o.hi∧t=s.plus (zBm o.sig)∧v=min e o.hi - k.least b) g):zA4 (SB k b) g:=by
 refine hg.fewer ?_ ?_
 ·rintro t v (h | ⟨s,e,o,h1,h2,h3,h4,h5⟩)
  ·exact (zIl b hb t v).2 (.inl h)
  ·exact (zIl b hb t v).2 (.inr ⟨s,e,o,((hf s).1 e h1).1,h2,h3,h4,h5⟩)
 ·rintro t v hv
  rcases (zIl b hb t v).1 hv with h | ⟨s,e,o,h1,h2,h3,h4,h5⟩
  ·exact ⟨v,Int.le_refl _,.inl h⟩
  ·cases hs:f s with
   | none=>exact absurd h1 ((hf s).2 hs e)
   | some e' =>
    have:=((hf s).1 e' hs).2 e h1
    exact ⟨min e' o.hi - k.least b,by omega,.inr ⟨s,e',o,hs,h2,by omega,h4,rfl⟩⟩
theorem zKh {n:Nat} (hn:n≤k.m) {f:Tal→Option Int} (hf:zAy (SF k n) f):(∃ t,(f t).isSome=true∧zEN k t=true)↔∃ os,os.length=n∧zEW k os:=by
 constructor
 ·rintro ⟨t,h1,h2⟩
  obtain ⟨v,hv⟩:=Option.isSome_iff_exists.1 h1
  obtain ⟨⟨os,rfl,a,rfl,_⟩,_⟩:=(hf t).1 v hv
  exact ⟨os,rfl,hn,a,h2⟩
 ·rintro ⟨os,rfl,_,a,h2⟩
  refine ⟨zBH os,?_,h2⟩
  cases hs:f (zBH os) with
  | some v=>rfl
  | none=>exact absurd ⟨os,rfl,a,rfl,rfl⟩ ((hf _).2 hs (zA2 k 0 k.start os))
def zAv (k:RdK) (os:List Opn) (b:Nat):Int:=zA2 k 0 k.start (os.take (b+1))
def zBe (k:RdK) (os:List Opn) (b:Nat):Int:=match os[b]? with|some o=>min (zCi k (b+1) (os.drop (b+1))) o.hi|none=>0
def zDv (k:RdK) (f g:Tal→Option Int) (b:Nat) (sg lo hi:Int):Prop:=∃ s a o t e,f s=some a∧o∈k.opts b∧g t=some e∧sg=o.sig∧lo=zAi k b a o∧hi=min e o.hi∧lo≤hi∧zEN k ((s.plus t).plus (zBm o.sig))=true
theorem zLY {os:List Opn} {b:Nat} (hl:∀ b,0≤k.least b) (hs:k.start≤k.now) (hb:b<os.length) (hw:zEW k os):∃ pre o suf,os=pre++o::suf∧pre.length=b∧feas k 0 k.start pre∧o∈k.opts b∧bfeas k (b+1) suf∧b+1+suf.length≤k.m∧zAv k os b=zAi k b (zA2 k 0 k.start pre) o∧zBe k os b=min (zCi k (b+1) suf) o.hi∧zAv k os b≤zBe k os b∧zEN k (((zBH pre).plus (zBH suf)).plus (zBm o.sig))=true:=by
 obtain ⟨h1,h2,h3⟩:=hw
 have e:os=os.take b++os[b]::os.drop (b+1):=by rw [List.getElem_cons_drop,List.take_append_drop]
 have ht:(os.take b).length=b:=by rw [List.length_take];omega
 have e1:os.take (b+1)=os.take b++[os[b]]:=by rw [List.take_add_one,List.getElem?_eq_getElem hb];rfl
 refine ⟨os.take b,os[b],os.drop (b+1),e,ht,?_⟩
 rw [e,zCp,ht] at h2
 simp only [feas,Nat.zero_add] at h2
 obtain ⟨a1,a2,a3,a4⟩:=h2
 have hx:zAi k b (zA2 k 0 k.start (os.take b)) os[b]≤k.now:=a3.2
 have a5:=(zFn hl _ _ _ hx).1 a4
 have f1:zAv k os b=zAi k b (zA2 k 0 k.start (os.take b)) os[b]:=by
  unfold zAv;rw [e1,zB4,ht];simp [zA2]
 have f2:zBe k os b=min (zCi k (b+1) (os.drop (b+1))) os[b].hi:=by
  unfold zBe;rw [List.getElem?_eq_getElem hb]
 refine ⟨a1,a2,a5.1,by rw [List.length_drop];omega,f1,f2,by rw [f1,f2];omega,?_⟩
 have e4:zBH os=((zBH (os.take b)).plus (zBH (os.drop (b+1)))).plus (zBm os[b].sig):=by
  have:=zC4 (os.take b) (os[b]::os.drop (b+1))
  rw [← e] at this
  rw [this]
  simp only [zBH]
  rw [zHE,zE3 (zBm os[b].sig)]
 rw [← e4];exact h3
theorem way_join {pre suf:List Opn} {o:Opn} {b:Nat} (hl:∀ b,0≤k.least b) (hp:pre.length=b) (h1:feas k 0 k.start pre) (h2:o∈k.opts b) (h3:bfeas k (b+1) suf) (h4:b+1+suf.length≤k.m) (h5:zAi k b (zA2 k 0 k.start pre) o≤min (zCi k (b+1) suf) o.hi) (h6:zEN k (((zBH pre).plus (zBH suf)).plus (zBm o.sig))=true) :
  zEW k (pre++o::suf)∧zAv k (pre++o::suf) b=zAi k b (zA2 k 0 k.start pre) o∧zBe k (pre++o::suf) b=min (zCi k (b+1) suf) o.hi:=by
 subst hp
 have hn:=zHV hl suf (pre.length+1)
 have hx:zAi k pre.length (zA2 k 0 k.start pre) o≤k.now:=by omega
 refine ⟨⟨by simp;omega,?_,?_⟩,?_,?_⟩
 ·rw [zCp]
  refine ⟨h1,?_⟩
  simp only [feas,Nat.zero_add]
  exact ⟨h2,⟨by omega,hx⟩,(zFn hl _ _ _ hx).2 ⟨h3,by omega⟩⟩
 ·rw [zC4]
  simp only [zBH]
  rw [zE3 (zBm o.sig),← zHE];exact h6
 ·unfold zAv
  have e:(pre++o::suf).take (pre.length+1)=pre++[o]:=by
   rw [List.take_append,List.take_of_length_le (by omega),show pre.length+1 - pre.length=1 by omega];rfl
  rw [e,zB4];simp [zA2]
 ·unfold zBe
  simp
theorem zJY (hl:∀ b,0≤k.least b) (hs:k.start≤k.now) {b:Nat} (hb:b<k.m) {f g:Tal→Option Int} (hf:zAy (SF k b) f) (hg:zA4 (SB k (b+1)) g) {os:List Opn} (hbo:b<os.length) (hw:zEW k os):∃ sg lo hi,zDv k f g b sg lo hi∧lo≤zAv k os b∧zBe k os b≤hi:=by
 obtain ⟨pre,o,suf,e,hp,h1,h2,h3,h4,h5,h6,h7,h8⟩:=zLY hl hs hbo hw
 have q1:SF k b (zBH pre) (zA2 k 0 k.start pre):=⟨pre,hp,h1,rfl,rfl⟩
 have q2:SB k (b+1) (zBH suf) (zCi k (b+1) suf):=⟨suf,h4,h3,rfl,rfl⟩
 cases ha:f (zBH pre) with
 | none=>exact absurd q1 ((hf _).2 ha _)
 | some a =>
  cases he:g (zBH suf) with
  | none=>exact absurd q2 ((hg _).2 he _)
  | some e =>
   have r1:=((hf _).1 a ha).2 _ q1
   have r2:=((hg _).1 e he).2 _ q2
   have r3:zAi k b a o≤zAi k b (zA2 k 0 k.start pre) o:=by unfold zAi;omega
   exact ⟨o.sig,zAi k b a o,min e o.hi,⟨_,a,o,_,e,ha,h2,he,rfl,rfl,rfl,by omega,h8⟩,by omega,by omega⟩
theorem zI8 (hl:∀ b,0≤k.least b) {b:Nat} {f g:Tal→Option Int} (hf:zAy (SF k b) f) (hg:zA4 (SB k (b+1)) g) {sg lo hi:Int} (h:zDv k f g b sg lo hi):∃ os,b<os.length∧zEW k os∧zAv k os b=lo∧zBe k os b=hi:=by
 obtain ⟨s,a,o,t,e,ha,ho,he,rfl,rfl,rfl,h1,h2⟩:=h
 obtain ⟨⟨pre,p1,p2,rfl,rfl⟩,_⟩:=(hf s).1 a ha
 obtain ⟨⟨suf,q1,q2,rfl,rfl⟩,_⟩:=(hg t).1 e he
 obtain ⟨r1,r2,r3⟩:=way_join hl p1 p2 ho q2 q1 h1 h2
 exact ⟨_,by simp;omega,r1,r2,r3⟩
end
end Go.Proofs.YtfiekidciiighaaGreat
