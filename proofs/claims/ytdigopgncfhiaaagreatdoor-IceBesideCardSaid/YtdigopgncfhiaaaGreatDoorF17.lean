/- F17 -/
import Derived.Test.YtdigopgncfhiaaaGreatDoorF16
import Derived.Test.YtdigopgncfhiaaaGreatDoorF6
import Derived.Maps.RangeRun
import Derived.Test.YtdigopgncfhiaaaGreatDoorF9
set_option linter.unusedSimpArgs false
set_option linter.unusedVariables false
namespace Go.Proofs.YtdigopgncfhiaaaGreatDoor
open Go.RowKit
set_option maxRecDepth 20000
structure PM where
 k:Nat
 nd:List (zx Int)
 my:List (zx Bool)
 ot:List (zx Int)
def PMat (q:PM) (s:PS):Prop:=q.nd.map (·.xs)=s.nds∧q.my.map (·.xs)=s.may∧q.ot.map (·.xs)=s.out
theorem zDj {α:Type} {enc:α→List Value} {k e base m c:Nat} [ei:zBw enc k] {A:Option Addr} {xs:List α} {w:World} {H H':List Ent} (h:Own base w H) (ht:Take H (.row enc k e (.slice A m c) xs) H'):zq enc k w A xs :=
 (zDC ei.len (h.here _ ht.mem)).2
theorem zI8 {nb nh h i:Nat} {s:PS} (ok:zDn nb nh h i s) {L:List (zx Int)} {M:List (zx Bool)} (hL:L.map (·.xs)=s.nds) (hM:M.map (·.xs)=s.may) (hnb:nb≤20) (hnh:nh≤12):zDm L M s.hands:=by
 have l1:L.length=nb:=by have:=congrArg List.length hL;rw [ok.nl] at this;simpa using this
 have l2:M.length=nb:=by have:=congrArg List.length hM;rw [ok.ml] at this;simpa using this
 have r1:∀ x∈L,NRow nh x.xs:=fun x hx=>ok.nr _ (by rw [← hL];exact List.mem_map_of_mem hx)
 have r2:∀ x∈M,x.xs.length=nh:=fun x hx=>ok.mr _ (by rw [← hM];exact List.mem_map_of_mem hx)
 refine ⟨by omega,by omega,fun i s t hs ht=>?_,fun s hs=>?_,fun s hs x hx=>?_,by rw [ok.hl];exact hnh,ok.hr⟩
 ·rw [(r1 s (List.mem_of_getElem? hs)).len,r2 t (List.mem_of_getElem? ht)];exact Nat.le_refl _
 ·rw [(r1 s hs).len];exact hnh
 ·have:=(r1 s hs).big x hx;omega
theorem zHn {nb nh h:Nat} {s:PS} (ok:zDn nb nh h 0 s) (hh:h<nh):∀ i,i≤nb→zDn nb nh h i (stepsP h i s)
 | 0,_=>ok
 | i+1,hi=>(zHn ok hh i (by omega)).step (by omega) hh
theorem zIK {nb nh:Nat} {s:PS} (ok:zDn nb nh 0 0 s):∀ h,h≤nh→zDn nb nh h 0 (zCj nb h s)
 | 0,_=>ok
 | h+1,hh=>(zHn (zIK ok h (by omega)) (by omega) nb (Nat.le_refl _)).next
end Go.Proofs.YtdigopgncfhiaaaGreatDoor
namespace Go.Proofs.YtdigopgncfhiaaaGreatDoor
variable {ro : Option Nat}
open Go.RowKit
open Go.ChangeMaps (setBlock)
set_option linter.unusedSectionVars false
def zAM {α β:Type} [DecidableEq α] (f:α→β) (a:α) (b:β):α→β:=fun x=>if x=a then b else f x
theorem zFb {α β:Type} [DecidableEq α] {f:α→β} {a:α} {b c:β}:zAM (zAM f a b) a c=zAM f a c:=by
 funext x;by_cases h:x=a<;>simp [zAM,h]
structure zFt (P:Program) (T:TypeId) {K:Type} [DecidableEq K] (kv:K→Value):Prop where
 chk:∀ e k w,(Instr.checkKey e 10000 T (kv k)).run P w = .ok () w
 eq:∀ k k' w,(Op.equal T (kv k) (kv k')).run P w = .ok (decide (k=k')) w
 und:∃ d,P.underlying T=some d∧∀ k v,Instr.sameNow d (kv k) v=none
 bits:∀ k,Instr.sameBits 10000 (kv k) (kv k)=true
section
variable {K V:Type} [DecidableEq K] {kv:K→Value} {vv:V→Value}
def zAx (kv:K→Value) (vv:V→Value) (x:K × V × Nat):MapEntry:=⟨kv x.1,vv x.2.1,x.2.2⟩
def look : List (K × V × Nat)→K→Option V
 | [],_=>none
 | x::r,k=>if k=x.1 then some x.2.1 else look r k
def findA : List (K × V × Nat)→K→Nat→Option (Nat × V)
 | [],_,_=>none
 | x::r,k,i=>if k=x.1 then some (i,x.2.1) else findA r k (i+1)
structure MOk (l:List (K × V × Nat)) (c:Nat):Prop where
 keys:(l.map (·.1)).Nodup
 born:(l.map (·.2.2)).Nodup
 lt:∀ x∈l,x.2.2<c
theorem zC8 {k:K}:∀ {l:List (K × V × Nat)} (i:Nat),look l k=none→findA l k i=none∧∀ x∈l,x.1≠k
 | [],_,_=>⟨rfl,by simp⟩
 | x::r,i,h=>by
  simp only [look] at h
  by_cases e:k=x.1
  ·rw [if_pos e] at h;cases h
  ·rw [if_neg e] at h
   obtain ⟨h1,h2⟩:=zC8 (l:=r) (i+1) h
   simp only [findA]
   rw [if_neg e]
   refine ⟨h1,fun y hy=>?_⟩
   rcases List.mem_cons.1 hy with rfl|hy
   ·exact fun h=>e h.symm
   ·exact h2 y hy
theorem zCh {k:K} {v:V}:∀ {l:List (K × V × Nat)} (i:Nat),look l k=some v→∃ j b,findA l k i=some (i+j,v)∧l[j]?=some (k,v,b)
 | [],_,h=>by cases h
 | x::r,i,h=>by
  simp only [look] at h
  simp only [findA]
  by_cases e:k=x.1
  ·rw [if_pos e] at h ⊢
   simp only [Option.some.injEq] at h
   subst h
   subst e
   exact ⟨0,x.2.2,rfl,rfl⟩
  ·rw [if_neg e] at h ⊢
   obtain ⟨j,b,h1,h2⟩:=zCh (l:=r) (i+1) h
   exact ⟨j+1,b,by rw [h1];congr 2;omega,by simpa using h2⟩
theorem look_mem {k:K} {v:V} {b:Nat} {l:List (K × V × Nat)} (hk:(l.map (·.1)).Nodup) (h:(k,v,b)∈l):look l k=some v:=by
 induction l with
 | nil=>cases h
 | cons x r ih =>
  simp only [look]
  rw [List.map_cons,List.nodup_cons] at hk
  rcases List.mem_cons.1 h with rfl|h
  ·simp
  ·rw [if_neg]
   ·exact ih hk.2 h
   ·rintro rfl
    exact hk.1 (List.mem_map.2 ⟨_,h,rfl⟩)
theorem zEu {k:K} {v:V} {c:Nat}:∀ {l:List (K × V × Nat)},look l k=none→look (l++[(k,v,c)])=zAM (look l) k (some v)
 | [],_=>by funext x;simp [look,zAM]
 | y::r,h=>by
  simp only [look] at h
  by_cases e:k=y.1
  ·rw [if_pos e] at h;cases h
  ·rw [if_neg e] at h
   have ih:=zEu (l:=r) (v:=v) (c:=c) h
   funext x
   have:=congrFun ih x
   simp only [List.cons_append,look,zAM] at this ⊢
   rw [this]
   by_cases h1:x=y.1
   ·rw [if_pos h1,if_neg (fun h2=>e (h2.symm.trans h1)),if_pos h1]
   ·rw [if_neg h1,if_neg h1]
theorem zIC {k:K} {v v':V} {b:Nat}:∀ {l:List (K × V × Nat)} {j:Nat},(l.map (·.1)).Nodup→l[j]?=some (k,v,b)→look (l.set j (k,v',b))=zAM (look l) k (some v')
 | [],j,_,h=>by simp at h
 | y::r,0,hn,h=>by
  simp at h
  subst h
  funext x
  simp only [List.set_cons_zero,look,zAM]
  by_cases h1:x=k<;>simp [h1]
 | y::r,j+1,hn,h=>by
  rw [List.map_cons,List.nodup_cons] at hn
  have h':r[j]?=some (k,v,b):=by simpa using h
  have ih:=zIC (l:=r) (j:=j) (v':=v') hn.2 h'
  have hne:k≠y.1:=fun e=>hn.1 (List.mem_map.2 ⟨_,List.mem_of_getElem? h',e⟩)
  funext x
  have:=congrFun ih x
  simp only [List.set_cons_succ,look,zAM] at this ⊢
  rw [this]
  by_cases h1:x=y.1
  ·rw [if_pos h1,if_neg (fun h2=>hne (h2.symm.trans h1)),if_pos h1]
  ·rw [if_neg h1,if_neg h1]
theorem zID {k:K} {v:V} {b:Nat}:∀ {l:List (K × V × Nat)} {j:Nat},(l.map (·.1)).Nodup→l[j]?=some (k,v,b)→look (l.eraseIdx j)=zAM (look l) k none
 | [],j,_,h=>by simp at h
 | y::r,0,hn,h=>by
  simp at h
  subst h
  rw [List.map_cons,List.nodup_cons] at hn
  funext x
  simp only [List.eraseIdx_cons_zero,look,zAM]
  by_cases h1:x=k
  ·subst h1
   rw [if_pos rfl]
   cases hl:look r x with
   | none=>rfl
   | some u =>
    obtain ⟨i,c,_,h3⟩:=zCh 0 hl
    exact absurd (List.mem_map.2 ⟨_,List.mem_of_getElem? h3,rfl⟩) hn.1
  ·rw [if_neg h1,if_neg h1]
 | y::r,j+1,hn,h=>by
  rw [List.map_cons,List.nodup_cons] at hn
  have h':r[j]?=some (k,v,b):=by simpa using h
  have ih:=zID (l:=r) (j:=j) hn.2 h'
  have hne:k≠y.1:=fun e=>hn.1 (List.mem_map.2 ⟨_,List.mem_of_getElem? h',e⟩)
  funext x
  have:=congrFun ih x
  simp only [List.eraseIdx_cons_succ,look,zAM] at this ⊢
  rw [this]
  by_cases h1:x=y.1
  ·rw [if_pos h1,if_neg (fun h2=>hne (h2.symm.trans h1)),if_pos h1]
  ·rw [if_neg h1,if_neg h1]
theorem zK6 : look ([]:List (K × V × Nat))=fun _=>none:=by funext x;rfl
theorem MOk.nil (c:Nat):MOk ([]:List (K × V × Nat)) c:=⟨by simp,by simp,by simp⟩
theorem MOk.push {l:List (K × V × Nat)} {c:Nat} {k:K} {v:V} (h:MOk l c) (hk:look l k=none):MOk (l++[(k,v,c)]) (c+1):=by
 refine ⟨?_,?_,?_⟩
 ·rw [List.map_append,List.nodup_append]
  refine ⟨h.keys,by simp,?_⟩
  intro a ha b hb e
  subst e
  simp at hb
  subst hb
  obtain ⟨x,hx,rfl⟩:=List.mem_map.1 ha
  exact (zC8 0 hk).2 x hx rfl
 ·rw [List.map_append,List.nodup_append]
  refine ⟨h.born,by simp,?_⟩
  intro a ha b hb e
  subst e
  simp at hb
  subst hb
  obtain ⟨x,hx,e⟩:=List.mem_map.1 ha
  have:=h.lt x hx
  omega
 ·intro x hx
  rcases List.mem_append.1 hx with hx|hx
  ·have:=h.lt x hx;omega
  ·simp at hx;subst hx;simp
theorem zFn {α β:Type} {f:α→β}:∀ {l:List α} {j:Nat} {x y:α},l[j]?=some x→f x=f y→(l.set j y).map f=l.map f
 | [],_,_,_,h,_=>by simp at h
 | a::r,0,x,y,h,e=>by simp at h;subst h;simp [e]
 | a::r,j+1,x,y,h,e=>by
  have h':r[j]?=some x:=by simpa using h
  simp [zFn h' e]
theorem MOk.set {l:List (K × V × Nat)} {c j:Nat} {k:K} {v v':V} {b:Nat} (h:MOk l c) (hj:l[j]?=some (k,v,b)):MOk (l.set j (k,v',b)) c:=by
 refine ⟨?_,?_,?_⟩
 ·rw [zFn (y:=(k,v',b)) hj rfl];exact h.keys
 ·rw [zFn (y:=(k,v',b)) hj rfl];exact h.born
 ·intro x hx
  rcases List.mem_or_eq_of_mem_set hx with hx|rfl
  ·exact h.lt x hx
  ·exact h.lt (k,v,b) (List.mem_of_getElem? hj)
theorem MOk.erase {l:List (K × V × Nat)} {c j:Nat} (h:MOk l c):MOk (l.eraseIdx j) c:=by
 have hs:(l.eraseIdx j).Sublist l:=List.eraseIdx_sublist _ _
 exact ⟨h.keys.sublist (hs.map _),h.born.sublist (hs.map _),fun x hx=>h.lt x (hs.subset hx)⟩
theorem zEV {α:Type} {f:α→α} {a b:α}:∀ {l:List α} {j:Nat},l[j]?=some a→f a=b→l.modify j f=l.set j b
 | [],_,h,_=>by simp at h
 | x::r,0,h,e=>by simp at h;subst h;simp [e]
 | x::r,j+1,h,e=>by
  have h':r[j]?=some a:=by simpa using h
  simp [zEV h' e]
theorem zJI {α β:Type} (f:α→β):∀ (l:List α) (j:Nat),(l.map f).eraseIdx j=(l.eraseIdx j).map f
 | [],_=>rfl
 | _::_,0=>rfl
 | a::r,j+1=>by simp [zJI f r j]
theorem zMR {l:List (K × V × Nat)} {j:Nat} (hj:j<l.length):(l.map (zAx kv vv)).toArray.eraseIdxIfInBounds j=((l.eraseIdx j).map (zAx kv vv)).toArray:=by
 apply Array.ext'
 rw [Array.toList_eraseIdxIfInBounds]
 simp [zJI]
theorem zI7 {P:Program} {T:TypeId} (hT:zFt P T kv) (k:K) (w:World):∀ (l:List (K × V × Nat)) (i:Nat),(Instr.findAsking T (kv k) (l.map (zAx kv vv)) i).run P w = .ok ((findA l k i).map fun p=>(p.1,vv p.2)) w
 | [],i=>by simp [Instr.findAsking,findA]
 | x::r,i=>by
  have h1:=hT.eq k x.1 w
  have ih:=zI7 hT k w r (i+1)
  simp only [List.map_cons,Instr.findAsking,findA,Sem.run_bind,zAx]
  rw [h1]
  simp only [Result.andThen_ok]
  by_cases e:k=x.1
  ·simp [e]
  ·simp only [e,decide_false,Bool.false_eq_true,if_false]
   exact ih
theorem zE6 {P:Program} {T:TypeId} (hT:zFt P T kv) (k:K) (w:World) (l:List (K × V × Nat)):(Instr.findKey T (kv k) (l.map (zAx kv vv))).run P w = .ok ((findA l k 0).map fun p=>(p.1,vv p.2)) w:=by
 obtain ⟨d,hd,hs⟩:=hT.und
 have e1:=run_underlying hd w
 simp only [Instr.findKey,Sem.run_bind,e1,Result.andThen_ok]
 cases l with
 | nil=>simp [Instr.findNow,findA]
 | cons x r =>
  have:Instr.findNow d (kv k) ((x::r).map (zAx kv vv)) 0=none:=by
   simp only [List.map_cons,Instr.findNow,hs]
  rw [this]
  exact zI7 hT k w (x::r) 0
theorem zI3 {P:Program} {T:TypeId} (hT:zFt P T kv) (k:K) (w:World):(Instr.keyThatStays (kv k) (kv k)).run P w = .ok (kv k) w:=by
 simp [Instr.keyThatStays,hT.bits k]
end
def Ent.ml {K V:Type} (m:Nat) (kv:K→Value) (vv:V→Value) (l:List (K × V × Nat)) (c:Nat):Ent:=⟨(· = m),fun w=>w.heap[m]?=some (.map (l.map (zAx kv vv)).toArray c),fun _ _ _ h hp=>(h m rfl).trans hp⟩
def Ent.fm {K V:Type} [DecidableEq K] (m:Nat) (kv:K→Value) (vv:V→Value) (f:K→Option V):Ent:=⟨(· = m),fun w=>∃ l c,w.heap[m]?=some (.map (l.map (zAx kv vv)).toArray c)∧MOk l c∧look l=f,fun w w' _ h hp=>by
 obtain ⟨l,c,hp,h1,h2⟩:=hp
 exact ⟨l,c,(h m rfl).trans hp,h1,h2⟩⟩
def Ent.fms {K V:Type} [DecidableEq K] (m:Nat) (kv:K→Value) (vv:V→Value) (f:K→Option V) (k:K) (s:Nat):Ent:=⟨(· = m),fun w=>∃ l c v,w.heap[m]?=some (.map (l.map (zAx kv vv)).toArray c)∧MOk l c∧look l=f∧(k,v,s)∈l,fun w w' _ h hp=>by
 obtain ⟨l,c,v,hp,h1,h2⟩:=hp
 exact ⟨l,c,v,(h m rfl).trans hp,h1,h2⟩⟩
theorem fms_fm {K V:Type} [DecidableEq K] {m:Nat} {kv:K→Value} {vv:V→Value} {f:K→Option V} {k:K} {s:Nat} {w:World}:(Ent.fms m kv vv f k s).p w→(Ent.fm m kv vv f).p w:=fun ⟨l,c,v,h1,h2,h3,_⟩=>⟨l,c,h1,h2,h3⟩
class MapR (H:List Ent) (m:Nat) {K V:Type} [DecidableEq K] (kv:outParam (K→Value)) (vv:outParam (V→Value)) (f:outParam (K→Option V)):Prop where
 rd:∀ base w,Own base w H→∃ l c,w.heap[m]?=some (.map (l.map (zAx kv vv)).toArray c)∧MOk l c∧look l=f
instance mapR_fm {H:List Ent} {m:Nat} {K V:Type} [DecidableEq K] {kv:K→Value} {vv:V→Value} {f:K→Option V}:MapR (.fm m kv vv f::H) m kv vv f:=⟨fun _ _ ho=>ho.here (.fm m kv vv f) (by simp)⟩
instance mapR_fms {H:List Ent} {m:Nat} {K V:Type} [DecidableEq K] {kv:K→Value} {vv:V→Value} {f:K→Option V} {k:K} {s:Nat}:MapR (.fms m kv vv f k s::H) m kv vv f:=⟨fun _ _ ho=>fms_fm (ho.here (.fms m kv vv f k s) (by simp))⟩
instance (priority := low) mapR_there {e:Ent} {H:List Ent} {m:Nat} {K V:Type} [DecidableEq K] {kv:K→Value} {vv:V→Value} {f:K→Option V} [i:MapR H m kv vv f]:MapR (e::H) m kv vv f:=⟨fun b w ho=>i.rd b w ho.tail⟩
section
variable {P : Program} {w0:World} {n:Nat} {d:List Deferred} {R:List (Nat × Value)} {H H' H1 H2:List Ent} {Q:Exit→Act→World→Prop} {ops:Array Oper} {rest:List Oper} {o:Oper} {t:Tmp} {x y z:Operand} {v:Value} {X:Act→World→Prop}
variable {K V:Type} [DecidableEq K] {kv:K→Value} {vv:V→Value} {f:K→Option V}
theorem zFi {base m c':Nat} {w:World} {e e':Ent} {es':Array MapEntry} (h:Own base w (e::H')) (he:e.S=(· = m)) (he':e'.S=(· = m)) (hB:base≤w.heap.size) (hp:e'.p (setBlock w m (.map es' c'))):Own base (setBlock w m (.map es' c')) (e'::H'):=by
 have hf:=h.foot e (by simp) m (by rw [he])
 refine h.turn (by simp [setBlock]) (fun b hb hn=>?_) hB hp (fun b hb=>?_)
 ·rw [he] at hn
  have hne:m≠b:=fun e=>hn e.symm
  simp only [setBlock];rw [Array.getElem?_setIfInBounds_ne hne]
 ·rw [he'] at hb;rw [he];cases hb;exact ⟨.inl rfl,by simp [setBlock,hf.2]⟩
theorem zEx {w:World} {m c':Nat} {es':Array MapEntry} {base:Nat} {e:Ent} (h:Own base w (e::H')) (he:e.S=(· = m)):(setBlock w m (.map es' c')).heap[m]?=some (.map es' c'):=by
 have hf:=h.foot e (by simp) m (by rw [he])
 simp [setBlock,hf.2]
theorem zHg (K V:Type) [DecidableEq K] (kv:K→Value) (vv:V→Value) {T1:TypeId} (hop:o.op = .makeMap T1 none) (hrd:rdy R ops n o=some t) (h:∀ m,U w0 n d ((t,.map (some m))::R) (.fm m kv vv (fun _=>none)::H) (wpL ro P ops Q rest)):U w0 n d R H (wpL ro P ops Q (o::rest)) :=
 zDh (rW hrd) fun a w q K' hK=>by
  unfold Oper.wp execOp;rw [hop]
  have hrun:(Instr.makeMap T1 none).run P w = .ok (.map (some w.heap.size)) (w.alloc (.map #[] 0)):=rfl
  simp only [Option.map_none,Sem.run_bind,hrun,Result.andThen_ok,Sem.run_pure,Oper.upon_value,(rD hrd)]
  refine hK _ _ (h w.heap.size _ _ ((q.call (E:=[.fm w.heap.size kv vv (fun _=>none)]) (zy w _) ⟨fun e he=>?_,fun e he b hb=>?_,by simp⟩).put (rT hrd)))
  ·simp only [List.mem_singleton] at he;subst he
   exact ⟨[],0,heap_alloc_new w _,MOk.nil 0,zK6⟩
  ·simp only [List.mem_singleton] at he;subst he;cases hb;simp
theorem zI6 {T1 kt et:TypeId} {s m c:Nat} {g:Bool} {zv:V} {l:List (K × V × Nat)} {w:World} (co:Bool) (k:K) [i1:TyI P T1 (.map kt et) s g] (hT:zFt P kt kv) (hz:∀ w,(zeroValue et).run P w = .ok (vv zv) w) (hb:w.heap[m]?=some (.map (l.map (zAx kv vv)).toArray c)) :
  (Instr.lookup T1 (.map (some m)) (kv k) co).run P w = .ok (if co then .tuple #[vv ((look l k).getD zv),.bool (look l k).isSome] else vv ((look l k).getD zv)) w:=by
 have e1:=run_underlying i1.und w
 have e2:=fun e=>hT.chk e k w
 have e3:=zE6 (vv:=vv) hT k w l
 cases hl:look l k with
 | none =>
  rw [(zC8 0 hl).1] at e3
  cases co<;>simp [Instr.lookup,Sem.run_bind,e1,getObj,Sem.run,hb,e2,e3,hz]
 | some u =>
  obtain ⟨j,b,h1,_⟩:=zCh 0 hl
  rw [h1] at e3
  cases co<;>simp [Instr.lookup,Sem.run_bind,e1,getObj,Sem.run,hb,e2,e3,hz]
theorem zBc {T1 kt et:TypeId} {s m:Nat} {g:Bool} {zv:V} (k:K) (u:V) (hop:o.op = .lookup T1 x y false) [i1:TyI P T1 (.map kt et) s g] (hT:zFt P kt kv) (hz:∀ w,(zeroValue et).run P w = .ok (vv zv) w) (hx:evR R x=some (.map (some m))) (hy:evR R y=some (kv k)) [im:MapR H m kv vv f] (hv:(f k).getD zv=u):Ev P w0 n d R H o (vv u):=fun a w q=>by
 obtain ⟨l,c,hb,hl,rfl⟩:=im.rd _ _ q.own
 have:=zI6 (P:=P) (T1:=T1) (kt:=kt) (et:=et) (s:=s) (g:=g) (zv:=zv) false k hT hz hb
 unfold execOp;rw [hop]
 simp only [Sem.run_bind,q.ev hx,q.ev hy,this,Result.andThen_ok,Sem.run_pure,hv,Bool.false_eq_true,if_false]
theorem zLN {T1 kt et:TypeId} {s m:Nat} {g:Bool} {zv:V} (k:K) (u:V) (bb:Bool) (hop:o.op = .lookup T1 x y true) [i1:TyI P T1 (.map kt et) s g] (hT:zFt P kt kv) (hz:∀ w,(zeroValue et).run P w = .ok (vv zv) w) (hx:evR R x=some (.map (some m))) (hy:evR R y=some (kv k)) [im:MapR H m kv vv f] (hv:(f k).getD zv=u) (hb':(f k).isSome=bb):Ev P w0 n d R H o (.tuple #[vv u,.bool bb]):=fun a w q=>by
 obtain ⟨l,c,hb,hl,rfl⟩:=im.rd _ _ q.own
 have:=zI6 (P:=P) (T1:=T1) (kt:=kt) (et:=et) (s:=s) (g:=g) (zv:=zv) true k hT hz hb
 rw [hv,hb'] at this
 unfold execOp;rw [hop]
 simp only [Sem.run_bind,q.ev hx,q.ev hy,this,Result.andThen_ok,Sem.run_pure,if_true]
theorem run_setM {T1 kt et:TypeId} {s m c:Nat} {g:Bool} {l:List (K × V × Nat)} {w:World} (k:K) (v:V) [i1:TyI P T1 (.map kt et) s g] (hT:zFt P kt kv) (hb:w.heap[m]?=some (.map (l.map (zAx kv vv)).toArray c)) (hl:MOk l c) :
  ∃ l' c',(Instr.mapUpdate T1 (.map (some m)) (kv k) (vv v)).run P w = .ok () (setBlock w m (.map (l'.map (zAx kv vv)).toArray c'))∧MOk l' c'∧look l'=zAM (look l) k (some v):=by
 have e1:=run_underlying i1.und w
 have e2:=fun e=>hT.chk e k w
 have e3:=zE6 (vv:=vv) hT k w l
 cases hk:look l k with
 | none =>
  rw [(zC8 0 hk).1] at e3
  refine ⟨l++[(k,v,c)],c+1,?_,hl.push hk,zEu hk⟩
  simp [Instr.mapUpdate,Sem.run_bind,e1,getObj,Sem.run,hb,e2,e3,setObj,setBlock,zAx]
 | some u =>
  obtain ⟨j,b,h1,h2⟩:=zCh 0 hk
  rw [h1] at e3
  have e4:=zI3 hT k w
  have hlt:j<l.length:=(List.getElem?_eq_some_iff.1 h2).1
  refine ⟨l.set j (k,v,b),c,?_,hl.set h2,zIC hl.keys h2⟩
  have e7:l[j]=(k,u,b):=by rw [List.getElem?_eq_getElem hlt] at h2;exact Option.some.inj h2
  have e8:(Instr.keyThatStays (zAx kv vv (k,u,b)).key (kv k)).run P w = .ok (kv k) w:=e4
  have e9:∀ f:MapEntry→MapEntry,f (zAx kv vv (k,u,b))=zAx kv vv (k,v,b)→(l.map (zAx kv vv)).modify j f=(l.map (zAx kv vv)).set j (zAx kv vv (k,v,b)):=fun f hf=>zEV (by simp [h2]) hf
  simp only [Nat.zero_add] at e3
  simp [Instr.mapUpdate,Sem.run_bind,e1,getObj,Sem.run,hb,e2,e3,setObj,setBlock,e7,h2,hlt,e4]
  rw [e8]
  simp only [Result.andThen_ok,hb]
  rw [e9 _ rfl]
theorem zKe {T1 kt et:TypeId} {s m c:Nat} {g:Bool} {zv:V} {l:List (K × V × Nat)} {w:World} (k:K) [i1:TyI P T1 (.map kt et) s g] (hT:zFt P kt kv) (hz:∀ w,(zeroValue et).run P w = .ok (vv zv) w) (hb:w.heap[m]?=some (.map (l.map (zAx kv vv)).toArray c)) (hl:MOk l c) :
  ∃ l' c' v0 s,(Instr.mapEntry T1 (.map (some m)) (kv k)).run P w = .ok (.tuple #[vv v0,.int .i64 (s:Nat)]) (setBlock w m (.map (l'.map (zAx kv vv)).toArray c'))∧MOk l' c'∧look l'=zAM (look l) k (some ((look l k).getD zv))∧(k,v0,s)∈l'∧v0=(look l k).getD zv:=by
 have e1:=run_underlying i1.und w
 have e2:=fun e=>hT.chk e k w
 have e3:=zE6 (vv:=vv) hT k w l
 cases hk:look l k with
 | none =>
  rw [(zC8 0 hk).1] at e3
  refine ⟨l++[(k,zv,c)],c+1,zv,c,?_,hl.push hk,zEu hk,by simp,rfl⟩
  simp [Instr.mapEntry,Sem.run_bind,e1,getObj,Sem.run,hb,e2,e3,hz,setObj,setBlock,zAx,goInt]
 | some u =>
  obtain ⟨j,b,h1,h2⟩:=zCh 0 hk
  rw [h1] at e3
  have e4:=zI3 hT k w
  obtain ⟨hlt,e7⟩:=List.getElem?_eq_some_iff.1 h2
  refine ⟨l,c,u,b,?_,hl,?_,List.mem_of_getElem? h2,rfl⟩
  ·have e8:(Instr.keyThatStays (zAx kv vv (k,u,b)).key (kv k)).run P w = .ok (kv k) w:=e4
   have e9:∀ f:MapEntry→MapEntry,f (zAx kv vv (k,u,b))=zAx kv vv (k,u,b)→(l.map (zAx kv vv)).modify j f=l.map (zAx kv vv):=fun f hf=>by
    rw [zEV (b:=zAx kv vv (k,u,b)) (by simp [h2]) hf]
    apply List.ext_getElem?
    intro i
    rw [List.getElem?_set]
    split
    ·rename_i e;subst e;simp [hlt,e7]
    ·rfl
   simp only [Nat.zero_add] at e3
   simp [Instr.mapEntry,Sem.run_bind,e1,getObj,Sem.run,hb,e2,e3,setObj,setBlock,e7,h2,hlt,e4,goInt]
   rw [e8]
   simp only [Result.andThen_ok,hb]
   rw [e9 _ rfl]
   rfl
  ·funext x
   simp only [zAM,Option.getD_some]
   split
   ·rename_i e;rw [e,hk]
   ·rfl
theorem zKc {T1:TypeId} {m c s:Nat} {l:List (K × V × Nat)} {w:World} {k:K} {v0:V} (v:V) (hb:w.heap[m]?=some (.map (l.map (zAx kv vv)).toArray c)) (hl:MOk l c) (hm:(k,v0,s)∈l) :
  ∃ l',(Instr.entryStore T1 (.map (some m)) (.int .i64 (s:Nat)) (vv v)).run P w = .ok () (setBlock w m (.map (l'.map (zAx kv vv)).toArray c))∧MOk l' c∧look l'=zAM (look l) k (some v):=by
 obtain ⟨j,hj,e⟩:=List.getElem_of_mem hm
 have h2:l[j]?=some (k,v0,s):=by rw [List.getElem?_eq_getElem hj,e]
 refine ⟨l.set j (k,v,s),?_,hl.set h2,zIC hl.keys h2⟩
 have hf:(l.map (zAx kv vv)).findIdx? (fun e=>(e.born:Int) == (s:Int))=some j:=by
  rw [List.findIdx?_eq_some_iff_getElem]
  refine ⟨by simpa using hj,by simp [e,zAx],fun i hi=>?_⟩
  simp only [List.getElem_map,zAx]
  intro he
  have he:l[i].2.2=s:=by have:=eq_of_beq he;omega
  have:=hl.born
  unfold List.Nodup at this
  rw [List.pairwise_iff_getElem] at this
  have:=this i j (by simp;omega) (by simpa using hj) hi
  simp only [List.getElem_map] at this
  exact this (by rw [he,e])
 have e9:∀ f:MapEntry→MapEntry,f (zAx kv vv (k,v0,s))=zAx kv vv (k,v,s)→(l.map (zAx kv vv)).modify j f=(l.map (zAx kv vv)).set j (zAx kv vv (k,v,s)):=fun f hf=>zEV (by simp [h2]) hf
 have ha:(asInt (.int .i64 (s:Int))).run P w = .ok (s:Int) w:=rfl
 have hf':List.findIdx? ((fun e:MapEntry=>(e.born:Int) == (s:Int)) ∘ zAx kv vv) l=some j:=by
  rw [← List.findIdx?_map];exact hf
 simp only [Instr.entryStore,Sem.run_bind,getObj,Sem.run,hb,Result.andThen,ha]
 simp [hf',setObj,Sem.run,hb,setBlock]
 rw [e9 _ rfl]
theorem run_delM {T1 T2 kt et:TypeId} {s m c:Nat} {g:Bool} {l:List (K × V × Nat)} {w:World} {ty:TypeId} (k:K) [i1:TyI P T1 (.map kt et) s g] (hT:zFt P kt kv) (hb:w.heap[m]?=some (.map (l.map (zAx kv vv)).toArray c)) (hl:MOk l c) :
  ∃ l',(Builtin.delete_ #[T1,T2] ty #[.map (some m),kv k]).run P w = .ok (.tuple #[]) (setBlock w m (.map (l'.map (zAx kv vv)).toArray c))∧MOk l' c∧look l'=zAM (look l) k none:=by
 have e1:=run_underlying i1.und w
 have e2:=fun e=>hT.chk e k w
 have e3:=zE6 (vv:=vv) hT k w l
 cases hk:look l k with
 | none =>
  rw [(zC8 0 hk).1] at e3
  refine ⟨l,?_,hl,?_⟩
  ·simp [Builtin.delete_,Sem.run_bind,e1,getObj,Sem.run,hb,e2,e3,setObj,setBlock]
  ·funext x
   simp only [zAM]
   split
   ·rename_i e;rw [e,hk]
   ·rfl
 | some u =>
  obtain ⟨j,b,h1,h2⟩:=zCh 0 hk
  rw [h1] at e3
  obtain ⟨hlt,e7⟩:=List.getElem?_eq_some_iff.1 h2
  refine ⟨l.eraseIdx j,?_,hl.erase,zID hl.keys h2⟩
  have e5:=zMR (kv:=kv) (vv:=vv) hlt
  simp only [Nat.zero_add] at e3
  simp [Builtin.delete_,Sem.run_bind,e1,getObj,Sem.run,hb,e2,e3,setObj,setBlock]
  rw [← e5]
  simp
theorem run_clrM {T1 kt et:TypeId} {s m c:Nat} {g:Bool} {w:World} {ty:TypeId} {es:Array MapEntry} [i1:TyI P T1 (.map kt et) s g] (hb:w.heap[m]?=some (.map es c)) :
  (Builtin.clear_ #[T1] ty #[.map (some m)]).run P w = .ok (.tuple #[]) (setBlock w m (.map #[] c)):=by
 have e1:=run_underlying i1.und w
 simp [Builtin.clear_,Sem.run_bind,e1,getObj,Sem.run,hb,setObj,setBlock]
theorem zH6 {base m c':Nat} {w:World} {e:Ent} {l':List (K × V × Nat)} (h:Own base w (e::H')) (he:e.S=(· = m)) (hB:base≤w.heap.size) (h1:MOk l' c') (h2:look l'=f):Own base (setBlock w m (.map (l'.map (zAx kv vv)).toArray c')) (.fm m kv vv f::H') :=
 zFi h he rfl hB ⟨l',c',zEx h he,h1,h2⟩
theorem zFw {T1 kt et:TypeId} {s m:Nat} {g:Bool} (k:K) (u:V) (hop:o.op = .mapUpdate T1 x y z) [i1:TyI P T1 (.map kt et) s g] (hT:zFt P kt kv) (hw:want R ops o=some true) (hd:o.dst=none) (hx:evR R x=some (.map (some m))) (hy:evR R y=some (kv k)) (hz:evR R z=some (vv u)) (ht:Take H (.fm m kv vv f) H')
  (h:U w0 n d R (.fm m kv vv (zAM f k (some u))::H') (wpL ro P ops Q rest)):U w0 n d R H (wpL ro P ops Q (o::rest)) :=
 zDh hw fun a w q K' hK=>by
  have ho:=q.own.take ht
  obtain ⟨l,c,hb,hl,rfl⟩:=ho.here (.fm m kv vv f) (by simp)
  have hf:=ho.foot (.fm m kv vv (look l)) (by simp) m rfl
  obtain ⟨l',c',hrun,h1,h2⟩:=run_setM (P:=P) (T1:=T1) (et:=et) (s:=s) (g:=g) k u hT hb hl
  unfold Oper.wp execOp;rw [hop]
  simp only [Sem.run_bind,q.ev hx,q.ev hy,q.ev hz,hrun,Result.andThen_ok,Sem.run_pure,Oper.upon_skip,hd]
  exact hK _ _ (h _ _ (q.heap (q.below.trans (zBo hf.1)) (zH6 ho rfl q.base h1 h2)))
theorem zE2 {T1 kt et:TypeId} {s m:Nat} {g:Bool} {zv:V} (k:K) (hop:o.op = .mapEntry T1 x y) [i1:TyI P T1 (.map kt et) s g] (hT:zFt P kt kv) (hz:∀ w,(zeroValue et).run P w = .ok (vv zv) w) (hrd:rdy R ops n o=some t) (hx:evR R x=some (.map (some m))) (hy:evR R y=some (kv k)) (ht:Take H (.fm m kv vv f) H')
  (h:∀ (s:Nat) u,U w0 n d ((t,.tuple #[u,.int .i64 (s:Int)])::R) (.fms m kv vv (zAM f k (some ((f k).getD zv))) k s::H') (wpL ro P ops Q rest)):U w0 n d R H (wpL ro P ops Q (o::rest)) :=
 zDh (rW hrd) fun a w q K' hK=>by
  have ho:=q.own.take ht
  obtain ⟨l,c,hb,hl,rfl⟩:=ho.here (.fm m kv vv f) (by simp)
  have hf:=ho.foot (.fm m kv vv (look l)) (by simp) m rfl
  obtain ⟨l',c',v0,s',hrun,h1,h2,h3,_⟩:=zKe (P:=P) (T1:=T1) (et:=et) (s:=s) (g:=g) k hT hz hb hl
  unfold Oper.wp execOp;rw [hop]
  simp only [Sem.run_bind,q.ev hx,q.ev hy,hrun,Result.andThen_ok,Sem.run_pure,Oper.upon_value,(rD hrd)]
  exact hK _ _ (h s' (vv v0) _ _ ((q.heap (q.below.trans (zBo hf.1)) (zFi (e':=.fms m kv vv (zAM (look l) k (some ((look l k).getD zv))) k s') ho rfl rfl q.base ⟨l',c',v0,zEx ho rfl,h1,h2,h3⟩)).put (rT hrd)))
theorem zMl {T1:TypeId} {m s:Nat} {k:K} (u:V) (hop:o.op = .entryStore T1 x y z) (hw:want R ops o=some true) (hd:o.dst=none) (hx:evR R x=some (.map (some m))) (hy:evR R y=some (.int .i64 (s:Int))) (hz:evR R z=some (vv u)) (ht:Take H (.fms m kv vv f k s) H')
  (h:U w0 n d R (.fm m kv vv (zAM f k (some u))::H') (wpL ro P ops Q rest)):U w0 n d R H (wpL ro P ops Q (o::rest)) :=
 zDh hw fun a w q K' hK=>by
  have ho:=q.own.take ht
  obtain ⟨l,c,v0,hb,hl,rfl,hm⟩:=ho.here (.fms m kv vv f k s) (by simp)
  have hf:=ho.foot (.fms m kv vv (look l) k s) (by simp) m rfl
  obtain ⟨l',hrun,h1,h2⟩:=zKc (P:=P) (T1:=T1) u hb hl hm
  unfold Oper.wp execOp;rw [hop]
  simp only [Sem.run_bind,q.ev hx,q.ev hy,q.ev hz,hrun,Result.andThen_ok,Sem.run_pure,Oper.upon_skip,hd]
  exact hK _ _ (h _ _ (q.heap (q.below.trans (zBo hf.1)) (zH6 ho rfl q.base h1 h2)))
theorem u_fmDel {T1 T2 kt et:TypeId} {s m:Nat} {g:Bool} (k:K) (hop:o.op = .call { callee:=.builtin .delete,args:=#[x,y],argTypes:=#[T1,T2] }) [i1:TyI P T1 (.map kt et) s g] (hT:zFt P kt kv) (hw:want R ops o=some true) (hd:o.dst=none) (hx:evR R x=some (.map (some m))) (hy:evR R y=some (kv k)) (ht:Take H (.fm m kv vv f) H')
  (h:U w0 n d R (.fm m kv vv (zAM f k none)::H') (wpL ro P ops Q rest)):U w0 n d R H (wpL ro P ops Q (o::rest)) :=
 zDh hw fun a w q K' hK=>by
  have ho:=q.own.take ht
  obtain ⟨l,c,hb,hl,rfl⟩:=ho.here (.fm m kv vv f) (by simp)
  have hf:=ho.foot (.fm m kv vv (look l)) (by simp) m rfl
  obtain ⟨l',hrun,h1,h2⟩:=run_delM (P:=P) (T1:=T1) (T2:=T2) (et:=et) (s:=s) (g:=g) (ty:=o.type) k hT hb hl
  unfold Oper.wp execOp
  simp only [hop,resolve,invoke,builtin,Sem.run_bind,Sem.run_pure,Result.andThen_ok,List.map_toArray,List.map_cons,List.map_nil,q.ev hx,q.ev hy,hrun,Oper.upon_value,hd]
  exact hK _ _ (h _ _ (q.heap (q.below.trans (zBo hf.1)) (zH6 ho rfl q.base h1 h2)))
theorem u_fmClr {T1 kt et:TypeId} {s m:Nat} {g:Bool} (hop:o.op = .call { callee:=.builtin .clear,args:=#[x],argTypes:=#[T1] }) [i1:TyI P T1 (.map kt et) s g] (hw:want R ops o=some true) (hd:o.dst=none) (hx:evR R x=some (.map (some m))) (ht:Take H (.fm m kv vv f) H')
  (h:U w0 n d R (.fm m kv vv (fun _=>none)::H') (wpL ro P ops Q rest)):U w0 n d R H (wpL ro P ops Q (o::rest)) :=
 zDh hw fun a w q K' hK=>by
  have ho:=q.own.take ht
  obtain ⟨l,c,hb,hl,rfl⟩:=ho.here (.fm m kv vv f) (by simp)
  have hf:=ho.foot (.fm m kv vv (look l)) (by simp) m rfl
  have hrun:=run_clrM (P:=P) (T1:=T1) (kt:=kt) (et:=et) (s:=s) (g:=g) (ty:=o.type) hb
  unfold Oper.wp execOp
  simp only [hop,resolve,invoke,builtin,Sem.run_bind,Sem.run_pure,Result.andThen_ok,List.map_toArray,List.map_cons,List.map_nil,q.ev hx,hrun,Oper.upon_value,hd]
  exact hK _ _ (h _ _ (q.heap (q.below.trans (zBo hf.1)) (zH6 (l':=[]) ho rfl q.base (MOk.nil c) zK6)))
theorem u_fmOpen {m:Nat} (ht:Take H (.fm m kv vv f) H') (h:∀ l c,MOk l c→look l=f→U w0 n d R (.ml m kv vv l c::H') X):U w0 n d R H X:=fun a w q=>by
 have ho:=q.own.take ht
 obtain ⟨l,c,hb,hl,he⟩:=ho.here (.fm m kv vv f) (by simp)
 exact h l c hl he a w (q.heap q.below (ho.recast (fun _=>hb) (fun _ h=>h)))
theorem u_fmShut {m c:Nat} {l:List (K × V × Nat)} (ht:Take H (.ml m kv vv l c) H') (hl:MOk l c) (he:look l=f) (h:U w0 n d R (.fm m kv vv f::H') X):U w0 n d R H X:=fun a w q=>by
 have ho:=q.own.take ht
 exact h a w (q.heap q.below (ho.recast (e':=.fm m kv vv f) (fun hp=>⟨l,c,hp,hl,he⟩) (fun _ h=>h)))
def Ent.itl (r m c:Nat) (seen:List Nat):Ent:=⟨(· = r),fun w=>w.heap[r]?=some (.mapIter (some m) c seen.toArray c),fun _ _ _ h hp=>(h r rfl).trans hp⟩
theorem own_itl (w:World) (m c:Nat):Own w.heap.size (w.alloc (.mapIter (some m) c #[] c)) [.itl w.heap.size m c []] :=
 ⟨fun e he=>by simp only [List.mem_singleton] at he;subst he;exact heap_alloc_new w _,fun e he b hb=>by simp only [List.mem_singleton] at he;subst he;cases hb;simp,by simp⟩
theorem u_rangeM {T1 kt et:TypeId} {s m c:Nat} {g:Bool} {l:List (K × V × Nat)} (hop:o.op = .range T1 x) [i1:TyI P T1 (.map kt et) s g] (hrd:rdy R ops n o=some t) (hx:evR R x=some (.map (some m))) (hm:Take H (.ml m kv vv l c) H')
  (h:∀ r,U w0 n d ((t,.pointer (some ⟨r,0,none⟩))::R) (.itl r m c []::H) (wpL ro P ops Q rest)):U w0 n d R H (wpL ro P ops Q (o::rest)) :=
 zDh (rW hrd) fun a w q K' hK=>by
  have e1:=run_underlying i1.und w
  have e2:w.heap[m]?=some (.map (l.map (zAx kv vv)).toArray c):=q.own.here _ hm.mem
  unfold Oper.wp execOp;rw [hop]
  have hrun:(Instr.range T1 (.map (some m))).run P w = .ok (.pointer (some ⟨w.heap.size,0,none⟩)) (w.alloc (.mapIter (some m) c #[] c)):=by
   simp [Instr.range,e1,getObj,Sem.run_bind,Sem.run,e2]
  simp only [Sem.run_bind,q.ev hx,hrun,Result.andThen_ok,Sem.run_pure,Oper.upon_value,(rD hrd)]
  exact hK _ _ (h w.heap.size _ _ ((q.call (zy w _) (own_itl w m c)).put (rT hrd)))
theorem u_nextM {m r c:Nat} {seen:List Nat} {l:List (K × V × Nat)} (hop:o.op = .next x false) (hrd:rdy R ops n o=some t) (hx:evR R x=some (.pointer (some ⟨r,0,none⟩))) (htk:Take H (.itl r m c seen) H') (hm:Take H (.ml m kv vv l c) H1) (hl:MOk l c)
  (h1:(∀ x∈l,x.2.2∈seen)→U w0 n d ((t,.tuple #[.bool false])::R) H (wpL ro P ops Q rest))
  (h2:∀ x∈l,x.2.2 ∉ seen→U w0 n d ((t,.tuple #[.bool true,kv x.1,vv x.2.1])::R) (.itl r m c (seen++[x.2.2])::H') (wpL ro P ops Q rest)):U w0 n d R H (wpL ro P ops Q (o::rest)) :=
 zDh (rW hrd) fun a w q K' hK=>by
  have e2:w.heap[m]?=some (.map (l.map (zAx kv vv)).toArray c):=q.own.here _ hm.mem
  have ho:=q.own.take htk
  have hr:w.heap[r]?=some (.mapIter (some m) c seen.toArray c):=ho.here (.itl r m c seen) (by simp)
  have hfoot:=ho.foot (.itl r m c seen) (by simp) r rfl
  have hold:∀ x∈((l.map (zAx kv vv)).toArray).toList,x.born<c:=fun x hx=>by
   simp only [List.mem_map] at hx
   obtain ⟨y,hy,rfl⟩:=hx
   exact hl.lt y hy
  unfold Oper.wp execOp;rw [hop]
  rcases run_next_at (P:=P) w o.type r m c c seen.toArray (l.map (zAx kv vv)).toArray c hr e2 hold (Nat.le_refl _) with ⟨h0,hrun⟩ | ⟨e,he,w1,hw1,hrun⟩
  ·simp only [Sem.run_bind,q.ev hx,hrun,Result.andThen_ok,Sem.run_pure,Oper.upon_value,(rD hrd)]
   refine hK _ _ (h1 (fun y hy=>?_) _ _ (q.put (rT hrd)))
   have h9:leftOf (l.map (zAx kv vv)).toArray seen.toArray=#[]:=Array.eq_empty_of_size_eq_zero h0
   unfold leftOf at h9
   rw [Array.filter_eq_empty_iff] at h9
   have:=h9 (zAx kv vv y) (by simp only [List.mem_toArray,List.mem_map];exact ⟨y,hy,rfl⟩)
   simpa [zAx] using this
  ·have he':e∈l.map (zAx kv vv)∧e.born ∉ seen:=by
    unfold leftOf at he
    simpa using he
   obtain ⟨y,hy,rfl⟩:=List.mem_map.1 he'.1
   simp only [Sem.run_bind,q.ev hx,hrun,Result.andThen_ok,Sem.run_pure,Oper.upon_value,(rD hrd)]
   refine hK _ _ (h2 y hy he'.2 _ _ ((q.heap (q.below.trans ?_) (ho.turn ?_ ?_ q.base ?_ ?_)).put (rT hrd)))
   ·rcases hw1 with rfl|rfl<;>exact ⟨rfl,rfl,rfl,by simp [setBlock],fun b hb=>by
     simp only [setBlock]
     rw [Array.getElem?_setIfInBounds_ne (by have:=hfoot.1;omega)]
     try rfl⟩
   ·rcases hw1 with rfl|rfl<;>simp [setBlock]
   ·intro b hb hn
    have hne:r≠b:=fun e=>hn e.symm
    rcases hw1 with rfl|rfl<;>(simp only [setBlock];rw [Array.getElem?_setIfInBounds_ne hne];try rfl)
   ·rcases hw1 with rfl|rfl<;>simp [Ent.itl,setBlock,zAx,hfoot.2]
   ·intro b hb
    cases hb
    refine ⟨.inl rfl,?_⟩
    rcases hw1 with rfl|rfl<;>simp [setBlock,hfoot.2]
theorem u_entryM {m r c:Nat} {seen:List Nat} {l:List (K × V × Nat)} {p:K × V × Nat} (hop:o.op = .entry x) (hrd:rdy R ops n o=some t) (hx:evR R x=some (.pointer (some ⟨r,0,none⟩))) (htk:Take H (.itl r m c (seen++[p.2.2])) H') (hm:Take H (.ml m kv vv l c) H1) (hl:MOk l c) (hp:p∈l)
  (h:U w0 n d ((t,.tuple #[kv p.1,vv p.2.1])::R) H (wpL ro P ops Q rest)):U w0 n d R H (wpL ro P ops Q (o::rest)) :=
 zAL hrd (fun a w q=>by
  have e2:w.heap[m]?=some (.map (l.map (zAx kv vv)).toArray c):=q.own.here _ hm.mem
  have hr:w.heap[r]?=some (.mapIter (some m) c (seen++[p.2.2]).toArray c):=(q.own.take htk).here (.itl r m c (seen++[p.2.2])) (by simp)
  have e3:(seen++[p.2.2]).toArray=seen.toArray.push (zAx kv vv p).born:=by simp [zAx]
  rw [e3] at hr
  have hnd:(((l.map (zAx kv vv)).toArray).toList.map (·.born)).Nodup:=by
   have:=hl.born
   simpa [Function.comp_def,zAx] using this
  have:=run_entry_at (P:=P) w r m c seen.toArray (l.map (zAx kv vv)).toArray c (zAx kv vv p) hr e2 (by simp only [List.mem_map];exact ⟨p,hp,rfl⟩) hnd
  unfold execOp;rw [hop]
  simp only [Sem.run_bind,q.ev hx,this,Result.andThen_ok,Sem.run_pure]
  rfl) h
def leftN (l:List (K × V × Nat)) (seen:List Nat):Nat:=(l.filter fun x=>!seen.contains x.2.2).length
theorem zJY {α:Type} {p q:α→Bool} (h:∀ z,q z=true→p z=true):∀ l:List α,(l.filter q).length≤(l.filter p).length
 | []=>by simp
 | z::r=>by
  have ih:=zJY h r
  cases hq:q z with
  | true=>rw [List.filter_cons_of_pos hq,List.filter_cons_of_pos (h z hq),List.length_cons,List.length_cons];omega
  | false =>
   rw [List.filter_cons_of_neg (by simp [hq])]
   cases hp:p z with
   | true=>rw [List.filter_cons_of_pos hp,List.length_cons];omega
   | false=>rw [List.filter_cons_of_neg (by simp [hp])];exact ih
theorem zJX {α:Type} {p q:α→Bool} {x:α} (h:∀ z,q z=true→p z=true) (hp:p x=true) (hq:q x=false):∀ {l:List α},x∈l→(l.filter q).length<(l.filter p).length
 | [],hx=>by cases hx
 | z::r,hx=>by
  rcases List.mem_cons.1 hx with rfl|hx
  ·rw [List.filter_cons_of_neg (by simp [hq]),List.filter_cons_of_pos hp,List.length_cons]
   have:=zJY h r;omega
  ·have ih:=zJX h hp hq hx
   cases hq:q z with
   | true=>rw [List.filter_cons_of_pos hq,List.filter_cons_of_pos (h z hq),List.length_cons,List.length_cons];omega
   | false =>
    rw [List.filter_cons_of_neg (by simp [hq])]
    cases hp:p z with
    | true=>rw [List.filter_cons_of_pos hp,List.length_cons];omega
    | false=>rw [List.filter_cons_of_neg (by simp [hp])];exact ih
theorem leftN_lt {l:List (K × V × Nat)} {seen:List Nat} {x:K × V × Nat} (hx:x∈l) (hn:x.2.2 ∉ seen):leftN l (seen++[x.2.2])<leftN l seen:=by
 unfold leftN
 refine zJX (fun z hz=>?_) (by simpa using hn) (by simp) hx
 simp at hz ⊢
 exact hz.1
end
section
variable {P : Program} {w0:World} {n:Nat} {d:List Deferred} {R:List (Nat × Value)} {H H':List Ent} {Q:Exit→Act→World→Prop} {ops:Array Oper} {o:Oper} {K:Act→World→Prop}
def qk (K:Act→World→Prop):Exit→Act→World→Prop:=fun e a w=>match e with | .normal=>K a w | _=>False
theorem zKv {a:Act} {w:World} {F:Fence} {m:Nat} (h:o.wpIn F m P a w K (qk K)):o.wpIn F m P a w K Q:=by
 unfold Oper.wpIn at *
 refine ⟨h.1,?_⟩
 have h:=h.2
 generalize (o.semAt F.round a.eval).run P w=r at *
 cases r with
 | ok x w' =>
  cases x<;>simp only [Oper.uponIn] at h ⊢ <;>
   first
    | exact h
    | exact ⟨h.1,CallsIn.mono h.2 (fun e w'' he=>by cases e<;>first|exact he|exact False.elim he|exact (by obtain ⟨_,_,hf⟩:=he;exact False.elim hf))⟩
    | exact ⟨h.1,RowsIn.mono h.2 (fun _ _ he=>he)⟩
    | exact ⟨h.1,RoundIn.mono h.2 (fun e w'' he=>by cases e<;>first|exact he|exact False.elim he|exact (by obtain ⟨_,_,hf⟩:=he;exact False.elim hf))⟩
    | exact False.elim h
 | halt x w'=>cases x<;>simp only [Oper.uponIn] at h ⊢<;>exact False.elim h
abbrev wpA (ro:Option Nat) (P:Program) (ops:Array Oper) (Q:Exit→Act→World→Prop) (fuel:Nat) (listed:Array Bool):Act→World→Prop:=wpAnyIn (FW ro) 9 P .any ops Q fuel listed
inductive zBV (w0:World) (n:Nat) (d:List Deferred) (R:List (Nat × Value)) (H:List Ent) (ro:Option Nat) (P:Program) (ops:Array Oper) (Q:Exit→Act→World→Prop) (fuel:Nat) (listed:Array Bool):List Nat→Prop
 | nil:zBV w0 n d R H ro P ops Q fuel listed []
 | cons {i:Nat} {l:List Nat} {o:Oper} (ho:ops[i]?=some o) (h:U w0 n d R H (wpL ro P ops (qk (wpA ro P ops Q fuel (listed.setIfInBounds i true))) [o])) (hr:zBV w0 n d R H ro P ops Q fuel listed l):zBV w0 n d R H ro P ops Q fuel listed (i::l)
theorem zBV.mem {fuel:Nat} {listed:Array Bool} {l:List Nat} (h:zBV w0 n d R H ro P ops Q fuel listed l):∀ i∈l,∃ o,ops[i]?=some o∧U w0 n d R H (wpL ro P ops (qk (wpA ro P ops Q fuel (listed.setIfInBounds i true))) [o]):=by
 induction h with
 | nil=>intro i hi;cases hi
 | cons ho h hr ih =>
  intro i hi
  rcases List.mem_cons.1 hi with rfl|hi
  ·exact ⟨_,ho,h⟩
  ·exact ih i hi
theorem zAf {fuel:Nat} {listed:Array Bool} (i:Nat) (l:List Nat) (hr:Region.ready .any ops listed=i::l) (h:zBV w0 n d R H ro P ops Q fuel listed (i::l)):U w0 n d R H (wpA ro P ops Q (fuel+1) listed):=fun a w q=>by
 refine ⟨fun h0=>(by rw [hr] at h0;cases h0),fun i hi=>?_⟩
 rw [hr] at hi
 obtain ⟨o,ho,hU⟩:=h.mem i hi
 have:=hU a w q
 unfold wpOpIn
 simp only [ho]
 unfold wpL at this
 simp only [wpListIn] at this
 split
 ·rename_i hw
  rw [if_pos hw] at this
  exact zKv this
 ·rename_i hw
  rw [if_neg hw] at this
  exact this
theorem a_nil {fuel:Nat} {listed:Array Bool} (hr:Region.ready .any ops listed=[]) (h:U w0 n d R H (Q .normal)):U w0 n d R H (wpA ro P ops Q fuel listed):=fun a w q=>by
 cases fuel with
 | zero=>exact ⟨hr,h a w q⟩
 | succ fuel=>exact ⟨fun _=>h a w q,fun i hi=>by rw [hr] at hi;cases hi⟩
theorem zAy (h:U w0 n d R H K):U w0 n d R H (qk K .normal):=h
theorem u_orders {id:Nat} {l:List Oper} (hm:P.follows .mixedOrders=true) (h:U w0 n d R H (wpA ro P l.toArray Q l.toArray.size (Array.replicate l.toArray.size false))):U w0 n d R H ((Code.region id l.toArray true).wpI ro P Q):=fun a w q =>
 wpIn_region_any hm (h a _ ⟨q.size,q.defers,q.regs,⟨q.below.os,q.below.tape,q.below.output,q.below.size,q.below.block⟩,q.own.past (Nat.le_refl _) (fun _ _ _ _=>rfl)⟩)
end
end Go.Proofs.YtdigopgncfhiaaaGreatDoor
namespace Go.Proofs.YtdigopgncfhiaaaGreatDoor
open Go.RowKit
open Flow (Nd)
set_option maxRecDepth 20000
def zO (x:Nd):List Value:=[.int .i64 (x.k:Int),.int .i64 (x.a:Int),.int .i64 (x.b:Int)]
def vNd (x:Nd):Value:=.agg #[.int .i64 (x.k:Int),.int .i64 (x.a:Int),.int .i64 (x.b:Int)]
def vNN (p:Nd × Nd):Value:=.agg #[.int .i64 (p.1.k:Int),.int .i64 (p.1.a:Int),.int .i64 (p.1.b:Int),.int .i64 (p.2.k:Int),.int .i64 (p.2.a:Int),.int .i64 (p.2.b:Int)]
instance encI_nd : zBw zO 3:=⟨fun _=>rfl,fun x v hv=>by simp [zO] at hv;rcases hv with rfl|rfl|rfl<;>rfl⟩
theorem elem_nd : zIe Tryz.prog 171 168 3 24 (.agg #[.int .i64 0,.int .i64 0,.int .i64 0]) :=
 ⟨by rfl,by exact ⟨_,rfl,rfl,rfl,rfl⟩,by decide,by decide⟩
instance elI_nd : ElI Tryz.prog 171 168 3 24:=⟨⟨_,elem_nd⟩⟩
theorem zEo (d:Nat) (x y:Nd) (w:World):(Op.equalIn (d+2) 168 (vNd x) (vNd y)).run Tryz.prog w = .ok (decide (x=y)) w:=by
 obtain ⟨a1,a2,a3⟩:=x
 obtain ⟨b1,b2,b3⟩:=y
 unfold vNd
 rw [run_equalIn_agg _ _ _ _ _ (by simp [go_sem]) (by kernel_rfl)]
 simp [go_sem]
 by_cases h1:a1=b1<;>by_cases h2:a2=b2<;>by_cases h3:a3=b3<;>simp [h1,h2,h3]<;>omega
theorem zHu (e:Bool) (d:Nat) (x:Nd) (w:World):(Instr.checkKey e (d+2) 168 (vNd x)).run Tryz.prog w = .ok () w:=by
 unfold vNd
 rw [Instr.checkKey]
 have hi:∀ (z:Int) w,(Instr.checkKey e (d+1) 3 (.int .i64 z)).run Tryz.prog w = .ok () w:=fun z w=>zGh Tryz.underlying3
 have ha:∀ w,(Go.isAgg 3).run Tryz.prog w = .ok false w:=Tryz.isAgg3
 simp [Sem.run_bind,run_underlying Tryz.underlying168,part,ha,hi]
theorem nd_ext {x y:Nd} (h1:(x.k:Int)=y.k) (h2:(x.a:Int)=y.a) (h3:(x.b:Int)=y.b):x=y:=by
 obtain ⟨a1,a2,a3⟩:=x
 obtain ⟨b1,b2,b3⟩:=y
 simp only at h1 h2 h3
 simp;omega
theorem zCN (xs:List Value) (off:Nat) (x:Nd) (h:(xs.drop off).take 3=zO x) (w:World):(Go.part 168 xs.toArray off).run Tryz.prog w = .ok (vNd x) w:=by
 have hs:∀ w,(Go.sizeOf 168).run Tryz.prog w = .ok 3 w:=Tryz.sizeOf168
 have ha:∀ w,(Go.isAgg 168).run Tryz.prog w = .ok true w:=Tryz.isAgg168
 unfold Go.part
 simp only [Sem.run_bind,ha,Result.andThen_ok,if_true,hs,Sem.run_pure]
 congr 2
 rw [List.extract_toArray,List.extract_eq_take_drop,show off+3 - off=3 by omega,h]
 rfl
theorem zKd (d:Nat) (p q:Nd × Nd) (w:World):(Op.equalIn (d+3) 170 (vNN p) (vNN q)).run Tryz.prog w = .ok (decide (p=q)) w:=by
 obtain ⟨x,y⟩:=p
 obtain ⟨u,v⟩:=q
 have hs:∀ w,(Go.sizeOf 168).run Tryz.prog w = .ok 3 w:=Tryz.sizeOf168
 have e2:=fun x y w=>zEo d x y w
 have p1:=fun w=>zCN [.int .i64 (x.k:Int),.int .i64 (x.a:Int),.int .i64 (x.b:Int),.int .i64 (y.k:Int),.int .i64 (y.a:Int),.int .i64 (y.b:Int)] 0 x rfl w
 have p2:=fun w=>zCN [.int .i64 (x.k:Int),.int .i64 (x.a:Int),.int .i64 (x.b:Int),.int .i64 (y.k:Int),.int .i64 (y.a:Int),.int .i64 (y.b:Int)] 3 y rfl w
 have p3:=fun w=>zCN [.int .i64 (u.k:Int),.int .i64 (u.a:Int),.int .i64 (u.b:Int),.int .i64 (v.k:Int),.int .i64 (v.a:Int),.int .i64 (v.b:Int)] 0 u rfl w
 have p4:=fun w=>zCN [.int .i64 (u.k:Int),.int .i64 (u.a:Int),.int .i64 (u.b:Int),.int .i64 (v.k:Int),.int .i64 (v.a:Int),.int .i64 (v.b:Int)] 3 v rfl w
 unfold vNN
 rw [Op.equalIn]
 simp only [Sem.run_bind,run_underlying Tryz.underlying170,Result.andThen_ok,hs,Std.Legacy.Range.forIn_eq_forIn_range',Std.Legacy.Range.size,Nat.sub_zero,Nat.add_sub_cancel,Nat.div_one]
 simp only [List.range',List.forIn_cons,List.forIn_nil,Sem.run_bind,Nat.zero_mul,Nat.zero_add,Nat.one_mul,p1,p2,p3,p4,e2,Result.andThen_ok]
 by_cases h1:x=u<;>by_cases h2:y=v<;>simp [go_sem,h1,h2,e2,p2,p4]
 all_goals first|exact fun a b c=>h2 (nd_ext a b c)|exact fun a b c=>h1 (nd_ext a b c)
theorem zLp (e:Bool) (d:Nat) (p:Nd × Nd) (w:World):(Instr.checkKey e (d+3) 170 (vNN p)).run Tryz.prog w = .ok () w:=by
 obtain ⟨x,y⟩:=p
 have hs:∀ w,(Go.sizeOf 168).run Tryz.prog w = .ok 3 w:=Tryz.sizeOf168
 have e2:=fun x w=>zHu e d x w
 have p1:=fun w=>zCN [.int .i64 (x.k:Int),.int .i64 (x.a:Int),.int .i64 (x.b:Int),.int .i64 (y.k:Int),.int .i64 (y.a:Int),.int .i64 (y.b:Int)] 0 x rfl w
 have p2:=fun w=>zCN [.int .i64 (x.k:Int),.int .i64 (x.a:Int),.int .i64 (x.b:Int),.int .i64 (y.k:Int),.int .i64 (y.a:Int),.int .i64 (y.b:Int)] 3 y rfl w
 unfold vNN
 rw [Instr.checkKey]
 simp only [Sem.run_bind,run_underlying Tryz.underlying170,Result.andThen_ok,hs,Std.Legacy.Range.forIn_eq_forIn_range',Std.Legacy.Range.size,Nat.sub_zero,Nat.add_sub_cancel,Nat.div_one]
 simp only [List.range',List.forIn_cons,List.forIn_nil,Sem.run_bind,Nat.zero_mul,Nat.zero_add,Nat.one_mul,p1,p2,e2,Result.andThen_ok,Sem.run_pure]
 simp [hs,p2,e2]
theorem zDG : zFt Tryz.prog 168 vNd :=
 ⟨fun e k w=>zHu e 9998 k w,fun k k' w=>zEo 9998 k k' w,⟨_,Tryz.underlying168,fun _ _=>rfl⟩,fun k=>by
  simp [vNd,Instr.sameBits]⟩
theorem zBe : zFt Tryz.prog 170 vNN :=
 ⟨fun e k w=>zLp e 9997 k w,fun k k' w=>zKd 9997 k k' w,⟨_,Tryz.underlying170,fun _ _=>rfl⟩,fun k=>by
  simp [vNN,Instr.sameBits]⟩
end Go.Proofs.YtdigopgncfhiaaaGreatDoor
namespace Go.Proofs.YtdigopgncfhiaaaGreatDoor.Two
variable {ro : Option Nat}
open Go.RowKit
open Go.ChangeMaps (setBlock)
set_option linter.unusedSectionVars false
section
variable {S : List (Nat × Nat)} {I:List (Nat × Nat × Nat × List Ent)} {P:Program} {w0:World} {n:Nat} {d:List Deferred} {R R0:List (Nat × Value)} {H H' H0:List Ent} {Q:Exit→Act→World→Prop} {ops:Array Oper} {bs:List (List Bool)} {b:List Bool} {k:Nat} {o:Oper} {rest:List Oper} {T:List Rw} {t:Tmp} {Hk:zA9→List Ent} {x y z:Operand} {v:Value}
variable {K V:Type} [DecidableEq K] {kv:K→Value} {vv:V→Value} {f:K→Option V}
theorem c_fmEnt {T1 kt et:TypeId} {s m lo hi:Nat} {g:Bool} {zv:V} (key:K) (hkE:(k,lo,hi,[Ent.fm m kv vv f])∈I) (hfree:takes S k=false) (hop:o.op = .mapEntry T1 x y) [i1:TyI P T1 (.map kt et) s g] (hT:zFt P kt kv) (hz:∀ w,(zeroValue et).run P w = .ok (vv zv) w) (hw:∀ G,want (Rk R0 ops b o T G) ops o=some true) (hd:o.dst=some t) (hx:∀ G,evR (Rk R0 ops b o T G) x=some (.map (some m))) (hy:∀ G,evR (Rk R0 ops b o T G) y=some (kv key))
  (h:zBS ro S I P w0 n d ops R0 H0 Q bs (k+1) rest (⟨k,some t,fun G=>(.tuple #[vv ((f key).getD zv),.int .i64 ((G k).g:Int)],[.fms m kv vv (zAM f key (some ((f key).getD zv))) key (G k).g])⟩::T)):zBS ro S I P w0 n d ops R0 H0 Q (b::bs) k (o::rest) T:=by
 refine zM8 (f:=fun G=>(.tuple #[vv ((f key).getD zv),.int .i64 ((G k).g:Int)],[.fms m kv vv (zAM f key (some ((f key).getD zv))) key (G k).g])) hkE hfree (fun G G' hG=>by simp only [hG k (.inl rfl)]) (fun G L a w q ho K' hK=>?_) (by rw [hd];exact h)
 rw [zBO q (hw G),if_pos rfl]
 obtain ⟨l,c,hb,hl,hf⟩:=ho.here (.fm m kv vv f) (by simp)
 have hfo:=ho.foot (.fm m kv vv f) (by simp) m rfl
 obtain ⟨l',c',v0,s',hrun,h1,h2,h3,h4⟩:=zKe (P:=P) (T1:=T1) (et:=et) (s:=s) (g:=g) key hT hz hb hl
 rw [hf] at h2 h4
 subst h4
 have hxv:=q.ev (hx G)
 have hyv:=q.ev (hy G)
 unfold Oper.wp execOp;rw [hop]
 simp only [Sem.run_bind,hxv,hyv,hrun,Result.andThen_ok,Sem.run_pure,Oper.upon_value]
 refine hK _ [.fms m kv vv (zAM f key (some ((f key).getD zv))) key s'] _ ⟨⟨s',none,0⟩,by simp only [upW,if_true]⟩ (q.below.trans (zBo hfo.1)) ?_
 exact zFi (e':=.fms m kv vv (zAM f key (some ((f key).getD zv))) key s') ho rfl rfl q.base ⟨l',c',_,zEx ho rfl,h1,h2,h3⟩
theorem c_fmSto {T1:TypeId} {m:Nat} {key:K} {f':K→Option V} (u:zA9→V) (sg:zA9→Nat) (j:Nat) (hjk:(j,k)∈S) (hkI:keyI I k=false) (hop:o.op = .entryStore T1 x y z) (hw:∀ G,want (Rk R0 ops b o T G) ops o=some true) (hd:o.dst=none) (hx:∀ G,evR (Rk R0 ops b o T G) x=some (.map (some m))) (hy:∀ G,evR (Rk R0 ops b o T G) y=some (.int .i64 (sg G:Int))) (hz:∀ G,evR (Rk R0 ops b o T G) z=some (vv (u G))) (hent:∀ G,zAF (only j T) G=[.fms m kv vv f' key (sg G)]) (hu:LocB b k u)
  (h:zBS ro S I P w0 n d ops R0 H0 Q bs (k+1) rest (⟨k,none,fun G=>(undef,[.fm m kv vv (zAM f' key (some (u G)))])⟩::T)):zBS ro S I P w0 n d ops R0 H0 Q (b::bs) k (o::rest) T:=by
 refine c_take (f:=fun G=>(undef,[.fm m kv vv (zAM f' key (some (u G)))])) j hjk hkI (fun G G' hG=>by simp only [hu.loc G G' hG]) (fun G L a w q ho K' hK=>?_) (by rw [hd];exact h)
 rw [zBO q (hw G),if_pos rfl]
 rw [hent G] at ho
 obtain ⟨l,c,v0,hb,hl,hf,hm⟩:=ho.here (.fms m kv vv f' key (sg G)) (by simp)
 have hfo:=ho.foot (.fms m kv vv f' key (sg G)) (by simp) m rfl
 obtain ⟨l',hrun,h1,h2⟩:=zKc (P:=P) (T1:=T1) (u G) hb hl hm
 rw [hf] at h2
 have hxv:=q.ev (hx G)
 have hyv:=q.ev (hy G)
 have hzv:=q.ev (hz G)
 unfold Oper.wp execOp;rw [hop]
 simp only [Sem.run_bind,hxv,hyv,hzv,hrun,Result.andThen_ok,Sem.run_pure,Oper.upon_skip,hd]
 have:=hK undef [.fm m kv vv (zAM f' key (some (u G)))] _ ⟨⟨0,none,0⟩,by simp only [hu.up]⟩ (q.below.trans (zBo hfo.1)) (zH6 ho rfl q.base h1 h2)
 rw [hd] at this
 exact this
end
end Go.Proofs.YtdigopgncfhiaaaGreatDoor.Two
