/- E18 -/
import Derived.Test.YtdigopgncfhiaaaGreatDoorE17
import Derived.Test.YtdigopgncfhiaaaGreatDoorE16
import Derived.Test.YtdigopgncfhiaaaGreatDoorE6
import Derived.Maps.RangeRun
set_option linter.unusedSimpArgs false
set_option linter.unusedVariables false
namespace Go.Proofs.YtdigopgncfhiaaaGreatDoor
open Go.RowKit
structure PS where
 nds:List (List Int)
 may:List (List Bool)
 hands:List Int
 out:List (List Int)
def zIb (s:PS) (h i:Nat):Bool:=(s.may.getD i []).getD h false && (decide (0<s.hands.getD h 0) && decide (0<Flow.zDM (s.nds.getD i [])))
def zEz (s:PS) (h i:Nat):List (List Bool):=s.may.set i ((s.may.getD i []).set h false)
def ndsO (s:PS) (i:Nat):List (List Int):=s.nds.set i (zDV (s.nds.getD i []))
def zDT (s:PS) (h:Nat):List Int:=s.hands.set h (s.hands.getD h 0 - 1)
def outO (s:PS) (h i:Nat):List (List Int):=s.out.set h (s.out.getD h []++[(i:Int)])
def zD5 (h i:Nat) (s:PS):PS :=
 if zIb s h i then
  if zGb (ndsO s i) (zEz s h i) (zDT s h) then ⟨ndsO s i,zEz s h i,zDT s h,outO s h i⟩ else ⟨s.nds,zEz s h i,s.hands,s.out⟩
 else ⟨s.nds,zEz s h i,s.hands,s.out⟩
def stepsP (h:Nat):Nat→PS→PS
 | 0,s=>s
 | i+1,s=>zD5 h i (stepsP h i s)
def zDD (nb:Nat):Nat→PS→PS
 | 0,s=>s
 | h+1,s=>stepsP h nb (zDD nb h s)
def zBe (c:Cov):PS:=⟨zAg c,zCx c,zAF c,List.replicate c.hours.length []⟩
def zDL (c:Cov):List (List Int) × Int :=
 if zAm c=0 then
  if zGb (zAg c) (zCx c) (zAF c) then ((zDD c.beds.length c.hours.length (zBe c)).out,0) else ([],8)
 else ([],zAm c)
structure NRow (nh:Nat) (r:List Int):Prop where
 len:r.length=nh
 big:∀ x∈r,0≤x∧x≤100000
 up:r.Pairwise (·≤·)
theorem NRow.less {nh:Nat} {r:List Int} (h:NRow nh r):NRow nh (zDV r):=by
 refine ⟨by simp [zDV,h.len],fun x hx=>?_,?_⟩
 ·obtain ⟨y,hy,rfl⟩:=List.mem_map.1 hx
  have:=h.big y hy
  omega
 ·unfold zDV
  rw [List.pairwise_map]
  exact h.up.imp fun hab=>by omega
theorem NRow.max {nh:Nat} {r:List Int} (h:NRow nh r) (h0:0<nh):Flow.zDM r=r.getD (nh - 1) 0:=by
 have hl:=h.len
 have hne:r≠[]:=fun e=>by rw [e] at hl;simp at hl;omega
 have hlt:nh - 1<r.length:=by omega
 rw [Flow.zAX hlt]
 have h1:=Flow.zLG (List.getElem_mem hlt)
 obtain ⟨j,hj,e⟩:=List.getElem_of_mem (Flow.zFS hne)
 have h2:r[j]≤r[nh - 1]:=by
  rcases Nat.lt_or_ge j (nh - 1) with h9|h9
  ·exact List.pairwise_iff_getElem.1 h.up j (nh - 1) hj hlt h9
  ·have:j=nh - 1:=by omega
   subst this;exact Int.le_refl _
 omega
structure zEK (nb nh h i:Nat) (s:PS):Prop where
 nl:s.nds.length=nb
 ml:s.may.length=nb
 hl:s.hands.length=nh
 ol:s.out.length=nh
 nr:∀ r∈s.nds,NRow nh r
 mr:∀ r∈s.may,r.length=nh
 hr:∀ x∈s.hands,0≤x∧x≤1000
 or_:∀ k,(s.out.getD k []).length≤if k<h then nb else if k=h then i else 0
theorem zEH {α:Type} {l:List α} {i:Nat} {a x:α} (h:x∈l.set i a):x=a∨x∈l:=by
 rcases List.mem_or_eq_of_mem_set h with h|h
 ·exact .inr h
 ·exact .inl h
theorem getD_set {α:Type} {l:List α} {i k:Nat} {a d:α} (hi:i<l.length):(l.set i a).getD k d=if k=i then a else l.getD k d:=by
 rw [List.getD_eq_getElem?_getD,List.getElem?_set,List.getD_eq_getElem?_getD]
 by_cases e:i=k
 ·subst e;simp [hi]
 ·rw [if_neg e,if_neg (fun h=>e h.symm)]
section
variable {nb nh h i:Nat} {s:PS}
theorem zEK.zOL (ok:zEK nb nh h i s) (hi:i<nb):(zEz s h i).length=nb∧∀ r∈zEz s h i,r.length=nh:=by
 refine ⟨by simp [zEz,ok.ml],fun r hr=>?_⟩
 rcases zEH hr with rfl|hr
 ·rw [List.length_set]
  have:=ok.ml
  rw [Flow.zAX (by omega)]
  exact ok.mr _ (List.getElem_mem _)
 ·exact ok.mr r hr
theorem zEK.zOJ (ok:zEK nb nh h i s) (hi:i<nb):(ndsO s i).length=nb∧∀ r∈ndsO s i,NRow nh r:=by
 refine ⟨by simp [ndsO,ok.nl],fun r hr=>?_⟩
 rcases zEH hr with rfl|hr
 ·have:=ok.nl
  rw [Flow.zAX (by omega)]
  exact (ok.nr _ (List.getElem_mem _)).less
 ·exact ok.nr r hr
theorem zEK.zKa (ok:zEK nb nh h i s) (hh:h<nh) (ht:zIb s h i=true):(zDT s h).length=nh∧∀ x∈zDT s h,0≤x∧x≤1000:=by
 refine ⟨by simp [zDT,ok.hl],fun x hx=>?_⟩
 rcases zEH hx with rfl|hx
 ·have:=ok.hl
  unfold zIb at ht
  simp only [Bool.and_eq_true,decide_eq_true_eq] at ht
  have h1:=ht.2.1
  rw [Flow.zAX (by omega)] at h1 ⊢
  have:=ok.hr _ (List.getElem_mem (l:=s.hands) (n:=h) (by omega))
  omega
 ·exact ok.hr x hx
theorem zEK.step (ok:zEK nb nh h i s) (hi:i<nb) (hh:h<nh):zEK nb nh h (i+1) (zD5 h i s):=by
 have keep:∀ k,(s.out.getD k []).length≤if k<h then nb else if k=h then i+1 else 0:=fun k=>by
  have:=ok.or_ k
  split at this
  ·rw [if_pos (by assumption)];exact this
  ·rw [if_neg (by assumption)]
   split at this
   ·rw [if_pos (by assumption)];omega
   ·rw [if_neg (by assumption)];exact this
 have hm:=ok.zOL hi
 unfold zD5
 cases ht:zIb s h i with
 | false=>rw [if_neg (by simp)];exact ⟨ok.nl,hm.1,ok.hl,ok.ol,ok.nr,hm.2,ok.hr,keep⟩
 | true =>
  rw [if_pos rfl]
  have hn:=ok.zOJ hi
  have hd:=ok.zKa hh ht
  split
  ·refine ⟨hn.1,hm.1,hd.1,by simp [outO,ok.ol],hn.2,hm.2,hd.2,fun k=>?_⟩
   simp only [outO]
   rw [getD_set (by rw [ok.ol];exact hh)]
   by_cases e:k=h
   ·subst e
    have:=ok.or_ k
    rw [if_neg (by omega),if_pos rfl] at this
    rw [if_pos rfl,if_neg (by omega),if_pos rfl,List.length_append]
    simp only [List.length_cons,List.length_nil];omega
   ·rw [if_neg e];exact keep k
  ·exact ⟨ok.nl,hm.1,ok.hl,ok.ol,ok.nr,hm.2,ok.hr,keep⟩
theorem zEK.next (ok:zEK nb nh h nb s):zEK nb nh (h+1) 0 s :=
 ⟨ok.nl,ok.ml,ok.hl,ok.ol,ok.nr,ok.mr,ok.hr,fun k=>by
  have:=ok.or_ k
  by_cases h1:k<h
  ·rw [if_pos h1] at this;rw [if_pos (by omega)];exact this
  ·rw [if_neg h1] at this
   by_cases h2:k=h
   ·rw [if_pos h2] at this;rw [if_pos (by omega)];exact this
   ·rw [if_neg h2] at this;omega⟩
end
theorem zNH (c:Cov) (z:Bed) (m:Nat):(zBS c z m).Pairwise (·≤·):=by
 unfold zBS
 rw [List.pairwise_map]
 refine List.pairwise_lt_range.imp fun {a b} hab=>?_
 have:=zI4 (c:=c) (z:=z) (a+1) (b - a)
 rwa [show a+1+(b - a)=b+1 by omega] at this
theorem zFh {c:Cov} (hf:zB4 c) (hs:Small c) (hcr:∀ u∈c.hours,0≤u.crew∧u.crew≤1000):zEK c.beds.length c.hours.length 0 0 (zBe c):=by
 have h3:=hs.h
 refine ⟨by simp [zBe,zAg],by simp [zBe,zCx],by simp [zBe,zAF],by simp [zBe],fun r hr=>?_,fun r hr=>?_,fun x hx=>?_,fun k=>?_⟩
 ·obtain ⟨z,hz,rfl⟩:=List.mem_map.1 hr
  refine ⟨zD9,fun x hx=>?_,zNH c z _⟩
  obtain ⟨k,hk,rfl⟩:=List.mem_map.1 hx
  have:=zFP hf hz (k+1) (by have:=List.mem_range.1 hk;omega)
  have:=List.mem_range.1 hk
  omega
 ·simp [zBe,zCx] at hr
  rw [hr.2];simp
 ·obtain ⟨u,hu,rfl⟩:=List.mem_map.1 hx
  have:=hcr u hu
  unfold zC2;split<;>omega
 ·simp only [zBe,Nat.not_lt_zero,if_false]
  rw [List.getD_eq_getElem?_getD,List.getElem?_replicate]
  split<;>simp
end Go.Proofs.YtdigopgncfhiaaaGreatDoor
namespace Go.Proofs.YtdigopgncfhiaaaGreatDoor
open Go.RowKit
set_option maxRecDepth 20000
structure PM where
 k:Nat
 nd:List (zAC Int)
 my:List (zAC Bool)
 ot:List (zAC Int)
def PMat (q:PM) (s:PS):Prop:=q.nd.map (·.xs)=s.nds∧q.my.map (·.xs)=s.may∧q.ot.map (·.xs)=s.out
theorem zDm {α:Type} {enc:α→List Value} {k e base m c:Nat} [ei:zCM enc k] {A:Option Addr} {xs:List α} {w:World} {H H':List Ent} (h:Own base w H) (ht:Take H (.row enc k e (.slice A m c) xs) H'):zx enc k w A xs :=
 (zDl ei.len (h.here _ ht.mem)).2
theorem zKH {nb nh h i:Nat} {s:PS} (ok:zEK nb nh h i s) {L:List (zAC Int)} {M:List (zAC Bool)} (hL:L.map (·.xs)=s.nds) (hM:M.map (·.xs)=s.may) (hnb:nb≤20) (hnh:nh≤12):zEJ L M s.hands:=by
 have l1:L.length=nb:=by have:=congrArg List.length hL;rw [ok.nl] at this;simpa using this
 have l2:M.length=nb:=by have:=congrArg List.length hM;rw [ok.ml] at this;simpa using this
 have r1:∀ x∈L,NRow nh x.xs:=fun x hx=>ok.nr _ (by rw [← hL];exact List.mem_map_of_mem hx)
 have r2:∀ x∈M,x.xs.length=nh:=fun x hx=>ok.mr _ (by rw [← hM];exact List.mem_map_of_mem hx)
 refine ⟨by omega,by omega,fun i s t hs ht=>?_,fun s hs=>?_,fun s hs x hx=>?_,by rw [ok.hl];exact hnh,ok.hr⟩
 ·rw [(r1 s (List.mem_of_getElem? hs)).len,r2 t (List.mem_of_getElem? ht)];exact Nat.le_refl _
 ·rw [(r1 s hs).len];exact hnh
 ·have:=(r1 s hs).big x hx;omega
theorem zIf {nb nh h:Nat} {s:PS} (ok:zEK nb nh h 0 s) (hh:h<nh):∀ i,i≤nb→zEK nb nh h i (stepsP h i s)
 | 0,_=>ok
 | i+1,hi=>(zIf ok hh i (by omega)).step (by omega) hh
theorem zJP {nb nh:Nat} {s:PS} (ok:zEK nb nh 0 0 s):∀ h,h≤nh→zEK nb nh h 0 (zDD nb h s)
 | 0,_=>ok
 | h+1,hh=>(zIf (zJP ok h (by omega)) (by omega) nb (Nat.le_refl _)).next
end Go.Proofs.YtdigopgncfhiaaaGreatDoor
namespace Go.Proofs.YtdigopgncfhiaaaGreatDoor
variable {ro : Option Nat}
open Go.RowKit
open Go.ChangeMaps (setBlock)
set_option linter.unusedSectionVars false
def zAb {α β:Type} [DecidableEq α] (f:α→β) (a:α) (b:β):α→β:=fun x=>if x=a then b else f x
theorem zGK {α β:Type} [DecidableEq α] {f:α→β} {a:α} {b c:β}:zAb (zAb f a b) a c=zAb f a c:=by
 funext x;by_cases h:x=a<;>simp [zAb,h]
structure zGd (P:Program) (T:TypeId) {K:Type} [DecidableEq K] (kv:K→Value):Prop where
 chk:∀ e k w,(Instr.checkKey e 10000 T (kv k)).run P w = .ok () w
 eq:∀ k k' w,(Op.equal T (kv k) (kv k')).run P w = .ok (decide (k=k')) w
 und:∃ d,P.underlying T=some d∧∀ k v,Instr.sameNow d (kv k) v=none
 bits:∀ k,Instr.sameBits 10000 (kv k) (kv k)=true
section
variable {K V:Type} [DecidableEq K] {kv:K→Value} {vv:V→Value}
def zBC (kv:K→Value) (vv:V→Value) (x:K × V × Nat):MapEntry:=⟨kv x.1,vv x.2.1,x.2.2⟩
def look : List (K × V × Nat)→K→Option V
 | [],_=>none
 | x::r,k=>if k=x.1 then some x.2.1 else look r k
def findA : List (K × V × Nat)→K→Nat→Option (Nat × V)
 | [],_,_=>none
 | x::r,k,i=>if k=x.1 then some (i,x.2.1) else findA r k (i+1)
structure MOk (l:List (K × V × Nat)) (c:Nat):Prop where
 keys:(l.map (·.1)).Nodup
 born:(l.map (·.2.2)).Nodup
 lt:∀ x∈l,x.2.2<c
theorem zDg {k:K}:∀ {l:List (K × V × Nat)} (i:Nat),look l k=none→findA l k i=none∧∀ x∈l,x.1≠k
 | [],_,_=>⟨rfl,by simp⟩
 | x::r,i,h=>by
  simp only [look] at h
  by_cases e:k=x.1
  ·rw [if_pos e] at h;cases h
  ·rw [if_neg e] at h
   obtain ⟨h1,h2⟩:=zDg (l:=r) (i+1) h
   simp only [findA]
   rw [if_neg e]
   refine ⟨h1,fun y hy=>?_⟩
   rcases List.mem_cons.1 hy with rfl|hy
   ·exact fun h=>e h.symm
   ·exact h2 y hy
theorem zDB {k:K} {v:V}:∀ {l:List (K × V × Nat)} (i:Nat),look l k=some v→∃ j b,findA l k i=some (i+j,v)∧l[j]?=some (k,v,b)
 | [],_,h=>by cases h
 | x::r,i,h=>by
  simp only [look] at h
  simp only [findA]
  by_cases e:k=x.1
  ·rw [if_pos e] at h ⊢
   simp only [Option.some.injEq] at h
   subst h
   subst e
   exact ⟨0,x.2.2,rfl,rfl⟩
  ·rw [if_neg e] at h ⊢
   obtain ⟨j,b,h1,h2⟩:=zDB (l:=r) (i+1) h
   exact ⟨j+1,b,by rw [h1];congr 2;omega,by simpa using h2⟩
theorem look_mem {k:K} {v:V} {b:Nat} {l:List (K × V × Nat)} (hk:(l.map (·.1)).Nodup) (h:(k,v,b)∈l):look l k=some v:=by
 induction l with
 | nil=>cases h
 | cons x r ih =>
  simp only [look]
  rw [List.map_cons,List.nodup_cons] at hk
  rcases List.mem_cons.1 h with rfl|h
  ·simp
  ·rw [if_neg]
   ·exact ih hk.2 h
   ·rintro rfl
    exact hk.1 (List.mem_map.2 ⟨_,h,rfl⟩)
theorem zFT {k:K} {v:V} {c:Nat}:∀ {l:List (K × V × Nat)},look l k=none→look (l++[(k,v,c)])=zAb (look l) k (some v)
 | [],_=>by funext x;simp [look,zAb]
 | y::r,h=>by
  simp only [look] at h
  by_cases e:k=y.1
  ·rw [if_pos e] at h;cases h
  ·rw [if_neg e] at h
   have ih:=zFT (l:=r) (v:=v) (c:=c) h
   funext x
   have:=congrFun ih x
   simp only [List.cons_append,look,zAb] at this ⊢
   rw [this]
   by_cases h1:x=y.1
   ·rw [if_pos h1,if_neg (fun h2=>e (h2.symm.trans h1)),if_pos h1]
   ·rw [if_neg h1,if_neg h1]
theorem zI6 {k:K} {v v':V} {b:Nat}:∀ {l:List (K × V × Nat)} {j:Nat},(l.map (·.1)).Nodup→l[j]?=some (k,v,b)→look (l.set j (k,v',b))=zAb (look l) k (some v')
 | [],j,_,h=>by simp at h
 | y::r,0,hn,h=>by
  simp at h
  subst h
  funext x
  simp only [List.set_cons_zero,look,zAb]
  by_cases h1:x=k<;>simp [h1]
 | y::r,j+1,hn,h=>by
  rw [List.map_cons,List.nodup_cons] at hn
  have h':r[j]?=some (k,v,b):=by simpa using h
  have ih:=zI6 (l:=r) (j:=j) (v':=v') hn.2 h'
  have hne:k≠y.1:=fun e=>hn.1 (List.mem_map.2 ⟨_,List.mem_of_getElem? h',e⟩)
  funext x
  have:=congrFun ih x
  simp only [List.set_cons_succ,look,zAb] at this ⊢
  rw [this]
  by_cases h1:x=y.1
  ·rw [if_pos h1,if_neg (fun h2=>hne (h2.symm.trans h1)),if_pos h1]
  ·rw [if_neg h1,if_neg h1]
theorem zI7 {k:K} {v:V} {b:Nat}:∀ {l:List (K × V × Nat)} {j:Nat},(l.map (·.1)).Nodup→l[j]?=some (k,v,b)→look (l.eraseIdx j)=zAb (look l) k none
 | [],j,_,h=>by simp at h
 | y::r,0,hn,h=>by
  simp at h
  subst h
  rw [List.map_cons,List.nodup_cons] at hn
  funext x
  simp only [List.eraseIdx_cons_zero,look,zAb]
  by_cases h1:x=k
  ·subst h1
   rw [if_pos rfl]
   cases hl:look r x with
   | none=>rfl
   | some u =>
    obtain ⟨i,c,_,h3⟩:=zDB 0 hl
    exact absurd (List.mem_map.2 ⟨_,List.mem_of_getElem? h3,rfl⟩) hn.1
  ·rw [if_neg h1,if_neg h1]
 | y::r,j+1,hn,h=>by
  rw [List.map_cons,List.nodup_cons] at hn
  have h':r[j]?=some (k,v,b):=by simpa using h
  have ih:=zI7 (l:=r) (j:=j) hn.2 h'
  have hne:k≠y.1:=fun e=>hn.1 (List.mem_map.2 ⟨_,List.mem_of_getElem? h',e⟩)
  funext x
  have:=congrFun ih x
  simp only [List.eraseIdx_cons_succ,look,zAb] at this ⊢
  rw [this]
  by_cases h1:x=y.1
  ·rw [if_pos h1,if_neg (fun h2=>hne (h2.symm.trans h1)),if_pos h1]
  ·rw [if_neg h1,if_neg h1]
theorem zMQ : look ([]:List (K × V × Nat))=fun _=>none:=by funext x;rfl
theorem MOk.nil (c:Nat):MOk ([]:List (K × V × Nat)) c:=⟨by simp,by simp,by simp⟩
theorem MOk.push {l:List (K × V × Nat)} {c:Nat} {k:K} {v:V} (h:MOk l c) (hk:look l k=none):MOk (l++[(k,v,c)]) (c+1):=by
 refine ⟨?_,?_,?_⟩
 ·rw [List.map_append,List.nodup_append]
  refine ⟨h.keys,by simp,?_⟩
  intro a ha b hb e
  subst e
  simp at hb
  subst hb
  obtain ⟨x,hx,rfl⟩:=List.mem_map.1 ha
  exact (zDg 0 hk).2 x hx rfl
 ·rw [List.map_append,List.nodup_append]
  refine ⟨h.born,by simp,?_⟩
  intro a ha b hb e
  subst e
  simp at hb
  subst hb
  obtain ⟨x,hx,e⟩:=List.mem_map.1 ha
  have:=h.lt x hx
  omega
 ·intro x hx
  rcases List.mem_append.1 hx with hx|hx
  ·have:=h.lt x hx;omega
  ·simp at hx;subst hx;simp
theorem zGV {α β:Type} {f:α→β}:∀ {l:List α} {j:Nat} {x y:α},l[j]?=some x→f x=f y→(l.set j y).map f=l.map f
 | [],_,_,_,h,_=>by simp at h
 | a::r,0,x,y,h,e=>by simp at h;subst h;simp [e]
 | a::r,j+1,x,y,h,e=>by
  have h':r[j]?=some x:=by simpa using h
  simp [zGV h' e]
theorem MOk.set {l:List (K × V × Nat)} {c j:Nat} {k:K} {v v':V} {b:Nat} (h:MOk l c) (hj:l[j]?=some (k,v,b)):MOk (l.set j (k,v',b)) c:=by
 refine ⟨?_,?_,?_⟩
 ·rw [zGV (y:=(k,v',b)) hj rfl];exact h.keys
 ·rw [zGV (y:=(k,v',b)) hj rfl];exact h.born
 ·intro x hx
  rcases List.mem_or_eq_of_mem_set hx with hx|rfl
  ·exact h.lt x hx
  ·exact h.lt (k,v,b) (List.mem_of_getElem? hj)
theorem MOk.erase {l:List (K × V × Nat)} {c j:Nat} (h:MOk l c):MOk (l.eraseIdx j) c:=by
 have hs:(l.eraseIdx j).Sublist l:=List.eraseIdx_sublist _ _
 exact ⟨h.keys.sublist (hs.map _),h.born.sublist (hs.map _),fun x hx=>h.lt x (hs.subset hx)⟩
theorem zEy {α:Type} {f:α→α} {a b:α}:∀ {l:List α} {j:Nat},l[j]?=some a→f a=b→l.modify j f=l.set j b
 | [],_,h,_=>by simp at h
 | x::r,0,h,e=>by simp at h;subst h;simp [e]
 | x::r,j+1,h,e=>by
  have h':r[j]?=some a:=by simpa using h
  simp [zEy h' e]
theorem zKR {α β:Type} (f:α→β):∀ (l:List α) (j:Nat),(l.map f).eraseIdx j=(l.eraseIdx j).map f
 | [],_=>rfl
 | _::_,0=>rfl
 | a::r,j+1=>by simp [zKR f r j]
theorem zNi {l:List (K × V × Nat)} {j:Nat} (hj:j<l.length):(l.map (zBC kv vv)).toArray.eraseIdxIfInBounds j=((l.eraseIdx j).map (zBC kv vv)).toArray:=by
 apply Array.ext'
 rw [Array.toList_eraseIdxIfInBounds]
 simp [zKR]
theorem zKG {P:Program} {T:TypeId} (hT:zGd P T kv) (k:K) (w:World):∀ (l:List (K × V × Nat)) (i:Nat),(Instr.findAsking T (kv k) (l.map (zBC kv vv)) i).run P w = .ok ((findA l k i).map fun p=>(p.1,vv p.2)) w
 | [],i=>by simp [Instr.findAsking,findA]
 | x::r,i=>by
  have h1:=hT.eq k x.1 w
  have ih:=zKG hT k w r (i+1)
  simp only [List.map_cons,Instr.findAsking,findA,Sem.run_bind,zBC]
  rw [h1]
  simp only [Result.andThen_ok]
  by_cases e:k=x.1
  ·simp [e]
  ·simp only [e,decide_false,Bool.false_eq_true,if_false]
   exact ih
theorem zFi {P:Program} {T:TypeId} (hT:zGd P T kv) (k:K) (w:World) (l:List (K × V × Nat)):(Instr.findKey T (kv k) (l.map (zBC kv vv))).run P w = .ok ((findA l k 0).map fun p=>(p.1,vv p.2)) w:=by
 obtain ⟨d,hd,hs⟩:=hT.und
 have e1:=run_underlying hd w
 simp only [Instr.findKey,Sem.run_bind,e1,Result.andThen_ok]
 cases l with
 | nil=>simp [Instr.findNow,findA]
 | cons x r =>
  have:Instr.findNow d (kv k) ((x::r).map (zBC kv vv)) 0=none:=by
   simp only [List.map_cons,Instr.findNow,hs]
  rw [this]
  exact zKG hT k w (x::r) 0
theorem zKC {P:Program} {T:TypeId} (hT:zGd P T kv) (k:K) (w:World):(Instr.keyThatStays (kv k) (kv k)).run P w = .ok (kv k) w:=by
 simp [Instr.keyThatStays,hT.bits k]
end
def Ent.ml {K V:Type} (m:Nat) (kv:K→Value) (vv:V→Value) (l:List (K × V × Nat)) (c:Nat):Ent:=⟨(· = m),fun w=>w.heap[m]?=some (.map (l.map (zBC kv vv)).toArray c),fun _ _ _ h hp=>(h m rfl).trans hp⟩
def Ent.fm {K V:Type} [DecidableEq K] (m:Nat) (kv:K→Value) (vv:V→Value) (f:K→Option V):Ent:=⟨(· = m),fun w=>∃ l c,w.heap[m]?=some (.map (l.map (zBC kv vv)).toArray c)∧MOk l c∧look l=f,fun w w' _ h hp=>by
 obtain ⟨l,c,hp,h1,h2⟩:=hp
 exact ⟨l,c,(h m rfl).trans hp,h1,h2⟩⟩
def Ent.fms {K V:Type} [DecidableEq K] (m:Nat) (kv:K→Value) (vv:V→Value) (f:K→Option V) (k:K) (s:Nat):Ent:=⟨(· = m),fun w=>∃ l c v,w.heap[m]?=some (.map (l.map (zBC kv vv)).toArray c)∧MOk l c∧look l=f∧(k,v,s)∈l,fun w w' _ h hp=>by
 obtain ⟨l,c,v,hp,h1,h2⟩:=hp
 exact ⟨l,c,v,(h m rfl).trans hp,h1,h2⟩⟩
theorem fms_fm {K V:Type} [DecidableEq K] {m:Nat} {kv:K→Value} {vv:V→Value} {f:K→Option V} {k:K} {s:Nat} {w:World}:(Ent.fms m kv vv f k s).p w→(Ent.fm m kv vv f).p w:=fun ⟨l,c,v,h1,h2,h3,_⟩=>⟨l,c,h1,h2,h3⟩
class MapR (H:List Ent) (m:Nat) {K V:Type} [DecidableEq K] (kv:outParam (K→Value)) (vv:outParam (V→Value)) (f:outParam (K→Option V)):Prop where
 rd:∀ base w,Own base w H→∃ l c,w.heap[m]?=some (.map (l.map (zBC kv vv)).toArray c)∧MOk l c∧look l=f
instance mapR_fm {H:List Ent} {m:Nat} {K V:Type} [DecidableEq K] {kv:K→Value} {vv:V→Value} {f:K→Option V}:MapR (.fm m kv vv f::H) m kv vv f:=⟨fun _ _ ho=>ho.here (.fm m kv vv f) (by simp)⟩
instance mapR_fms {H:List Ent} {m:Nat} {K V:Type} [DecidableEq K] {kv:K→Value} {vv:V→Value} {f:K→Option V} {k:K} {s:Nat}:MapR (.fms m kv vv f k s::H) m kv vv f:=⟨fun _ _ ho=>fms_fm (ho.here (.fms m kv vv f k s) (by simp))⟩
instance (priority := low) mapR_there {e:Ent} {H:List Ent} {m:Nat} {K V:Type} [DecidableEq K] {kv:K→Value} {vv:V→Value} {f:K→Option V} [i:MapR H m kv vv f]:MapR (e::H) m kv vv f:=⟨fun b w ho=>i.rd b w ho.tail⟩
section
variable {P : Program} {w0:World} {n:Nat} {d:List Deferred} {R:List (Nat × Value)} {H H' H1 H2:List Ent} {Q:Exit→Act→World→Prop} {ops:Array Oper} {rest:List Oper} {o:Oper} {t:Tmp} {x y z:Operand} {v:Value} {X:Act→World→Prop}
variable {K V:Type} [DecidableEq K] {kv:K→Value} {vv:V→Value} {f:K→Option V}
theorem zGQ {base m c':Nat} {w:World} {e e':Ent} {es':Array MapEntry} (h:Own base w (e::H')) (he:e.S=(· = m)) (he':e'.S=(· = m)) (hB:base≤w.heap.size) (hp:e'.p (setBlock w m (.map es' c'))):Own base (setBlock w m (.map es' c')) (e'::H'):=by
 have hf:=h.foot e (by simp) m (by rw [he])
 refine h.turn (by simp [setBlock]) (fun b hb hn=>?_) hB hp (fun b hb=>?_)
 ·rw [he] at hn
  have hne:m≠b:=fun e=>hn e.symm
  simp only [setBlock];rw [Array.getElem?_setIfInBounds_ne hne]
 ·rw [he'] at hb;rw [he];cases hb;exact ⟨.inl rfl,by simp [setBlock,hf.2]⟩
theorem zFW {w:World} {m c':Nat} {es':Array MapEntry} {base:Nat} {e:Ent} (h:Own base w (e::H')) (he:e.S=(· = m)):(setBlock w m (.map es' c')).heap[m]?=some (.map es' c'):=by
 have hf:=h.foot e (by simp) m (by rw [he])
 simp [setBlock,hf.2]
theorem zIY (K V:Type) [DecidableEq K] (kv:K→Value) (vv:V→Value) {T1:TypeId} (hop:o.op = .makeMap T1 none) (hw:want R ops o=some true) (hd:o.dst=some t) (ht:Nat.blt t n=true) (h:∀ m,U w0 n d ((t,.map (some m))::R) (.fm m kv vv (fun _=>none)::H) (wpL ro P ops Q rest)):U w0 n d R H (wpL ro P ops Q (o::rest)) :=
 zD2 hw fun a w q K' hK=>by
  unfold Oper.wp execOp;rw [hop]
  have hrun:(Instr.makeMap T1 none).run P w = .ok (.map (some w.heap.size)) (w.alloc (.map #[] 0)):=rfl
  simp only [Option.map_none,Sem.run_bind,hrun,Result.andThen_ok,Sem.run_pure,Oper.upon_value,hd]
  refine hK _ _ (h w.heap.size _ _ ((q.call (E:=[.fm w.heap.size kv vv (fun _=>none)]) (zAB w _) ⟨fun e he=>?_,fun e he b hb=>?_,by simp⟩).put ht))
  ·simp only [List.mem_singleton] at he;subst he
   exact ⟨[],0,heap_alloc_new w _,MOk.nil 0,zMQ⟩
  ·simp only [List.mem_singleton] at he;subst he;cases hb;simp
theorem zKF {T1 kt et:TypeId} {s m c:Nat} {g:Bool} {zv:V} {l:List (K × V × Nat)} {w:World} (co:Bool) (k:K) [i1:TyI P T1 (.map kt et) s g] (hT:zGd P kt kv) (hz:∀ w,(zeroValue et).run P w = .ok (vv zv) w) (hb:w.heap[m]?=some (.map (l.map (zBC kv vv)).toArray c)) :
  (Instr.lookup T1 (.map (some m)) (kv k) co).run P w = .ok (if co then .tuple #[vv ((look l k).getD zv),.bool (look l k).isSome] else vv ((look l k).getD zv)) w:=by
 have e1:=run_underlying i1.und w
 have e2:=fun e=>hT.chk e k w
 have e3:=zFi (vv:=vv) hT k w l
 cases hl:look l k with
 | none =>
  rw [(zDg 0 hl).1] at e3
  cases co<;>simp [Instr.lookup,Sem.run_bind,e1,getObj,Sem.run,hb,e2,e3,hz]
 | some u =>
  obtain ⟨j,b,h1,_⟩:=zDB 0 hl
  rw [h1] at e3
  cases co<;>simp [Instr.lookup,Sem.run_bind,e1,getObj,Sem.run,hb,e2,e3,hz]
theorem zB1 {T1 kt et:TypeId} {s m:Nat} {g:Bool} {zv:V} (k:K) (u:V) (hop:o.op = .lookup T1 x y false) [i1:TyI P T1 (.map kt et) s g] (hT:zGd P kt kv) (hz:∀ w,(zeroValue et).run P w = .ok (vv zv) w) (hx:evR R x=some (.map (some m))) (hy:evR R y=some (kv k)) [im:MapR H m kv vv f] (hv:(f k).getD zv=u):Ev P w0 n d R H o (vv u):=fun a w q=>by
 obtain ⟨l,c,hb,hl,rfl⟩:=im.rd _ _ q.own
 have:=zKF (P:=P) (T1:=T1) (kt:=kt) (et:=et) (s:=s) (g:=g) (zv:=zv) false k hT hz hb
 unfold execOp;rw [hop]
 simp only [Sem.run_bind,q.ev hx,q.ev hy,this,Result.andThen_ok,Sem.run_pure,hv,Bool.false_eq_true,if_false]
theorem zMh {T1 kt et:TypeId} {s m:Nat} {g:Bool} {zv:V} (k:K) (u:V) (bb:Bool) (hop:o.op = .lookup T1 x y true) [i1:TyI P T1 (.map kt et) s g] (hT:zGd P kt kv) (hz:∀ w,(zeroValue et).run P w = .ok (vv zv) w) (hx:evR R x=some (.map (some m))) (hy:evR R y=some (kv k)) [im:MapR H m kv vv f] (hv:(f k).getD zv=u) (hb':(f k).isSome=bb):Ev P w0 n d R H o (.tuple #[vv u,.bool bb]):=fun a w q=>by
 obtain ⟨l,c,hb,hl,rfl⟩:=im.rd _ _ q.own
 have:=zKF (P:=P) (T1:=T1) (kt:=kt) (et:=et) (s:=s) (g:=g) (zv:=zv) true k hT hz hb
 rw [hv,hb'] at this
 unfold execOp;rw [hop]
 simp only [Sem.run_bind,q.ev hx,q.ev hy,this,Result.andThen_ok,Sem.run_pure,if_true]
theorem run_setM {T1 kt et:TypeId} {s m c:Nat} {g:Bool} {l:List (K × V × Nat)} {w:World} (k:K) (v:V) [i1:TyI P T1 (.map kt et) s g] (hT:zGd P kt kv) (hb:w.heap[m]?=some (.map (l.map (zBC kv vv)).toArray c)) (hl:MOk l c) :
  ∃ l' c',(Instr.mapUpdate T1 (.map (some m)) (kv k) (vv v)).run P w = .ok () (setBlock w m (.map (l'.map (zBC kv vv)).toArray c'))∧MOk l' c'∧look l'=zAb (look l) k (some v):=by
 have e1:=run_underlying i1.und w
 have e2:=fun e=>hT.chk e k w
 have e3:=zFi (vv:=vv) hT k w l
 cases hk:look l k with
 | none =>
  rw [(zDg 0 hk).1] at e3
  refine ⟨l++[(k,v,c)],c+1,?_,hl.push hk,zFT hk⟩
  simp [Instr.mapUpdate,Sem.run_bind,e1,getObj,Sem.run,hb,e2,e3,setObj,setBlock,zBC]
 | some u =>
  obtain ⟨j,b,h1,h2⟩:=zDB 0 hk
  rw [h1] at e3
  have e4:=zKC hT k w
  have hlt:j<l.length:=(List.getElem?_eq_some_iff.1 h2).1
  refine ⟨l.set j (k,v,b),c,?_,hl.set h2,zI6 hl.keys h2⟩
  have e7:l[j]=(k,u,b):=by rw [List.getElem?_eq_getElem hlt] at h2;exact Option.some.inj h2
  have e8:(Instr.keyThatStays (zBC kv vv (k,u,b)).key (kv k)).run P w = .ok (kv k) w:=e4
  have e9:∀ f:MapEntry→MapEntry,f (zBC kv vv (k,u,b))=zBC kv vv (k,v,b)→(l.map (zBC kv vv)).modify j f=(l.map (zBC kv vv)).set j (zBC kv vv (k,v,b)):=fun f hf=>zEy (by simp [h2]) hf
  simp only [Nat.zero_add] at e3
  simp [Instr.mapUpdate,Sem.run_bind,e1,getObj,Sem.run,hb,e2,e3,setObj,setBlock,e7,h2,hlt,e4]
  rw [e8]
  simp only [Result.andThen_ok,hb]
  rw [e9 _ rfl]
theorem zLv {T1 kt et:TypeId} {s m c:Nat} {g:Bool} {zv:V} {l:List (K × V × Nat)} {w:World} (k:K) [i1:TyI P T1 (.map kt et) s g] (hT:zGd P kt kv) (hz:∀ w,(zeroValue et).run P w = .ok (vv zv) w) (hb:w.heap[m]?=some (.map (l.map (zBC kv vv)).toArray c)) (hl:MOk l c) :
  ∃ l' c' v0 s,(Instr.mapEntry T1 (.map (some m)) (kv k)).run P w = .ok (.tuple #[vv v0,.int .i64 (s:Nat)]) (setBlock w m (.map (l'.map (zBC kv vv)).toArray c'))∧MOk l' c'∧look l'=zAb (look l) k (some ((look l k).getD zv))∧(k,v0,s)∈l'∧v0=(look l k).getD zv:=by
 have e1:=run_underlying i1.und w
 have e2:=fun e=>hT.chk e k w
 have e3:=zFi (vv:=vv) hT k w l
 cases hk:look l k with
 | none =>
  rw [(zDg 0 hk).1] at e3
  refine ⟨l++[(k,zv,c)],c+1,zv,c,?_,hl.push hk,zFT hk,by simp,rfl⟩
  simp [Instr.mapEntry,Sem.run_bind,e1,getObj,Sem.run,hb,e2,e3,hz,setObj,setBlock,zBC,goInt]
 | some u =>
  obtain ⟨j,b,h1,h2⟩:=zDB 0 hk
  rw [h1] at e3
  have e4:=zKC hT k w
  obtain ⟨hlt,e7⟩:=List.getElem?_eq_some_iff.1 h2
  refine ⟨l,c,u,b,?_,hl,?_,List.mem_of_getElem? h2,rfl⟩
  ·have e8:(Instr.keyThatStays (zBC kv vv (k,u,b)).key (kv k)).run P w = .ok (kv k) w:=e4
   have e9:∀ f:MapEntry→MapEntry,f (zBC kv vv (k,u,b))=zBC kv vv (k,u,b)→(l.map (zBC kv vv)).modify j f=l.map (zBC kv vv):=fun f hf=>by
    rw [zEy (b:=zBC kv vv (k,u,b)) (by simp [h2]) hf]
    apply List.ext_getElem?
    intro i
    rw [List.getElem?_set]
    split
    ·rename_i e;subst e;simp [hlt,e7]
    ·rfl
   simp only [Nat.zero_add] at e3
   simp [Instr.mapEntry,Sem.run_bind,e1,getObj,Sem.run,hb,e2,e3,setObj,setBlock,e7,h2,hlt,e4,goInt]
   rw [e8]
   simp only [Result.andThen_ok,hb]
   rw [e9 _ rfl]
   rfl
  ·funext x
   simp only [zAb,Option.getD_some]
   split
   ·rename_i e;rw [e,hk]
   ·rfl
theorem zLr {T1:TypeId} {m c s:Nat} {l:List (K × V × Nat)} {w:World} {k:K} {v0:V} (v:V) (hb:w.heap[m]?=some (.map (l.map (zBC kv vv)).toArray c)) (hl:MOk l c) (hm:(k,v0,s)∈l) :
  ∃ l',(Instr.entryStore T1 (.map (some m)) (.int .i64 (s:Nat)) (vv v)).run P w = .ok () (setBlock w m (.map (l'.map (zBC kv vv)).toArray c))∧MOk l' c∧look l'=zAb (look l) k (some v):=by
 obtain ⟨j,hj,e⟩:=List.getElem_of_mem hm
 have h2:l[j]?=some (k,v0,s):=by rw [List.getElem?_eq_getElem hj,e]
 refine ⟨l.set j (k,v,s),?_,hl.set h2,zI6 hl.keys h2⟩
 have hf:(l.map (zBC kv vv)).findIdx? (fun e=>(e.born:Int) == (s:Int))=some j:=by
  rw [List.findIdx?_eq_some_iff_getElem]
  refine ⟨by simpa using hj,by simp [e,zBC],fun i hi=>?_⟩
  simp only [List.getElem_map,zBC]
  intro he
  have he:l[i].2.2=s:=by have:=eq_of_beq he;omega
  have:=hl.born
  unfold List.Nodup at this
  rw [List.pairwise_iff_getElem] at this
  have:=this i j (by simp;omega) (by simpa using hj) hi
  simp only [List.getElem_map] at this
  exact this (by rw [he,e])
 have e9:∀ f:MapEntry→MapEntry,f (zBC kv vv (k,v0,s))=zBC kv vv (k,v,s)→(l.map (zBC kv vv)).modify j f=(l.map (zBC kv vv)).set j (zBC kv vv (k,v,s)):=fun f hf=>zEy (by simp [h2]) hf
 have ha:(asInt (.int .i64 (s:Int))).run P w = .ok (s:Int) w:=rfl
 have hf':List.findIdx? ((fun e:MapEntry=>(e.born:Int) == (s:Int)) ∘ zBC kv vv) l=some j:=by
  rw [← List.findIdx?_map];exact hf
 simp only [Instr.entryStore,Sem.run_bind,getObj,Sem.run,hb,Result.andThen,ha]
 simp [hf',setObj,Sem.run,hb,setBlock]
 rw [e9 _ rfl]
theorem run_delM {T1 T2 kt et:TypeId} {s m c:Nat} {g:Bool} {l:List (K × V × Nat)} {w:World} {ty:TypeId} (k:K) [i1:TyI P T1 (.map kt et) s g] (hT:zGd P kt kv) (hb:w.heap[m]?=some (.map (l.map (zBC kv vv)).toArray c)) (hl:MOk l c) :
  ∃ l',(Builtin.delete_ #[T1,T2] ty #[.map (some m),kv k]).run P w = .ok (.tuple #[]) (setBlock w m (.map (l'.map (zBC kv vv)).toArray c))∧MOk l' c∧look l'=zAb (look l) k none:=by
 have e1:=run_underlying i1.und w
 have e2:=fun e=>hT.chk e k w
 have e3:=zFi (vv:=vv) hT k w l
 cases hk:look l k with
 | none =>
  rw [(zDg 0 hk).1] at e3
  refine ⟨l,?_,hl,?_⟩
  ·simp [Builtin.delete_,Sem.run_bind,e1,getObj,Sem.run,hb,e2,e3,setObj,setBlock]
  ·funext x
   simp only [zAb]
   split
   ·rename_i e;rw [e,hk]
   ·rfl
 | some u =>
  obtain ⟨j,b,h1,h2⟩:=zDB 0 hk
  rw [h1] at e3
  obtain ⟨hlt,e7⟩:=List.getElem?_eq_some_iff.1 h2
  refine ⟨l.eraseIdx j,?_,hl.erase,zI7 hl.keys h2⟩
  have e5:=zNi (kv:=kv) (vv:=vv) hlt
  simp only [Nat.zero_add] at e3
  simp [Builtin.delete_,Sem.run_bind,e1,getObj,Sem.run,hb,e2,e3,setObj,setBlock]
  rw [← e5]
  simp
theorem run_clrM {T1 kt et:TypeId} {s m c:Nat} {g:Bool} {w:World} {ty:TypeId} {es:Array MapEntry} [i1:TyI P T1 (.map kt et) s g] (hb:w.heap[m]?=some (.map es c)) :
  (Builtin.clear_ #[T1] ty #[.map (some m)]).run P w = .ok (.tuple #[]) (setBlock w m (.map #[] c)):=by
 have e1:=run_underlying i1.und w
 simp [Builtin.clear_,Sem.run_bind,e1,getObj,Sem.run,hb,setObj,setBlock]
theorem zIz {base m c':Nat} {w:World} {e:Ent} {l':List (K × V × Nat)} (h:Own base w (e::H')) (he:e.S=(· = m)) (hB:base≤w.heap.size) (h1:MOk l' c') (h2:look l'=f):Own base (setBlock w m (.map (l'.map (zBC kv vv)).toArray c')) (.fm m kv vv f::H') :=
 zGQ h he rfl hB ⟨l',c',zFW h he,h1,h2⟩
theorem zGh {T1 kt et:TypeId} {s m:Nat} {g:Bool} (k:K) (u:V) (hop:o.op = .mapUpdate T1 x y z) [i1:TyI P T1 (.map kt et) s g] (hT:zGd P kt kv) (hw:want R ops o=some true) (hd:o.dst=none) (hx:evR R x=some (.map (some m))) (hy:evR R y=some (kv k)) (hz:evR R z=some (vv u)) (ht:Take H (.fm m kv vv f) H')
  (h:U w0 n d R (.fm m kv vv (zAb f k (some u))::H') (wpL ro P ops Q rest)):U w0 n d R H (wpL ro P ops Q (o::rest)) :=
 zD2 hw fun a w q K' hK=>by
  have ho:=q.own.take ht
  obtain ⟨l,c,hb,hl,rfl⟩:=ho.here (.fm m kv vv f) (by simp)
  have hf:=ho.foot (.fm m kv vv (look l)) (by simp) m rfl
  obtain ⟨l',c',hrun,h1,h2⟩:=run_setM (P:=P) (T1:=T1) (et:=et) (s:=s) (g:=g) k u hT hb hl
  unfold Oper.wp execOp;rw [hop]
  simp only [Sem.run_bind,q.ev hx,q.ev hy,q.ev hz,hrun,Result.andThen_ok,Sem.run_pure,Oper.upon_skip,hd]
  exact hK _ _ (h _ _ (q.heap (q.below.trans (zCE hf.1)) (zIz ho rfl q.base h1 h2)))
theorem zFe {T1 kt et:TypeId} {s m:Nat} {g:Bool} {zv:V} (k:K) (hop:o.op = .mapEntry T1 x y) [i1:TyI P T1 (.map kt et) s g] (hT:zGd P kt kv) (hz:∀ w,(zeroValue et).run P w = .ok (vv zv) w) (hw:want R ops o=some true) (hd:o.dst=some t) (hnt:Nat.blt t n=true) (hx:evR R x=some (.map (some m))) (hy:evR R y=some (kv k)) (ht:Take H (.fm m kv vv f) H')
  (h:∀ (s:Nat) u,U w0 n d ((t,.tuple #[u,.int .i64 (s:Int)])::R) (.fms m kv vv (zAb f k (some ((f k).getD zv))) k s::H') (wpL ro P ops Q rest)):U w0 n d R H (wpL ro P ops Q (o::rest)) :=
 zD2 hw fun a w q K' hK=>by
  have ho:=q.own.take ht
  obtain ⟨l,c,hb,hl,rfl⟩:=ho.here (.fm m kv vv f) (by simp)
  have hf:=ho.foot (.fm m kv vv (look l)) (by simp) m rfl
  obtain ⟨l',c',v0,s',hrun,h1,h2,h3,_⟩:=zLv (P:=P) (T1:=T1) (et:=et) (s:=s) (g:=g) k hT hz hb hl
  unfold Oper.wp execOp;rw [hop]
  simp only [Sem.run_bind,q.ev hx,q.ev hy,hrun,Result.andThen_ok,Sem.run_pure,Oper.upon_value,hd]
  exact hK _ _ (h s' (vv v0) _ _ ((q.heap (q.below.trans (zCE hf.1)) (zGQ (e':=.fms m kv vv (zAb (look l) k (some ((look l k).getD zv))) k s') ho rfl rfl q.base ⟨l',c',v0,zFW ho rfl,h1,h2,h3⟩)).put hnt))
theorem zN3 {T1:TypeId} {m s:Nat} {k:K} (u:V) (hop:o.op = .entryStore T1 x y z) (hw:want R ops o=some true) (hd:o.dst=none) (hx:evR R x=some (.map (some m))) (hy:evR R y=some (.int .i64 (s:Int))) (hz:evR R z=some (vv u)) (ht:Take H (.fms m kv vv f k s) H')
  (h:U w0 n d R (.fm m kv vv (zAb f k (some u))::H') (wpL ro P ops Q rest)):U w0 n d R H (wpL ro P ops Q (o::rest)) :=
 zD2 hw fun a w q K' hK=>by
  have ho:=q.own.take ht
  obtain ⟨l,c,v0,hb,hl,rfl,hm⟩:=ho.here (.fms m kv vv f k s) (by simp)
  have hf:=ho.foot (.fms m kv vv (look l) k s) (by simp) m rfl
  obtain ⟨l',hrun,h1,h2⟩:=zLr (P:=P) (T1:=T1) u hb hl hm
  unfold Oper.wp execOp;rw [hop]
  simp only [Sem.run_bind,q.ev hx,q.ev hy,q.ev hz,hrun,Result.andThen_ok,Sem.run_pure,Oper.upon_skip,hd]
  exact hK _ _ (h _ _ (q.heap (q.below.trans (zCE hf.1)) (zIz ho rfl q.base h1 h2)))
theorem u_fmDel {T1 T2 kt et:TypeId} {s m:Nat} {g:Bool} (k:K) (hop:o.op = .call { callee:=.builtin .delete,args:=#[x,y],argTypes:=#[T1,T2] }) [i1:TyI P T1 (.map kt et) s g] (hT:zGd P kt kv) (hw:want R ops o=some true) (hd:o.dst=none) (hx:evR R x=some (.map (some m))) (hy:evR R y=some (kv k)) (ht:Take H (.fm m kv vv f) H')
  (h:U w0 n d R (.fm m kv vv (zAb f k none)::H') (wpL ro P ops Q rest)):U w0 n d R H (wpL ro P ops Q (o::rest)) :=
 zD2 hw fun a w q K' hK=>by
  have ho:=q.own.take ht
  obtain ⟨l,c,hb,hl,rfl⟩:=ho.here (.fm m kv vv f) (by simp)
  have hf:=ho.foot (.fm m kv vv (look l)) (by simp) m rfl
  obtain ⟨l',hrun,h1,h2⟩:=run_delM (P:=P) (T1:=T1) (T2:=T2) (et:=et) (s:=s) (g:=g) (ty:=o.type) k hT hb hl
  unfold Oper.wp execOp
  simp only [hop,resolve,invoke,builtin,Sem.run_bind,Sem.run_pure,Result.andThen_ok,List.map_toArray,List.map_cons,List.map_nil,q.ev hx,q.ev hy,hrun,Oper.upon_value,hd]
  exact hK _ _ (h _ _ (q.heap (q.below.trans (zCE hf.1)) (zIz ho rfl q.base h1 h2)))
theorem u_fmClr {T1 kt et:TypeId} {s m:Nat} {g:Bool} (hop:o.op = .call { callee:=.builtin .clear,args:=#[x],argTypes:=#[T1] }) [i1:TyI P T1 (.map kt et) s g] (hw:want R ops o=some true) (hd:o.dst=none) (hx:evR R x=some (.map (some m))) (ht:Take H (.fm m kv vv f) H')
  (h:U w0 n d R (.fm m kv vv (fun _=>none)::H') (wpL ro P ops Q rest)):U w0 n d R H (wpL ro P ops Q (o::rest)) :=
 zD2 hw fun a w q K' hK=>by
  have ho:=q.own.take ht
  obtain ⟨l,c,hb,hl,rfl⟩:=ho.here (.fm m kv vv f) (by simp)
  have hf:=ho.foot (.fm m kv vv (look l)) (by simp) m rfl
  have hrun:=run_clrM (P:=P) (T1:=T1) (kt:=kt) (et:=et) (s:=s) (g:=g) (ty:=o.type) hb
  unfold Oper.wp execOp
  simp only [hop,resolve,invoke,builtin,Sem.run_bind,Sem.run_pure,Result.andThen_ok,List.map_toArray,List.map_cons,List.map_nil,q.ev hx,hrun,Oper.upon_value,hd]
  exact hK _ _ (h _ _ (q.heap (q.below.trans (zCE hf.1)) (zIz (l':=[]) ho rfl q.base (MOk.nil c) zMQ)))
theorem u_fmOpen {m:Nat} (ht:Take H (.fm m kv vv f) H') (h:∀ l c,MOk l c→look l=f→U w0 n d R (.ml m kv vv l c::H') X):U w0 n d R H X:=fun a w q=>by
 have ho:=q.own.take ht
 obtain ⟨l,c,hb,hl,he⟩:=ho.here (.fm m kv vv f) (by simp)
 exact h l c hl he a w (q.heap q.below (ho.recast (fun _=>hb) (fun _ h=>h)))
theorem u_fmShut {m c:Nat} {l:List (K × V × Nat)} (ht:Take H (.ml m kv vv l c) H') (hl:MOk l c) (he:look l=f) (h:U w0 n d R (.fm m kv vv f::H') X):U w0 n d R H X:=fun a w q=>by
 have ho:=q.own.take ht
 exact h a w (q.heap q.below (ho.recast (e':=.fm m kv vv f) (fun hp=>⟨l,c,hp,hl,he⟩) (fun _ h=>h)))
def Ent.itl (r m c:Nat) (seen:List Nat):Ent:=⟨(· = r),fun w=>w.heap[r]?=some (.mapIter (some m) c seen.toArray c),fun _ _ _ h hp=>(h r rfl).trans hp⟩
theorem own_itl (w:World) (m c:Nat):Own w.heap.size (w.alloc (.mapIter (some m) c #[] c)) [.itl w.heap.size m c []] :=
 ⟨fun e he=>by simp only [List.mem_singleton] at he;subst he;exact heap_alloc_new w _,fun e he b hb=>by simp only [List.mem_singleton] at he;subst he;cases hb;simp,by simp⟩
theorem u_rangeM {T1 kt et:TypeId} {s m c:Nat} {g:Bool} {l:List (K × V × Nat)} (hop:o.op = .range T1 x) [i1:TyI P T1 (.map kt et) s g] (hw:want R ops o=some true) (hd:o.dst=some t) (ht:Nat.blt t n=true) (hx:evR R x=some (.map (some m))) (hm:Take H (.ml m kv vv l c) H')
  (h:∀ r,U w0 n d ((t,.pointer (some ⟨r,0,none⟩))::R) (.itl r m c []::H) (wpL ro P ops Q rest)):U w0 n d R H (wpL ro P ops Q (o::rest)) :=
 zD2 hw fun a w q K' hK=>by
  have e1:=run_underlying i1.und w
  have e2:w.heap[m]?=some (.map (l.map (zBC kv vv)).toArray c):=q.own.here _ hm.mem
  unfold Oper.wp execOp;rw [hop]
  have hrun:(Instr.range T1 (.map (some m))).run P w = .ok (.pointer (some ⟨w.heap.size,0,none⟩)) (w.alloc (.mapIter (some m) c #[] c)):=by
   simp [Instr.range,e1,getObj,Sem.run_bind,Sem.run,e2]
  simp only [Sem.run_bind,q.ev hx,hrun,Result.andThen_ok,Sem.run_pure,Oper.upon_value,hd]
  exact hK _ _ (h w.heap.size _ _ ((q.call (zAB w _) (own_itl w m c)).put ht))
theorem u_nextM {m r c:Nat} {seen:List Nat} {l:List (K × V × Nat)} (hop:o.op = .next x false) (hw:want R ops o=some true) (hd:o.dst=some t) (ht:Nat.blt t n=true) (hx:evR R x=some (.pointer (some ⟨r,0,none⟩))) (htk:Take H (.itl r m c seen) H') (hm:Take H (.ml m kv vv l c) H1) (hl:MOk l c)
  (h1:(∀ x∈l,x.2.2∈seen)→U w0 n d ((t,.tuple #[.bool false])::R) H (wpL ro P ops Q rest))
  (h2:∀ x∈l,x.2.2 ∉ seen→U w0 n d ((t,.tuple #[.bool true,kv x.1,vv x.2.1])::R) (.itl r m c (seen++[x.2.2])::H') (wpL ro P ops Q rest)):U w0 n d R H (wpL ro P ops Q (o::rest)) :=
 zD2 hw fun a w q K' hK=>by
  have e2:w.heap[m]?=some (.map (l.map (zBC kv vv)).toArray c):=q.own.here _ hm.mem
  have ho:=q.own.take htk
  have hr:w.heap[r]?=some (.mapIter (some m) c seen.toArray c):=ho.here (.itl r m c seen) (by simp)
  have hfoot:=ho.foot (.itl r m c seen) (by simp) r rfl
  have hold:∀ x∈((l.map (zBC kv vv)).toArray).toList,x.born<c:=fun x hx=>by
   simp only [List.mem_map] at hx
   obtain ⟨y,hy,rfl⟩:=hx
   exact hl.lt y hy
  unfold Oper.wp execOp;rw [hop]
  rcases run_next_at (P:=P) w o.type r m c c seen.toArray (l.map (zBC kv vv)).toArray c hr e2 hold (Nat.le_refl _) with ⟨h0,hrun⟩ | ⟨e,he,w1,hw1,hrun⟩
  ·simp only [Sem.run_bind,q.ev hx,hrun,Result.andThen_ok,Sem.run_pure,Oper.upon_value,hd]
   refine hK _ _ (h1 (fun y hy=>?_) _ _ (q.put ht))
   have h9:leftOf (l.map (zBC kv vv)).toArray seen.toArray=#[]:=Array.eq_empty_of_size_eq_zero h0
   unfold leftOf at h9
   rw [Array.filter_eq_empty_iff] at h9
   have:=h9 (zBC kv vv y) (by simp only [List.mem_toArray,List.mem_map];exact ⟨y,hy,rfl⟩)
   simpa [zBC] using this
  ·have he':e∈l.map (zBC kv vv)∧e.born ∉ seen:=by
    unfold leftOf at he
    simpa using he
   obtain ⟨y,hy,rfl⟩:=List.mem_map.1 he'.1
   simp only [Sem.run_bind,q.ev hx,hrun,Result.andThen_ok,Sem.run_pure,Oper.upon_value,hd]
   refine hK _ _ (h2 y hy he'.2 _ _ ((q.heap (q.below.trans ?_) (ho.turn ?_ ?_ q.base ?_ ?_)).put ht))
   ·rcases hw1 with rfl|rfl<;>exact ⟨rfl,rfl,rfl,by simp [setBlock],fun b hb=>by
     simp only [setBlock]
     rw [Array.getElem?_setIfInBounds_ne (by have:=hfoot.1;omega)]
     try rfl⟩
   ·rcases hw1 with rfl|rfl<;>simp [setBlock]
   ·intro b hb hn
    have hne:r≠b:=fun e=>hn e.symm
    rcases hw1 with rfl|rfl<;>(simp only [setBlock];rw [Array.getElem?_setIfInBounds_ne hne];try rfl)
   ·rcases hw1 with rfl|rfl<;>simp [Ent.itl,setBlock,zBC,hfoot.2]
   ·intro b hb
    cases hb
    refine ⟨.inl rfl,?_⟩
    rcases hw1 with rfl|rfl<;>simp [setBlock,hfoot.2]
theorem u_entryM {m r c:Nat} {seen:List Nat} {l:List (K × V × Nat)} {p:K × V × Nat} (hop:o.op = .entry x) (hw:want R ops o=some true) (hd:o.dst=some t) (ht:Nat.blt t n=true) (hx:evR R x=some (.pointer (some ⟨r,0,none⟩))) (htk:Take H (.itl r m c (seen++[p.2.2])) H') (hm:Take H (.ml m kv vv l c) H1) (hl:MOk l c) (hp:p∈l)
  (h:U w0 n d ((t,.tuple #[kv p.1,vv p.2.1])::R) H (wpL ro P ops Q rest)):U w0 n d R H (wpL ro P ops Q (o::rest)) :=
 zAa hw hd ht (fun a w q=>by
  have e2:w.heap[m]?=some (.map (l.map (zBC kv vv)).toArray c):=q.own.here _ hm.mem
  have hr:w.heap[r]?=some (.mapIter (some m) c (seen++[p.2.2]).toArray c):=(q.own.take htk).here (.itl r m c (seen++[p.2.2])) (by simp)
  have e3:(seen++[p.2.2]).toArray=seen.toArray.push (zBC kv vv p).born:=by simp [zBC]
  rw [e3] at hr
  have hnd:(((l.map (zBC kv vv)).toArray).toList.map (·.born)).Nodup:=by
   have:=hl.born
   simpa [Function.comp_def,zBC] using this
  have:=run_entry_at (P:=P) w r m c seen.toArray (l.map (zBC kv vv)).toArray c (zBC kv vv p) hr e2 (by simp only [List.mem_map];exact ⟨p,hp,rfl⟩) hnd
  unfold execOp;rw [hop]
  simp only [Sem.run_bind,q.ev hx,this,Result.andThen_ok,Sem.run_pure]
  rfl) h
def leftN (l:List (K × V × Nat)) (seen:List Nat):Nat:=(l.filter fun x=>!seen.contains x.2.2).length
theorem zKi {α:Type} {p q:α→Bool} (h:∀ z,q z=true→p z=true):∀ l:List α,(l.filter q).length≤(l.filter p).length
 | []=>by simp
 | z::r=>by
  have ih:=zKi h r
  cases hq:q z with
  | true=>rw [List.filter_cons_of_pos hq,List.filter_cons_of_pos (h z hq),List.length_cons,List.length_cons];omega
  | false =>
   rw [List.filter_cons_of_neg (by simp [hq])]
   cases hp:p z with
   | true=>rw [List.filter_cons_of_pos hp,List.length_cons];omega
   | false=>rw [List.filter_cons_of_neg (by simp [hp])];exact ih
theorem zKh {α:Type} {p q:α→Bool} {x:α} (h:∀ z,q z=true→p z=true) (hp:p x=true) (hq:q x=false):∀ {l:List α},x∈l→(l.filter q).length<(l.filter p).length
 | [],hx=>by cases hx
 | z::r,hx=>by
  rcases List.mem_cons.1 hx with rfl|hx
  ·rw [List.filter_cons_of_neg (by simp [hq]),List.filter_cons_of_pos hp,List.length_cons]
   have:=zKi h r;omega
  ·have ih:=zKh h hp hq hx
   cases hq:q z with
   | true=>rw [List.filter_cons_of_pos hq,List.filter_cons_of_pos (h z hq),List.length_cons,List.length_cons];omega
   | false =>
    rw [List.filter_cons_of_neg (by simp [hq])]
    cases hp:p z with
    | true=>rw [List.filter_cons_of_pos hp,List.length_cons];omega
    | false=>rw [List.filter_cons_of_neg (by simp [hp])];exact ih
theorem leftN_lt {l:List (K × V × Nat)} {seen:List Nat} {x:K × V × Nat} (hx:x∈l) (hn:x.2.2 ∉ seen):leftN l (seen++[x.2.2])<leftN l seen:=by
 unfold leftN
 refine zKh (fun z hz=>?_) (by simpa using hn) (by simp) hx
 simp at hz ⊢
 exact hz.1
end
section
variable {P : Program} {w0:World} {n:Nat} {d:List Deferred} {R:List (Nat × Value)} {H H':List Ent} {Q:Exit→Act→World→Prop} {ops:Array Oper} {o:Oper} {K:Act→World→Prop}
def qk (K:Act→World→Prop):Exit→Act→World→Prop:=fun e a w=>match e with | .normal=>K a w | _=>False
theorem zMC {a:Act} {w:World} {F:Fence} {m:Nat} (h:o.wpIn F m P a w K (qk K)):o.wpIn F m P a w K Q:=by
 unfold Oper.wpIn at *
 refine ⟨h.1,?_⟩
 have h:=h.2
 generalize (o.semAt F.round a.eval).run P w=r at *
 cases r with
 | ok x w' =>
  cases x<;>simp only [Oper.uponIn] at h ⊢ <;>
   first
    | exact h
    | exact ⟨h.1,CallsIn.mono h.2 (fun e w'' he=>by cases e<;>first|exact he|exact False.elim he|exact (by obtain ⟨_,_,hf⟩:=he;exact False.elim hf))⟩
    | exact ⟨h.1,RowsIn.mono h.2 (fun _ _ he=>he)⟩
    | exact ⟨h.1,RoundIn.mono h.2 (fun e w'' he=>by cases e<;>first|exact he|exact False.elim he|exact (by obtain ⟨_,_,hf⟩:=he;exact False.elim hf))⟩
    | exact False.elim h
 | halt x w'=>cases x<;>simp only [Oper.uponIn] at h ⊢<;>exact False.elim h
abbrev wpA (ro:Option Nat) (P:Program) (ops:Array Oper) (Q:Exit→Act→World→Prop) (fuel:Nat) (listed:Array Bool):Act→World→Prop:=wpAnyIn (FW ro) 9 P .any ops Q fuel listed
inductive zBv (w0:World) (n:Nat) (d:List Deferred) (R:List (Nat × Value)) (H:List Ent) (ro:Option Nat) (P:Program) (ops:Array Oper) (Q:Exit→Act→World→Prop) (fuel:Nat) (listed:Array Bool):List Nat→Prop
 | nil:zBv w0 n d R H ro P ops Q fuel listed []
 | cons {i:Nat} {l:List Nat} {o:Oper} (ho:ops[i]?=some o) (h:U w0 n d R H (wpL ro P ops (qk (wpA ro P ops Q fuel (listed.setIfInBounds i true))) [o])) (hr:zBv w0 n d R H ro P ops Q fuel listed l):zBv w0 n d R H ro P ops Q fuel listed (i::l)
theorem zBv.mem {fuel:Nat} {listed:Array Bool} {l:List Nat} (h:zBv w0 n d R H ro P ops Q fuel listed l):∀ i∈l,∃ o,ops[i]?=some o∧U w0 n d R H (wpL ro P ops (qk (wpA ro P ops Q fuel (listed.setIfInBounds i true))) [o]):=by
 induction h with
 | nil=>intro i hi;cases hi
 | cons ho h hr ih =>
  intro i hi
  rcases List.mem_cons.1 hi with rfl|hi
  ·exact ⟨_,ho,h⟩
  ·exact ih i hi
theorem zAs {fuel:Nat} {listed:Array Bool} (i:Nat) (l:List Nat) (hr:Region.ready .any ops listed=i::l) (h:zBv w0 n d R H ro P ops Q fuel listed (i::l)):U w0 n d R H (wpA ro P ops Q (fuel+1) listed):=fun a w q=>by
 refine ⟨fun h0=>(by rw [hr] at h0;cases h0),fun i hi=>?_⟩
 rw [hr] at hi
 obtain ⟨o,ho,hU⟩:=h.mem i hi
 have:=hU a w q
 unfold wpOpIn
 simp only [ho]
 unfold wpL at this
 simp only [wpListIn] at this
 split
 ·rename_i hw
  rw [if_pos hw] at this
  exact zMC this
 ·rename_i hw
  rw [if_neg hw] at this
  exact this
theorem a_nil {fuel:Nat} {listed:Array Bool} (hr:Region.ready .any ops listed=[]) (h:U w0 n d R H (Q .normal)):U w0 n d R H (wpA ro P ops Q fuel listed):=fun a w q=>by
 cases fuel with
 | zero=>exact ⟨hr,h a w q⟩
 | succ fuel=>exact ⟨fun _=>h a w q,fun i hi=>by rw [hr] at hi;cases hi⟩
theorem zBF (h:U w0 n d R H K):U w0 n d R H (qk K .normal):=h
theorem u_orders {id:Nat} {l:List Oper} (hm:P.follows .mixedOrders=true) (h:U w0 n d R H (wpA ro P l.toArray Q l.toArray.size (Array.replicate l.toArray.size false))):U w0 n d R H ((Code.region id l.toArray true).wpI ro P Q):=fun a w q =>
 wpIn_region_any hm (h a _ ⟨q.size,q.defers,q.regs,⟨q.below.os,q.below.tape,q.below.output,q.below.size,q.below.block⟩,q.own.past (Nat.le_refl _) (fun _ _ _ _=>rfl)⟩)
end
end Go.Proofs.YtdigopgncfhiaaaGreatDoor
namespace Go.Proofs.YtdigopgncfhiaaaGreatDoor
open Go.RowKit
open Flow (Nd)
set_option maxRecDepth 20000
def zT (x:Nd):List Value:=[.int .i64 (x.k:Int),.int .i64 (x.a:Int),.int .i64 (x.b:Int)]
def vNd (x:Nd):Value:=.agg #[.int .i64 (x.k:Int),.int .i64 (x.a:Int),.int .i64 (x.b:Int)]
def vNN (p:Nd × Nd):Value:=.agg #[.int .i64 (p.1.k:Int),.int .i64 (p.1.a:Int),.int .i64 (p.1.b:Int),.int .i64 (p.2.k:Int),.int .i64 (p.2.a:Int),.int .i64 (p.2.b:Int)]
instance encI_nd : zCM zT 3:=⟨fun _=>rfl,fun x v hv=>by simp [zT] at hv;rcases hv with rfl|rfl|rfl<;>rfl⟩
theorem elem_nd : zJp Tryz.prog 171 168 3 24 (.agg #[.int .i64 0,.int .i64 0,.int .i64 0]) :=
 ⟨by rfl,by exact ⟨_,rfl,rfl,rfl,rfl⟩,by decide,by decide⟩
instance elI_nd : ElI Tryz.prog 171 168 3 24:=⟨⟨_,elem_nd⟩⟩
theorem zFI (d:Nat) (x y:Nd) (w:World):(Op.equalIn (d+2) 168 (vNd x) (vNd y)).run Tryz.prog w = .ok (decide (x=y)) w:=by
 obtain ⟨a1,a2,a3⟩:=x
 obtain ⟨b1,b2,b3⟩:=y
 unfold vNd
 rw [run_equalIn_agg _ _ _ _ _ (by simp [go_sem]) (by kernel_rfl)]
 simp [go_sem]
 by_cases h1:a1=b1<;>by_cases h2:a2=b2<;>by_cases h3:a3=b3<;>simp [h1,h2,h3]<;>omega
theorem zIn (e:Bool) (d:Nat) (x:Nd) (w:World):(Instr.checkKey e (d+2) 168 (vNd x)).run Tryz.prog w = .ok () w:=by
 unfold vNd
 rw [Instr.checkKey]
 have hi:∀ (z:Int) w,(Instr.checkKey e (d+1) 3 (.int .i64 z)).run Tryz.prog w = .ok () w:=fun z w=>zHW Tryz.underlying3
 have ha:∀ w,(Go.isAgg 3).run Tryz.prog w = .ok false w:=Tryz.isAgg3
 simp [Sem.run_bind,run_underlying Tryz.underlying168,part,ha,hi]
theorem nd_ext {x y:Nd} (h1:(x.k:Int)=y.k) (h2:(x.a:Int)=y.a) (h3:(x.b:Int)=y.b):x=y:=by
 obtain ⟨a1,a2,a3⟩:=x
 obtain ⟨b1,b2,b3⟩:=y
 simp only at h1 h2 h3
 simp;omega
theorem zCl (xs:List Value) (off:Nat) (x:Nd) (h:(xs.drop off).take 3=zT x) (w:World):(Go.part 168 xs.toArray off).run Tryz.prog w = .ok (vNd x) w:=by
 have hs:∀ w,(Go.sizeOf 168).run Tryz.prog w = .ok 3 w:=Tryz.sizeOf168
 have ha:∀ w,(Go.isAgg 168).run Tryz.prog w = .ok true w:=Tryz.isAgg168
 unfold Go.part
 simp only [Sem.run_bind,ha,Result.andThen_ok,if_true,hs,Sem.run_pure]
 congr 2
 rw [List.extract_toArray,List.extract_eq_take_drop,show off+3 - off=3 by omega,h]
 rfl
theorem zLs (d:Nat) (p q:Nd × Nd) (w:World):(Op.equalIn (d+3) 170 (vNN p) (vNN q)).run Tryz.prog w = .ok (decide (p=q)) w:=by
 obtain ⟨x,y⟩:=p
 obtain ⟨u,v⟩:=q
 have hs:∀ w,(Go.sizeOf 168).run Tryz.prog w = .ok 3 w:=Tryz.sizeOf168
 have e2:=fun x y w=>zFI d x y w
 have p1:=fun w=>zCl [.int .i64 (x.k:Int),.int .i64 (x.a:Int),.int .i64 (x.b:Int),.int .i64 (y.k:Int),.int .i64 (y.a:Int),.int .i64 (y.b:Int)] 0 x rfl w
 have p2:=fun w=>zCl [.int .i64 (x.k:Int),.int .i64 (x.a:Int),.int .i64 (x.b:Int),.int .i64 (y.k:Int),.int .i64 (y.a:Int),.int .i64 (y.b:Int)] 3 y rfl w
 have p3:=fun w=>zCl [.int .i64 (u.k:Int),.int .i64 (u.a:Int),.int .i64 (u.b:Int),.int .i64 (v.k:Int),.int .i64 (v.a:Int),.int .i64 (v.b:Int)] 0 u rfl w
 have p4:=fun w=>zCl [.int .i64 (u.k:Int),.int .i64 (u.a:Int),.int .i64 (u.b:Int),.int .i64 (v.k:Int),.int .i64 (v.a:Int),.int .i64 (v.b:Int)] 3 v rfl w
 unfold vNN
 rw [Op.equalIn]
 simp only [Sem.run_bind,run_underlying Tryz.underlying170,Result.andThen_ok,hs,Std.Legacy.Range.forIn_eq_forIn_range',Std.Legacy.Range.size,Nat.sub_zero,Nat.add_sub_cancel,Nat.div_one]
 simp only [List.range',List.forIn_cons,List.forIn_nil,Sem.run_bind,Nat.zero_mul,Nat.zero_add,Nat.one_mul,p1,p2,p3,p4,e2,Result.andThen_ok]
 by_cases h1:x=u<;>by_cases h2:y=v<;>simp [go_sem,h1,h2,e2,p2,p4]
 all_goals first|exact fun a b c=>h2 (nd_ext a b c)|exact fun a b c=>h1 (nd_ext a b c)
theorem zM8 (e:Bool) (d:Nat) (p:Nd × Nd) (w:World):(Instr.checkKey e (d+3) 170 (vNN p)).run Tryz.prog w = .ok () w:=by
 obtain ⟨x,y⟩:=p
 have hs:∀ w,(Go.sizeOf 168).run Tryz.prog w = .ok 3 w:=Tryz.sizeOf168
 have e2:=fun x w=>zIn e d x w
 have p1:=fun w=>zCl [.int .i64 (x.k:Int),.int .i64 (x.a:Int),.int .i64 (x.b:Int),.int .i64 (y.k:Int),.int .i64 (y.a:Int),.int .i64 (y.b:Int)] 0 x rfl w
 have p2:=fun w=>zCl [.int .i64 (x.k:Int),.int .i64 (x.a:Int),.int .i64 (x.b:Int),.int .i64 (y.k:Int),.int .i64 (y.a:Int),.int .i64 (y.b:Int)] 3 y rfl w
 unfold vNN
 rw [Instr.checkKey]
 simp only [Sem.run_bind,run_underlying Tryz.underlying170,Result.andThen_ok,hs,Std.Legacy.Range.forIn_eq_forIn_range',Std.Legacy.Range.size,Nat.sub_zero,Nat.add_sub_cancel,Nat.div_one]
 simp only [List.range',List.forIn_cons,List.forIn_nil,Sem.run_bind,Nat.zero_mul,Nat.zero_add,Nat.one_mul,p1,p2,e2,Result.andThen_ok,Sem.run_pure]
 simp [hs,p2,e2]
theorem zDq : zGd Tryz.prog 168 vNd :=
 ⟨fun e k w=>zIn e 9998 k w,fun k k' w=>zFI 9998 k k' w,⟨_,Tryz.underlying168,fun _ _=>rfl⟩,fun k=>by
  simp [vNd,Instr.sameBits]⟩
theorem zB2 : zGd Tryz.prog 170 vNN :=
 ⟨fun e k w=>zM8 e 9997 k w,fun k k' w=>zLs 9997 k k' w,⟨_,Tryz.underlying170,fun _ _=>rfl⟩,fun k=>by
  simp [vNN,Instr.sameBits]⟩
end Go.Proofs.YtdigopgncfhiaaaGreatDoor
