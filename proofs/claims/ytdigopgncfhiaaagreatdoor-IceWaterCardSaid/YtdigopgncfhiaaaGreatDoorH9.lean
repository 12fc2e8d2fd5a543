/- H9 -/
import Derived.Test.YtdigopgncfhiaaaGreatDoorH8
import Derived.Test.YtdigopgncfhiaaaGreatDoorH6
import Derived.Deep.Quiet
import Derived.Test.YtdigopgncfhiaaaGreatDoorH5
set_option linter.unusedSimpArgs false
set_option linter.unusedVariables false
namespace Go.Proofs.YtdigopgncfhiaaaGreatDoor
open Go.RowKit
set_option maxRecDepth 20000
theorem zOj {c:Cov} {z:Bed} (hz:z∈c.beds) (h:zEz z=false):zEO c=false:=by
 cases hi:zEO c with
 | false=>rfl
 | true =>
  have:=List.all_eq_true.1 (zCT.1 hi).2.2.1 z hz
  rw [h] at this;cases this
theorem zNV {c:Cov} {z:Hour} (hz:z∈c.hours) (h:zCe z=false):zEO c=false:=by
 cases hi:zEO c with
 | false=>rfl
 | true =>
  have:=List.all_eq_true.1 (zCT.1 hi).2.2.2.1 z hz
  rw [h] at this;cases this
theorem zKL {α:Type} {p:α→Bool} {l:List α} (h:∀ j z,j<l.length→l[j]?=some z→p z=true):l.all p=true:=by
 rw [List.all_eq_true]
 intro x hx
 obtain ⟨j,hj⟩:=List.mem_iff_getElem?.1 hx
 exact h j x (List.getElem?_eq_some_iff.1 hj).1 hj
theorem zKh {α:Type} {p:α→Bool} {l:List α} {i:Nat} {z:α} (hz:l[i]?=some z) (hp:p z=true) (h:∀ j y,j<i→l[j]?=some y→p y=true):∀ j y,j<i+1→l[j]?=some y→p y=true:=by
 intro j y hj hy
 by_cases e:j=i
 ·subst e;rw [hz] at hy;cases hy;exact hp
 ·exact h j y (by omega) hy
set_option maxHeartbeats 2000000 in
theorem rice_any (c:Cov) (A:Option Addr) (ca:Nat) (B:Option Addr) (cb:Nat) (C:Option Addr) (cc:Nat) (w:World) (h0:zAp w c A B C) (hs:Small c):Gv Tryz.prog 97 [zAS c A ca B cb C cc] w (.bool (zEO c)):=by
 have h3:=hs.t;have h4:=hs.b;have h5:=hs.h
 have hb:=h0.b;have hh:=h0.h
 unfold Gv zAS zN
 (refine zJ (n:=106) Tryz.func97 rfl rfl rfl ?_)
 (repeat' (first|((with_reducible refine zF ?_);first|refine zE rfl rfl rfl ?_|refine zC rfl rfl rfl ?_|(refine zL rfl rfl rfl ?_;refine ⟨_,rfl,?_⟩)|refine zb rfl rfl rfl ?_|refine zAY rfl rfl rfl rfl ?_|refine zx rfl rfl rfl ?_|(refine zQ rfl rfl rfl rfl rfl (fun h=>?_) (fun h=>?_)<;>(dsimp only [cmpP] at h;(try (exfalso;omega))))|(refine zAG rfl rfl rfl rfl (fun _ _ q=>zE7 _ _ _ _) (fun h=>?_) (fun h=>?_)<;>(try (exfalso;omega)))|(refine zAG rfl rfl rfl rfl (fun _ _ q=>zDG c.wear 0 20 _) (fun h=>?_) (fun h=>?_)<;>(try (exfalso;omega)))|(refine zAG rfl rfl rfl rfl (fun _ _ q=>zDG c.layer 1 100 _) (fun h=>?_) (fun h=>?_)<;>(try (exfalso;omega)))|refine zAd rfl rfl rfl ?_|refine zq rfl rfl rfl ?_|(refine zy rfl rfl rfl rfl (fun b=>?_)))|(with_reducible first|refine zH ?_|refine zB ?_|refine zD ?_|refine zA ?_|refine zW ?_|refine zS ?_|refine ze ?_|refine zP ?_)|((with_reducible refine zK ?_ ?_);(· exact rfl))|((with_reducible refine zG ?_ ?_);(· exact rfl))))
 all_goals first|exact zR (by exact rTm rfl) () trivial (by rw [show zEO c=false from by cases hi:zEO c with|false=>rfl|true=>(exfalso;obtain ⟨i1,i2,i3,i4,i5,i6,i7,i8,i9⟩:=zCT.1 hi;first|omega|simp_all)];rfl) (fun _ h=>h.sub (by (repeat constructor)))|skip
 refine zw (ι:=Nat) [1] rfl (fun i=>i≤c.beds.length∧∀ j z,j<i→c.beds[j]?=some z→zEz z=true) (fun i=>[(3,.int .i64 (i:Int))]) (fun _=>[.blk b (zN c A ca B cb C cc)]) (fun i=>c.beds.length - i) 0 ⟨Nat.zero_le _,fun j z h=>by omega⟩ (by (repeat first|exact lK1|refine zI rfl ?_)) (by (repeat constructor)) ?_
 rintro i ⟨hi,hall⟩
 simp only [zA1,List.cons_append,List.nil_append]
 unfold zN
 by_cases hlt:i<c.beds.length
 ·obtain ⟨z,hz⟩:∃ z,c.beds[i]?=some z:=⟨_,List.getElem?_eq_getElem hlt⟩
  have hm:=List.mem_of_getElem? hz
  obtain ⟨bb,o,rfl,hblt,hc⟩:=hb.at_ hlt
  have:InS w bb o zAw 3 c.beds:=⟨hb⟩
  have:zAQ c.beds i z:=⟨hz⟩
  (repeat' (first|((with_reducible refine zF ?_);first|refine zE rfl rfl rfl ?_|refine zC rfl rfl rfl ?_|(refine zL rfl rfl rfl ?_;refine ⟨_,rfl,?_⟩)|refine zb rfl rfl rfl ?_|refine zAY rfl rfl rfl rfl ?_|refine zx rfl rfl rfl ?_|(refine zQ rfl rfl rfl rfl rfl (fun h=>?_) (fun h=>?_)<;>(dsimp only [cmpP] at h;(try (exfalso;omega))))|(refine zAG rfl rfl rfl rfl (fun _ _ q=>zDG z.thick 0 2000 _) (fun h=>?_) (fun h=>?_)<;>(try (exfalso;omega)))|(refine zAG rfl rfl rfl rfl (fun _ _ q=>zE7 _ _ _ _) (fun h=>?_) (fun h=>?_)<;>(try (exfalso;omega)))|refine zAd rfl rfl rfl ?_|refine zi rfl rfl rfl rfl (by omega) ?_|refine zk rfl rfl rfl rfl rfl (by omega) ?_|refine zq rfl rfl rfl ?_)|(with_reducible first|refine zH ?_|refine zB ?_|refine zD ?_|refine zA ?_|refine zW ?_|refine zS ?_|refine ze ?_|refine zP ?_|refine zg ?_|refine zBb ?_)|((with_reducible refine zK ?_ ?_);(· exact rfl))|((with_reducible refine zG ?_ ?_);(· exact rfl))))
  all_goals first|exact zZ (i+1) ⟨by omega,zKh hz (by simp_all [zEz];done) hall⟩ (by omega) (by (repeat first|exact lK1|refine zI rfl ?_)) (by (repeat constructor))|exact zR (by exact rTm rfl) () trivial (by rw [zOj hm (by simp_all [zEz])];rfl) (fun _ h=>h.sub (by (repeat constructor)))
 ·obtain rfl:i=c.beds.length:=by omega
  have hbeds:=zKL (fun j z hj hz=>hall j z hj hz)
  (repeat' (first|((with_reducible refine zF ?_);first|refine zE rfl rfl rfl ?_|refine zC rfl rfl rfl ?_|(refine zL rfl rfl rfl ?_;refine ⟨_,rfl,?_⟩)|refine zb rfl rfl rfl ?_|(refine zQ rfl rfl rfl rfl rfl (fun h=>?_) (fun h=>?_)<;>(dsimp only [cmpP] at h;(try (exfalso;omega))))|refine zq rfl rfl rfl ?_)|(with_reducible first|refine zH ?_|refine zB ?_|refine zD ?_|refine zA ?_|refine zP ?_|refine zl ?_|refine zV ?_|refine zX ?_)|((with_reducible refine zG ?_ ?_);(· exact rfl))))
  refine zw (ι:=Nat) [1] rfl (fun i=>i≤c.hours.length∧∀ j z,j<i→c.hours[j]?=some z→zCe z=true) (fun i=>[(4,.int .i64 (i:Int))]) (fun _=>[.blk b (zN c A ca B cb C cc)]) (fun i=>c.hours.length - i) 0 ⟨Nat.zero_le _,fun j z h=>by omega⟩ (by (repeat first|exact lK1|refine zI rfl ?_)) (by (repeat constructor)) ?_
  rintro i ⟨hi,hallh⟩
  simp only [zA1,List.cons_append,List.nil_append]
  unfold zN
  by_cases hlt:i<c.hours.length
  ·obtain ⟨z,hz⟩:∃ z,c.hours[i]?=some z:=⟨_,List.getElem?_eq_getElem hlt⟩
   have hm:=List.mem_of_getElem? hz
   obtain ⟨bb,o,rfl,hblt,hc⟩:=hh.at_ hlt
   have:InS w bb o zAD 5 c.hours:=⟨hh⟩
   have:zAQ c.hours i z:=⟨hz⟩
   (repeat' (first|((with_reducible refine zF ?_);first|refine zE rfl rfl rfl ?_|refine zC rfl rfl rfl ?_|(refine zL rfl rfl rfl ?_;refine ⟨_,rfl,?_⟩)|refine zb rfl rfl rfl ?_|refine zAY rfl rfl rfl rfl ?_|refine zx rfl rfl rfl ?_|(refine zQ rfl rfl rfl rfl rfl (fun h=>?_) (fun h=>?_)<;>(dsimp only [cmpP] at h;(try (exfalso;omega))))|(refine zAG rfl rfl rfl rfl (fun _ _ q=>zDG z.melt 0 50 _) (fun h=>?_) (fun h=>?_)<;>(try (exfalso;omega)))|(refine zAG rfl rfl rfl rfl (fun _ _ q=>zE7 _ _ _ _) (fun h=>?_) (fun h=>?_)<;>(try (exfalso;omega)))|refine zAd rfl rfl rfl ?_|refine zi rfl rfl rfl rfl (by omega) ?_|refine zk rfl rfl rfl rfl rfl (by omega) ?_|refine zq rfl rfl rfl ?_|(refine za rfl rfl rfl rfl rfl ?_;refine ⟨rfl,by first|decide|exact Nat.le_of_ble_eq_true rfl|(simp;omega),_,rfl,?_⟩)|(refine zh rfl rfl (fun b=>?_)))|(with_reducible first|refine zH ?_|refine zB ?_|refine zD ?_|refine zA ?_|refine zW ?_|refine zS ?_|refine ze ?_|refine zP ?_|refine zg ?_|refine zBb ?_)|((with_reducible refine zK ?_ ?_);(· exact rfl))|((with_reducible refine zG ?_ ?_);(· exact rfl))))
   all_goals first|exact zZ (i+1) ⟨by omega,zKh hz (by simp_all [zCe];done) hallh⟩ (by omega) (by (repeat first|exact lK1|refine zI rfl ?_)) (by (repeat constructor))|exact zR (by exact rTm rfl) () trivial (by rw [zNV hm (by simp_all [zCe])];rfl) (fun _ h=>h.sub (by (repeat constructor)))
  ·obtain rfl:i=c.hours.length:=by omega
   have hhours:=zKL (fun j z hj hz=>hallh j z hj hz)
   have e:zEO c=true:=zCT.2 ⟨by omega,by assumption,hbeds,hhours,by assumption,by assumption,by assumption,by assumption,by assumption⟩
   (repeat' (first|((with_reducible refine zF ?_);first|refine zE rfl rfl rfl ?_|refine zC rfl rfl rfl ?_|(refine zL rfl rfl rfl ?_;refine ⟨_,rfl,?_⟩)|refine zb rfl rfl rfl ?_|(refine zQ rfl rfl rfl rfl rfl (fun h=>?_) (fun h=>?_)<;>(dsimp only [cmpP] at h;(try (exfalso;omega))))|refine zq rfl rfl rfl ?_)|(with_reducible first|refine zH ?_|refine zB ?_|refine zD ?_|refine zA ?_|refine zW ?_|refine zl ?_|refine zV ?_|refine zX ?_)|((with_reducible refine zG ?_ ?_);(· exact rfl))))
   exact zR (by exact rTm rfl) () trivial (by rw [e];rfl) (fun _ h=>h.sub (by (repeat constructor)))
theorem zMw (c:Cov) (A:Option Addr) (ca:Nat) (B:Option Addr) (cb:Nat) (C:Option Addr) (cc:Nat) (w:World) (h:zAp w c A B C) (hs:Small c):Gv Tryz.prog 55 [zAS c A ca B cb C cc] w (.int .i64 (zAs c)):=by
 have h3:=hs.t
 have hT:=fun W (hb:Below w.heap.size w W)=>rcheck_n c.t A ca W (h.t.below hb) hs.fit (by omega)
 have hI:=fun W (hb:Below w.heap.size w W)=>rice_any c A ca B cb C cc W (h.below hb) hs
 unfold zAS zN at hI
 unfold Gv zAS zN
 cases hv:valid c.t
 ·have e:zAs c=10:=by simp [zAs,hv]
  rw [show zDd c.t=10 by simp [zDd,hv]] at hT
  rw [e]
  (refine zJ (n:=13) Tryz.func55 rfl rfl rfl ?_)
  (repeat' (first|((with_reducible refine zF ?_);first|refine zE rfl rfl rfl ?_|refine zC rfl rfl rfl ?_|(refine zL rfl rfl rfl ?_;refine ⟨_,rfl,?_⟩)|refine zb rfl rfl rfl ?_|(refine zQ rfl rfl rfl rfl rfl (fun h=>?_) (fun h=>?_)<;>(dsimp only [cmpP] at h;(try (exfalso;omega))))|refine zY rfl rfl rfl rfl (fun _ _ q=>hT _ q.below) ?_|(refine zy rfl rfl rfl rfl (fun b=>?_)))|(with_reducible first|refine zH ?_|refine zB ?_|refine zD ?_|refine zA ?_|refine zW ?_|refine ze ?_)|((with_reducible refine zK ?_ ?_);(· exact rfl))))
  all_goals exact zR (by exact rTm rfl) () trivial rfl (fun _ h=>h.sub (by (repeat constructor)))
 ·rw [zFn hv] at hT
  cases hi:zEO c
  ·have e:zAs c=20:=by simp [zAs,hv,hi]
   rw [hi] at hI
   rw [e]
   (refine zJ (n:=13) Tryz.func55 rfl rfl rfl ?_)
   (repeat' (first|((with_reducible refine zF ?_);first|refine zE rfl rfl rfl ?_|refine zC rfl rfl rfl ?_|(refine zL rfl rfl rfl ?_;refine ⟨_,rfl,?_⟩)|refine zb rfl rfl rfl ?_|(refine zQ rfl rfl rfl rfl rfl (fun h=>?_) (fun h=>?_)<;>(dsimp only [cmpP] at h;(try (exfalso;omega))))|refine zY rfl rfl rfl rfl (fun _ _ q=>hT _ q.below) ?_|refine zY rfl rfl rfl rfl (fun _ _ q=>hI _ q.below) ?_|refine zAd rfl rfl rfl ?_|(refine zy rfl rfl rfl rfl (fun b=>?_)))|(with_reducible first|refine zH ?_|refine zB ?_|refine zD ?_|refine zA ?_|refine zW ?_|refine zS ?_|refine ze ?_)|((with_reducible refine zK ?_ ?_);(· exact rfl))|((with_reducible refine zG ?_ ?_);(· exact rfl))))
   all_goals exact zR (by exact rTm rfl) () trivial rfl (fun _ h=>h.sub (by (repeat constructor)))
  ·have e:zAs c=0:=by simp [zAs,hv,hi]
   rw [hi] at hI
   rw [e]
   (refine zJ (n:=13) Tryz.func55 rfl rfl rfl ?_)
   (repeat' (first|((with_reducible refine zF ?_);first|refine zE rfl rfl rfl ?_|refine zC rfl rfl rfl ?_|(refine zL rfl rfl rfl ?_;refine ⟨_,rfl,?_⟩)|refine zb rfl rfl rfl ?_|(refine zQ rfl rfl rfl rfl rfl (fun h=>?_) (fun h=>?_)<;>(dsimp only [cmpP] at h;(try (exfalso;omega))))|refine zY rfl rfl rfl rfl (fun _ _ q=>hT _ q.below) ?_|refine zY rfl rfl rfl rfl (fun _ _ q=>hI _ q.below) ?_|refine zAd rfl rfl rfl ?_|(refine zy rfl rfl rfl rfl (fun b=>?_)))|(with_reducible first|refine zH ?_|refine zB ?_|refine zD ?_|refine zA ?_|refine zW ?_|refine zS ?_)|((with_reducible refine zG ?_ ?_);(· exact rfl))))
   all_goals exact zR (by exact rTm rfl) () trivial rfl (fun _ h=>h.sub (by (repeat constructor)))
end Go.Proofs.YtdigopgncfhiaaaGreatDoor
namespace Go.Proofs.YtdigopgncfhiaaaGreatDoor
open Go.RowKit
set_option maxRecDepth 20000
structure Sli where
 A:Option Addr
 xs:List Int
 c:Nat
instance : Inhabited Sli:=⟨⟨none,[],0⟩⟩
def zBC (s:Sli):List Value:=[.slice s.A s.xs.length s.c]
instance : zB8 zBC 1:=⟨fun _=>rfl,fun s v hv=>by simp [zBC] at hv;subst hv;rfl⟩
structure zBJ (w:World) (P:Option Addr) (pl:List Sli):Prop where
 p:zp zBC 1 w P pl
 rows:∀ s∈pl,zp encI 1 w s.A s.xs
theorem zBJ.below {w W:World} {P:Option Addr} {pl:List Sli} (h:zBJ w P pl) (hb:Below w.heap.size w W):zBJ W P pl:=⟨h.p.below hb,fun s hs=>(h.rows s hs).below hb⟩
def zE9 (l:List Int):Bool:=(List.range (l.length - 1)).all fun k=>decide (l.getD k 0<l.getD (k+1) 0)
def zFe (c:Cov) (u:Hour) (s:Sli):Bool:=decide ((s.xs.length:Int)≤u.crew) && (decide (s.xs.length=0) || u.cold) && s.xs.all (inB 0 (c.beds.length - 1)) && zE9 s.xs
def zBd (c:Cov) (pl:List Sli):Bool:=decide (pl.length=c.hours.length) && (List.range pl.length).all fun i=>zFe c (c.hours.getD i default) (pl.getD i default)
theorem zE8 {l:List Int}:zE9 l=true↔∀ k,k+1<l.length→l.getD k 0<l.getD (k+1) 0:=by
 unfold zE9
 rw [List.all_eq_true]
 constructor
 ·intro h k hk;simpa using h k (List.mem_range.2 (by omega))
 ·intro h k hk;simpa using h k (by have:=List.mem_range.1 hk;omega)
theorem zQF {l:List Int} {k:Nat} (hk:k+1<l.length) (h:¬ l.getD k 0<l.getD (k+1) 0):zE9 l=false:=by
 cases hr:zE9 l with
 | false=>rfl
 | true=>exact absurd (zE8.1 hr k hk) h
theorem zBc {c:Cov} {pl:List Sli}:zBd c pl=true↔pl.length=c.hours.length∧∀ (i:Nat) (u:Hour) (s:Sli),c.hours[i]?=some u→pl[i]?=some s→zFe c u s=true:=by
 unfold zBd
 rw [Bool.and_eq_true,decide_eq_true_eq,List.all_eq_true]
 constructor
 ·rintro ⟨h1,h2⟩
  refine ⟨h1,fun i u s hu hs=>?_⟩
  have:=h2 i (List.mem_range.2 (List.getElem?_eq_some_iff.1 hs).1)
  simpa [List.getD_eq_getElem?_getD,hu,hs] using this
 ·rintro ⟨h1,h2⟩
  refine ⟨h1,fun i hi=>?_⟩
  have hi:=List.mem_range.1 hi
  refine h2 i _ _ ?_ ?_
  ·rw [List.getD_eq_getElem?_getD,List.getElem?_eq_getElem (show i<c.hours.length by omega)];rfl
  ·rw [List.getD_eq_getElem?_getD,List.getElem?_eq_getElem hi];rfl
theorem zQI {c:Cov} {pl:List Sli} {i:Nat} {u:Hour} {s:Sli} (hu:c.hours[i]?=some u) (hs:pl[i]?=some s) (h:zFe c u s=false):zBd c pl=false:=by
 cases hp:zBd c pl with
 | false=>rfl
 | true=>have:=(zBc.1 hp).2 i u s hu hs;rw [h] at this;cases this
theorem zBD {α:Type} {l:List α} {i:Nat} {d x:α} (h:l[i]?=some x):l.getD i d=x:=by rw [List.getD_eq_getElem?_getD,h];rfl
set_option maxHeartbeats 4000000 in
theorem zHN (c:Cov) (A:Option Addr) (ca:Nat) (B:Option Addr) (cb:Nat) (C:Option Addr) (cc g:Nat) (pl:List Sli) (P:Option Addr) (cp:Nat) (w:World) (hr:InC w g 0 (zN c A ca B cb C cc)) (h0:zAp w c A B C) (hp:zBJ w P pl) (hs:Small c) (hl:pl.length≤12) (hrl:∀ s∈pl,s.xs.length≤20) :
  Gv Tryz.prog 98 [.pointer (some ⟨g,0,none⟩),.slice P pl.length cp] w (.bool (zBd c pl)):=by
 have h3:=hs.t;have h4:=hs.b;have h5:=hs.h
 have hh:=h0.h;have hpp:=hp.p
 unfold zN at hr
 unfold Gv
 (refine zJ (n:=83) Tryz.func98 rfl rfl rfl ?_)
 (repeat' (first|((with_reducible refine zF ?_);first|refine zE rfl rfl rfl ?_|refine zC rfl rfl rfl ?_|(refine zL rfl rfl rfl ?_;refine ⟨_,rfl,?_⟩)|refine zb rfl rfl rfl ?_|(refine zQ rfl rfl rfl rfl rfl (fun h=>?_) (fun h=>?_)<;>(dsimp only [cmpP] at h;(try (exfalso;omega))))|refine zq rfl rfl rfl ?_|refine zAu rfl rfl rfl ?_)|(with_reducible first|refine zH ?_|refine zB ?_|refine zD ?_|refine zA ?_|refine zW ?_|refine zS ?_|refine ze ?_|refine zP ?_)|((with_reducible refine zK ?_ ?_);(· exact rfl))|((with_reducible refine zG ?_ ?_);(· exact rfl))))
 ·exact zR (by exact rTm rfl) () trivial (by rw [show zBd c pl=false from by unfold zBd;simp;omega];rfl) (fun _ h=>h.sub (by (repeat constructor)))
 have hlen:pl.length=c.hours.length:=by omega
 refine zw (ι:=Nat) [0,17,18] rfl (fun i=>i≤pl.length∧∀ (j:Nat) (u:Hour) (s:Sli),j<i→c.hours[j]?=some u→pl[j]?=some s→zFe c u s=true) (fun i=>[(19,.int .i64 (i:Int))]) (fun _=>[]) (fun i=>pl.length - i) 0 ⟨Nat.zero_le _,fun j u s h=>by omega⟩ (by (repeat first|exact lK1|refine zI rfl ?_)) (by (repeat constructor)) ?_
 rintro i ⟨hi,hall⟩
 simp only [zA1,List.cons_append,List.nil_append]
 by_cases hlt:i<pl.length
 ·obtain ⟨s,hsi⟩:∃ s,pl[i]?=some s:=⟨_,List.getElem?_eq_getElem hlt⟩
  obtain ⟨u,hui⟩:∃ u,c.hours[i]?=some u:=⟨_,List.getElem?_eq_getElem (by omega)⟩
  have hsm:=List.mem_of_getElem? hsi
  have hrow:=hp.rows s hsm
  have hsl:=hrl s hsm
  obtain ⟨bb,o,rfl,hblt,hc⟩:=hpp.at_ hlt
  have:InS w bb o zBC 1 pl:=⟨hpp⟩
  have:zAQ pl i s:=⟨hsi⟩
  obtain ⟨bc,oc,rfl,hblt2,hc2⟩:=hh.at_ (show i<c.hours.length by omega)
  have:InS w bc oc zAD 5 c.hours:=⟨hh⟩
  have:zAQ c.hours i u:=⟨hui⟩
  have hin:=fun W (hW:Below w.heap.size w W)=>zMA 0 ((c.beds.length:Int) - 1) s.xs s.A s.c W (hrow.below hW) (by omega)
  have hno:=fun h=>zQI hui hsi h
  have hyes:=fun (h:zFe c u s=true) (j:Nat) u' s' (hj:j<i+1) (h1:c.hours[j]?=some u') (h2:pl[j]?=some s')=>(show zFe c u' s'=true from by
   by_cases e:j=i
   ·subst e;rw [hui] at h1;rw [hsi] at h2;cases h1;cases h2;exact h
   ·exact hall j u' s' (by omega) h1 h2)
  obtain ⟨melt,runs,crew,cold⟩:=u
  have hro:zFe c ⟨melt,runs,crew,cold⟩ s=(decide ((s.xs.length:Int)≤crew) && (decide (s.xs.length=0) || cold) && s.xs.all (inB 0 (c.beds.length - 1)) && zE9 s.xs):=rfl
  generalize hall1:s.xs.all (inB 0 ((c.beds.length:Int) - 1))=al at *
  cases cold
  all_goals
   (repeat' (first|((with_reducible refine zF ?_);first|refine zE rfl rfl rfl ?_|refine zC rfl rfl rfl ?_|(refine zL rfl rfl rfl ?_;refine ⟨_,rfl,?_⟩)|refine zb rfl rfl rfl ?_|refine zAY rfl rfl rfl rfl ?_|refine zx rfl rfl rfl ?_|(refine zQ rfl rfl rfl rfl rfl (fun h=>?_) (fun h=>?_)<;>(dsimp only [cmpP] at h;(try (exfalso;omega))))|(refine zAG rfl rfl rfl rfl (fun _ _ q=>hin _ q.below) (fun h=>?_) (fun h=>?_)<;>(try (exfalso;omega)))|refine zAd rfl rfl rfl ?_|refine zCi rfl rfl rfl rfl (IntWalk.i64_in _ (by omega)) ?_|refine zk rfl rfl rfl rfl rfl (by omega) ?_|refine zq rfl rfl rfl ?_|refine zAu rfl rfl rfl ?_)|(with_reducible first|refine zH ?_|refine zB ?_|refine zD ?_|refine zA ?_|refine zW ?_|refine zS ?_|refine ze ?_|refine zP ?_|refine zBb ?_)|((with_reducible refine zK ?_ ?_);(· exact rfl))|((with_reducible refine zG ?_ ?_);(· exact rfl))))
   all_goals first|(refine zR (by exact rTm rfl) () trivial ?_ (fun _ h=>h.sub (by (repeat constructor)));refine congrArg Value.bool (hno ?_);rw [hro];refine Bool.eq_false_iff.2 (fun h9=>?_);simp only [Bool.and_eq_true,Bool.or_eq_true,decide_eq_true_eq,Bool.false_eq_true,or_false] at h9;first|omega|(simp_all;done))|skip
   all_goals
    refine zw (ι:=Nat) [0,6,17,18,19,67] rfl (fun k=>k≤s.xs.length∧∀ k',k'<k→k'+1<s.xs.length→s.xs.getD k' 0<s.xs.getD (k'+1) 0) (fun k=>[(68,.int .i64 (k:Int))]) (fun _=>[]) (fun k=>s.xs.length - k) 0 ⟨Nat.zero_le _,fun k h=>by omega⟩ (by (repeat first|exact lK1|refine zI rfl ?_)) (by (repeat constructor)) ?_
    rintro k ⟨hk,hris⟩
    simp only [zA1,List.cons_append,List.nil_append]
    by_cases hk1:k+1<s.xs.length
    ·obtain ⟨x,hx⟩:∃ x,s.xs[k]?=some x:=⟨_,List.getElem?_eq_getElem (by omega)⟩
     obtain ⟨y,hy⟩:∃ y,s.xs[k+1]?=some y:=⟨_,List.getElem?_eq_getElem hk1⟩
     have e1:=zBD (d:=0) hx
     have e2:=zBD (d:=0) hy
     obtain ⟨br,orr,hA,hbr,hcr⟩:=hrow.at_ hk1
     have:InS w br orr encI 1 s.xs:=⟨hA ▸ hrow⟩
     rw [hA]
     have:zAQ s.xs k x:=⟨hx⟩
     have:zAQ s.xs (k+1) y:=⟨hy⟩
     (repeat' (first|((with_reducible refine zF ?_);first|refine zE rfl rfl rfl ?_|refine zC rfl rfl rfl ?_|(refine zQ rfl rfl rfl rfl rfl (fun h=>?_) (fun h=>?_)<;>(dsimp only [cmpP] at h;(try (exfalso;omega)))))|(with_reducible first|refine zH ?_|refine zB ?_|refine zD ?_|refine zA ?_|refine zS ?_|refine zP ?_)|((with_reducible refine zK ?_ ?_);(· exact rfl))))
     all_goals (refine Two.zAV [] [] [] rfl (show ([]:List Nat).Nodup by decide) (fun _ h=>h) (by kernel_rfl) [[],[Y],[Z,Z],[Z,Z,Z],[Y,Y,Y,Y],[Y,Y,Y,Y,Y],[Z,Y,Y,Y,Y,Y],[Z,Z,Z,Y,Y,Y,Y],[Z,Z,Z,Z,Y,Y,Y,Y],[Z,Z,Z,Z,Z,Z,Z,Z,Z]] (by kernel_rfl) (by kernel_rfl) (by kernel_rfl) (by kernel_rfl) (by kernel_rfl) ?_)
     all_goals (repeat' (first|(((with_reducible refine Two.zCC ?_ ?_);(· exact rfl);refine ⟨_,fun G=>(by (try simp (decide:=true) only [Two.vis,Two.see,fltT,zm,Nat.reduceAdd,Nat.reduceSub,if_true,if_false,List.set_cons_zero,List.set_cons_succ,List.set_nil,List.nil_append,List.cons_append]);rfl),?_⟩);first|refine Two.zU _ (fun _=>zAO rfl rfl) (fun _=>rfl) rfl (by intro G G' h;simp (decide:=true) only [h]) ?_|refine Two.zU _ (fun _=>zu rfl rfl (by exact rfl)) (fun _=>rfl) rfl (by intro G G' h;simp (decide:=true) only [h]) ?_|(refine Two.c_cmp rfl rfl (fun _=>rfl) rfl (fun _=>rfl) (fun _=>rfl) (fun h=>?_) (fun h=>?_)<;>(dsimp only [cmpP] at h;(try (exfalso;omega))))|refine Two.zU _ (fun _=>zAl (I:=k) rfl rfl rfl rfl (by omega)) (fun _=>rfl) rfl (by exact fun _ _ _=>rfl) ?_|refine Two.zU _ (fun _=>zAl (I:=k+1) rfl rfl rfl rfl (by omega)) (fun _=>rfl) rfl (by exact fun _ _ _=>rfl) ?_|refine Two.zU _ (fun _=>zGu rfl rfl rfl (by omega)) (fun _=>rfl) rfl (by intro G G' h;simp (decide:=true) only [h]) ?_)|(with_reducible refine Two.zKH ?_)))
     all_goals ((intro G;simp only [regsT,zm,Two.zAq,Two.ini,List.nil_append,List.cons_append]);(repeat' (first|((with_reducible refine zF ?_);first|refine zE rfl rfl rfl ?_|refine zC rfl rfl rfl ?_|refine zi rfl rfl rfl rfl (by omega) ?_)|(with_reducible first|refine zH ?_|refine zB ?_|refine zD ?_|refine zA ?_|refine zW ?_|refine zS ?_|refine ze ?_|refine zg ?_|refine zBb ?_)|((with_reducible refine zK ?_ ?_);(· exact rfl))|((with_reducible refine zG ?_ ?_);(· exact rfl)))))
     all_goals first|(refine zR (by exact rTm rfl) () trivial ?_ (fun _ h=>h.sub (by (repeat constructor)));refine congrArg Value.bool (hno ?_);rw [hro,zQF hk1 (by rw [e1,e2];omega),Bool.and_false])|skip
     all_goals exact zZ (k+1) ⟨by omega,fun k' h1 h2=>by
       by_cases e:k'=k
       ·subst e;rw [e1,e2];omega
       ·exact hris k' (by omega) h2⟩ (by omega) (by (repeat first|exact lK1|refine zI rfl ?_)) (by (repeat constructor))
    ·(repeat' (first|((with_reducible refine zF ?_);first|refine zE rfl rfl rfl ?_|(refine zQ rfl rfl rfl rfl rfl (fun h=>?_) (fun h=>?_)<;>(dsimp only [cmpP] at h;(try (exfalso;omega))))|refine zi rfl rfl rfl rfl (by omega) ?_)|(with_reducible first|refine zH ?_|refine zB ?_|refine zD ?_|refine zA ?_|refine zl ?_|refine zg ?_|refine zV ?_|refine zX ?_)|((with_reducible refine zG ?_ ?_);(· exact rfl))))
     have hr9:zE9 s.xs=true:=zE8.2 (fun k' h=>hris k' (by omega) h)
     exact zZ (i+1) ⟨by omega,hyes (by rw [hro,hr9];simp_all)⟩ (by omega) (by (repeat first|exact lK1|refine zI rfl ?_)) (by (repeat constructor))
 ·obtain rfl:i=pl.length:=by omega
  (repeat' (first|((with_reducible refine zF ?_);first|refine zC rfl rfl rfl ?_|(refine zQ rfl rfl rfl rfl rfl (fun h=>?_) (fun h=>?_)<;>(dsimp only [cmpP] at h;(try (exfalso;omega)))))|(with_reducible first|refine zH ?_|refine zB ?_|refine zD ?_|refine zA ?_|refine zW ?_|refine zl ?_|refine zV ?_|refine zX ?_)|((with_reducible refine zG ?_ ?_);(· exact rfl))))
  exact zR (by exact rTm rfl) () trivial (by rw [zBc.2 ⟨hlen,fun j u s h1 h2=>hall j u s (List.getElem?_eq_some_iff.1 h2).1 h1 h2⟩];rfl) (fun _ h=>h.sub (by (repeat constructor)))
end Go.Proofs.YtdigopgncfhiaaaGreatDoor
namespace Go.Proofs.YtdigopgncfhiaaaGreatDoor
variable {ro : Option Nat}
open Go.RowKit
def ClsH (w0:World) (H:List Ent) (w:World):Prop:=Below w0.heap.size w0 w∧Own w0.heap.size w H
def UQ (P:Program) (w0:World) (n:Nat) (d:List Deferred) (R:List (Nat × Value)) (H:List Ent) (ops:Array Oper) (K:Act→Prop) (rest:List Oper):Prop :=
 ∀ a:Act,a.tmps.size=n→a.defers=d→(∀ t v,lk R t=some v→a.tmps.getD t undef=v)→wpQuiet P ops (ClsH w0 H) K rest a
section
variable {P : Program} {w0:World} {n:Nat} {d:List Deferred} {R:List (Nat × Value)} {H H':List Ent} {Q:Exit→Act→World→Prop} {K:Act→Prop} {ops:Array Oper} {rest:List Oper} {o:Oper} {t:Tmp} {x y:Operand} {v:Value} {C:World→Prop}
theorem zKT {i:Nat} {a:Act} {K:Act→Prop} {K':Act→World→Prop} {Q':Exit→Act→World→Prop} {w:World} (hdf:∀ o∈ops.toList,zFQ o=false) (hC:C w) (h:∀ a w',C w'→K a→K' a w') (hh:qOp P ops C i K a):wpOpIn (FW ro) 9 P ops Q' i K' a w:=by
 unfold qOp at hh
 unfold wpOpIn
 split
 ·rename_i ho;simp only [ho] at hh;exact h _ _ hC hh
 ·rename_i o ho
  simp only [ho] at hh
  split
  ·rename_i hw;simp only [hw,if_true] at hh;exact opIn (hdf o (by have:=Array.mem_of_getElem? ho;simpa using this)) (Oper.wp_of_quiet hC h hh)
  ·rename_i hw;simp only [hw] at hh;exact ⟨fun _ _=>trivial,h _ _ hC hh⟩
theorem zEZ {Q:Act→Prop} {Q':Exit→Act→World→Prop} (hdf:∀ o∈ops.toList,zFQ o=false) (hQ:∀ a w,C w→Q a→Q' .normal a w):∀ (fuel:Nat) (listed:Array Bool) (a:Act) (w:World),C w →
  wpAnyQ P .any ops C Q fuel listed a→wpAnyIn (FW ro) 9 P .any ops Q' fuel listed a w
 | 0,_,_,_,hw,h=>⟨h.1,hQ _ _ hw h.2⟩
 | fuel+1,_,_,_,hw,h=>⟨fun h0=>hQ _ _ hw (h.1 h0),fun i hi=>zKT hdf hw (fun a' w' hw'=>zEZ hdf hQ fuel _ a' w' hw') (h.2 i hi)⟩
theorem zBW {id:Nat} {l:List Oper} (hm:P.follows .mixedOrders=true) (hB:Region.lexB .any l.toArray=true) (hDf:(l.all fun o=>!zFQ o)=true) (h:UQ P w0 n d R H l.toArray (fun a'=>∀ w',ClsH w0 H w'→Q .normal a' w') l):U w0 n d R H ((Code.region id l.toArray true).wpI ro P Q):=fun a w q=>by
 have h1:=h a q.size q.defers q.regs
 simp only [Region.lexB,Bool.and_eq_true] at hB
 have hC:ClsH w0 H { w with drawn:=w.drawn+1 }:=⟨⟨q.below.os,q.below.tape,q.below.output,q.below.size,q.below.block⟩,q.own.past (Nat.le_refl _) (fun _ _ _ _=>rfl)⟩
 refine wpIn_region_any hm (zEZ (C:=ClsH w0 H) (Q:=fun a'=>∀ w',ClsH w0 H w'→Q .normal a' w') (fun o ho=>by have:=List.all_eq_true.1 hDf o (by simpa using ho);simpa using this) (fun _ w' hw' h=>h w' hw') _ _ _ _ hC ?_)
 have:=wpAnyQ_lex (C:=ClsH w0 H) (md:=.any) hB.1 l 0 (Array.replicate l.toArray.size false) a (by simp) (by simpa using hB.2) h1
 simpa using this
theorem zCx (h:U w0 n d R H (Q .normal)):UQ P w0 n d R H ops (fun a'=>∀ w',ClsH w0 H w'→Q .normal a' w') []:=fun a h1 h2 h3=>wpQuiet_nil (fun w' hw=>h a w' ⟨h1,h2,h3,hw.1,hw.2⟩)
theorem zJV {a:Act} (h1:a.tmps.size=n) (h3:∀ t v,lk R t=some v→a.tmps.getD t undef=v) (ht:Nat.blt t n=true):∀ u x,lk ((t,v)::R) u=some x→(a.put (some t) v).tmps.getD u undef=x:=fun u x hx=>by
 have hlt:t<a.tmps.size:=by rw [h1];exact Nat.le_of_ble_eq_true ht
 by_cases hu:t=u
 ·subst hu
  rw [zCI] at hx
  cases hx
  simp [Act.put,hlt]
 ·rw [zCH hu] at hx
  have:=h3 u x hx
  simp only [Act.put,Array.getD_eq_getD_getElem?] at this ⊢
  rw [Array.getElem?_setIfInBounds_ne hu]
  exact this
theorem zI5 {a:Act} {b:Bool} (h3:∀ t v,lk R t=some v→a.tmps.getD t undef=v) (hw:want R ops o=some b):Region.wanted o (yielded ops a.tmps)=b :=
 zA3 (R:=R) (H:=[]) (n:=a.tmps.size) (d:=a.defers) (w0:=(default:World)) (w:=default) ⟨rfl,rfl,h3,Below.refl _ _,Own.nil _ _⟩ hw
theorem zj (he:Ev P w0 n d R H o v) (hrd:rdy R ops n o=some t) (h:UQ P w0 n d ((t,v)::R) H ops K rest):UQ P w0 n d R H ops K (o::rest):=fun a h1 h2 h3 =>
 wpQuiet_step fun K' hK=>by
  rw [zI5 h3 (rW hrd),if_pos rfl]
  refine ⟨v,fun w hC=>?_,?_⟩
  ·unfold Oper.quietAt
   rw [he a w ⟨h1,h2,h3,hC.1,hC.2⟩]
   exact ⟨rfl,rfl⟩
  ·rw [(rD hrd)]
   exact hK _ (h _ (by simp [Act.put,h1]) h2 (zJV h1 h3 (rT hrd)))
theorem zBv (hw:want R ops o=some false) (hd:o.dst=some t) (ht:Nat.blt t n=true) (h:UQ P w0 n d ((t,undef)::R) H ops K rest):UQ P w0 n d R H ops K (o::rest):=fun a h1 h2 h3 =>
 wpQuiet_step fun K' hK=>by
  rw [zI5 h3 hw,hd]
  simp only [Bool.false_eq_true,if_false]
  exact hK _ (h _ (by simp [Act.put,h1]) h2 (zJV h1 h3 ht))
theorem zGY {T1 T2:TypeId} {c:BinOp} {k:IntKind} {i j:Int} (hop:o.op = .binOp c T1 x y T2) (hc:zJy c=true) (hrd:rdy R ops n o=some t) (hx:evR R x=some (.int k i)) (hy:evR R y=some (.int k j))
  (h1:cmpP c i j→UQ P w0 n d ((t,.bool true)::R) H ops K rest) (h2:¬ cmpP c i j→UQ P w0 n d ((t,.bool false)::R) H ops K rest):UQ P w0 n d R H ops K (o::rest):=by
 by_cases hp:cmpP c i j
 ·exact zj (fun a w q=>zHr hc hop (q.ev hx) (q.ev hy) hp) hrd (h1 hp)
 ·exact zj (fun a w q=>zHs hc hop (q.ev hx) (q.ev hy) hp) hrd (h2 hp)
theorem zFA {f:FuncId} {fx:Operand} {xs:Array Operand} {ts:Array TypeId} {vs:List Value} {cap:Array Value} (hop:o.op = .call ⟨.value fx,xs,ts⟩) (hrd:rdy R ops n o=some t) (hf:evR R fx=some (.func (.func f) #[] cap)) (hx:evs R xs.toList=some vs) [ci:zT P f]
  (hc:∀ a w,Kn w0 n d R H a w→Gv P f (vs++cap.toList) w v) (h:UQ P w0 n d ((t,v)::R) H ops K rest):UQ P w0 n d R H ops K (o::rest):=fun a h1 h2 h3 =>
 wpQuiet_step fun K' hK=>by
  rw [zI5 h3 (rW hrd),if_pos rfl]
  refine ⟨v,fun w hC=>?_,?_⟩
  ·have q:Kn w0 n d R H a w:=⟨h1,h2,h3,hC.1,hC.2⟩
   unfold Oper.quietAt execOp;rw [hop]
   have e1:xs.map a.eval=vs.toArray:=by apply Array.ext';simpa using q.evs hx
   have e2:vs.toArray++cap=(vs++cap.toList).toArray:=by apply Array.ext';simp
   simp only [resolve,q.ev hf,e1,Deferred.ofValue,Sem.run_bind,Sem.run_pure,Result.andThen_ok,invoke,Array.empty_append,e2,ci.ent]
   refine ⟨rfl,Calls.mono (hc a w q).ret.calls ?_⟩
   rintro e w' ⟨_,_,rfl,hb,_⟩
   exact ⟨rfl,q.below.trans (hb.mono q.base),q.own.below hb⟩
  ·rw [(rD hrd)]
   exact hK _ (h _ (by simp [Act.put,h1]) h2 (zJV h1 h3 (rT hrd)))
theorem zMy {b:Bool} {f:FuncId} {fx:Operand} {xs:Array Operand} {ts:Array TypeId} {vs:List Value} {cap:Array Value} (hop:o.op = .call ⟨.value fx,xs,ts⟩) (hrd:rdy R ops n o=some t) (hf:evR R fx=some (.func (.func f) #[] cap)) (hx:evs R xs.toList=some vs) [ci:zT P f]
  (hc:∀ a w,Kn w0 n d R H a w→Gv P f (vs++cap.toList) w (.bool b)) (h1:b=true→UQ P w0 n d ((t,.bool true)::R) H ops K rest) (h2:b=false→UQ P w0 n d ((t,.bool false)::R) H ops K rest):UQ P w0 n d R H ops K (o::rest):=by
 cases b
 ·exact zFA hop hrd hf hx hc (h2 rfl)
 ·exact zFA hop hrd hf hx hc (h1 rfl)
theorem zBy (h:UQ P w0 n d R H ops K (o::rest)):UQ P w0 n d R H ops K (o::rest):=h
end
end Go.Proofs.YtdigopgncfhiaaaGreatDoor
namespace Go.Proofs.YtdigopgncfhiaaaGreatDoor.Two
variable {ro : Option Nat}
open Go.RowKit
set_option maxRecDepth 20000
section
variable {S : List (Nat × Nat)} {I:List (Nat × Nat × Nat × List Ent)} {P:Program} {w0:World} {n:Nat} {d:List Deferred} {R R0:List (Nat × Value)} {H H' H0:List Ent} {Q:Exit→Act→World→Prop} {ops:Array Oper} {bs:List (List Bool)} {b:List Bool} {k:Nat} {o:Oper} {rest:List Oper} {T:List Rw} {t:Tmp} {Hk:zAb→List Ent} {x y:Operand} {v:Value}
theorem zDR {α:Type} {enc:α→List Value} {kk e base m c:Nat} {A:Option Addr} {xs:List α} {H H':List Ent} {w:World} (ho:Own base w H) (ht:Take H (.row enc kk e (.slice A m c) xs) H') [ei:zB8 enc kk]:zp enc kk w A xs:=(ho.zET ht).here (.sl enc kk A xs) (by simp)
theorem c_take {f:zAb→Value × List Ent} (j:Nat) (hjk:(j,k)∈S) (hkI:keyI I k=false) (hl:Loc b k f) (ht:zN0 S I P w0 n d ops R0 H0 b k o T f (zm (only j T))) (h:zAt ro S I P w0 n d ops R0 H0 Q bs (k+1) rest (⟨k,o.dst,f⟩::T)):zAt ro S I P w0 n d ops R0 H0 Q (b::bs) k (o::rest) T :=
 .inl ⟨f,hl,.inr (.inl ⟨hkI,j,hjk,ht⟩),h⟩
theorem zPh {f:zAb→Value × List Ent} {E0:List Ent} {lo hi:Nat} (hkE:(k,lo,hi,E0)∈I) (hfree:takes S k=false) (hl:Loc b k f) (ht:zN0 S I P w0 n d ops R0 H0 b k o T f (fun _=>E0)) (h:zAt ro S I P w0 n d ops R0 H0 Q bs (k+1) rest (⟨k,o.dst,f⟩::T)):zAt ro S I P w0 n d ops R0 H0 Q (b::bs) k (o::rest) T :=
 .inl ⟨f,hl,.inr (.inr ⟨hfree,lo,hi,E0,hkE,ht⟩),h⟩
theorem zLo {α:Type} {enc:α→List Value} {kk e T1 bytes m:Nat} [el:ElI P T1 e kk bytes] [ei:zB8 enc kk] {xs:List α} (ys:List α) {A:zAb→Option Addr} {c:zAb→Nat} {vx:zAb→Value} (E0:zAb→List Ent) (hop:o.op = .call { callee:=.builtin .append,args:=#[x,y],argTypes:=#[T1,T1] }) (hw:∀ G,want (Rk R0 ops b o T G) ops o=some true) (hd:o.dst=some t)
  (hx:∀ G,evR (Rk R0 ops b o T G) x=some (vx G)) (hrow:∀ G,E0 G=[.row enc kk e (vx G) xs]) (hy:∀ G,evR (Rk R0 ops b o T G) y=some (.slice (A G) m (c G))) (hm:m=ys.length) (hH:∀ G,see I k++(zm (fltT (vis S k b) T) G++H0)=Hk G) (hs:∀ G w,Below w0.heap.size w0 w→Own w0.heap.size w (Hk G)→zp enc kk w (A G) ys) (hl:xs.length+ys.length≤1000000∧bytes≤1000000) :
  zN0 S I P w0 n d ops R0 H0 b k o T (fun G=>(.slice (G k).A (xs++ys).length (G k).m,[.row enc kk e (.slice (G k).A (xs++ys).length (G k).m) (xs++ys)])) E0:=by
 subst hm
 intro G L a w q ho K hK
 rw [zA3 q (hw G),if_pos rfl]
 rw [hrow G] at ho
 obtain ⟨z,hE⟩:=el.el
 obtain ⟨i,i1,i2,i3,i4⟩:=hE.info
 have hrow:Row enc kk e 0 w (vx G) xs:=ho.here (.row enc kk e (vx G) xs) (by simp)
 have hsl:=hs G w q.below (by rw [← hH G];exact q.own)
 have hlen:(ys.flatMap enc).length=ys.length * kk:=by
  simp [List.length_flatMap,ei.len,List.map_const',List.sum_replicate_nat]
 have hmul:(xs.length+ys.length) * bytes≤140737488355328:=by
  have:=Nat.mul_le_mul hl.1 hl.2;omega
 have hxv:=q.ev (hx G)
 have hyv:=q.ev (hy G)
 generalize vx G=v at *
 generalize A G=A at *
 generalize c G=c at *
 have key:∃ v' w',(Builtin.append_ #[T1,T1] o.type #[v,.slice A ys.length c]).run P w = .ok v' w'∧Row enc kk e 0 w' v' (xs++ys)∧w.grownBy w' v.ownBlock∧(v'.ownBlock=v.ownBlock∨v'.ownBlock=some w.heap.size):=by
  cases hA:A with
  | none =>
   have hys:ys=[]:=by
    cases ys with
    | nil=>rfl
    | cons y r =>
     obtain ⟨b,o,hb,_⟩:=hsl 0 y (by simp)
     rw [hA] at hb;cases hb
   subst hys hA
   refine ⟨v,w,?_,by simpa using hrow,World.grownBy.refl w _,.inl rfl⟩
   rcases hrow.2 with ⟨rfl,_⟩ | ⟨g,cap,cur,rfl,_,_,hnc,_⟩
   ·simp [Builtin.append_,run_underlying hE.under,sizeOf,typeInfo,i1,Builtin.lenOf,Builtin.firstCells]
   ·simp [Builtin.append_,run_underlying hE.under,sizeOf,typeInfo,i1,Builtin.lenOf,Builtin.firstCells,hnc,storeCells]
  | some ad =>
   subst hA
   obtain ⟨v',w',r1,r2,r3,_,r5⟩:=run_append_own_at (P:=P) w 0 T1 o.type e i z kk bytes hE.under i1 i2 i3 i4 hE.zs hE.pos v xs.length (xs.flatMap enc) hrow ad ys.length c (ys.flatMap enc) hlen
    (fun j u hu=>by
     obtain ⟨i,y,l,hi,hl,rfl⟩:=zJ5 ei.len ys j u hu
     obtain ⟨b,o,hb,hlt,hc⟩:=hsl i y hi
     cases hb
     have e1:(⟨b,o,none⟩:Addr).add (i * kk+l)=⟨b,o+i * kk+l,none⟩:=by rw [zCa];congr 1;omega
     rw [e1];exact hc l u hl)
    (fun u hu=>by
     obtain ⟨y,_,hy'⟩:=List.mem_flatMap.1 hu
     exact ei.one y u hy') (by unfold maxLen;omega) hmul (Nat.zero_le _)
   exact ⟨v',w',r1,by unfold Row;simpa using r2,r3,r5⟩
 obtain ⟨v',w',k1,k2,k3,k4⟩:=key
 obtain ⟨A',c',rfl⟩:=k2.form
 unfold Oper.wp execOp
 simp only [hop,resolve,invoke,builtin,Sem.run_bind,Sem.run_pure,Result.andThen_ok,List.map_toArray,List.map_cons,List.map_nil,hxv,hyv,k1,Oper.upon_value]
 have hfoot:∀ b,v.ownBlock=some b→w0.heap.size≤b∧b<w.heap.size:=fun b hb=>ho.foot (.row enc kk e v xs) (by simp) b hb
 refine hK (.slice A' (xs++ys).length c') [.row enc kk e (.slice A' (xs++ys).length c') (xs++ys)] _ ⟨⟨0,A',c'⟩,by simp only [upW,if_true]⟩ ?_ ?_
 ·exact q.below.trans ⟨k3.os,k3.tape,k3.output,k3.size,fun b hb=>k3.block b (by have:=q.base;omega) (fun e=>by have:=(hfoot b e.symm).1;omega)⟩
 ·refine ho.turn k3.size (fun b hb hn=>k3.block b hb (fun e=>hn e.symm)) q.base k2 (fun b hb=>?_)
  have hb':(Value.slice A' (xs++ys).length c').ownBlock=some b:=hb
  have hlt:=k2.lt b hb'
  rcases k4 with h4|h4
  ·exact ⟨.inl (h4.symm.trans hb'),hlt.2⟩
  ·rw [h4] at hb';cases hb';exact ⟨.inr (Nat.le_refl _),hlt.2⟩
theorem zEy {α:Type} {enc:α→List Value} {kk e T1 bytes m:Nat} [el:ElI P T1 e kk bytes] [ei:zB8 enc kk] {xs:List α} (ys:List α) {A:zAb→Option Addr} {c:zAb→Nat} {vx:Value} {lo hi:Nat} (hkE:(k,lo,hi,[Ent.row enc kk e vx xs])∈I) (hfree:takes S k=false) (hop:o.op = .call { callee:=.builtin .append,args:=#[x,y],argTypes:=#[T1,T1] }) (hw:∀ G,want (Rk R0 ops b o T G) ops o=some true) (hd:o.dst=some t)
  (hx:∀ G,evR (Rk R0 ops b o T G) x=some vx) (hy:∀ G,evR (Rk R0 ops b o T G) y=some (.slice (A G) m (c G))) (hm:m=ys.length) (hH:∀ G,see I k++(zm (fltT (vis S k b) T) G++H0)=Hk G) (hs:∀ G w,Below w0.heap.size w0 w→Own w0.heap.size w (Hk G)→zp enc kk w (A G) ys) (hl:xs.length+ys.length≤1000000∧bytes≤1000000)
  (h:zAt ro S I P w0 n d ops R0 H0 Q bs (k+1) rest (⟨k,some t,fun G=>(.slice (G k).A (xs++ys).length (G k).m,[.row enc kk e (.slice (G k).A (xs++ys).length (G k).m) (xs++ys)])⟩::T)):zAt ro S I P w0 n d ops R0 H0 Q (b::bs) k (o::rest) T :=
 zPh (f:=fun G=>(.slice (G k).A (xs++ys).length (G k).m,[.row enc kk e (.slice (G k).A (xs++ys).length (G k).m) (xs++ys)])) hkE hfree (fun G G' hG=>by simp only [hG k (.inl rfl)]) (zLo (vx:=fun _=>vx) ys (fun _=>[Ent.row enc kk e vx xs]) hop hw hd hx (fun _=>rfl) hy hm hH hs hl) (by rw [hd];exact h)
end
end Go.Proofs.YtdigopgncfhiaaaGreatDoor.Two
namespace Go.Proofs.YtdigopgncfhiaaaGreatDoor
open Go.RowKit
set_option maxRecDepth 20000
def zCB (c:Cov) (pl:List Sli):Int:=if zAs c=0 then (if zBd c pl then 0 else 21) else zAs c
theorem zFl (c:Cov) (A:Option Addr) (ca:Nat) (B:Option Addr) (cb:Nat) (C:Option Addr) (cc:Nat) (w:World) (h:zAp w c A B C) (hs:Small c) (he:zAs c≠0):Gv Tryz.prog 62 [zAS c A ca B cb C cc] w (.tuple #[.pointer none,.int .i64 (zAs c)]):=by
 have hc:=fun W (hb:Below w.heap.size w W)=>zJ0 c A ca B cb C cc W (h.below hb) hs
 unfold zAS zN at hc
 generalize zAs c=e at *
 unfold Gv zAS zN
 (refine zJ (n:=13) Tryz.func62 rfl rfl rfl ?_)
 (repeat' (first|((with_reducible refine zF ?_);first|refine zE rfl rfl rfl ?_|refine zC rfl rfl rfl ?_|(refine zL rfl rfl rfl ?_;refine ⟨_,rfl,?_⟩)|(refine zQ rfl rfl rfl rfl rfl (fun h=>?_) (fun h=>?_)<;>(dsimp only [cmpP] at h;(try (exfalso;omega))))|refine zY rfl rfl rfl rfl (fun _ _ q=>hc _ q.below) ?_|(refine zy rfl rfl rfl rfl (fun b=>?_)))|(with_reducible first|refine zH ?_|refine zB ?_|refine zD ?_|refine zA ?_|refine zW ?_|refine ze ?_)|((with_reducible refine zK ?_ ?_);(· exact rfl))))
 all_goals exact zR (by (exact zf.cons (by exact zAL.tmp rfl) (zf.cons (by exact zAL.tmp rfl) zf.nil))) () trivial rfl (fun _ h=>h.sub (by (repeat constructor)))
theorem zDr (c:Cov) (A:Option Addr) (ca:Nat) (B:Option Addr) (cb:Nat) (C:Option Addr) (cc:Nat) (w:World) (h:zAp w c A B C) (hs:Small c) (he:zAs c=0):Ret Tryz.prog 62 [zAS c A ca B cb C cc] w (fun g:Nat=>.tuple #[.pointer (some ⟨g,0,none⟩),.int .i64 0]) (fun g=>[.blk g (zN c A ca B cb C cc)]) (fun _=>True):=by
 have hc:=fun W (hb:Below w.heap.size w W)=>zJ0 c A ca B cb C cc W (h.below hb) hs
 unfold zAS zN at hc
 rw [he] at hc
 unfold zAS zN
 (refine zJ (n:=13) Tryz.func62 rfl rfl rfl ?_)
 (repeat' (first|((with_reducible refine zF ?_);first|refine zE rfl rfl rfl ?_|refine zC rfl rfl rfl ?_|(refine zL rfl rfl rfl ?_;refine ⟨_,rfl,?_⟩)|(refine zQ rfl rfl rfl rfl rfl (fun h=>?_) (fun h=>?_)<;>(dsimp only [cmpP] at h;(try (exfalso;omega))))|refine zY rfl rfl rfl rfl (fun _ _ q=>hc _ q.below) ?_|(refine zy rfl rfl rfl rfl (fun b=>?_))|(refine zAo rfl rfl rfl ?_;refine ⟨_,rfl,?_⟩))|(with_reducible first|refine zH ?_|refine zB ?_|refine zD ?_|refine zA ?_|refine zW ?_|refine zS ?_)|((with_reducible refine zG ?_ ?_);(· exact rfl))))
 all_goals exact zR (by (exact zf.cons (by exact zAL.tmp rfl) (zf.cons (by exact zAL.tmp rfl) zf.nil))) _ trivial rfl (fun _ h=>h.sub (by (repeat constructor)))
theorem zEk (c:Cov) (A:Option Addr) (ca:Nat) (B:Option Addr) (cb:Nat) (C:Option Addr) (cc:Nat) (pl:List Sli) (P:Option Addr) (cp:Nat) (w:World) (h:zAp w c A B C) (hs:Small c) (hp:zBJ w P pl) (hl:pl.length≤12) (hrl:∀ s∈pl,s.xs.length≤20) (he:zCB c pl≠0) :
  Gv Tryz.prog 56 [zAS c A ca B cb C cc,.slice P pl.length cp] w (.tuple #[.pointer none,.int .i64 (zCB c pl)]):=by
 have h1:=fun W (hb:Below w.heap.size w W)=>zFl c A ca B cb C cc W (h.below hb) hs
 have h2:=fun W (hb:Below w.heap.size w W)=>zDr c A ca B cb C cc W (h.below hb) hs
 have h3:=fun W (hb:Below w.heap.size w W) g (hr:InC W g 0 (zN c A ca B cb C cc))=>zHN c A ca B cb C cc g pl P cp W hr (h.below hb) (hp.below hb) hs hl hrl
 unfold zAS at h1 h2
 unfold Gv zAS
 unfold zCB at he ⊢
 by_cases h0:zAs c=0
 ·rw [if_pos h0] at he ⊢
  have hpl:zBd c pl=false:=by
   cases hq:zBd c pl with
   | false=>rfl
   | true=>rw [hq] at he;exact absurd rfl he
  rw [hpl] at h3 ⊢
  unfold zN at h2 h3 ⊢
  (refine zJ (n:=21) Tryz.func56 rfl rfl rfl ?_)
  (repeat' (first|((with_reducible refine zF ?_);first|refine zE rfl rfl rfl ?_|refine zC rfl rfl rfl ?_|(refine zL rfl rfl rfl ?_;refine ⟨_,rfl,?_⟩)|(refine zQ rfl rfl rfl rfl rfl (fun h=>?_) (fun h=>?_)<;>(dsimp only [cmpP] at h;(try (exfalso;omega))))|(refine zAW rfl rfl rfl rfl (fun _ _ q=>h2 _ q.below h0) ?_;rintro g -;dsimp only [List.cons_append,List.nil_append])|refine zY rfl rfl rfl rfl (fun _ _ q=>h3 _ q.below _ (zBO q.own (Below.refl _ _) rfl)) ?_|refine zc rfl rfl rfl rfl ?_|refine zAd rfl rfl rfl ?_|(refine zy rfl rfl rfl rfl (fun b=>?_)))|(with_reducible first|refine zH ?_|refine zB ?_|refine zD ?_|refine zA ?_|refine zW ?_|refine zS ?_|refine ze ?_)|((with_reducible refine zK ?_ ?_);(· exact rfl))|((with_reducible refine zG ?_ ?_);(· exact rfl))))
  all_goals exact zR (by (exact zf.cons (by exact zAL.tmp rfl) (zf.cons (by exact zAL.tmp rfl) zf.nil))) () trivial rfl (fun _ h=>h.sub (by (repeat constructor)))
 ·rw [if_neg h0] at he ⊢
  unfold zN at h1 ⊢
  generalize zAs c=e at *
  (refine zJ (n:=21) Tryz.func56 rfl rfl rfl ?_)
  (repeat' (first|((with_reducible refine zF ?_);first|refine zE rfl rfl rfl ?_|refine zC rfl rfl rfl ?_|(refine zL rfl rfl rfl ?_;refine ⟨_,rfl,?_⟩)|(refine zQ rfl rfl rfl rfl rfl (fun h=>?_) (fun h=>?_)<;>(dsimp only [cmpP] at h;(try (exfalso;omega))))|refine zY rfl rfl rfl rfl (fun _ _ q=>h1 _ q.below h0) ?_|refine zc rfl rfl rfl rfl ?_|(refine zy rfl rfl rfl rfl (fun b=>?_)))|(with_reducible first|refine zH ?_|refine zB ?_|refine zD ?_|refine zA ?_|refine zW ?_|refine ze ?_)|((with_reducible refine zK ?_ ?_);(· exact rfl))))
  all_goals exact zR (by (exact zf.cons (by exact zAL.tmp rfl) (zf.cons (by exact zAL.tmp rfl) zf.nil))) () trivial rfl (fun _ h=>h.sub (by (repeat constructor)))
theorem zEj (c:Cov) (A:Option Addr) (ca:Nat) (B:Option Addr) (cb:Nat) (C:Option Addr) (cc:Nat) (pl:List Sli) (P:Option Addr) (cp:Nat) (w:World) (h:zAp w c A B C) (hs:Small c) (hp:zBJ w P pl) (hl:pl.length≤12) (hrl:∀ s∈pl,s.xs.length≤20) (he:zAs c=0) (hpl:zBd c pl=true) :
  Ret Tryz.prog 56 [zAS c A ca B cb C cc,.slice P pl.length cp] w (fun g:Nat=>.tuple #[.pointer (some ⟨g,0,none⟩),.int .i64 0]) (fun g=>[.blk g (zN c A ca B cb C cc)]) (fun _=>True):=by
 have h2:=fun W (hb:Below w.heap.size w W)=>zDr c A ca B cb C cc W (h.below hb) hs he
 have h3:=fun W (hb:Below w.heap.size w W) g (hr:InC W g 0 (zN c A ca B cb C cc))=>zHN c A ca B cb C cc g pl P cp W hr (h.below hb) (hp.below hb) hs hl hrl
 unfold zAS at h2 ⊢
 rw [hpl] at h3
 unfold zN at h2 h3 ⊢
 (refine zJ (n:=21) Tryz.func56 rfl rfl rfl ?_)
 (repeat' (first|((with_reducible refine zF ?_);first|refine zE rfl rfl rfl ?_|refine zC rfl rfl rfl ?_|(refine zL rfl rfl rfl ?_;refine ⟨_,rfl,?_⟩)|(refine zQ rfl rfl rfl rfl rfl (fun h=>?_) (fun h=>?_)<;>(dsimp only [cmpP] at h;(try (exfalso;omega))))|(refine zAW rfl rfl rfl rfl (fun _ _ q=>h2 _ q.below) ?_;rintro g -;dsimp only [List.cons_append,List.nil_append])|refine zY rfl rfl rfl rfl (fun _ _ q=>h3 _ q.below _ (zBO q.own (Below.refl _ _) rfl)) ?_|refine zc rfl rfl rfl rfl ?_|refine zAd rfl rfl rfl ?_|(refine zy rfl rfl rfl rfl (fun b=>?_)))|(with_reducible first|refine zH ?_|refine zB ?_|refine zD ?_|refine zA ?_|refine zW ?_|refine zS ?_)|((with_reducible refine zG ?_ ?_);(· exact rfl))))
 all_goals exact zR (by (exact zf.cons (by exact zAL.tmp rfl) (zf.cons (by exact zAL.tmp rfl) zf.nil))) _ trivial rfl (fun _ h=>h.sub (by (repeat constructor)))
def zBs (c:Cov) (z:Bed) (u:Hour):Sp:=⟨z.sun * u.melt.lo+u.runs * c.wear.lo,z.sun * u.melt.hi+u.runs * c.wear.hi⟩
structure zD5 (c:Cov):Prop where
 bed:∀ z∈c.beds,zEz z=true
 hour:∀ u∈c.hours,zCe u=true
 wear:zBT c.wear 0 20=true
 layer:zBT c.layer 1 100=true
 rate:inB 0 100 c.rate=true
 limit:inB 0 2000 c.limit=true
 base:inB 0 c.limit c.base=true
 beds:c.beds.length=c.t.length
 hours:inB 1 8 c.hours.length=true
theorem zBm {c:Cov} (h:zAs c=0):zD5 c:=by
 unfold zAs at h
 by_cases hv:valid c.t=true
 ·rw [if_pos hv] at h
  by_cases hi:zEO c=true
  ·obtain ⟨i1,i2,i3,i4,i5,i6,i7,i8,i9⟩:=zCT.1 hi
   exact ⟨fun z hz=>List.all_eq_true.1 i3 z hz,fun z hz=>List.all_eq_true.1 i4 z hz,i5,i6,i7,i8,i9,i1,i2⟩
  ·rw [if_neg hi] at h;cases h
 ·rw [if_neg hv] at h;cases h
theorem zCy {a b A B:Int} (h1:0≤a) (h2:a≤A) (h3:0≤b) (h4:b≤B):0≤a * b∧a * b≤A * B :=
 ⟨Int.mul_nonneg h1 h3,Int.le_trans (Int.mul_le_mul_of_nonneg_right h2 h3) (Int.mul_le_mul_of_nonneg_left h4 (Int.le_trans h1 h2))⟩
theorem zPV {c:Cov} {z:Bed} {u:Hour} (hf:zD5 c) (hz:z∈c.beds) (hu:u∈c.hours) :
  (0≤z.sun * u.melt.lo∧z.sun * u.melt.lo≤450)∧(0≤z.sun * u.melt.hi∧z.sun * u.melt.hi≤450)∧(0≤u.runs * c.wear.lo∧u.runs * c.wear.lo≤1200)∧(0≤u.runs * c.wear.hi∧u.runs * c.wear.hi≤1200):=by
 have h1:=hf.bed z hz;have h2:=hf.hour u hu;have h3:=hf.wear
 simp only [zEz,zCe,Bool.and_eq_true,zA5,zAB] at h1 h2 h3
 exact ⟨zCy (A:=9) (B:=50) (by omega) (by omega) (by omega) (by omega),zCy (A:=9) (B:=50) (by omega) (by omega) (by omega) (by omega),zCy (A:=60) (B:=20) (by omega) (by omega) (by omega) (by omega),zCy (A:=60) (B:=20) (by omega) (by omega) (by omega) (by omega)⟩
theorem zEf {c:Cov} {z:Bed} {u:Hour} (hf:zD5 c) (hz:z∈c.beds) (hu:u∈c.hours):0≤(zBs c z u).lo∧(zBs c z u).lo≤1650∧0≤(zBs c z u).hi∧(zBs c z u).hi≤1650:=by
 have:=zPV hf hz hu
 simp only [zBs];omega
set_option maxHeartbeats 2000000 in
theorem zGL (c:Cov) (A:Option Addr) (ca:Nat) (B:Option Addr) (cb:Nat) (C:Option Addr) (cc g i j:Nat) (z:Bed) (u:Hour) (w:World) (hr:InC w g 0 (zN c A ca B cb C cc)) (h:zAp w c A B C) (hs:Small c) (hf:zD5 c) (hz:c.beds[i]?=some z) (hu:c.hours[j]?=some u) :
  Gv Tryz.prog 88 [.pointer (some ⟨g,0,none⟩),.int .i64 (i:Int),.int .i64 (j:Int)] w (vSp (zBs c z u)):=by
 have h4:=hs.b;have h5:=hs.h
 have hb:=h.b;have hh:=h.h
 have hzm:=List.mem_of_getElem? hz
 have hum:=List.mem_of_getElem? hu
 obtain ⟨⟨m1,m2⟩,⟨m3,m4⟩,⟨m5,m6⟩,m7,m8⟩:=zPV hf hzm hum
 have hi:=(List.getElem?_eq_some_iff.1 hz).1
 have hj:=(List.getElem?_eq_some_iff.1 hu).1
 obtain ⟨bb,o,rfl,hblt,hc⟩:=hb.at_ hi
 have:InS w bb o zAw 3 c.beds:=⟨hb⟩
 have:zAQ c.beds i z:=⟨hz⟩
 obtain ⟨bc,oc,rfl,hblt2,hc2⟩:=hh.at_ hj
 have:InS w bc oc zAD 5 c.hours:=⟨hh⟩
 have:zAQ c.hours j u:=⟨hu⟩
 unfold zN at hr
 unfold Gv zBs vSp
 (refine zJ (n:=57) Tryz.func88 rfl rfl rfl ?_)
 (repeat' (first|((with_reducible refine zF ?_);first|(refine zh rfl rfl (fun b=>?_)))|(with_reducible first|refine zH ?_|refine zB ?_|refine zD ?_|refine zA ?_)))
 (refine Two.zAV [] [] [] rfl (show ([]:List Nat).Nodup by decide) (fun _ h=>h) (by kernel_rfl) [[],[Z],[Z,Z],[Z,Z,Z],[Z,Z,Z,Z],[Y,Y,Y,Y,Y],[Z,Z,Z,Z,Z,Z],[Z,Z,Z,Z,Z,Z,Z],[Z,Z,Z,Z,Z,Z,Z,Z],[Y,Y,Y,Y,Y,Y,Y,Y,Y],[Z,Y,Y,Y,Y,Y,Y,Y,Y,Y],[Z,Z,Y,Y,Y,Y,Y,Y,Y,Y,Y],[Z,Z,Z,Y,Y,Y,Y,Y,Y,Y,Y,Y],[Z,Z,Z,Z,Y,Y,Y,Y,Y,Y,Y,Y,Y],[Y,Y,Y,Y,Y,Y,Y,Y,Y,Y,Y,Y,Y,Y],[Z,Z,Z,Z,Z,Z,Y,Y,Y,Y,Y,Y,Y,Y,Y],[Z,Z,Z,Z,Z,Z,Z,Y,Y,Y,Y,Y,Y,Y,Y,Y],[Y,Y,Y,Y,Y,Y,Y,Y,Y,Y,Y,Y,Y,Y,Y,Y,Y],[Z,Y,Y,Y,Y,Y,Y,Y,Y,Z,Z,Z,Z,Z,Z,Z,Z,Z],[Z,Z,Z,Z,Z,Z,Z,Z,Z,Z,Z,Z,Z,Z,Z,Z,Z,Z,Z]] (by kernel_rfl) (by kernel_rfl) (by kernel_rfl) (by kernel_rfl) (by kernel_rfl) ?_)
 (repeat' (first|(((with_reducible refine Two.zCC ?_ ?_);(· exact rfl);refine ⟨_,fun G=>(by (try simp (decide:=true) only [Two.vis,Two.see,fltT,zm,Nat.reduceAdd,Nat.reduceSub,if_true,if_false,List.set_cons_zero,List.set_cons_succ,List.set_nil,List.nil_append,List.cons_append]);rfl),?_⟩);first|refine Two.zU _ (fun _=>zAO rfl rfl) (fun _=>rfl) rfl (by intro G G' h;simp (decide:=true) only [h]) ?_|refine Two.zU _ (fun _=>zu rfl rfl (by exact rfl)) (fun _=>rfl) rfl (by intro G G' h;simp (decide:=true) only [h]) ?_|(refine Two.zAC rfl ?_;refine Two.zU _ (fun _=>zAE rfl rfl) (fun _=>rfl) rfl (by intro G G' h;simp (decide:=true) only [h]) ?_)|refine Two.zU _ (fun _=>zBr rfl rfl) (fun _=>rfl) rfl (by intro G G' h;simp (decide:=true) only [h]) ?_|refine Two.zU _ (fun _=>zAl (I:=i) rfl rfl rfl rfl (by omega)) (fun _=>rfl) rfl (by exact fun _ _ _=>rfl) ?_|refine Two.zU _ (fun _=>zAl (I:=j) rfl rfl rfl rfl (by omega)) (fun _=>rfl) rfl (by exact fun _ _ _=>rfl) ?_|refine Two.zU _ (fun _=>zAJ rfl rfl) (fun _=>rfl) rfl (by intro G G' h;simp (decide:=true) only [h]) ?_|refine Two.zGR rfl (fun _=>rfl) rfl ?_)|((with_reducible refine Two.zA8 ?_ ?_);(· exact rfl))))
 (intro G;simp only [regsT,zm,Two.zAq,Two.ini,List.nil_append,List.cons_append])
 (repeat' (first|((with_reducible refine zF ?_);first|(refine za rfl rfl rfl rfl rfl ?_;refine ⟨rfl,by first|decide|exact Nat.le_of_ble_eq_true rfl|(simp;omega),_,rfl,?_⟩))|(with_reducible first|refine zH ?_|refine zD ?_|refine zA ?_)))
 (refine Two.zAV [] [] [] rfl (show ([]:List Nat).Nodup by decide) (fun _ h=>h) (by kernel_rfl) [[],[Y],[Z,Y],[Z,Z,Y],[Z,Z,Z,Z],[Y,Y,Y,Y,Y],[Z,Y,Y,Y,Y,Y],[Y,Y,Y,Y,Y,Y,Y],[Z,Y,Y,Y,Y,Y,Y,Y],[Z,Z,Y,Y,Y,Y,Y,Y,Y],[Z,Z,Z,Y,Y,Y,Y,Y,Y,Y],[Z,Z,Z,Z,Y,Y,Y,Y,Y,Y,Y],[Z,Z,Z,Z,Z,Y,Y,Y,Y,Y,Y,Y],[Z,Z,Z,Z,Z,Z,Z,Z,Y,Y,Y,Y,Y],[Z,Z,Z,Z,Z,Z,Z,Z,Z,Z,Z,Z,Z,Z],[Y,Y,Y,Y,Y,Y,Y,Y,Y,Y,Y,Y,Y,Y,Y],[Y,Y,Y,Y,Y,Y,Y,Y,Y,Y,Y,Y,Y,Y,Y,Y],[Z,Y,Y,Y,Y,Y,Y,Y,Y,Y,Y,Y,Y,Y,Y,Y,Y],[Z,Z,Y,Y,Y,Y,Y,Y,Y,Y,Y,Y,Y,Y,Y,Y,Y,Y],[Z,Z,Z,Z,Y,Y,Y,Y,Y,Y,Y,Y,Y,Y,Y,Y,Y,Y,Y],[Y,Y,Y,Y,Y,Y,Y,Y,Y,Y,Y,Y,Y,Y,Y,Y,Y,Y,Y,Y],[Z,Y,Y,Y,Y,Y,Y,Y,Y,Y,Y,Y,Y,Y,Y,Y,Y,Y,Y,Y,Y],[Y,Y,Y,Y,Y,Y,Y,Y,Y,Y,Y,Y,Y,Y,Y,Y,Y,Y,Y,Y,Y,Y],[Z,Y,Y,Y,Y,Y,Y,Y,Y,Y,Y,Y,Y,Y,Y,Y,Y,Y,Y,Y,Y,Y,Y],[Z,Z,Y,Y,Y,Y,Y,Y,Y,Y,Y,Y,Y,Y,Y,Y,Y,Y,Y,Y,Y,Y,Y,Y],[Z,Z,Z,Y,Y,Y,Y,Y,Y,Y,Y,Y,Y,Y,Y,Y,Y,Y,Y,Y,Y,Y,Y,Y,Y],[Z,Z,Z,Z,Y,Y,Y,Y,Y,Y,Y,Y,Y,Y,Y,Y,Y,Y,Y,Y,Y,Y,Y,Y,Y,Y],[Z,Z,Z,Z,Z,Y,Y,Y,Y,Y,Y,Y,Y,Y,Y,Y,Y,Y,Y,Y,Y,Y,Y,Y,Y,Y,Y],[Z,Z,Z,Z,Z,Z,Z,Z,Y,Y,Y,Y,Y,Y,Y,Y,Y,Y,Y,Y,Y,Y,Y,Y,Y,Y,Y,Y],[Z,Z,Z,Z,Z,Z,Z,Z,Z,Z,Z,Z,Z,Z,Y,Y,Y,Y,Y,Y,Y,Y,Y,Y,Y,Y,Y,Y,Y],[Z,Z,Z,Z,Z,Z,Z,Z,Z,Z,Z,Z,Z,Z,Z,Z,Z,Z,Z,Z,Z,Z,Z,Z,Z,Z,Z,Z,Z,Z],[Z,Z,Z,Z,Z,Z,Z,Z,Z,Z,Z,Z,Z,Z,Z,Z,Z,Z,Z,Z,Z,Z,Z,Z,Z,Z,Z,Z,Z,Z,Z]] (by kernel_rfl) (by kernel_rfl) (by kernel_rfl) (by kernel_rfl) (by kernel_rfl) ?_)
 (repeat' (first|(((with_reducible refine Two.zCC ?_ ?_);(· exact rfl);refine ⟨_,fun G=>(by (try simp (decide:=true) only [Two.vis,Two.see,fltT,zm,Nat.reduceAdd,Nat.reduceSub,if_true,if_false,List.set_cons_zero,List.set_cons_succ,List.set_nil,List.nil_append,List.cons_append]);rfl),?_⟩);first|refine Two.zU _ (fun _=>zAO rfl rfl) (fun _=>rfl) rfl (by intro G G' h;simp (decide:=true) only [h]) ?_|refine Two.zU _ (fun _=>zu rfl rfl (by exact rfl)) (fun _=>rfl) rfl (by intro G G' h;simp (decide:=true) only [h]) ?_|(refine Two.zAC rfl ?_;refine Two.zU _ (fun _=>zAE rfl rfl) (fun _=>rfl) rfl (by intro G G' h;simp (decide:=true) only [h]) ?_)|refine Two.zU _ (fun _=>zIc rfl rfl rfl (IntWalk.i64_in _ (by omega))) (fun _=>rfl) rfl (by intro G G' h;simp (decide:=true) only [h]) ?_|refine Two.zU _ (fun _=>e_mul rfl rfl rfl (IntWalk.i64_in _ (by omega))) (fun _=>rfl) rfl (by intro G G' h;simp (decide:=true) only [h]) ?_|refine Two.zU _ (fun _=>zAJ rfl rfl) (fun _=>rfl) rfl (by intro G G' h;simp (decide:=true) only [h]) ?_|refine Two.zU _ (fun _=>zDN rfl rfl (by exact rfl)) (fun _=>rfl) rfl (by intro G G' h;simp (decide:=true) only [h]) ?_)|((with_reducible refine Two.zA8 ?_ ?_);(· exact rfl))))
 (intro G;simp only [regsT,zm,Two.zAq,Two.ini,List.nil_append,List.cons_append])
 (repeat' (first|((with_reducible refine zF ?_);first|(refine za rfl rfl rfl rfl rfl ?_;refine ⟨rfl,by first|decide|exact Nat.le_of_ble_eq_true rfl|(simp;omega),_,rfl,?_⟩))|(with_reducible first|refine zD ?_|refine zA ?_|refine zW ?_)))
 exact zR (by (exact zf.cons (by exact res1c rfl (by exact rfl)) zf.nil)) () trivial rfl (fun _ h=>h.sub (by (repeat constructor)))
end Go.Proofs.YtdigopgncfhiaaaGreatDoor
