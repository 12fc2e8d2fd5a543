/- F9 -/
import Derived.Test.YtdigopgncfhiaaaGreatDoorF8
import Derived.Test.YtdigopgncfhiaaaGreatDoorF6
import Derived.Deep.Quiet
import Derived.Test.YtdigopgncfhiaaaGreatDoorF5
set_option linter.unusedSimpArgs false
set_option linter.unusedVariables false
namespace Go.Proofs.YtdigopgncfhiaaaGreatDoor
open Go.RowKit
set_option maxRecDepth 20000
theorem zMG {c:Cov} {z:Bed} (hz:z∈c.beds) (h:zEG z=false):zDe c=false:=by
 cases hi:zDe c with
 | false=>rfl
 | true =>
  have:=List.all_eq_true.1 (zCO.1 hi).2.2.1 z hz
  rw [h] at this;cases this
theorem zLC {c:Cov} {z:Hour} (hz:z∈c.hours) (h:zCH z=false):zDe c=false:=by
 cases hi:zDe c with
 | false=>rfl
 | true =>
  have:=List.all_eq_true.1 (zCO.1 hi).2.2.2.1 z hz
  rw [h] at this;cases this
theorem zIW {α:Type} {p:α→Bool} {l:List α} (h:∀ j z,j<l.length→l[j]?=some z→p z=true):l.all p=true:=by
 rw [List.all_eq_true]
 intro x hx
 obtain ⟨j,hj⟩:=List.mem_iff_getElem?.1 hx
 exact h j x (List.getElem?_eq_some_iff.1 hj).1 hj
theorem zIs {α:Type} {p:α→Bool} {l:List α} {i:Nat} {z:α} (hz:l[i]?=some z) (hp:p z=true) (h:∀ j y,j<i→l[j]?=some y→p y=true):∀ j y,j<i+1→l[j]?=some y→p y=true:=by
 intro j y hj hy
 by_cases e:j=i
 ·subst e;rw [hz] at hy;cases hy;exact hp
 ·exact h j y (by omega) hy
set_option maxHeartbeats 2000000 in
theorem rice_any (c:Cov) (A:Option Addr) (ca:Nat) (B:Option Addr) (cb:Nat) (C:Option Addr) (cc:Nat) (w:World) (h0:zAe w c A B C) (hs:Small c):Gv Tryz.prog 97 [zAH c A ca B cb C cc] w (.bool (zDe c)):=by
 have h3:=hs.t;have h4:=hs.b;have h5:=hs.h
 have hb:=h0.b;have hh:=h0.h
 unfold Gv zAH zM
 (refine zJ (n:=106) Tryz.func97 rfl rfl rfl ?_)
 (repeat' (first|((with_reducible refine zF ?_);first|refine zE rfl rfl rfl ?_|refine zC rfl rfl rfl ?_|(refine zK rfl rfl rfl ?_;refine ⟨_,rfl,?_⟩)|refine za rfl rfl rfl ?_|refine zAB rfl rfl rfl rfl ?_|refine zd rfl rfl rfl ?_|(refine zQ rfl rfl rfl rfl rfl (fun h=>?_) (fun h=>?_)<;>(dsimp only [cmpP] at h;(try (exfalso;omega))))|(refine zAI rfl rfl rfl rfl (fun _ _ q=>zEQ _ _ _ _) (fun h=>?_) (fun h=>?_)<;>(try (exfalso;omega)))|(refine zAI rfl rfl rfl rfl (fun _ _ q=>zCp c.wear 0 20 _) (fun h=>?_) (fun h=>?_)<;>(try (exfalso;omega)))|(refine zAI rfl rfl rfl rfl (fun _ _ q=>zCp c.layer 1 100 _) (fun h=>?_) (fun h=>?_)<;>(try (exfalso;omega)))|refine zAN rfl rfl rfl ?_|refine zo rfl rfl rfl ?_|(refine zu rfl rfl rfl rfl (fun b=>?_)))|(with_reducible first|refine zH ?_|refine zB ?_|refine zD ?_|refine zA ?_|refine zX ?_|refine zT ?_|refine zZ ?_|refine zP ?_)|((with_reducible refine zI ?_ ?_);(· exact rfl))|((with_reducible refine zG ?_ ?_);(· exact rfl))))
 all_goals first|exact zS (by exact rTm rfl) () trivial (by rw [show zDe c=false from by cases hi:zDe c with|false=>rfl|true=>(exfalso;obtain ⟨i1,i2,i3,i4,i5,i6,i7,i8,i9⟩:=zCO.1 hi;first|omega|simp_all)];rfl) (fun _ h=>h.sub (by (repeat constructor)))|skip
 refine zw (ι:=Nat) [1] rfl (fun i=>i≤c.beds.length∧∀ j z,j<i→c.beds[j]?=some z→zEG z=true) (fun i=>[(3,.int .i64 (i:Int))]) (fun _=>[.blk b (zM c A ca B cb C cc)]) (fun i=>c.beds.length - i) 0 ⟨Nat.zero_le _,fun j z h=>by omega⟩ (by (repeat first|exact lK1|refine zL rfl ?_)) (by (repeat constructor)) ?_
 rintro i ⟨hi,hall⟩
 simp only [zAt,List.cons_append,List.nil_append]
 unfold zM
 by_cases hlt:i<c.beds.length
 ·obtain ⟨z,hz⟩:∃ z,c.beds[i]?=some z:=⟨_,List.getElem?_eq_getElem hlt⟩
  have hm:=List.mem_of_getElem? hz
  obtain ⟨bb,o,rfl,hblt,hc⟩:=hb.at_ hlt
  have:InS w bb o zAK 3 c.beds:=⟨hb⟩
  have:zAT c.beds i z:=⟨hz⟩
  (repeat' (first|((with_reducible refine zF ?_);first|refine zE rfl rfl rfl ?_|refine zC rfl rfl rfl ?_|(refine zK rfl rfl rfl ?_;refine ⟨_,rfl,?_⟩)|refine za rfl rfl rfl ?_|refine zAB rfl rfl rfl rfl ?_|refine zd rfl rfl rfl ?_|(refine zQ rfl rfl rfl rfl rfl (fun h=>?_) (fun h=>?_)<;>(dsimp only [cmpP] at h;(try (exfalso;omega))))|(refine zAI rfl rfl rfl rfl (fun _ _ q=>zCp z.thick 0 2000 _) (fun h=>?_) (fun h=>?_)<;>(try (exfalso;omega)))|(refine zAI rfl rfl rfl rfl (fun _ _ q=>zEQ _ _ _ _) (fun h=>?_) (fun h=>?_)<;>(try (exfalso;omega)))|refine zAN rfl rfl rfl ?_|refine zh rfl rfl rfl rfl (by omega) ?_|refine zl rfl rfl rfl rfl rfl (by omega) ?_|refine zo rfl rfl rfl ?_)|(with_reducible first|refine zH ?_|refine zB ?_|refine zD ?_|refine zA ?_|refine zX ?_|refine zT ?_|refine zZ ?_|refine zP ?_|refine zg ?_|refine zAP ?_)|((with_reducible refine zI ?_ ?_);(· exact rfl))|((with_reducible refine zG ?_ ?_);(· exact rfl))))
  all_goals first|exact zf (i+1) ⟨by omega,zIs hz (by simp_all [zEG];done) hall⟩ (by omega) (by (repeat first|exact lK1|refine zL rfl ?_)) (by (repeat constructor))|exact zS (by exact rTm rfl) () trivial (by rw [zMG hm (by simp_all [zEG])];rfl) (fun _ h=>h.sub (by (repeat constructor)))
 ·obtain rfl:i=c.beds.length:=by omega
  have hbeds:=zIW (fun j z hj hz=>hall j z hj hz)
  (repeat' (first|((with_reducible refine zF ?_);first|refine zE rfl rfl rfl ?_|refine zC rfl rfl rfl ?_|(refine zK rfl rfl rfl ?_;refine ⟨_,rfl,?_⟩)|refine za rfl rfl rfl ?_|(refine zQ rfl rfl rfl rfl rfl (fun h=>?_) (fun h=>?_)<;>(dsimp only [cmpP] at h;(try (exfalso;omega))))|refine zo rfl rfl rfl ?_)|(with_reducible first|refine zH ?_|refine zB ?_|refine zD ?_|refine zA ?_|refine zP ?_|refine zk ?_|refine zR ?_|refine zW ?_)|((with_reducible refine zG ?_ ?_);(· exact rfl))))
  refine zw (ι:=Nat) [1] rfl (fun i=>i≤c.hours.length∧∀ j z,j<i→c.hours[j]?=some z→zCH z=true) (fun i=>[(4,.int .i64 (i:Int))]) (fun _=>[.blk b (zM c A ca B cb C cc)]) (fun i=>c.hours.length - i) 0 ⟨Nat.zero_le _,fun j z h=>by omega⟩ (by (repeat first|exact lK1|refine zL rfl ?_)) (by (repeat constructor)) ?_
  rintro i ⟨hi,hallh⟩
  simp only [zAt,List.cons_append,List.nil_append]
  unfold zM
  by_cases hlt:i<c.hours.length
  ·obtain ⟨z,hz⟩:∃ z,c.hours[i]?=some z:=⟨_,List.getElem?_eq_getElem hlt⟩
   have hm:=List.mem_of_getElem? hz
   obtain ⟨bb,o,rfl,hblt,hc⟩:=hh.at_ hlt
   have:InS w bb o zr 5 c.hours:=⟨hh⟩
   have:zAT c.hours i z:=⟨hz⟩
   (repeat' (first|((with_reducible refine zF ?_);first|refine zE rfl rfl rfl ?_|refine zC rfl rfl rfl ?_|(refine zK rfl rfl rfl ?_;refine ⟨_,rfl,?_⟩)|refine za rfl rfl rfl ?_|refine zAB rfl rfl rfl rfl ?_|refine zd rfl rfl rfl ?_|(refine zQ rfl rfl rfl rfl rfl (fun h=>?_) (fun h=>?_)<;>(dsimp only [cmpP] at h;(try (exfalso;omega))))|(refine zAI rfl rfl rfl rfl (fun _ _ q=>zCp z.melt 0 50 _) (fun h=>?_) (fun h=>?_)<;>(try (exfalso;omega)))|(refine zAI rfl rfl rfl rfl (fun _ _ q=>zEQ _ _ _ _) (fun h=>?_) (fun h=>?_)<;>(try (exfalso;omega)))|refine zAN rfl rfl rfl ?_|refine zh rfl rfl rfl rfl (by omega) ?_|refine zl rfl rfl rfl rfl rfl (by omega) ?_|refine zo rfl rfl rfl ?_|(refine zb rfl rfl rfl rfl rfl ?_;refine ⟨rfl,by first|decide|exact Nat.le_of_ble_eq_true rfl|(simp;omega),_,rfl,?_⟩)|(refine zj rfl rfl (fun b=>?_)))|(with_reducible first|refine zH ?_|refine zB ?_|refine zD ?_|refine zA ?_|refine zX ?_|refine zT ?_|refine zZ ?_|refine zP ?_|refine zg ?_|refine zAP ?_)|((with_reducible refine zI ?_ ?_);(· exact rfl))|((with_reducible refine zG ?_ ?_);(· exact rfl))))
   all_goals first|exact zf (i+1) ⟨by omega,zIs hz (by simp_all [zCH];done) hallh⟩ (by omega) (by (repeat first|exact lK1|refine zL rfl ?_)) (by (repeat constructor))|exact zS (by exact rTm rfl) () trivial (by rw [zLC hm (by simp_all [zCH])];rfl) (fun _ h=>h.sub (by (repeat constructor)))
  ·obtain rfl:i=c.hours.length:=by omega
   have hhours:=zIW (fun j z hj hz=>hallh j z hj hz)
   have e:zDe c=true:=zCO.2 ⟨by omega,by assumption,hbeds,hhours,by assumption,by assumption,by assumption,by assumption,by assumption⟩
   (repeat' (first|((with_reducible refine zF ?_);first|refine zE rfl rfl rfl ?_|refine zC rfl rfl rfl ?_|(refine zK rfl rfl rfl ?_;refine ⟨_,rfl,?_⟩)|refine za rfl rfl rfl ?_|(refine zQ rfl rfl rfl rfl rfl (fun h=>?_) (fun h=>?_)<;>(dsimp only [cmpP] at h;(try (exfalso;omega))))|refine zo rfl rfl rfl ?_)|(with_reducible first|refine zH ?_|refine zB ?_|refine zD ?_|refine zA ?_|refine zX ?_|refine zk ?_|refine zR ?_|refine zW ?_)|((with_reducible refine zG ?_ ?_);(· exact rfl))))
   exact zS (by exact rTm rfl) () trivial (by rw [e];rfl) (fun _ h=>h.sub (by (repeat constructor)))
theorem zKi (c:Cov) (A:Option Addr) (ca:Nat) (B:Option Addr) (cb:Nat) (C:Option Addr) (cc:Nat) (w:World) (h:zAe w c A B C) (hs:Small c):Gv Tryz.prog 55 [zAH c A ca B cb C cc] w (.int .i64 (zAm c)):=by
 have h3:=hs.t
 have hT:=fun W (hb:Below w.heap.size w W)=>zKh c.t A ca W (h.t.below hb) hs.fit (by omega)
 have hI:=fun W (hb:Below w.heap.size w W)=>rice_any c A ca B cb C cc W (h.below hb) hs
 unfold zAH zM at hI
 unfold Gv zAH zM
 cases hv:valid c.t
 ·have e:zAm c=10:=by simp [zAm,hv]
  rw [show zDL c.t=10 by simp [zDL,hv]] at hT
  rw [e]
  (refine zJ (n:=13) Tryz.func55 rfl rfl rfl ?_)
  (repeat' (first|((with_reducible refine zF ?_);first|refine zE rfl rfl rfl ?_|refine zC rfl rfl rfl ?_|(refine zK rfl rfl rfl ?_;refine ⟨_,rfl,?_⟩)|refine za rfl rfl rfl ?_|(refine zQ rfl rfl rfl rfl rfl (fun h=>?_) (fun h=>?_)<;>(dsimp only [cmpP] at h;(try (exfalso;omega))))|refine zV rfl rfl rfl rfl (fun _ _ q=>hT _ q.below) ?_|(refine zu rfl rfl rfl rfl (fun b=>?_)))|(with_reducible first|refine zH ?_|refine zB ?_|refine zD ?_|refine zA ?_|refine zX ?_|refine zZ ?_)|((with_reducible refine zI ?_ ?_);(· exact rfl))))
  all_goals exact zS (by exact rTm rfl) () trivial rfl (fun _ h=>h.sub (by (repeat constructor)))
 ·rw [zDK hv] at hT
  cases hi:zDe c
  ·have e:zAm c=20:=by simp [zAm,hv,hi]
   rw [hi] at hI
   rw [e]
   (refine zJ (n:=13) Tryz.func55 rfl rfl rfl ?_)
   (repeat' (first|((with_reducible refine zF ?_);first|refine zE rfl rfl rfl ?_|refine zC rfl rfl rfl ?_|(refine zK rfl rfl rfl ?_;refine ⟨_,rfl,?_⟩)|refine za rfl rfl rfl ?_|(refine zQ rfl rfl rfl rfl rfl (fun h=>?_) (fun h=>?_)<;>(dsimp only [cmpP] at h;(try (exfalso;omega))))|refine zV rfl rfl rfl rfl (fun _ _ q=>hT _ q.below) ?_|refine zV rfl rfl rfl rfl (fun _ _ q=>hI _ q.below) ?_|refine zAN rfl rfl rfl ?_|(refine zu rfl rfl rfl rfl (fun b=>?_)))|(with_reducible first|refine zH ?_|refine zB ?_|refine zD ?_|refine zA ?_|refine zX ?_|refine zT ?_|refine zZ ?_)|((with_reducible refine zI ?_ ?_);(· exact rfl))|((with_reducible refine zG ?_ ?_);(· exact rfl))))
   all_goals exact zS (by exact rTm rfl) () trivial rfl (fun _ h=>h.sub (by (repeat constructor)))
  ·have e:zAm c=0:=by simp [zAm,hv,hi]
   rw [hi] at hI
   rw [e]
   (refine zJ (n:=13) Tryz.func55 rfl rfl rfl ?_)
   (repeat' (first|((with_reducible refine zF ?_);first|refine zE rfl rfl rfl ?_|refine zC rfl rfl rfl ?_|(refine zK rfl rfl rfl ?_;refine ⟨_,rfl,?_⟩)|refine za rfl rfl rfl ?_|(refine zQ rfl rfl rfl rfl rfl (fun h=>?_) (fun h=>?_)<;>(dsimp only [cmpP] at h;(try (exfalso;omega))))|refine zV rfl rfl rfl rfl (fun _ _ q=>hT _ q.below) ?_|refine zV rfl rfl rfl rfl (fun _ _ q=>hI _ q.below) ?_|refine zAN rfl rfl rfl ?_|(refine zu rfl rfl rfl rfl (fun b=>?_)))|(with_reducible first|refine zH ?_|refine zB ?_|refine zD ?_|refine zA ?_|refine zX ?_|refine zT ?_)|((with_reducible refine zG ?_ ?_);(· exact rfl))))
   all_goals exact zS (by exact rTm rfl) () trivial rfl (fun _ h=>h.sub (by (repeat constructor)))
end Go.Proofs.YtdigopgncfhiaaaGreatDoor
namespace Go.Proofs.YtdigopgncfhiaaaGreatDoor
open Go.RowKit
set_option maxRecDepth 20000
structure Sli where
 A:Option Addr
 xs:List Int
 c:Nat
instance : Inhabited Sli:=⟨⟨none,[],0⟩⟩
def zBF (s:Sli):List Value:=[.slice s.A s.xs.length s.c]
instance : zBw zBF 1:=⟨fun _=>rfl,fun s v hv=>by simp [zBF] at hv;subst hv;rfl⟩
structure zBG (w:World) (P:Option Addr) (pl:List Sli):Prop where
 p:zq zBF 1 w P pl
 rows:∀ s∈pl,zq encI 1 w s.A s.xs
theorem zBG.below {w W:World} {P:Option Addr} {pl:List Sli} (h:zBG w P pl) (hb:Below w.heap.size w W):zBG W P pl:=⟨h.p.below hb,fun s hs=>(h.rows s hs).below hb⟩
def zES (l:List Int):Bool:=(List.range (l.length - 1)).all fun k=>decide (l.getD k 0<l.getD (k+1) 0)
def zEp (c:Cov) (u:Hour) (s:Sli):Bool:=decide ((s.xs.length:Int)≤u.crew) && (decide (s.xs.length=0) || u.cold) && s.xs.all (inB 0 (c.beds.length - 1)) && zES s.xs
def zBY (c:Cov) (pl:List Sli):Bool:=decide (pl.length=c.hours.length) && (List.range pl.length).all fun i=>zEp c (c.hours.getD i default) (pl.getD i default)
theorem zFe {l:List Int}:zES l=true↔∀ k,k+1<l.length→l.getD k 0<l.getD (k+1) 0:=by
 unfold zES
 rw [List.all_eq_true]
 constructor
 ·intro h k hk;simpa using h k (List.mem_range.2 (by omega))
 ·intro h k hk;simpa using h k (by have:=List.mem_range.1 hk;omega)
theorem zNX {l:List Int} {k:Nat} (hk:k+1<l.length) (h:¬ l.getD k 0<l.getD (k+1) 0):zES l=false:=by
 cases hr:zES l with
 | false=>rfl
 | true=>exact absurd (zFe.1 hr k hk) h
theorem zBK {c:Cov} {pl:List Sli}:zBY c pl=true↔pl.length=c.hours.length∧∀ (i:Nat) (u:Hour) (s:Sli),c.hours[i]?=some u→pl[i]?=some s→zEp c u s=true:=by
 unfold zBY
 rw [Bool.and_eq_true,decide_eq_true_eq,List.all_eq_true]
 constructor
 ·rintro ⟨h1,h2⟩
  refine ⟨h1,fun i u s hu hs=>?_⟩
  have:=h2 i (List.mem_range.2 (List.getElem?_eq_some_iff.1 hs).1)
  simpa [List.getD_eq_getElem?_getD,hu,hs] using this
 ·rintro ⟨h1,h2⟩
  refine ⟨h1,fun i hi=>?_⟩
  have hi:=List.mem_range.1 hi
  refine h2 i _ _ ?_ ?_
  ·rw [List.getD_eq_getElem?_getD,List.getElem?_eq_getElem (show i<c.hours.length by omega)];rfl
  ·rw [List.getD_eq_getElem?_getD,List.getElem?_eq_getElem hi];rfl
theorem zNa {c:Cov} {pl:List Sli} {i:Nat} {u:Hour} {s:Sli} (hu:c.hours[i]?=some u) (hs:pl[i]?=some s) (h:zEp c u s=false):zBY c pl=false:=by
 cases hp:zBY c pl with
 | false=>rfl
 | true=>have:=(zBK.1 hp).2 i u s hu hs;rw [h] at this;cases this
theorem zBB {α:Type} {l:List α} {i:Nat} {d x:α} (h:l[i]?=some x):l.getD i d=x:=by rw [List.getD_eq_getElem?_getD,h];rfl
set_option maxHeartbeats 4000000 in
theorem zGF (c:Cov) (A:Option Addr) (ca:Nat) (B:Option Addr) (cb:Nat) (C:Option Addr) (cc g:Nat) (pl:List Sli) (P:Option Addr) (cp:Nat) (w:World) (hr:InC w g 0 (zM c A ca B cb C cc)) (h0:zAe w c A B C) (hp:zBG w P pl) (hs:Small c) (hl:pl.length≤12) (hrl:∀ s∈pl,s.xs.length≤20) :
  Gv Tryz.prog 98 [.pointer (some ⟨g,0,none⟩),.slice P pl.length cp] w (.bool (zBY c pl)):=by
 have h3:=hs.t;have h4:=hs.b;have h5:=hs.h
 have hh:=h0.h;have hpp:=hp.p
 unfold zM at hr
 unfold Gv
 (refine zJ (n:=83) Tryz.func98 rfl rfl rfl ?_)
 (repeat' (first|((with_reducible refine zF ?_);first|refine zE rfl rfl rfl ?_|refine zC rfl rfl rfl ?_|(refine zK rfl rfl rfl ?_;refine ⟨_,rfl,?_⟩)|refine za rfl rfl rfl ?_|(refine zQ rfl rfl rfl rfl rfl (fun h=>?_) (fun h=>?_)<;>(dsimp only [cmpP] at h;(try (exfalso;omega))))|refine zo rfl rfl rfl ?_|refine zA6 rfl rfl rfl ?_)|(with_reducible first|refine zH ?_|refine zB ?_|refine zD ?_|refine zA ?_|refine zX ?_|refine zT ?_|refine zZ ?_|refine zP ?_)|((with_reducible refine zI ?_ ?_);(· exact rfl))|((with_reducible refine zG ?_ ?_);(· exact rfl))))
 ·exact zS (by exact rTm rfl) () trivial (by rw [show zBY c pl=false from by unfold zBY;simp;omega];rfl) (fun _ h=>h.sub (by (repeat constructor)))
 have hlen:pl.length=c.hours.length:=by omega
 refine zw (ι:=Nat) [0,17,18] rfl (fun i=>i≤pl.length∧∀ (j:Nat) (u:Hour) (s:Sli),j<i→c.hours[j]?=some u→pl[j]?=some s→zEp c u s=true) (fun i=>[(19,.int .i64 (i:Int))]) (fun _=>[]) (fun i=>pl.length - i) 0 ⟨Nat.zero_le _,fun j u s h=>by omega⟩ (by (repeat first|exact lK1|refine zL rfl ?_)) (by (repeat constructor)) ?_
 rintro i ⟨hi,hall⟩
 simp only [zAt,List.cons_append,List.nil_append]
 by_cases hlt:i<pl.length
 ·obtain ⟨s,hsi⟩:∃ s,pl[i]?=some s:=⟨_,List.getElem?_eq_getElem hlt⟩
  obtain ⟨u,hui⟩:∃ u,c.hours[i]?=some u:=⟨_,List.getElem?_eq_getElem (by omega)⟩
  have hsm:=List.mem_of_getElem? hsi
  have hrow:=hp.rows s hsm
  have hsl:=hrl s hsm
  obtain ⟨bb,o,rfl,hblt,hc⟩:=hpp.at_ hlt
  have:InS w bb o zBF 1 pl:=⟨hpp⟩
  have:zAT pl i s:=⟨hsi⟩
  obtain ⟨bc,oc,rfl,hblt2,hc2⟩:=hh.at_ (show i<c.hours.length by omega)
  have:InS w bc oc zr 5 c.hours:=⟨hh⟩
  have:zAT c.hours i u:=⟨hui⟩
  have hin:=fun W (hW:Below w.heap.size w W)=>zJ8 0 ((c.beds.length:Int) - 1) s.xs s.A s.c W (hrow.below hW) (by omega)
  have hno:=fun h=>zNa hui hsi h
  have hyes:=fun (h:zEp c u s=true) (j:Nat) u' s' (hj:j<i+1) (h1:c.hours[j]?=some u') (h2:pl[j]?=some s')=>(show zEp c u' s'=true from by
   by_cases e:j=i
   ·subst e;rw [hui] at h1;rw [hsi] at h2;cases h1;cases h2;exact h
   ·exact hall j u' s' (by omega) h1 h2)
  obtain ⟨melt,runs,crew,cold⟩:=u
  have hro:zEp c ⟨melt,runs,crew,cold⟩ s=(decide ((s.xs.length:Int)≤crew) && (decide (s.xs.length=0) || cold) && s.xs.all (inB 0 (c.beds.length - 1)) && zES s.xs):=rfl
  generalize hall1:s.xs.all (inB 0 ((c.beds.length:Int) - 1))=al at *
  cases cold
  all_goals
   (repeat' (first|((with_reducible refine zF ?_);first|refine zE rfl rfl rfl ?_|refine zC rfl rfl rfl ?_|(refine zK rfl rfl rfl ?_;refine ⟨_,rfl,?_⟩)|refine za rfl rfl rfl ?_|refine zAB rfl rfl rfl rfl ?_|refine zd rfl rfl rfl ?_|(refine zQ rfl rfl rfl rfl rfl (fun h=>?_) (fun h=>?_)<;>(dsimp only [cmpP] at h;(try (exfalso;omega))))|(refine zAI rfl rfl rfl rfl (fun _ _ q=>hin _ q.below) (fun h=>?_) (fun h=>?_)<;>(try (exfalso;omega)))|refine zAN rfl rfl rfl ?_|refine zCC rfl rfl rfl rfl (IntWalk.i64_in _ (by omega)) ?_|refine zl rfl rfl rfl rfl rfl (by omega) ?_|refine zo rfl rfl rfl ?_|refine zA6 rfl rfl rfl ?_)|(with_reducible first|refine zH ?_|refine zB ?_|refine zD ?_|refine zA ?_|refine zX ?_|refine zT ?_|refine zZ ?_|refine zP ?_|refine zAP ?_)|((with_reducible refine zI ?_ ?_);(· exact rfl))|((with_reducible refine zG ?_ ?_);(· exact rfl))))
   all_goals first|(refine zS (by exact rTm rfl) () trivial ?_ (fun _ h=>h.sub (by (repeat constructor)));refine congrArg Value.bool (hno ?_);rw [hro];refine Bool.eq_false_iff.2 (fun h9=>?_);simp only [Bool.and_eq_true,Bool.or_eq_true,decide_eq_true_eq,Bool.false_eq_true,or_false] at h9;first|omega|(simp_all;done))|skip
   all_goals
    refine zw (ι:=Nat) [0,6,17,18,19,67] rfl (fun k=>k≤s.xs.length∧∀ k',k'<k→k'+1<s.xs.length→s.xs.getD k' 0<s.xs.getD (k'+1) 0) (fun k=>[(68,.int .i64 (k:Int))]) (fun _=>[]) (fun k=>s.xs.length - k) 0 ⟨Nat.zero_le _,fun k h=>by omega⟩ (by (repeat first|exact lK1|refine zL rfl ?_)) (by (repeat constructor)) ?_
    rintro k ⟨hk,hris⟩
    simp only [zAt,List.cons_append,List.nil_append]
    by_cases hk1:k+1<s.xs.length
    ·obtain ⟨x,hx⟩:∃ x,s.xs[k]?=some x:=⟨_,List.getElem?_eq_getElem (by omega)⟩
     obtain ⟨y,hy⟩:∃ y,s.xs[k+1]?=some y:=⟨_,List.getElem?_eq_getElem hk1⟩
     have e1:=zBB (d:=0) hx
     have e2:=zBB (d:=0) hy
     obtain ⟨br,orr,hA,hbr,hcr⟩:=hrow.at_ hk1
     have:InS w br orr encI 1 s.xs:=⟨hA ▸ hrow⟩
     rw [hA]
     have:zAT s.xs k x:=⟨hx⟩
     have:zAT s.xs (k+1) y:=⟨hy⟩
     (repeat' (first|((with_reducible refine zF ?_);first|refine zE rfl rfl rfl ?_|refine zC rfl rfl rfl ?_|(refine zQ rfl rfl rfl rfl rfl (fun h=>?_) (fun h=>?_)<;>(dsimp only [cmpP] at h;(try (exfalso;omega)))))|(with_reducible first|refine zH ?_|refine zB ?_|refine zD ?_|refine zA ?_|refine zT ?_|refine zP ?_)|((with_reducible refine zI ?_ ?_);(· exact rfl))))
     all_goals (refine Two.zA1 [] [] [] rfl (show ([]:List Nat).Nodup by decide) (fun _ h=>h) (by kernel_rfl) [[],[Y],[Z,Z],[Z,Z,Z],[Y,Y,Y,Y],[Y,Y,Y,Y,Y],[Z,Y,Y,Y,Y,Y],[Z,Z,Z,Y,Y,Y,Y],[Z,Z,Z,Z,Y,Y,Y,Y],[Z,Z,Z,Z,Z,Z,Z,Z,Z]] (by kernel_rfl) (by kernel_rfl) (by kernel_rfl) (by kernel_rfl) (by kernel_rfl) ?_)
     all_goals (repeat' (first|(((with_reducible refine Two.zDQ ?_ ?_);(· exact rfl);refine ⟨_,fun G=>(by (try simp (decide:=true) only [Two.vis,Two.see,fltT,zAF,Nat.reduceAdd,Nat.reduceSub,if_true,if_false,List.set_cons_zero,List.set_cons_succ,List.set_nil,List.nil_append,List.cons_append]);rfl),?_⟩);first|refine Two.zm _ (fun _=>zAi rfl rfl) (fun _=>rfl) rfl (by intro G G' h;simp (decide:=true) only [h]) ?_|refine Two.zm _ (fun _=>zAG rfl rfl (by exact rfl)) (fun _=>rfl) rfl (by intro G G' h;simp (decide:=true) only [h]) ?_|(refine Two.c_cmp rfl rfl (fun _=>rfl) rfl (fun _=>rfl) (fun _=>rfl) (fun h=>?_) (fun h=>?_)<;>(dsimp only [cmpP] at h;(try (exfalso;omega))))|refine Two.zm _ (fun _=>zAr (I:=k) rfl rfl rfl rfl (by omega)) (fun _=>rfl) rfl (by exact fun _ _ _=>rfl) ?_|refine Two.zm _ (fun _=>zAr (I:=k+1) rfl rfl rfl rfl (by omega)) (fun _=>rfl) rfl (by exact fun _ _ _=>rfl) ?_|refine Two.zm _ (fun _=>zMS rfl rfl rfl (by omega)) (fun _=>rfl) rfl (by intro G G' h;simp (decide:=true) only [h]) ?_)|(with_reducible refine Two.zLX ?_)))
     all_goals ((intro G;simp only [regsT,zAF,Two.zBb,Two.ini,List.nil_append,List.cons_append]);(repeat' (first|((with_reducible refine zF ?_);first|refine zE rfl rfl rfl ?_|refine zC rfl rfl rfl ?_|refine zh rfl rfl rfl rfl (by omega) ?_)|(with_reducible first|refine zH ?_|refine zB ?_|refine zD ?_|refine zA ?_|refine zX ?_|refine zT ?_|refine zZ ?_|refine zg ?_|refine zAP ?_)|((with_reducible refine zI ?_ ?_);(· exact rfl))|((with_reducible refine zG ?_ ?_);(· exact rfl)))))
     all_goals first|(refine zS (by exact rTm rfl) () trivial ?_ (fun _ h=>h.sub (by (repeat constructor)));refine congrArg Value.bool (hno ?_);rw [hro,zNX hk1 (by rw [e1,e2];omega),Bool.and_false])|skip
     all_goals exact zf (k+1) ⟨by omega,fun k' h1 h2=>by
       by_cases e:k'=k
       ·subst e;rw [e1,e2];omega
       ·exact hris k' (by omega) h2⟩ (by omega) (by (repeat first|exact lK1|refine zL rfl ?_)) (by (repeat constructor))
    ·(repeat' (first|((with_reducible refine zF ?_);first|refine zE rfl rfl rfl ?_|(refine zQ rfl rfl rfl rfl rfl (fun h=>?_) (fun h=>?_)<;>(dsimp only [cmpP] at h;(try (exfalso;omega))))|refine zh rfl rfl rfl rfl (by omega) ?_)|(with_reducible first|refine zH ?_|refine zB ?_|refine zD ?_|refine zA ?_|refine zk ?_|refine zg ?_|refine zR ?_|refine zW ?_)|((with_reducible refine zG ?_ ?_);(· exact rfl))))
     have hr9:zES s.xs=true:=zFe.2 (fun k' h=>hris k' (by omega) h)
     exact zf (i+1) ⟨by omega,hyes (by rw [hro,hr9];simp_all)⟩ (by omega) (by (repeat first|exact lK1|refine zL rfl ?_)) (by (repeat constructor))
 ·obtain rfl:i=pl.length:=by omega
  (repeat' (first|((with_reducible refine zF ?_);first|refine zC rfl rfl rfl ?_|(refine zQ rfl rfl rfl rfl rfl (fun h=>?_) (fun h=>?_)<;>(dsimp only [cmpP] at h;(try (exfalso;omega)))))|(with_reducible first|refine zH ?_|refine zB ?_|refine zD ?_|refine zA ?_|refine zX ?_|refine zk ?_|refine zR ?_|refine zW ?_)|((with_reducible refine zG ?_ ?_);(· exact rfl))))
  exact zS (by exact rTm rfl) () trivial (by rw [zBK.2 ⟨hlen,fun j u s h1 h2=>hall j u s (List.getElem?_eq_some_iff.1 h2).1 h1 h2⟩];rfl) (fun _ h=>h.sub (by (repeat constructor)))
end Go.Proofs.YtdigopgncfhiaaaGreatDoor
namespace Go.Proofs.YtdigopgncfhiaaaGreatDoor
variable {ro : Option Nat}
open Go.RowKit
def ClsH (w0:World) (H:List Ent) (w:World):Prop:=Below w0.heap.size w0 w∧Own w0.heap.size w H
def UQ (P:Program) (w0:World) (n:Nat) (d:List Deferred) (R:List (Nat × Value)) (H:List Ent) (ops:Array Oper) (K:Act→Prop) (rest:List Oper):Prop :=
 ∀ a:Act,a.tmps.size=n→a.defers=d→(∀ t v,lk R t=some v→a.tmps.getD t undef=v)→wpQuiet P ops (ClsH w0 H) K rest a
section
variable {P : Program} {w0:World} {n:Nat} {d:List Deferred} {R:List (Nat × Value)} {H H':List Ent} {Q:Exit→Act→World→Prop} {K:Act→Prop} {ops:Array Oper} {rest:List Oper} {o:Oper} {t:Tmp} {x y:Operand} {v:Value} {C:World→Prop}
theorem zIf {i:Nat} {a:Act} {K:Act→Prop} {K':Act→World→Prop} {Q':Exit→Act→World→Prop} {w:World} (hdf:∀ o∈ops.toList,zFS o=false) (hC:C w) (h:∀ a w',C w'→K a→K' a w') (hh:qOp P ops C i K a):wpOpIn (FW ro) 9 P ops Q' i K' a w:=by
 unfold qOp at hh
 unfold wpOpIn
 split
 ·rename_i ho;simp only [ho] at hh;exact h _ _ hC hh
 ·rename_i o ho
  simp only [ho] at hh
  split
  ·rename_i hw;simp only [hw,if_true] at hh;exact opIn (hdf o (by have:=Array.mem_of_getElem? ho;simpa using this)) (Oper.wp_of_quiet hC h hh)
  ·rename_i hw;simp only [hw] at hh;exact ⟨fun _ _=>trivial,h _ _ hC hh⟩
theorem zDp {Q:Act→Prop} {Q':Exit→Act→World→Prop} (hdf:∀ o∈ops.toList,zFS o=false) (hQ:∀ a w,C w→Q a→Q' .normal a w):∀ (fuel:Nat) (listed:Array Bool) (a:Act) (w:World),C w →
  wpAnyQ P .any ops C Q fuel listed a→wpAnyIn (FW ro) 9 P .any ops Q' fuel listed a w
 | 0,_,_,_,hw,h=>⟨h.1,hQ _ _ hw h.2⟩
 | fuel+1,_,_,_,hw,h=>⟨fun h0=>hQ _ _ hw (h.1 h0),fun i hi=>zIf hdf hw (fun a' w' hw'=>zDp hdf hQ fuel _ a' w' hw') (h.2 i hi)⟩
theorem zBP {id:Nat} {l:List Oper} (hm:P.follows .mixedOrders=true) (hB:Region.lexB .any l.toArray=true) (hDf:(l.all fun o=>!zFS o)=true) (h:UQ P w0 n d R H l.toArray (fun a'=>∀ w',ClsH w0 H w'→Q .normal a' w') l):U w0 n d R H ((Code.region id l.toArray true).wpI ro P Q):=fun a w q=>by
 have h1:=h a q.size q.defers q.regs
 simp only [Region.lexB,Bool.and_eq_true] at hB
 have hC:ClsH w0 H { w with drawn:=w.drawn+1 }:=⟨⟨q.below.os,q.below.tape,q.below.output,q.below.size,q.below.block⟩,q.own.past (Nat.le_refl _) (fun _ _ _ _=>rfl)⟩
 refine wpIn_region_any hm (zDp (C:=ClsH w0 H) (Q:=fun a'=>∀ w',ClsH w0 H w'→Q .normal a' w') (fun o ho=>by have:=List.all_eq_true.1 hDf o (by simpa using ho);simpa using this) (fun _ w' hw' h=>h w' hw') _ _ _ _ hC ?_)
 have:=wpAnyQ_lex (C:=ClsH w0 H) (md:=.any) hB.1 l 0 (Array.replicate l.toArray.size false) a (by simp) (by simpa using hB.2) h1
 simpa using this
theorem zCZ (h:U w0 n d R H (Q .normal)):UQ P w0 n d R H ops (fun a'=>∀ w',ClsH w0 H w'→Q .normal a' w') []:=fun a h1 h2 h3=>wpQuiet_nil (fun w' hw=>h a w' ⟨h1,h2,h3,hw.1,hw.2⟩)
theorem zH1 {a:Act} (h1:a.tmps.size=n) (h3:∀ t v,lk R t=some v→a.tmps.getD t undef=v) (ht:Nat.blt t n=true):∀ u x,lk ((t,v)::R) u=some x→(a.put (some t) v).tmps.getD u undef=x:=fun u x hx=>by
 have hlt:t<a.tmps.size:=by rw [h1];exact Nat.le_of_ble_eq_true ht
 by_cases hu:t=u
 ·subst hu
  rw [zB0] at hx
  cases hx
  simp [Act.put,hlt]
 ·rw [zBz hu] at hx
  have:=h3 u x hx
  simp only [Act.put,Array.getD_eq_getD_getElem?] at this ⊢
  rw [Array.getElem?_setIfInBounds_ne hu]
  exact this
theorem zHa {a:Act} {b:Bool} (h3:∀ t v,lk R t=some v→a.tmps.getD t undef=v) (hw:want R ops o=some b):Region.wanted o (yielded ops a.tmps)=b :=
 zBO (R:=R) (H:=[]) (n:=a.tmps.size) (d:=a.defers) (w0:=(default:World)) (w:=default) ⟨rfl,rfl,h3,Below.refl _ _,Own.nil _ _⟩ hw
theorem zn (he:Ev P w0 n d R H o v) (hrd:rdy R ops n o=some t) (h:UQ P w0 n d ((t,v)::R) H ops K rest):UQ P w0 n d R H ops K (o::rest):=fun a h1 h2 h3 =>
 wpQuiet_step fun K' hK=>by
  rw [zHa h3 (rW hrd),if_pos rfl]
  refine ⟨v,fun w hC=>?_,?_⟩
  ·unfold Oper.quietAt
   rw [he a w ⟨h1,h2,h3,hC.1,hC.2⟩]
   exact ⟨rfl,rfl⟩
  ·rw [(rD hrd)]
   exact hK _ (h _ (by simp [Act.put,h1]) h2 (zH1 h1 h3 (rT hrd)))
theorem zBj (hw:want R ops o=some false) (hd:o.dst=some t) (ht:Nat.blt t n=true) (h:UQ P w0 n d ((t,undef)::R) H ops K rest):UQ P w0 n d R H ops K (o::rest):=fun a h1 h2 h3 =>
 wpQuiet_step fun K' hK=>by
  rw [zHa h3 hw,hd]
  simp only [Bool.false_eq_true,if_false]
  exact hK _ (h _ (by simp [Act.put,h1]) h2 (zH1 h1 h3 ht))
theorem zFQ {T1 T2:TypeId} {c:BinOp} {k:IntKind} {i j:Int} (hop:o.op = .binOp c T1 x y T2) (hc:zIH c=true) (hrd:rdy R ops n o=some t) (hx:evR R x=some (.int k i)) (hy:evR R y=some (.int k j))
  (h1:cmpP c i j→UQ P w0 n d ((t,.bool true)::R) H ops K rest) (h2:¬ cmpP c i j→UQ P w0 n d ((t,.bool false)::R) H ops K rest):UQ P w0 n d R H ops K (o::rest):=by
 by_cases hp:cmpP c i j
 ·exact zn (fun a w q=>zGf hc hop (q.ev hx) (q.ev hy) hp) hrd (h1 hp)
 ·exact zn (fun a w q=>zGg hc hop (q.ev hx) (q.ev hy) hp) hrd (h2 hp)
theorem zEU {f:FuncId} {fx:Operand} {xs:Array Operand} {ts:Array TypeId} {vs:List Value} {cap:Array Value} (hop:o.op = .call ⟨.value fx,xs,ts⟩) (hrd:rdy R ops n o=some t) (hf:evR R fx=some (.func (.func f) #[] cap)) (hx:evs R xs.toList=some vs) [ci:zU P f]
  (hc:∀ a w,Kn w0 n d R H a w→Gv P f (vs++cap.toList) w v) (h:UQ P w0 n d ((t,v)::R) H ops K rest):UQ P w0 n d R H ops K (o::rest):=fun a h1 h2 h3 =>
 wpQuiet_step fun K' hK=>by
  rw [zHa h3 (rW hrd),if_pos rfl]
  refine ⟨v,fun w hC=>?_,?_⟩
  ·have q:Kn w0 n d R H a w:=⟨h1,h2,h3,hC.1,hC.2⟩
   unfold Oper.quietAt execOp;rw [hop]
   have e1:xs.map a.eval=vs.toArray:=by apply Array.ext';simpa using q.evs hx
   have e2:vs.toArray++cap=(vs++cap.toList).toArray:=by apply Array.ext';simp
   simp only [resolve,q.ev hf,e1,Deferred.ofValue,Sem.run_bind,Sem.run_pure,Result.andThen_ok,invoke,Array.empty_append,e2,ci.ent]
   refine ⟨rfl,Calls.mono (hc a w q).ret.calls ?_⟩
   rintro e w' ⟨_,_,rfl,hb,_⟩
   exact ⟨rfl,q.below.trans (hb.mono q.base),q.own.below hb⟩
  ·rw [(rD hrd)]
   exact hK _ (h _ (by simp [Act.put,h1]) h2 (zH1 h1 h3 (rT hrd)))
theorem zKk {b:Bool} {f:FuncId} {fx:Operand} {xs:Array Operand} {ts:Array TypeId} {vs:List Value} {cap:Array Value} (hop:o.op = .call ⟨.value fx,xs,ts⟩) (hrd:rdy R ops n o=some t) (hf:evR R fx=some (.func (.func f) #[] cap)) (hx:evs R xs.toList=some vs) [ci:zU P f]
  (hc:∀ a w,Kn w0 n d R H a w→Gv P f (vs++cap.toList) w (.bool b)) (h1:b=true→UQ P w0 n d ((t,.bool true)::R) H ops K rest) (h2:b=false→UQ P w0 n d ((t,.bool false)::R) H ops K rest):UQ P w0 n d R H ops K (o::rest):=by
 cases b
 ·exact zEU hop hrd hf hx hc (h2 rfl)
 ·exact zEU hop hrd hf hx hc (h1 rfl)
theorem zBr (h:UQ P w0 n d R H ops K (o::rest)):UQ P w0 n d R H ops K (o::rest):=h
end
end Go.Proofs.YtdigopgncfhiaaaGreatDoor
namespace Go.Proofs.YtdigopgncfhiaaaGreatDoor.Two
variable {ro : Option Nat}
open Go.RowKit
set_option maxRecDepth 20000
section
variable {S : List (Nat × Nat)} {I:List (Nat × Nat × Nat × List Ent)} {P:Program} {w0:World} {n:Nat} {d:List Deferred} {R R0:List (Nat × Value)} {H H' H0:List Ent} {Q:Exit→Act→World→Prop} {ops:Array Oper} {bs:List (List Bool)} {b:List Bool} {k:Nat} {o:Oper} {rest:List Oper} {T:List Rw} {t:Tmp} {Hk:zA9→List Ent} {x y:Operand} {v:Value}
theorem zDj {α:Type} {enc:α→List Value} {kk e base m c:Nat} {A:Option Addr} {xs:List α} {H H':List Ent} {w:World} (ho:Own base w H) (ht:Take H (.row enc kk e (.slice A m c) xs) H') [ei:zBw enc kk]:zq enc kk w A xs:=(ho.zER ht).here (.sl enc kk A xs) (by simp)
theorem c_take {f:zA9→Value × List Ent} (j:Nat) (hjk:(j,k)∈S) (hkI:keyI I k=false) (hl:Loc b k f) (ht:zLd S I P w0 n d ops R0 H0 b k o T f (zAF (only j T))) (h:zBS ro S I P w0 n d ops R0 H0 Q bs (k+1) rest (⟨k,o.dst,f⟩::T)):zBS ro S I P w0 n d ops R0 H0 Q (b::bs) k (o::rest) T :=
 .inl ⟨f,hl,.inr (.inl ⟨hkI,j,hjk,ht⟩),h⟩
theorem zM8 {f:zA9→Value × List Ent} {E0:List Ent} {lo hi:Nat} (hkE:(k,lo,hi,E0)∈I) (hfree:takes S k=false) (hl:Loc b k f) (ht:zLd S I P w0 n d ops R0 H0 b k o T f (fun _=>E0)) (h:zBS ro S I P w0 n d ops R0 H0 Q bs (k+1) rest (⟨k,o.dst,f⟩::T)):zBS ro S I P w0 n d ops R0 H0 Q (b::bs) k (o::rest) T :=
 .inl ⟨f,hl,.inr (.inr ⟨hfree,lo,hi,E0,hkE,ht⟩),h⟩
theorem zJs {α:Type} {enc:α→List Value} {kk e T1 bytes m:Nat} [el:ElI P T1 e kk bytes] [ei:zBw enc kk] {xs:List α} (ys:List α) {A:zA9→Option Addr} {c:zA9→Nat} {vx:zA9→Value} (E0:zA9→List Ent) (hop:o.op = .call { callee:=.builtin .append,args:=#[x,y],argTypes:=#[T1,T1] }) (hw:∀ G,want (Rk R0 ops b o T G) ops o=some true) (hd:o.dst=some t)
  (hx:∀ G,evR (Rk R0 ops b o T G) x=some (vx G)) (hrow:∀ G,E0 G=[.row enc kk e (vx G) xs]) (hy:∀ G,evR (Rk R0 ops b o T G) y=some (.slice (A G) m (c G))) (hm:m=ys.length) (hH:∀ G,see I k++(zAF (fltT (vis S k b) T) G++H0)=Hk G) (hs:∀ G w,Below w0.heap.size w0 w→Own w0.heap.size w (Hk G)→zq enc kk w (A G) ys) (hl:xs.length+ys.length≤1000000∧bytes≤1000000) :
  zLd S I P w0 n d ops R0 H0 b k o T (fun G=>(.slice (G k).A (xs++ys).length (G k).m,[.row enc kk e (.slice (G k).A (xs++ys).length (G k).m) (xs++ys)])) E0:=by
 subst hm
 intro G L a w q ho K hK
 rw [zBO q (hw G),if_pos rfl]
 rw [hrow G] at ho
 obtain ⟨z,hE⟩:=el.el
 obtain ⟨i,i1,i2,i3,i4⟩:=hE.info
 have hrow:Row enc kk e 0 w (vx G) xs:=ho.here (.row enc kk e (vx G) xs) (by simp)
 have hsl:=hs G w q.below (by rw [← hH G];exact q.own)
 have hlen:(ys.flatMap enc).length=ys.length * kk:=by
  simp [List.length_flatMap,ei.len,List.map_const',List.sum_replicate_nat]
 have hmul:(xs.length+ys.length) * bytes≤140737488355328:=by
  have:=Nat.mul_le_mul hl.1 hl.2;omega
 have hxv:=q.ev (hx G)
 have hyv:=q.ev (hy G)
 generalize vx G=v at *
 generalize A G=A at *
 generalize c G=c at *
 have key:∃ v' w',(Builtin.append_ #[T1,T1] o.type #[v,.slice A ys.length c]).run P w = .ok v' w'∧Row enc kk e 0 w' v' (xs++ys)∧w.grownBy w' v.ownBlock∧(v'.ownBlock=v.ownBlock∨v'.ownBlock=some w.heap.size):=by
  cases hA:A with
  | none =>
   have hys:ys=[]:=by
    cases ys with
    | nil=>rfl
    | cons y r =>
     obtain ⟨b,o,hb,_⟩:=hsl 0 y (by simp)
     rw [hA] at hb;cases hb
   subst hys hA
   refine ⟨v,w,?_,by simpa using hrow,World.grownBy.refl w _,.inl rfl⟩
   rcases hrow.2 with ⟨rfl,_⟩ | ⟨g,cap,cur,rfl,_,_,hnc,_⟩
   ·simp [Builtin.append_,run_underlying hE.under,sizeOf,typeInfo,i1,Builtin.lenOf,Builtin.firstCells]
   ·simp [Builtin.append_,run_underlying hE.under,sizeOf,typeInfo,i1,Builtin.lenOf,Builtin.firstCells,hnc,storeCells]
  | some ad =>
   subst hA
   obtain ⟨v',w',r1,r2,r3,_,r5⟩:=run_append_own_at (P:=P) w 0 T1 o.type e i z kk bytes hE.under i1 i2 i3 i4 hE.zs hE.pos v xs.length (xs.flatMap enc) hrow ad ys.length c (ys.flatMap enc) hlen
    (fun j u hu=>by
     obtain ⟨i,y,l,hi,hl,rfl⟩:=zIN ei.len ys j u hu
     obtain ⟨b,o,hb,hlt,hc⟩:=hsl i y hi
     cases hb
     have e1:(⟨b,o,none⟩:Addr).add (i * kk+l)=⟨b,o+i * kk+l,none⟩:=by rw [zCW];congr 1;omega
     rw [e1];exact hc l u hl)
    (fun u hu=>by
     obtain ⟨y,_,hy'⟩:=List.mem_flatMap.1 hu
     exact ei.one y u hy') (by unfold maxLen;omega) hmul (Nat.zero_le _)
   exact ⟨v',w',r1,by unfold Row;simpa using r2,r3,r5⟩
 obtain ⟨v',w',k1,k2,k3,k4⟩:=key
 obtain ⟨A',c',rfl⟩:=k2.form
 unfold Oper.wp execOp
 simp only [hop,resolve,invoke,builtin,Sem.run_bind,Sem.run_pure,Result.andThen_ok,List.map_toArray,List.map_cons,List.map_nil,hxv,hyv,k1,Oper.upon_value]
 have hfoot:∀ b,v.ownBlock=some b→w0.heap.size≤b∧b<w.heap.size:=fun b hb=>ho.foot (.row enc kk e v xs) (by simp) b hb
 refine hK (.slice A' (xs++ys).length c') [.row enc kk e (.slice A' (xs++ys).length c') (xs++ys)] _ ⟨⟨0,A',c'⟩,by simp only [upW,if_true]⟩ ?_ ?_
 ·exact q.below.trans ⟨k3.os,k3.tape,k3.output,k3.size,fun b hb=>k3.block b (by have:=q.base;omega) (fun e=>by have:=(hfoot b e.symm).1;omega)⟩
 ·refine ho.turn k3.size (fun b hb hn=>k3.block b hb (fun e=>hn e.symm)) q.base k2 (fun b hb=>?_)
  have hb':(Value.slice A' (xs++ys).length c').ownBlock=some b:=hb
  have hlt:=k2.lt b hb'
  rcases k4 with h4|h4
  ·exact ⟨.inl (h4.symm.trans hb'),hlt.2⟩
  ·rw [h4] at hb';cases hb';exact ⟨.inr (Nat.le_refl _),hlt.2⟩
theorem zED {α:Type} {enc:α→List Value} {kk e T1 bytes m:Nat} [el:ElI P T1 e kk bytes] [ei:zBw enc kk] {xs:List α} (ys:List α) {A:zA9→Option Addr} {c:zA9→Nat} {vx:Value} {lo hi:Nat} (hkE:(k,lo,hi,[Ent.row enc kk e vx xs])∈I) (hfree:takes S k=false) (hop:o.op = .call { callee:=.builtin .append,args:=#[x,y],argTypes:=#[T1,T1] }) (hw:∀ G,want (Rk R0 ops b o T G) ops o=some true) (hd:o.dst=some t)
  (hx:∀ G,evR (Rk R0 ops b o T G) x=some vx) (hy:∀ G,evR (Rk R0 ops b o T G) y=some (.slice (A G) m (c G))) (hm:m=ys.length) (hH:∀ G,see I k++(zAF (fltT (vis S k b) T) G++H0)=Hk G) (hs:∀ G w,Below w0.heap.size w0 w→Own w0.heap.size w (Hk G)→zq enc kk w (A G) ys) (hl:xs.length+ys.length≤1000000∧bytes≤1000000)
  (h:zBS ro S I P w0 n d ops R0 H0 Q bs (k+1) rest (⟨k,some t,fun G=>(.slice (G k).A (xs++ys).length (G k).m,[.row enc kk e (.slice (G k).A (xs++ys).length (G k).m) (xs++ys)])⟩::T)):zBS ro S I P w0 n d ops R0 H0 Q (b::bs) k (o::rest) T :=
 zM8 (f:=fun G=>(.slice (G k).A (xs++ys).length (G k).m,[.row enc kk e (.slice (G k).A (xs++ys).length (G k).m) (xs++ys)])) hkE hfree (fun G G' hG=>by simp only [hG k (.inl rfl)]) (zJs (vx:=fun _=>vx) ys (fun _=>[Ent.row enc kk e vx xs]) hop hw hd hx (fun _=>rfl) hy hm hH hs hl) (by rw [hd];exact h)
def partA (A:Option Addr) (c L s:Nat):Option Addr:=if c=L then A else A.map (·.add (L * s))
theorem e_slice {T1 e:TypeId} {td:TypeDesc} {s s' m c:Nat} {g g':Bool} {A:Option Addr} {lo hi:Option Operand} {l u:Int} (L M:Nat) (hop:o.op = .slice T1 x lo hi none) [i1:TyI P T1 (.slice e) s g] [i2:TyI P e td s' g'] (hx:evR R x=some (.slice A m c))
  (hl:bnd R lo 0=some l) (hu:bnd R hi m=some u) (hL:l=(L:Int)) (hM:u=(M:Int)) (h1:L≤M) (h2:M≤c):Ev P w0 n d R H o (.slice (partA A c L s') (M - L) (c - L)):=fun a w q=>by
 subst hL hM
 unfold execOp;rw [hop]
 have e1:=run_underlying i1.und w
 have e2:=i2.siz w
 have b1:∀ (r:Nat) (code:BoundsCode) (z:Nat),z≤r→∀ k,(Instr.sliceBound (.int k (z:Int)) r code).run P w = .ok z w:=fun r code z hz k=>by
  simp [Instr.sliceBound,asIntOf,hz]
 have hlo:(∃ k,lo.map a.eval=some (.int k (L:Int)))∨(lo=none∧L=0):=by
  cases lo with
  | none=>simp only [bnd,Option.some.injEq] at hl;exact .inr ⟨rfl,by omega⟩
  | some y =>
   simp only [bnd] at hl
   cases hy:evR R y with
   | none=>rw [hy] at hl;simp at hl
   | some v =>
    rw [hy] at hl
    cases v<;>simp at hl
    rename_i k i
    subst hl
    exact .inl ⟨k,by simp [q.ev hy]⟩
 have hhi:(∃ k,hi.map a.eval=some (.int k (M:Int)))∨(hi=none∧M=m):=by
  cases hi with
  | none=>simp only [bnd,Option.some.injEq] at hu;exact .inr ⟨rfl,by omega⟩
  | some y =>
   simp only [bnd] at hu
   cases hy:evR R y with
   | none=>rw [hy] at hu;simp at hu
   | some v =>
    rw [hy] at hu
    cases v<;>simp at hu
    rename_i k i
    subst hu
    exact .inl ⟨k,by simp [q.ev hy]⟩
 unfold partA
 rcases hlo with ⟨k1,hlo⟩ | ⟨hlo,rfl⟩<;>rcases hhi with ⟨k2,hhi⟩ | ⟨hhi,rfl⟩ <;>
  simp [Instr.sliceAt,Instr.slice,e1,e2,q.ev hx,Instr.sliceBounds,hlo,hhi,b1,h1,h2]
end
end Go.Proofs.YtdigopgncfhiaaaGreatDoor.Two
