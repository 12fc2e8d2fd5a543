/- E11 -/
import Derived.Test.YtdigopgncfhiaaaGreatDoorE10
import Derived.Test.YtdigopgncfhiaaaGreatDoorE6
import Derived.Shelf.SlSortCmp.NoneTotal
import Derived.Shelf.SlicesG.Cmp
set_option linter.unusedSimpArgs false
set_option linter.unusedVariables false
namespace Go.Proofs.YtdigopgncfhiaaaGreatDoor
open Go.RowKit
set_option maxRecDepth 20000
def thinned (t l:Sp):Sp:=⟨max 0 (t.lo - l.hi),max 0 (t.hi - l.lo)⟩
def layered (c:Cov) (on:Bool) (t:Sp):Sp:=if on then ⟨t.lo+c.layer.lo,t.hi+c.layer.hi⟩ else t
def thickN (c:Cov) (pl:List Sli) (z:Bed) (i:Int):Nat→Sp
 | 0=>z.thick
 | h+1=>layered c ((pl.getD h default).xs.contains i) (thinned (thickN c pl z i h) (zBk c z (c.hours.getD h default)))
theorem zGj {c:Cov} {pl:List Sli} {z:Bed} {i:Int} (hf:zB4 c) (hz:z∈c.beds):∀ h,h≤c.hours.length→0≤(thickN c pl z i h).lo∧(thickN c pl z i h).lo≤2000+100 * h∧0≤(thickN c pl z i h).hi∧(thickN c pl z i h).hi≤2000+100 * h
 | 0,_=>by
  have:=hf.bed z hz
  simp only [zDX,Bool.and_eq_true,zAn] at this
  simp only [thickN];omega
 | h+1,hl=>by
  have ih:=zGj (pl:=pl) (i:=i) hf hz h (by omega)
  obtain ⟨u,hu⟩:∃ u,c.hours[h]?=some u:=⟨_,List.getElem?_eq_getElem (by omega)⟩
  have l4:=zER hf hz (List.mem_of_getElem? hu)
  have hl:=hf.layer
  simp only [zAn] at hl
  simp only [thickN,zAh hu,layered,thinned]
  split<;>simp only<;>omega
end Go.Proofs.YtdigopgncfhiaaaGreatDoor
namespace Go.Proofs.YtdigopgncfhiaaaGreatDoor
open Go.RowKit
set_option maxRecDepth 20000
def zH8 (c:Cov) (pl:List Sli) (z:Bed) (i:Int):List (Nat × Sp):=(List.range (c.hours.length+1)).map fun h=>(h,thickN c pl z i h)
def zFX (x:Nat × Sp):List Value:=[.int .i64 (x.1:Int),vSp x.2]
theorem zEf {c:Cov} {pl:List Sli} {z:Bed} {i:Int}:(zH8 c pl z i).length=c.hours.length+1:=by simp [zH8]
theorem zG8 {c:Cov} {pl:List Sli} {z:Bed} {i:Int} {k:Nat} (h:k≤c.hours.length):(zH8 c pl z i)[k]?=some (k,thickN c pl z i k):=by
 simp only [zH8,List.getElem?_map,List.getElem?_range (show k<c.hours.length+1 by omega),Option.map_some]
def zCb (c:Cov) (A:Option Addr) (ca:Nat) (B:Option Addr) (cb:Nat) (C:Option Addr) (cc:Nat) (pl:List Sli) (P:Option Addr) (cp g1 g2 g3 r:Nat) (i:Int):List Ent :=
 [.blk g1 [.pointer (some ⟨r,0,none⟩)],.blk g2 [.int .i64 i],.blk g3 [.slice P pl.length cp],.blk r (zJ c A ca B cb C cc)]
set_option maxHeartbeats 4000000 in
theorem days_seq (c:Cov) (A:Option Addr) (ca:Nat) (B:Option Addr) (cb:Nat) (C:Option Addr) (cc:Nat) (pl:List Sli) (P:Option Addr) (cp i g1 g2 g3 r:Nat) (z:Bed) (wb:World) (h:zAk wb c A B C) (hs:Small c) (hf:zB4 c) (hp:zBP wb P pl) (hrl:∀ s∈pl,s.xs.length≤20) (hpl:pl.length=c.hours.length) (hz:c.beds[i]?=some z) :
  Seq Tryz.prog 104 [.pointer (some ⟨g1,0,none⟩),.pointer (some ⟨g2,0,none⟩),.pointer (some ⟨g3,0,none⟩)] (zCb c A ca B cb C cc pl P cp g1 g2 g3 r (i:Int)) zFX (zH8 c pl z i) wb:=by
 intro ι l m I Cx go s0 w hwb hI0 hO hm hgo hend hround
 have h4:=hs.b;have h5:=hs.h
 have hb:=h.b;have hpp:=hp.p;have hh:=h.h
 have hzm:=List.mem_of_getElem? hz
 have hi:=(List.getElem?_eq_some_iff.1 hz).1
 have hlay:=hf.layer
 simp only [zAn] at hlay
 have hL:=fun W (hW:Below wb.heap.size wb W) j u (hu:c.hours[j]?=some u) (hr:InC W r 0 (zJ c A ca B cb C cc))=>zFt c A ca B cb C cc r i j z u W hr (h.below hW) hs hf hz hu
 obtain ⟨bb,o,rfl,hblt,hc⟩:=hb.at_ hi
 have:InS wb bb o zAd 3 c.beds:=⟨hb⟩
 have:zAU c.beds i z:=⟨hz⟩
 have hh1:=hf.hours
 rw [zAL] at hh1
 obtain ⟨b2,o2,rfl,hblt2,hc2⟩:=hpp.at_ (show 0<pl.length by omega)
 have:InS wb b2 o2 zBa 1 pl:=⟨hpp⟩
 unfold vSp at hL
 rw [zEf] at hm hend
 have hround:=fun k s W (hk:k<m)=>hround k (k,thickN c pl z i k) s W hk (zG8 (by omega))
 unfold zCb zFX vSp at *
 unfold zJ at *
 refine zIr (n:=83) hwb hO Tryz.func104 rfl rfl rfl ?_
 refine zFD (fun _ h=>zBR.1 h) ?_
 simp only [List.cons_append,List.nil_append]
 (repeat' (first|(with_reducible first|refine zH ?_)))
 (refine Two.zA8 [] [] [] rfl (show ([]:List Nat).Nodup by decide) (fun _ h=>h) (by kernel_rfl) [[],[Z],[Z,Z],[Z,Z,Z],[Z,Z,Z,Z],[Y,Y,Y,Y,Y],[Z,Z,Z,Z,Z,Z],[Z,Z,Z,Z,Z,Z,Z],[Z,Z,Z,Z,Z,Z,Z,Z],[Y,Y,Y,Y,Y,Y,Y,Y,Y],[Z,Z,Z,Z,Z,Z,Z,Z,Z,Z]] (by kernel_rfl) (by kernel_rfl) (by kernel_rfl) (by kernel_rfl) (by kernel_rfl) ?_)
 (repeat' (first|(((with_reducible refine Two.zDz ?_ ?_);(· exact rfl);refine ⟨_,fun G=>(by (try simp (decide:=true) only [Two.vis,Two.see,fltT,zAT,Nat.reduceAdd,Nat.reduceSub,if_true,if_false,List.set_cons_zero,List.set_cons_succ,List.set_nil,List.nil_append,List.cons_append]);rfl),?_⟩);first|refine Two.zo _ (fun _=>zAE rfl rfl (by exact rfl)) (fun _=>rfl) rfl (by first|exact fun _ _ _=>rfl|(intro G G' h;simp (decide:=true) only [h])) ?_|(refine Two.zAw rfl ?_;refine Two.zo _ (fun _=>zAP rfl rfl) (fun _=>rfl) rfl (by first|exact fun _ _ _=>rfl|(intro G G' h;simp (decide:=true) only [h])) ?_)|refine Two.zo _ (fun _=>zAQ (I:=i) rfl rfl rfl rfl (by omega)) (fun _=>rfl) rfl (by exact fun _ _ _=>rfl) ?_|refine Two.zo _ (fun _=>zAW rfl rfl) (fun _=>rfl) rfl (by first|exact fun _ _ _=>rfl|(intro G G' h;simp (decide:=true) only [h])) ?_|refine Two.zIR rfl (fun _=>rfl) rfl ?_)|((with_reducible refine Two.zCL ?_ ?_);(· exact rfl))))
 (intro G;simp only [regsT,zAT,Two.zBw,Two.ini,List.nil_append,List.cons_append])
 (repeat' (first|((with_reducible refine zG ?_);first|refine zE rfl rfl rfl rfl rfl ?_|(refine zK rfl rfl rfl rfl rfl ?_;refine ⟨_,rfl,?_⟩)|refine za rfl rfl rfl rfl rfl ?_|refine zp rfl rfl rfl rfl rfl ?_|(refine ze rfl rfl rfl rfl rfl ?_;refine And.intro rfl (And.intro (by first|decide|exact Nat.le_of_ble_eq_true rfl|(simp;omega)) ⟨_,rfl,?_⟩))|refine zBM rfl rfl rfl rfl rfl ?_)|(with_reducible first|refine zH ?_|refine zB ?_|refine zD ?_|refine zA ?_|refine zQ ?_)))
 simp only [Nat.zero_add,Nat.reduceAdd]
 generalize (G 9).g=bt
 have hm0:0<m:=by omega
 refine zw (ι:=Nat × ι) [0,1,2,3,5,22] rfl (fun q=>q.1≤c.hours.length∧q.1<m∧I q.1 q.2) (fun q=>[(23,.int .i64 (q.1:Int))]) (fun q=>.blk bt (zBD (thickN c pl z i q.1))::(zCb c A ca (some ⟨bb,o,none⟩) cb C cc pl (some ⟨b2,o2,none⟩) cp g1 g2 g3 r (i:Int)++[.all (Cx q.2),.oldx w wb.heap.size (feet (zCb c A ca (some ⟨bb,o,none⟩) cb C cc pl (some ⟨b2,o2,none⟩) cp g1 g2 g3 r (i:Int)++Cx s0))])) (fun q=>c.hours.length - q.1) (0,s0) ⟨Nat.zero_le _,hm0,hI0⟩ (by (first|exact lK1|(repeat (first|exact lK1|(refine zM rfl ?_))))) (by (repeat (first|exact oK1 _|(refine oK2 (by (repeat (first|exact tK1 _ _|apply tK2))) ?_)))) ?_
 rintro ⟨k,s⟩ ⟨hk,hkm,hIk⟩
 simp only at hk hkm hIk
 have hY:=fun W=>hround k s W hkm hIk
 clear hround
 simp only [zAx,zCb,zJ,List.cons_append,List.nil_append]
 by_cases hlt:k<c.hours.length
 ·obtain ⟨u,hu⟩:∃ u,c.hours[k]?=some u:=⟨_,List.getElem?_eq_getElem (by omega)⟩
  obtain ⟨sl,hsk⟩:∃ s,pl[k]?=some s:=⟨_,List.getElem?_eq_getElem (by omega)⟩
  have hsm:=List.mem_of_getElem? hsk
  have hrow:=hp.rows sl hsm
  have hsl:=hrl sl hsm
  have hin:=zGj (pl:=pl) (i:=i) hf hzm k (by omega)
  have hlin:=zER hf hzm (List.mem_of_getElem? hu)
  have e1:thickN c pl z i (k+1)=layered c (sl.xs.contains (i:Int)) (thinned (thickN c pl z i k) (zBk c z u)):=by simp only [thickN,zAh hu,zAh hsk]
  generalize thickN c pl z i k=t at *
  have hL:=fun W hW=>hL W hW k u hu
  generalize zBk c z u=lo at *
  obtain ⟨sA,xs,sc⟩:=sl
  simp only at hrow hsl e1
  have hH:=fun W (hW:Below wb.heap.size wb W)=>zG9 xs (i:Int) sA sc W (hrow.below hW) (by omega)
  have:zAU pl k ⟨sA,xs,sc⟩:=⟨hsk⟩
  generalize xs.contains (i:Int)=on at *
  cases hgk:go k
  ·simp only [hgk] at hY
   unfold zBD
   (repeat' (first|((with_reducible refine zG ?_);first|refine zE rfl rfl rfl rfl rfl ?_|refine zC rfl rfl rfl rfl rfl ?_|(refine zK rfl rfl rfl rfl rfl ?_;refine ⟨_,rfl,?_⟩)|(refine zU rfl rfl rfl rfl rfl rfl rfl (fun h=>?_) (fun h=>?_)<;>(dsimp only [cmpP] at h;(try (exfalso;omega))))|(refine zFd (D:=zCb c A ca (some ⟨bb,o,none⟩) cb C cc pl (some ⟨b2,o2,none⟩) cp g1 g2 g3 r (i:Int)) (L:=Cx s) (C:=Cx) (p:=I (k+1)) (go:=false) rfl rfl rfl rfl rfl rfl [.blk bt (zBD t),.oldx w wb.heap.size (feet (zCb c A ca (some ⟨bb,o,none⟩) cb C cc pl (some ⟨b2,o2,none⟩) cp g1 g2 g3 r (i:Int)++Cx s0))] (by (repeat (first|exact oK1 _|(refine oK2 (by (repeat (first|exact tK1 _ _|apply tK2))) ?_)))) (fun _ W q=>hY W q.below (Own.append.1 (zBR.2 q.own)).1) ?_;rintro s' hs';simp only [zCb,zJ,List.cons_append,List.nil_append])|refine zAH rfl rfl rfl rfl rfl ?_)|(with_reducible first|refine zH ?_|refine zB ?_|refine zD ?_|refine zA ?_|refine zc ?_|refine zS ?_|refine zY ?_|refine zQ ?_|refine zAK ?_)|((with_reducible refine zI ?_ ?_);(· exact rfl))))
   have hmk:m=k+1:=by
    rcases Nat.lt_or_ge (k+1) m with h9|h9
    ·have:=hgo k h9;rw [hgk] at this;cases this
    ·omega
   exact zII (vs:=[]) zO.nil s' (hmk ▸ hs') rfl hwb (fun W9 h=>zBR.2 (show Own wb.heap.size W9 (zCb c A ca (some ⟨bb,o,none⟩) cb C cc pl (some ⟨b2,o2,none⟩) cp g1 g2 g3 r (i:Int) ++ .all (Cx s')::[.oldx w wb.heap.size (feet (zCb c A ca (some ⟨bb,o,none⟩) cb C cc pl (some ⟨b2,o2,none⟩) cp g1 g2 g3 r (i:Int)++Cx s0))]) from h.sub (by (repeat (first|exact oK1 _|(refine oK2 (by (repeat (first|exact tK1 _ _|apply tK2))) ?_))))))
  ·simp only [hgk] at hY
   have hmk:k+1<m:=by
    rcases hend with h9 | ⟨h9,h10⟩
    ·omega
    ·rcases Nat.lt_or_ge (k+1) m with h11|h11
     ·exact h11
     ·have:m - 1=k:=by omega
      rw [this,hgk] at h10;cases h10
   unfold zBD
   (repeat' (first|((with_reducible refine zG ?_);first|refine zE rfl rfl rfl rfl rfl ?_|refine zC rfl rfl rfl rfl rfl ?_|(refine zK rfl rfl rfl rfl rfl ?_;refine ⟨_,rfl,?_⟩)|refine za rfl rfl rfl rfl rfl ?_|(refine zU rfl rfl rfl rfl rfl rfl rfl (fun h=>?_) (fun h=>?_)<;>(dsimp only [cmpP] at h;(try (exfalso;omega))))|(refine zFd (D:=zCb c A ca (some ⟨bb,o,none⟩) cb C cc pl (some ⟨b2,o2,none⟩) cp g1 g2 g3 r (i:Int)) (L:=Cx s) (C:=Cx) (p:=I (k+1)) (go:=true) rfl rfl rfl rfl rfl rfl [.blk bt (zBD t),.oldx w wb.heap.size (feet (zCb c A ca (some ⟨bb,o,none⟩) cb C cc pl (some ⟨b2,o2,none⟩) cp g1 g2 g3 r (i:Int)++Cx s0))] (by (repeat (first|exact oK1 _|(refine oK2 (by (repeat (first|exact tK1 _ _|apply tK2))) ?_)))) (fun _ W q=>hY W q.below (Own.append.1 (zBR.2 q.own)).1) ?_;rintro s' hs';simp only [zCb,zJ,List.cons_append,List.nil_append];unfold zBD)|refine zX rfl rfl rfl rfl rfl rfl (fun _ _ q=>hL _ q.below (zAc q.own (Below.refl _ _) rfl)) ?_|refine zAH rfl rfl rfl rfl rfl ?_|refine zCY rfl rfl rfl rfl rfl rfl (IntWalk.i64_in _ (by omega)) ?_|(refine ze rfl rfl rfl rfl rfl ?_;refine And.intro rfl (And.intro (by first|decide|exact Nat.le_of_ble_eq_true rfl|(simp;omega)) ⟨_,rfl,?_⟩))|(refine zm rfl rfl rfl rfl (fun b=>?_))|(refine zA7 rfl rfl rfl rfl rfl ?_;refine ⟨_,rfl,?_⟩)|refine zCG rfl rfl rfl rfl rfl rfl ?_)|(with_reducible first|refine zH ?_|refine zB ?_|refine zD ?_|refine zA ?_|refine zS ?_|refine zQ ?_)|((with_reducible refine zI ?_ ?_);(· exact rfl))|((with_reducible refine zF ?_ ?_);(· exact rfl))))
   (refine zAy (by kernel_rfl) (by kernel_rfl) (by kernel_rfl) ?_)
   (repeat' (first|((with_reducible refine zBV ?_);first|refine zN (zAe rfl rfl) rfl rfl rfl ?_|refine zN (zAE rfl rfl (by exact rfl)) rfl rfl rfl ?_|refine zN (zAQ (I:=k) rfl rfl rfl (by omega) (by first|omega|(dsimp only;omega))) rfl rfl rfl ?_|(refine zL0 rfl rfl rfl rfl rfl rfl (fun _ _ q=>hH _ q.below) (fun h=>?_) (fun h=>?_)))|(with_reducible refine zB6 ?_)))
   ·(repeat' (first|(with_reducible first|refine zA ?_)|((with_reducible refine zI ?_ ?_);(· exact rfl))))
    (refine Two.zA8 [] [] [] rfl (show ([]:List Nat).Nodup by decide) (fun _ h=>h) (by kernel_rfl) [[],[Z],[Y,Y],[Z,Y,Y],[Z,Z,Y,Y],[Z,Z,Z,Y,Y],[Z,Z,Z,Z,Y,Y],[Z,Z,Z,Z,Z,Y,Y],[Z,Z,Z,Z,Z,Z,Z,Z],[Y,Y,Y,Y,Y,Y,Y,Y,Y],[Z,Y,Y,Y,Y,Y,Y,Y,Y,Y],[Y,Y,Y,Y,Y,Y,Y,Y,Y,Y,Y],[Z,Y,Y,Y,Y,Y,Y,Y,Y,Y,Y,Y],[Z,Z,Y,Y,Y,Y,Y,Y,Y,Y,Y,Y,Y],[Z,Z,Z,Y,Y,Y,Y,Y,Y,Y,Y,Y,Y,Y],[Z,Z,Z,Z,Y,Y,Y,Y,Y,Y,Y,Y,Y,Y,Y],[Z,Z,Z,Z,Z,Y,Y,Y,Y,Y,Y,Y,Y,Y,Y,Y],[Z,Z,Z,Z,Z,Z,Z,Z,Y,Y,Y,Y,Y,Y,Y,Y,Y],[Z,Z,Z,Z,Z,Z,Z,Z,Z,Z,Z,Z,Z,Z,Z,Z,Z,Z],[Z,Z,Z,Z,Z,Z,Z,Z,Z,Z,Z,Z,Z,Z,Z,Z,Z,Z,Z]] (by kernel_rfl) (by kernel_rfl) (by kernel_rfl) (by kernel_rfl) (by kernel_rfl) ?_)
    (repeat' (first|(((with_reducible refine Two.zDz ?_ ?_);(· exact rfl);refine ⟨_,fun G=>(by (try simp (decide:=true) only [Two.vis,Two.see,fltT,zAT,Nat.reduceAdd,Nat.reduceSub,if_true,if_false,List.set_cons_zero,List.set_cons_succ,List.set_nil,List.nil_append,List.cons_append]);rfl),?_⟩);first|refine Two.zo _ (fun _=>zAE rfl rfl (by exact rfl)) (fun _=>rfl) rfl (by first|exact fun _ _ _=>rfl|(intro G G' h;simp (decide:=true) only [h])) ?_|(refine Two.zAw rfl ?_;refine Two.zo _ (fun _=>zAP rfl rfl) (fun _=>rfl) rfl (by first|exact fun _ _ _=>rfl|(intro G G' h;simp (decide:=true) only [h])) ?_)|refine Two.zo _ (fun _=>zE9 rfl rfl rfl (IntWalk.i64_in _ (by omega))) (fun _=>rfl) rfl (by first|exact fun _ _ _=>rfl|(intro G G' h;simp (decide:=true) only [h])) ?_|refine Two.zo _ (fun _=>zAW rfl rfl) (fun _=>rfl) rfl (by first|exact fun _ _ _=>rfl|(intro G G' h;simp (decide:=true) only [h])) ?_|refine Two.zo _ (fun _=>zCH rfl rfl (by exact rfl)) (fun _=>rfl) rfl (by first|exact fun _ _ _=>rfl|(intro G G' h;simp (decide:=true) only [h])) ?_)|((with_reducible refine Two.zCL ?_ ?_);(· exact rfl))))
    (intro G;simp only [regsT,zAT,Two.zBw,Two.ini,List.nil_append,List.cons_append])
    (repeat' (first|((with_reducible refine zG ?_);first|refine zE rfl rfl rfl rfl rfl ?_|refine zf rfl rfl rfl rfl rfl rfl (by omega) ?_|(refine ze rfl rfl rfl rfl rfl ?_;refine And.intro rfl (And.intro (by first|decide|exact Nat.le_of_ble_eq_true rfl|(simp;omega)) ⟨_,rfl,?_⟩)))|(with_reducible first|refine zB ?_|refine zD ?_|refine zA ?_|refine zh ?_)))
    exact zi (k+1,s') ⟨by omega,hmk,hs'⟩ (by simp only;omega) (by (first|exact lK1|(repeat (first|exact lK1|(refine zM rfl ?_))))) (by
     dsimp only
     rw [e1]
     subst h
     simp only [layered,thinned,if_true,if_false,Bool.false_eq_true]
     (repeat (first|exact oK1 _|(refine oK2 (by (repeat (first|exact tK1 _ _|apply tK2))) ?_))))
   ·(repeat' (first|((with_reducible refine zG ?_);first|refine zE rfl rfl rfl rfl rfl ?_|refine zf rfl rfl rfl rfl rfl rfl (by omega) ?_)|(with_reducible first|refine zB ?_|refine zD ?_|refine zA ?_|refine zS ?_|refine zh ?_)|((with_reducible refine zF ?_ ?_);(· exact rfl))))
    exact zi (k+1,s') ⟨by omega,hmk,hs'⟩ (by simp only;omega) (by (first|exact lK1|(repeat (first|exact lK1|(refine zM rfl ?_))))) (by
     dsimp only
     rw [e1]
     subst h
     simp only [layered,thinned,if_true,if_false,Bool.false_eq_true]
     (repeat (first|exact oK1 _|(refine oK2 (by (repeat (first|exact tK1 _ _|apply tK2))) ?_))))
 ·obtain rfl:k=c.hours.length:=by omega
  (repeat' (first|((with_reducible refine zG ?_);first|(refine zU rfl rfl rfl rfl rfl rfl rfl (fun h=>?_) (fun h=>?_)<;>(dsimp only [cmpP] at h;(try (exfalso;omega)))))|(with_reducible first|refine zH ?_|refine zB ?_|refine zD ?_|refine zA ?_|refine zj ?_|refine zR ?_|refine zW ?_)|((with_reducible refine zF ?_ ?_);(· exact rfl))))
  (refine Two.zA8 [] [] [] rfl (show ([]:List Nat).Nodup by decide) (fun _ h=>h) (by kernel_rfl) [[],[Y],[Z,Y],[Z,Z,Y],[Z,Z,Z,Y],[Z,Z,Z,Z,Y],[Z,Z,Z,Z,Z,Y],[Y,Y,Y,Y,Y,Y,Y],[Z,Z,Z,Z,Z,Z,Z,Z]] (by kernel_rfl) (by kernel_rfl) (by kernel_rfl) (by kernel_rfl) (by kernel_rfl) ?_)
  (repeat' (first|(((with_reducible refine Two.zDz ?_ ?_);(· exact rfl);refine ⟨_,fun G=>(by (try simp (decide:=true) only [Two.vis,Two.see,fltT,zAT,Nat.reduceAdd,Nat.reduceSub,if_true,if_false,List.set_cons_zero,List.set_cons_succ,List.set_nil,List.nil_append,List.cons_append]);rfl),?_⟩);first|refine Two.zo _ (fun _=>zAe rfl rfl) (fun _=>rfl) rfl (by first|exact fun _ _ _=>rfl|(intro G G' h;simp (decide:=true) only [h])) ?_|refine Two.zo _ (fun _=>zAE rfl rfl (by exact rfl)) (fun _=>rfl) rfl (by first|exact fun _ _ _=>rfl|(intro G G' h;simp (decide:=true) only [h])) ?_|(refine Two.zAw rfl ?_;refine Two.zo _ (fun _=>zAP rfl rfl) (fun _=>rfl) rfl (by first|exact fun _ _ _=>rfl|(intro G G' h;simp (decide:=true) only [h])) ?_)|refine Two.zo _ (fun _=>zCy rfl rfl) (fun _=>rfl) rfl (by first|exact fun _ _ _=>rfl|(intro G G' h;simp (decide:=true) only [h])) ?_|refine Two.zo _ (fun _=>zAW rfl rfl) (fun _=>rfl) rfl (by first|exact fun _ _ _=>rfl|(intro G G' h;simp (decide:=true) only [h])) ?_)|((with_reducible refine Two.zCL ?_ ?_);(· exact rfl))))
  (intro G;simp only [regsT,zAT,Two.zBw,Two.ini,List.nil_append,List.cons_append])
  unfold zBD
  (repeat' (first|((with_reducible refine zG ?_);first|(refine zFd (D:=zCb c A ca (some ⟨bb,o,none⟩) cb C cc pl (some ⟨b2,o2,none⟩) cp g1 g2 g3 r (i:Int)) (L:=Cx s) (C:=Cx) (p:=I (c.hours.length+1)) (go:=go c.hours.length) rfl rfl rfl rfl rfl rfl [.blk bt (zBD (thickN c pl z i c.hours.length)),.oldx w wb.heap.size (feet (zCb c A ca (some ⟨bb,o,none⟩) cb C cc pl (some ⟨b2,o2,none⟩) cp g1 g2 g3 r (i:Int)++Cx s0))] (by (repeat (first|exact oK1 _|(refine oK2 (by (repeat (first|exact tK1 _ _|apply tK2))) ?_)))) (fun _ W q=>hY W q.below (Own.append.1 (zBR.2 q.own)).1) ?_;rintro s' hs';simp only [zCb,zJ,List.cons_append,List.nil_append]))|(with_reducible first|refine zD ?_)))
  refine u_endG ?_
  have hmk:m=c.hours.length+1:=by omega
  exact zII (vs:=[]) zO.nil s' (hmk ▸ hs') rfl hwb (fun W9 h=>zBR.2 (show Own wb.heap.size W9 (zCb c A ca (some ⟨bb,o,none⟩) cb C cc pl (some ⟨b2,o2,none⟩) cp g1 g2 g3 r (i:Int) ++ .all (Cx s')::[.oldx w wb.heap.size (feet (zCb c A ca (some ⟨bb,o,none⟩) cb C cc pl (some ⟨b2,o2,none⟩) cp g1 g2 g3 r (i:Int)++Cx s0))]) from h.sub (by (repeat (first|exact oK1 _|(refine oK2 (by (repeat (first|exact tK1 _ _|apply tK2))) ?_))))))
def zCa (c:Cov) (A:Option Addr) (ca:Nat) (B:Option Addr) (cb:Nat) (C:Option Addr) (cc:Nat) (pl:List Sli) (P:Option Addr) (cp g1 g2 g3 r:Nat) (i:Int):List Ent :=
 [.blk g1 [.pointer (some ⟨r,0,none⟩)],.blk g2 [.int .i64 i],.blk g3 [.slice P pl.length cp]]
set_option maxHeartbeats 4000000 in
theorem zPk (c:Cov) (A:Option Addr) (ca:Nat) (B:Option Addr) (cb:Nat) (C:Option Addr) (cc:Nat) (pl:List Sli) (P:Option Addr) (cp i g1 g2 g3 r:Nat) (z:Bed) (wb:World) (hr:InC wb r 0 (zJ c A ca B cb C cc)) (h:zAk wb c A B C) (hs:Small c) (hf:zB4 c) (hp:zBP wb P pl) (hrl:∀ s∈pl,s.xs.length≤20) (hpl:pl.length=c.hours.length) (hz:c.beds[i]?=some z) :
  Seq Tryz.prog 104 [.pointer (some ⟨g1,0,none⟩),.pointer (some ⟨g2,0,none⟩),.pointer (some ⟨g3,0,none⟩)] (zCa c A ca B cb C cc pl P cp g1 g2 g3 r (i:Int)) zFX (zH8 c pl z i) wb:=by
 intro ι l m I Cx go s0 w hwb hI0 hO hm hgo hend hround
 have h4:=hs.b;have h5:=hs.h
 have hb:=h.b;have hpp:=hp.p;have hh:=h.h
 have hzm:=List.mem_of_getElem? hz
 have hi:=(List.getElem?_eq_some_iff.1 hz).1
 have hlay:=hf.layer
 simp only [zAn] at hlay
 have hL:=fun W (hW:Below wb.heap.size wb W) j u (hu:c.hours[j]?=some u) (hr:InC W r 0 (zJ c A ca B cb C cc))=>zFt c A ca B cb C cc r i j z u W hr (h.below hW) hs hf hz hu
 obtain ⟨bb,o,rfl,hblt,hc⟩:=hb.at_ hi
 have:InS wb bb o zAd 3 c.beds:=⟨hb⟩
 have:zAU c.beds i z:=⟨hz⟩
 have hh1:=hf.hours
 rw [zAL] at hh1
 obtain ⟨b2,o2,rfl,hblt2,hc2⟩:=hpp.at_ (show 0<pl.length by omega)
 have:InS wb b2 o2 zBa 1 pl:=⟨hpp⟩
 unfold vSp at hL
 rw [zEf] at hm hend
 have hround:=fun k s W (hk:k<m)=>hround k (k,thickN c pl z i k) s W hk (zG8 (by omega))
 unfold zCa zFX vSp at *
 unfold zJ at *
 refine zIr (n:=83) hwb hO Tryz.func104 rfl rfl rfl ?_
 refine zFD (fun _ h=>zBR.1 h) ?_
 simp only [List.cons_append,List.nil_append]
 (repeat' (first|(with_reducible first|refine zH ?_)))
 (refine Two.zA8 [] [] [] rfl (show ([]:List Nat).Nodup by decide) (fun _ h=>h) (by kernel_rfl) [[],[Z],[Z,Z],[Z,Z,Z],[Z,Z,Z,Z],[Y,Y,Y,Y,Y],[Z,Z,Z,Z,Z,Z],[Z,Z,Z,Z,Z,Z,Z],[Z,Z,Z,Z,Z,Z,Z,Z],[Y,Y,Y,Y,Y,Y,Y,Y,Y],[Z,Z,Z,Z,Z,Z,Z,Z,Z,Z]] (by kernel_rfl) (by kernel_rfl) (by kernel_rfl) (by kernel_rfl) (by kernel_rfl) ?_)
 (repeat' (first|(((with_reducible refine Two.zDz ?_ ?_);(· exact rfl);refine ⟨_,fun G=>(by (try simp (decide:=true) only [Two.vis,Two.see,fltT,zAT,Nat.reduceAdd,Nat.reduceSub,if_true,if_false,List.set_cons_zero,List.set_cons_succ,List.set_nil,List.nil_append,List.cons_append]);rfl),?_⟩);first|refine Two.zo _ (fun _=>zAE rfl rfl (by exact rfl)) (fun _=>rfl) rfl (by first|exact fun _ _ _=>rfl|(intro G G' h;simp (decide:=true) only [h])) ?_|(refine Two.zAw rfl ?_;refine Two.zo _ (fun _=>zAP rfl rfl) (fun _=>rfl) rfl (by first|exact fun _ _ _=>rfl|(intro G G' h;simp (decide:=true) only [h])) ?_)|refine Two.zo _ (fun _=>zAQ (I:=i) rfl rfl rfl rfl (by omega)) (fun _=>rfl) rfl (by exact fun _ _ _=>rfl) ?_|refine Two.zo _ (fun _=>zAW rfl rfl) (fun _=>rfl) rfl (by first|exact fun _ _ _=>rfl|(intro G G' h;simp (decide:=true) only [h])) ?_|refine Two.zIR rfl (fun _=>rfl) rfl ?_)|((with_reducible refine Two.zCL ?_ ?_);(· exact rfl))))
 (intro G;simp only [regsT,zAT,Two.zBw,Two.ini,List.nil_append,List.cons_append])
 (repeat' (first|((with_reducible refine zG ?_);first|refine zE rfl rfl rfl rfl rfl ?_|(refine zK rfl rfl rfl rfl rfl ?_;refine ⟨_,rfl,?_⟩)|refine za rfl rfl rfl rfl rfl ?_|refine zp rfl rfl rfl rfl rfl ?_|(refine ze rfl rfl rfl rfl rfl ?_;refine And.intro rfl (And.intro (by first|decide|exact Nat.le_of_ble_eq_true rfl|(simp;omega)) ⟨_,rfl,?_⟩))|refine zBM rfl rfl rfl rfl rfl ?_)|(with_reducible first|refine zH ?_|refine zB ?_|refine zD ?_|refine zA ?_|refine zQ ?_)))
 simp only [Nat.zero_add,Nat.reduceAdd]
 generalize (G 9).g=bt
 have hm0:0<m:=by omega
 refine zw (ι:=Nat × ι) [0,1,2,3,5,22] rfl (fun q=>q.1≤c.hours.length∧q.1<m∧I q.1 q.2) (fun q=>[(23,.int .i64 (q.1:Int))]) (fun q=>.blk bt (zBD (thickN c pl z i q.1))::(zCa c A ca (some ⟨bb,o,none⟩) cb C cc pl (some ⟨b2,o2,none⟩) cp g1 g2 g3 r (i:Int)++[.all (Cx q.2),.oldx w wb.heap.size (feet (zCa c A ca (some ⟨bb,o,none⟩) cb C cc pl (some ⟨b2,o2,none⟩) cp g1 g2 g3 r (i:Int)++Cx s0))])) (fun q=>c.hours.length - q.1) (0,s0) ⟨Nat.zero_le _,hm0,hI0⟩ (by (first|exact lK1|(repeat (first|exact lK1|(refine zM rfl ?_))))) (by (repeat (first|exact oK1 _|(refine oK2 (by (repeat (first|exact tK1 _ _|apply tK2))) ?_)))) ?_
 rintro ⟨k,s⟩ ⟨hk,hkm,hIk⟩
 simp only at hk hkm hIk
 have hY:=fun W=>hround k s W hkm hIk
 clear hround
 simp only [zAx,zCa,zJ,List.cons_append,List.nil_append]
 by_cases hlt:k<c.hours.length
 ·obtain ⟨u,hu⟩:∃ u,c.hours[k]?=some u:=⟨_,List.getElem?_eq_getElem (by omega)⟩
  obtain ⟨sl,hsk⟩:∃ s,pl[k]?=some s:=⟨_,List.getElem?_eq_getElem (by omega)⟩
  have hsm:=List.mem_of_getElem? hsk
  have hrow:=hp.rows sl hsm
  have hsl:=hrl sl hsm
  have hin:=zGj (pl:=pl) (i:=i) hf hzm k (by omega)
  have hlin:=zER hf hzm (List.mem_of_getElem? hu)
  have e1:thickN c pl z i (k+1)=layered c (sl.xs.contains (i:Int)) (thinned (thickN c pl z i k) (zBk c z u)):=by simp only [thickN,zAh hu,zAh hsk]
  generalize thickN c pl z i k=t at *
  have hL:=fun W hW=>hL W hW k u hu
  generalize zBk c z u=lo at *
  obtain ⟨sA,xs,sc⟩:=sl
  simp only at hrow hsl e1
  have hH:=fun W (hW:Below wb.heap.size wb W)=>zG9 xs (i:Int) sA sc W (hrow.below hW) (by omega)
  have:zAU pl k ⟨sA,xs,sc⟩:=⟨hsk⟩
  generalize xs.contains (i:Int)=on at *
  cases hgk:go k
  ·simp only [hgk] at hY
   unfold zBD
   (repeat' (first|((with_reducible refine zG ?_);first|refine zE rfl rfl rfl rfl rfl ?_|refine zC rfl rfl rfl rfl rfl ?_|(refine zK rfl rfl rfl rfl rfl ?_;refine ⟨_,rfl,?_⟩)|(refine zU rfl rfl rfl rfl rfl rfl rfl (fun h=>?_) (fun h=>?_)<;>(dsimp only [cmpP] at h;(try (exfalso;omega))))|(refine zFd (D:=zCa c A ca (some ⟨bb,o,none⟩) cb C cc pl (some ⟨b2,o2,none⟩) cp g1 g2 g3 r (i:Int)) (L:=Cx s) (C:=Cx) (p:=I (k+1)) (go:=false) rfl rfl rfl rfl rfl rfl [.blk bt (zBD t),.oldx w wb.heap.size (feet (zCa c A ca (some ⟨bb,o,none⟩) cb C cc pl (some ⟨b2,o2,none⟩) cp g1 g2 g3 r (i:Int)++Cx s0))] (by (repeat (first|exact oK1 _|(refine oK2 (by (repeat (first|exact tK1 _ _|apply tK2))) ?_)))) (fun _ W q=>hY W q.below (Own.append.1 (zBR.2 q.own)).1) ?_;rintro s' hs';simp only [zCa,zJ,List.cons_append,List.nil_append])|refine zAH rfl rfl rfl rfl rfl ?_)|(with_reducible first|refine zH ?_|refine zB ?_|refine zD ?_|refine zA ?_|refine zc ?_|refine zS ?_|refine zY ?_|refine zQ ?_|refine zAK ?_)|((with_reducible refine zI ?_ ?_);(· exact rfl))))
   have hmk:m=k+1:=by
    rcases Nat.lt_or_ge (k+1) m with h9|h9
    ·have:=hgo k h9;rw [hgk] at this;cases this
    ·omega
   exact zII (vs:=[]) zO.nil s' (hmk ▸ hs') rfl hwb (fun W9 h=>zBR.2 (show Own wb.heap.size W9 (zCa c A ca (some ⟨bb,o,none⟩) cb C cc pl (some ⟨b2,o2,none⟩) cp g1 g2 g3 r (i:Int) ++ .all (Cx s')::[.oldx w wb.heap.size (feet (zCa c A ca (some ⟨bb,o,none⟩) cb C cc pl (some ⟨b2,o2,none⟩) cp g1 g2 g3 r (i:Int)++Cx s0))]) from h.sub (by (repeat (first|exact oK1 _|(refine oK2 (by (repeat (first|exact tK1 _ _|apply tK2))) ?_))))))
  ·simp only [hgk] at hY
   have hmk:k+1<m:=by
    rcases hend with h9 | ⟨h9,h10⟩
    ·omega
    ·rcases Nat.lt_or_ge (k+1) m with h11|h11
     ·exact h11
     ·have:m - 1=k:=by omega
      rw [this,hgk] at h10;cases h10
   unfold zBD
   (repeat' (first|((with_reducible refine zG ?_);first|refine zE rfl rfl rfl rfl rfl ?_|refine zC rfl rfl rfl rfl rfl ?_|(refine zK rfl rfl rfl rfl rfl ?_;refine ⟨_,rfl,?_⟩)|refine za rfl rfl rfl rfl rfl ?_|(refine zU rfl rfl rfl rfl rfl rfl rfl (fun h=>?_) (fun h=>?_)<;>(dsimp only [cmpP] at h;(try (exfalso;omega))))|(refine zFd (D:=zCa c A ca (some ⟨bb,o,none⟩) cb C cc pl (some ⟨b2,o2,none⟩) cp g1 g2 g3 r (i:Int)) (L:=Cx s) (C:=Cx) (p:=I (k+1)) (go:=true) rfl rfl rfl rfl rfl rfl [.blk bt (zBD t),.oldx w wb.heap.size (feet (zCa c A ca (some ⟨bb,o,none⟩) cb C cc pl (some ⟨b2,o2,none⟩) cp g1 g2 g3 r (i:Int)++Cx s0))] (by (repeat (first|exact oK1 _|(refine oK2 (by (repeat (first|exact tK1 _ _|apply tK2))) ?_)))) (fun _ W q=>hY W q.below (Own.append.1 (zBR.2 q.own)).1) ?_;rintro s' hs';simp only [zCa,zJ,List.cons_append,List.nil_append];unfold zBD)|refine zX rfl rfl rfl rfl rfl rfl (fun _ _ q=>hL _ q.below (hr.below q.below)) ?_|refine zAH rfl rfl rfl rfl rfl ?_|refine zCY rfl rfl rfl rfl rfl rfl (IntWalk.i64_in _ (by omega)) ?_|(refine ze rfl rfl rfl rfl rfl ?_;refine And.intro rfl (And.intro (by first|decide|exact Nat.le_of_ble_eq_true rfl|(simp;omega)) ⟨_,rfl,?_⟩))|(refine zm rfl rfl rfl rfl (fun b=>?_))|(refine zA7 rfl rfl rfl rfl rfl ?_;refine ⟨_,rfl,?_⟩)|refine zCG rfl rfl rfl rfl rfl rfl ?_)|(with_reducible first|refine zH ?_|refine zB ?_|refine zD ?_|refine zA ?_|refine zS ?_|refine zQ ?_)|((with_reducible refine zI ?_ ?_);(· exact rfl))|((with_reducible refine zF ?_ ?_);(· exact rfl))))
   (refine zAy (by kernel_rfl) (by kernel_rfl) (by kernel_rfl) ?_)
   (repeat' (first|((with_reducible refine zBV ?_);first|refine zN (zAe rfl rfl) rfl rfl rfl ?_|refine zN (zAE rfl rfl (by exact rfl)) rfl rfl rfl ?_|refine zN (zAQ (I:=k) rfl rfl rfl (by omega) (by first|omega|(dsimp only;omega))) rfl rfl rfl ?_|(refine zL0 rfl rfl rfl rfl rfl rfl (fun _ _ q=>hH _ q.below) (fun h=>?_) (fun h=>?_)))|(with_reducible refine zB6 ?_)))
   ·(repeat' (first|(with_reducible first|refine zA ?_)|((with_reducible refine zI ?_ ?_);(· exact rfl))))
    (refine Two.zA8 [] [] [] rfl (show ([]:List Nat).Nodup by decide) (fun _ h=>h) (by kernel_rfl) [[],[Z],[Y,Y],[Z,Y,Y],[Z,Z,Y,Y],[Z,Z,Z,Y,Y],[Z,Z,Z,Z,Y,Y],[Z,Z,Z,Z,Z,Y,Y],[Z,Z,Z,Z,Z,Z,Z,Z],[Y,Y,Y,Y,Y,Y,Y,Y,Y],[Z,Y,Y,Y,Y,Y,Y,Y,Y,Y],[Y,Y,Y,Y,Y,Y,Y,Y,Y,Y,Y],[Z,Y,Y,Y,Y,Y,Y,Y,Y,Y,Y,Y],[Z,Z,Y,Y,Y,Y,Y,Y,Y,Y,Y,Y,Y],[Z,Z,Z,Y,Y,Y,Y,Y,Y,Y,Y,Y,Y,Y],[Z,Z,Z,Z,Y,Y,Y,Y,Y,Y,Y,Y,Y,Y,Y],[Z,Z,Z,Z,Z,Y,Y,Y,Y,Y,Y,Y,Y,Y,Y,Y],[Z,Z,Z,Z,Z,Z,Z,Z,Y,Y,Y,Y,Y,Y,Y,Y,Y],[Z,Z,Z,Z,Z,Z,Z,Z,Z,Z,Z,Z,Z,Z,Z,Z,Z,Z],[Z,Z,Z,Z,Z,Z,Z,Z,Z,Z,Z,Z,Z,Z,Z,Z,Z,Z,Z]] (by kernel_rfl) (by kernel_rfl) (by kernel_rfl) (by kernel_rfl) (by kernel_rfl) ?_)
    (repeat' (first|(((with_reducible refine Two.zDz ?_ ?_);(· exact rfl);refine ⟨_,fun G=>(by (try simp (decide:=true) only [Two.vis,Two.see,fltT,zAT,Nat.reduceAdd,Nat.reduceSub,if_true,if_false,List.set_cons_zero,List.set_cons_succ,List.set_nil,List.nil_append,List.cons_append]);rfl),?_⟩);first|refine Two.zo _ (fun _=>zAE rfl rfl (by exact rfl)) (fun _=>rfl) rfl (by first|exact fun _ _ _=>rfl|(intro G G' h;simp (decide:=true) only [h])) ?_|(refine Two.zAw rfl ?_;refine Two.zo _ (fun _=>zAP rfl rfl) (fun _=>rfl) rfl (by first|exact fun _ _ _=>rfl|(intro G G' h;simp (decide:=true) only [h])) ?_)|refine Two.zo _ (fun _=>zE9 rfl rfl rfl (IntWalk.i64_in _ (by omega))) (fun _=>rfl) rfl (by first|exact fun _ _ _=>rfl|(intro G G' h;simp (decide:=true) only [h])) ?_|refine Two.zo _ (fun _=>zAW rfl rfl) (fun _=>rfl) rfl (by first|exact fun _ _ _=>rfl|(intro G G' h;simp (decide:=true) only [h])) ?_|refine Two.zo _ (fun _=>zCH rfl rfl (by exact rfl)) (fun _=>rfl) rfl (by first|exact fun _ _ _=>rfl|(intro G G' h;simp (decide:=true) only [h])) ?_)|((with_reducible refine Two.zCL ?_ ?_);(· exact rfl))))
    (intro G;simp only [regsT,zAT,Two.zBw,Two.ini,List.nil_append,List.cons_append])
    (repeat' (first|((with_reducible refine zG ?_);first|refine zE rfl rfl rfl rfl rfl ?_|refine zf rfl rfl rfl rfl rfl rfl (by omega) ?_|(refine ze rfl rfl rfl rfl rfl ?_;refine And.intro rfl (And.intro (by first|decide|exact Nat.le_of_ble_eq_true rfl|(simp;omega)) ⟨_,rfl,?_⟩)))|(with_reducible first|refine zB ?_|refine zD ?_|refine zA ?_|refine zh ?_)))
    exact zi (k+1,s') ⟨by omega,hmk,hs'⟩ (by simp only;omega) (by (first|exact lK1|(repeat (first|exact lK1|(refine zM rfl ?_))))) (by
     dsimp only
     rw [e1]
     subst h
     simp only [layered,thinned,if_true,if_false,Bool.false_eq_true]
     (repeat (first|exact oK1 _|(refine oK2 (by (repeat (first|exact tK1 _ _|apply tK2))) ?_))))
   ·(repeat' (first|((with_reducible refine zG ?_);first|refine zE rfl rfl rfl rfl rfl ?_|refine zf rfl rfl rfl rfl rfl rfl (by omega) ?_)|(with_reducible first|refine zB ?_|refine zD ?_|refine zA ?_|refine zS ?_|refine zh ?_)|((with_reducible refine zF ?_ ?_);(· exact rfl))))
    exact zi (k+1,s') ⟨by omega,hmk,hs'⟩ (by simp only;omega) (by (first|exact lK1|(repeat (first|exact lK1|(refine zM rfl ?_))))) (by
     dsimp only
     rw [e1]
     subst h
     simp only [layered,thinned,if_true,if_false,Bool.false_eq_true]
     (repeat (first|exact oK1 _|(refine oK2 (by (repeat (first|exact tK1 _ _|apply tK2))) ?_))))
 ·obtain rfl:k=c.hours.length:=by omega
  (repeat' (first|((with_reducible refine zG ?_);first|(refine zU rfl rfl rfl rfl rfl rfl rfl (fun h=>?_) (fun h=>?_)<;>(dsimp only [cmpP] at h;(try (exfalso;omega)))))|(with_reducible first|refine zH ?_|refine zB ?_|refine zD ?_|refine zA ?_|refine zj ?_|refine zR ?_|refine zW ?_)|((with_reducible refine zF ?_ ?_);(· exact rfl))))
  (refine Two.zA8 [] [] [] rfl (show ([]:List Nat).Nodup by decide) (fun _ h=>h) (by kernel_rfl) [[],[Y],[Z,Y],[Z,Z,Y],[Z,Z,Z,Y],[Z,Z,Z,Z,Y],[Z,Z,Z,Z,Z,Y],[Y,Y,Y,Y,Y,Y,Y],[Z,Z,Z,Z,Z,Z,Z,Z]] (by kernel_rfl) (by kernel_rfl) (by kernel_rfl) (by kernel_rfl) (by kernel_rfl) ?_)
  (repeat' (first|(((with_reducible refine Two.zDz ?_ ?_);(· exact rfl);refine ⟨_,fun G=>(by (try simp (decide:=true) only [Two.vis,Two.see,fltT,zAT,Nat.reduceAdd,Nat.reduceSub,if_true,if_false,List.set_cons_zero,List.set_cons_succ,List.set_nil,List.nil_append,List.cons_append]);rfl),?_⟩);first|refine Two.zo _ (fun _=>zAe rfl rfl) (fun _=>rfl) rfl (by first|exact fun _ _ _=>rfl|(intro G G' h;simp (decide:=true) only [h])) ?_|refine Two.zo _ (fun _=>zAE rfl rfl (by exact rfl)) (fun _=>rfl) rfl (by first|exact fun _ _ _=>rfl|(intro G G' h;simp (decide:=true) only [h])) ?_|(refine Two.zAw rfl ?_;refine Two.zo _ (fun _=>zAP rfl rfl) (fun _=>rfl) rfl (by first|exact fun _ _ _=>rfl|(intro G G' h;simp (decide:=true) only [h])) ?_)|refine Two.zo _ (fun _=>zCy rfl rfl) (fun _=>rfl) rfl (by first|exact fun _ _ _=>rfl|(intro G G' h;simp (decide:=true) only [h])) ?_|refine Two.zo _ (fun _=>zAW rfl rfl) (fun _=>rfl) rfl (by first|exact fun _ _ _=>rfl|(intro G G' h;simp (decide:=true) only [h])) ?_)|((with_reducible refine Two.zCL ?_ ?_);(· exact rfl))))
  (intro G;simp only [regsT,zAT,Two.zBw,Two.ini,List.nil_append,List.cons_append])
  unfold zBD
  (repeat' (first|((with_reducible refine zG ?_);first|(refine zFd (D:=zCa c A ca (some ⟨bb,o,none⟩) cb C cc pl (some ⟨b2,o2,none⟩) cp g1 g2 g3 r (i:Int)) (L:=Cx s) (C:=Cx) (p:=I (c.hours.length+1)) (go:=go c.hours.length) rfl rfl rfl rfl rfl rfl [.blk bt (zBD (thickN c pl z i c.hours.length)),.oldx w wb.heap.size (feet (zCa c A ca (some ⟨bb,o,none⟩) cb C cc pl (some ⟨b2,o2,none⟩) cp g1 g2 g3 r (i:Int)++Cx s0))] (by (repeat (first|exact oK1 _|(refine oK2 (by (repeat (first|exact tK1 _ _|apply tK2))) ?_)))) (fun _ W q=>hY W q.below (Own.append.1 (zBR.2 q.own)).1) ?_;rintro s' hs';simp only [zCa,zJ,List.cons_append,List.nil_append]))|(with_reducible first|refine zD ?_)))
  refine u_endG ?_
  have hmk:m=c.hours.length+1:=by omega
  exact zII (vs:=[]) zO.nil s' (hmk ▸ hs') rfl hwb (fun W9 h=>zBR.2 (show Own wb.heap.size W9 (zCa c A ca (some ⟨bb,o,none⟩) cb C cc pl (some ⟨b2,o2,none⟩) cp g1 g2 g3 r (i:Int) ++ .all (Cx s')::[.oldx w wb.heap.size (feet (zCa c A ca (some ⟨bb,o,none⟩) cb C cc pl (some ⟨b2,o2,none⟩) cp g1 g2 g3 r (i:Int)++Cx s0))]) from h.sub (by (repeat (first|exact oK1 _|(refine oK2 (by (repeat (first|exact tK1 _ _|apply tK2))) ?_))))))
end Go.Proofs.YtdigopgncfhiaaaGreatDoor
namespace Go.Proofs.YtdigopgncfhiaaaGreatDoor
open Go.RowKit
set_option maxRecDepth 20000
theorem zKX (r i:Nat) (pl:List Sli) (P:Option Addr) (cp:Nat) (w:World):Ret Tryz.prog 61 [.pointer (some ⟨r,0,none⟩),.slice P pl.length cp,.int .i64 (i:Int)] w (fun g:Nat × Nat × Nat=>.func (.func 104) #[] #[.pointer (some ⟨g.1,0,none⟩),.pointer (some ⟨g.2.1,0,none⟩),.pointer (some ⟨g.2.2,0,none⟩)])
  (fun g=>[.blk g.1 [.pointer (some ⟨r,0,none⟩)],.blk g.2.1 [.int .i64 (i:Int)],.blk g.2.2 [.slice P pl.length cp]]) (fun _=>True):=by
 (refine zL (n:=8) Tryz.func61 rfl rfl rfl ?_)
 (repeat' (first|((with_reducible refine zG ?_);first|refine zC rfl rfl rfl rfl rfl ?_|(refine zt rfl rfl rfl rfl rfl rfl (fun b=>?_))|refine zBl rfl rfl rfl rfl rfl rfl ?_)|(with_reducible first|refine zH ?_|refine zB ?_|refine zD ?_|refine zA ?_|refine zc ?_)))
 rename_i b1 b3
 exact zV (by (exact zO.cons (by exact zn.tmp rfl) zO.nil)) (b1,b,b3) trivial rfl (fun _ h=>h.sub (by (repeat (first|exact oK1 _|(refine oK2 (by (repeat (first|exact tK1 _ _|apply tK2))) ?_)))))
def zEq (c:Cov) (pl:List Sli) (i h:Int):Sp × Int :=
 if zCK c pl=0 then (if inB 0 ((c.beds.length:Int) - 1) i=true∧inB 0 (c.hours.length:Int) h=true then (thickN c pl (c.beds.getD i.toNat default) i h.toNat,0) else (⟨0,0⟩,2)) else (⟨0,0⟩,zCK c pl)
theorem zEc {c:Cov} {pl:List Sli} (h:zCK c pl=0):zAm c=0∧zBg c pl=true:=by
 unfold zCK at h
 by_cases h0:zAm c=0
 ·rw [if_pos h0] at h
  cases hp:zBg c pl with
  | true=>exact ⟨h0,rfl⟩
  | false=>rw [hp] at h;simp at h
 ·rw [if_neg h0] at h;exact absurd h h0
set_option maxHeartbeats 4000000 in
theorem zNa (c:Cov) (A:Option Addr) (ca:Nat) (B:Option Addr) (cb:Nat) (C:Option Addr) (cc:Nat) (pl:List Sli) (P:Option Addr) (cp:Nat) (i h:Int) (w:World) (hc:zAk w c A B C) (hs:Small c) (hp:zBP w P pl) (hl:pl.length≤12) (hrl:∀ s∈pl,s.xs.length≤20) :
  Gv Tryz.prog 23 [zAI c A ca B cb C cc,.slice P pl.length cp,.int .i64 i,.int .i64 h] w (.tuple #[vSp (zEq c pl i h).1,.int .i64 (zEq c pl i h).2]):=by
 have hl4:=hs.b;have hl5:=hs.h
 have h1:=fun W (hb:Below w.heap.size w W)=>zEW c A ca B cb C cc pl P cp W (hc.below hb) hs (hp.below hb) hl hrl
 have h2:=fun W (hb:Below w.heap.size w W)=>zEV c A ca B cb C cc pl P cp W (hc.below hb) hs (hp.below hb) hl hrl
 unfold zAI at h1 h2
 unfold Gv zAI zEq
 by_cases h0:zCK c pl=0
 ·rw [if_pos h0]
  obtain ⟨h00,hpl⟩:=zEc h0
  have hf:=zBi h00
  have h2:=fun W hb=>h2 W hb h00 hpl
  by_cases hin:inB 0 ((c.beds.length:Int) - 1) i=true∧inB 0 (c.hours.length:Int) h=true
  ·rw [if_pos hin]
   obtain ⟨I,rfl,hI⟩:=zNK hin.1
   obtain ⟨J,rfl,hJ⟩:∃ J:Nat,h=(J:Int)∧J≤c.hours.length:=by have:=zAL.1 hin.2;exact ⟨h.toNat,by omega,by omega⟩
   obtain ⟨hi1,hi2⟩:=hin
   obtain ⟨z,hz⟩:∃ z,c.beds[I]?=some z:=⟨_,List.getElem?_eq_getElem hI⟩
   simp only [Int.toNat_natCast]
   rw [zAh hz]
   have hseq:=fun g1 g2 g3 r=>days_seq c A ca B cb C cc pl P cp I g1 g2 g3 r z w hc hs hf hp hrl (zBN.1 hpl).1 hz
   unfold vSp
   unfold zJ at h2 ⊢
   (refine zL (n:=54) Tryz.func23 rfl rfl rfl ?_)
   (repeat' (first|((with_reducible refine zG ?_);first|refine zE rfl rfl rfl rfl rfl ?_|refine zC rfl rfl rfl rfl rfl ?_|(refine zK rfl rfl rfl rfl rfl ?_;refine ⟨_,rfl,?_⟩)|refine za rfl rfl rfl rfl rfl ?_|refine zz rfl rfl rfl rfl rfl rfl ?_|(refine zU rfl rfl rfl rfl rfl rfl rfl (fun h=>?_) (fun h=>?_)<;>(dsimp only [cmpP] at h;(try (exfalso;omega))))|(refine zAN rfl rfl rfl rfl rfl rfl (fun _ _ q=>h2 _ q.below) ?_;rintro g -;dsimp only [List.cons_append,List.nil_append])|(refine zX rfl rfl rfl rfl rfl rfl (fun _ _ q=>hi1 ▸ iin1 _ _ _ _ _ _ (zAt (enc:=encI) (by exact rfl) _ q.below q.own)) ?_)|(refine zX rfl rfl rfl rfl rfl rfl (fun _ _ q=>hi2 ▸ iin1 _ _ _ _ _ _ (zAt (enc:=encI) (by exact rfl) _ q.below q.own)) ?_)|(refine zAN rfl rfl rfl rfl rfl rfl (fun _ _ q=>zKX _ I pl P cp _) ?_;rintro ⟨g1,g2,g3⟩ -;dsimp only [List.cons_append,List.nil_append])|refine zd rfl rfl rfl rfl rfl rfl ?_|refine zAH rfl rfl rfl rfl rfl ?_|refine zCY rfl rfl rfl rfl rfl rfl (IntWalk.i64_in _ (by omega)) ?_|refine zp rfl rfl rfl rfl rfl ?_|(refine zm rfl rfl rfl rfl (fun b=>?_))|(refine zt rfl rfl rfl rfl rfl rfl (fun b=>?_))|(refine zAD rfl rfl rfl rfl rfl ?_;refine ⟨rfl,_,rfl,fun b=>?_⟩))|(with_reducible first|refine zH ?_|refine zB ?_|refine zD ?_|refine zA ?_|refine zS ?_|refine zQ ?_)|((with_reducible refine zF ?_ ?_);(· exact rfl))))
   rename_i b4 b7 b8 ba1 ba2
   refine u_dfr0 ?_
   refine zN2 (ι:=Sp) (α:=Nat × Sp) (gf:=104) (lb:=[.pointer (some ⟨g1,0,none⟩),.pointer (some ⟨g2,0,none⟩),.pointer (some ⟨g3,0,none⟩)]) (bs:=[]) (zCb c A ca B cb C cc pl P cp g1 g2 g3 g (I:Int)) zFX (zH8 c pl z I) (J+1) (fun k s=>k=J+1→s=thickN c pl z I J) (fun s=>[.blk b (zBD s),.blk b8 [.int .i64 0,.int .i64 0],.blk b7 [.int .i64 (J:Int)],.blk b4 (zJ c A ca B cb C cc)]) (fun k=>!decide (k=J)) (.exit 0) ⟨0,0⟩ rfl (by unfold zCb zJ;simp only [List.cons_append,List.nil_append];(repeat (first|exact oK1 _|(refine oK2 (by (repeat (first|exact tK1 _ _|apply tK2))) ?_)))) (fun h=>by omega) (by rw [zEf];omega) (fun k hk=>by simp;omega) (.inr ⟨by omega,by simp⟩) (fun x=>rfl) (by decide) (.inr ⟨0,rfl⟩) (hseq g1 g2 g3 g) ?_ ?_ ?_
   ·rintro l k x s ⟨⟩ W hk hx hI hr hrp hW
    simp only at hr hrp
    subst hr hrp
    rw [zG8 (by omega)] at hx
    cases hx
    simp only [zFX,parR,zCb,zJ,vSp,List.cons_append,List.nil_append]
    by_cases hkJ:k=J
    ·subst hkJ
     simp only [decide_true,Bool.not_true,Bool.false_eq_true,if_false]
     (repeat' (first|((with_reducible refine zG ?_);first|refine zC rfl rfl rfl rfl rfl ?_|(refine ze rfl rfl rfl rfl rfl ?_;refine And.intro rfl (And.intro (by first|decide|exact Nat.le_of_ble_eq_true rfl|(simp;omega)) ⟨_,rfl,?_⟩))|(refine zm rfl rfl rfl rfl (fun b=>?_)))|(with_reducible first|refine zH ?_|refine zB ?_|refine zD ?_|refine zA ?_)))
     refine zK0 (by (repeat (first|exact tK1 _ _|apply tK2))) rfl ?_
     (repeat' (first|((with_reducible refine zG ?_);first|refine zE rfl rfl rfl rfl rfl ?_|(refine zK rfl rfl rfl rfl rfl ?_;refine ⟨_,rfl,?_⟩)|(refine zU rfl rfl rfl rfl rfl rfl rfl (fun h=>?_) (fun h=>?_)<;>(dsimp only [cmpP] at h;(try (exfalso;omega))))|(refine ze rfl rfl rfl rfl rfl ?_;refine And.intro rfl (And.intro (by first|decide|exact Nat.le_of_ble_eq_true rfl|(simp;omega)) ⟨_,rfl,?_⟩)))|(with_reducible first|refine zH ?_|refine zB ?_|refine zD ?_|refine zA ?_|refine zQ ?_|refine zj ?_)|((with_reducible refine zr ?_ ?_);(· exact rfl))|((with_reducible refine zI ?_ ?_);(· exact rfl))))
     exact zFE (some (.exit 0)) (.inr (.inr ⟨0,rfl,rfl⟩)) rfl (by (repeat (first|exact tK1 _ _|apply tK2))) (thickN c pl z I k) (fun _=>rfl) hW (fun _ h=>h.sub (by (repeat (first|exact oK1 _|(refine oK2 (by (repeat (first|exact tK1 _ _|apply tK2))) ?_)))))
    ·simp only [hkJ,decide_false,Bool.not_false,if_true]
     (repeat' (first|((with_reducible refine zG ?_);first|refine zC rfl rfl rfl rfl rfl ?_|(refine ze rfl rfl rfl rfl rfl ?_;refine And.intro rfl (And.intro (by first|decide|exact Nat.le_of_ble_eq_true rfl|(simp;omega)) ⟨_,rfl,?_⟩))|(refine zm rfl rfl rfl rfl (fun b=>?_)))|(with_reducible first|refine zH ?_|refine zB ?_|refine zD ?_|refine zA ?_)))
     refine zK0 (by (repeat (first|exact tK1 _ _|apply tK2))) rfl ?_
     (repeat' (first|((with_reducible refine zG ?_);first|refine zE rfl rfl rfl rfl rfl ?_|(refine zK rfl rfl rfl rfl rfl ?_;refine ⟨_,rfl,?_⟩)|(refine zU rfl rfl rfl rfl rfl rfl rfl (fun h=>?_) (fun h=>?_)<;>(dsimp only [cmpP] at h;(try (exfalso;omega)))))|(with_reducible first|refine zH ?_|refine zB ?_|refine zD ?_|refine zA ?_|refine zS ?_|refine zQ ?_|refine zh ?_)|((with_reducible refine zF ?_ ?_);(· exact rfl))))
     exact zFE none (.inl ⟨rfl,rfl⟩) rfl (by (repeat (first|exact tK1 _ _|apply tK2))) s (fun h=>by omega) hW (fun _ h=>h.sub (by (repeat (first|exact oK1 _|(refine oK2 (by (repeat (first|exact tK1 _ _|apply tK2))) ?_)))))
   ·intro h9;simp at h9
   ·intro _ _ bd s hI
    have:=hI rfl
    subst this
    simp only [zCb,zJ,List.cons_append,List.nil_append]
    (repeat' (first|((with_reducible refine zG ?_);first|refine zC rfl rfl rfl rfl rfl ?_|(refine zK rfl rfl rfl rfl rfl ?_;refine ⟨_,rfl,?_⟩)|(refine ze rfl rfl rfl rfl rfl ?_;refine And.intro rfl (And.intro (by first|decide|exact Nat.le_of_ble_eq_true rfl|(simp;omega)) ⟨_,rfl,?_⟩)))|(with_reducible first|refine zH ?_|refine zB ?_|refine zD ?_|refine zA ?_|refine zc ?_|refine zj ?_|refine zR ?_)))
    exact zN4 (by (repeat (first|exact tK1 _ _|apply tK2))) (by (exact zO.cons (by exact res1c rfl (by exact rfl)) (zO.cons (by exact zn.tmp rfl) zO.nil))) () trivial rfl (fun _ _=>Own.nil _ _)
  ·rw [if_neg hin]
   unfold vSp
   unfold zJ at h2 ⊢
   (refine zL (n:=54) Tryz.func23 rfl rfl rfl ?_)
   (repeat' (first|((with_reducible refine zG ?_);first|refine zE rfl rfl rfl rfl rfl ?_|refine zC rfl rfl rfl rfl rfl ?_|(refine zK rfl rfl rfl rfl rfl ?_;refine ⟨_,rfl,?_⟩)|refine za rfl rfl rfl rfl rfl ?_|refine zz rfl rfl rfl rfl rfl rfl ?_|refine zg rfl rfl rfl ?_|(refine zU rfl rfl rfl rfl rfl rfl rfl (fun h=>?_) (fun h=>?_)<;>(dsimp only [cmpP] at h;(try (exfalso;omega))))|(refine zAN rfl rfl rfl rfl rfl rfl (fun _ _ q=>h2 _ q.below) ?_;rintro g -;dsimp only [List.cons_append,List.nil_append])|(refine zAY rfl rfl rfl rfl rfl rfl (fun _ _ q=>iin1 _ _ _ _ _ _ (zAt (enc:=encI) (by exact rfl) _ q.below q.own)) (fun h=>?_) (fun h=>?_)<;>(try (exfalso;omega)))|refine zd rfl rfl rfl rfl rfl rfl ?_|refine zAH rfl rfl rfl rfl rfl ?_|refine zCY rfl rfl rfl rfl rfl rfl (IntWalk.i64_in _ (by omega)) ?_|refine zp rfl rfl rfl rfl rfl ?_|(refine ze rfl rfl rfl rfl rfl ?_;refine And.intro rfl (And.intro (by first|decide|exact Nat.le_of_ble_eq_true rfl|(simp;omega)) ⟨_,rfl,?_⟩))|(refine zm rfl rfl rfl rfl (fun b=>?_))|(refine zt rfl rfl rfl rfl rfl rfl (fun b=>?_))|(refine zA7 rfl rfl rfl rfl rfl ?_;refine ⟨_,rfl,?_⟩)|(refine zAD rfl rfl rfl rfl rfl ?_;refine ⟨rfl,_,rfl,fun b=>?_⟩))|(with_reducible first|refine zH ?_|refine zB ?_|refine zD ?_|refine zA ?_|refine zc ?_|refine zS ?_|refine zY ?_)|((with_reducible refine zI ?_ ?_);(· exact rfl))|((with_reducible refine zF ?_ ?_);(· exact rfl))))
   all_goals first|exact zV (by (exact zO.cons (by exact res1c rfl (by exact rfl)) (zO.cons (by exact zn.tmp rfl) zO.nil))) () trivial rfl (fun _ _=>Own.nil _ _)|(exfalso;exact hin ⟨by assumption,by assumption⟩)
 ·rw [if_neg h0]
  unfold vSp
  unfold zJ at h1 ⊢
  generalize zCK c pl=e at *
  (refine zL (n:=54) Tryz.func23 rfl rfl rfl ?_)
  (repeat' (first|((with_reducible refine zG ?_);first|refine zE rfl rfl rfl rfl rfl ?_|refine zC rfl rfl rfl rfl rfl ?_|(refine zK rfl rfl rfl rfl rfl ?_;refine ⟨_,rfl,?_⟩)|(refine zU rfl rfl rfl rfl rfl rfl rfl (fun h=>?_) (fun h=>?_)<;>(dsimp only [cmpP] at h;(try (exfalso;omega))))|refine zX rfl rfl rfl rfl rfl rfl (fun _ _ q=>h1 _ q.below h0) ?_|refine zd rfl rfl rfl rfl rfl rfl ?_|(refine ze rfl rfl rfl rfl rfl ?_;refine And.intro rfl (And.intro (by first|decide|exact Nat.le_of_ble_eq_true rfl|(simp;omega)) ⟨_,rfl,?_⟩))|(refine zm rfl rfl rfl rfl (fun b=>?_))|(refine zt rfl rfl rfl rfl rfl rfl (fun b=>?_))|(refine zA7 rfl rfl rfl rfl rfl ?_;refine ⟨_,rfl,?_⟩))|(with_reducible first|refine zH ?_|refine zB ?_|refine zD ?_|refine zA ?_|refine zc ?_|refine zY ?_)|((with_reducible refine zI ?_ ?_);(· exact rfl))))
  all_goals exact zV (by (exact zO.cons (by exact res1c rfl (by exact rfl)) (zO.cons (by exact zn.tmp rfl) zO.nil))) () trivial rfl (fun _ _=>Own.nil _ _)
end Go.Proofs.YtdigopgncfhiaaaGreatDoor
namespace Go.Proofs.YtdigopgncfhiaaaGreatDoor
open Go.Shelf
set_option maxRecDepth 20000
def zM4 : Ren where
 f:=fun x=>match x with | 6=>100 | 15=>132 | 14=>131 | 28=>153 | 29=>154 | 20=>145 | 21=>146 | 22=>147 | 23=>148 | 24=>149 | 25=>150 | 26=>151 | 27=>152 | 46=>157 | 47=>158 | 48=>159 | 49=>160 | 50=>161 | 57=>162|n=>n
 t:=fun x=>match x with | 22=>36 | 24=>75 | 25=>162 | 3=>3 | 39=>126 | 0=>0 | 53=>80 | 55=>179 | 4=>4 | 46=>222 | 45=>221 | 50=>169 | 5=>5 | 9=>9 | 66=>229 | 70=>233 | 76=>235 | 77=>236|n=>n
 g:=fun n=>n
theorem sortPr : SlLaysF0.n6 Tryz.prog zM4 where
 mixed:=by kernel_rfl
 f6:=⟨Tryz.f100.name,by decide,Tryz.func100.trans (congrArg some (by kernel_rfl))⟩
 f14:=⟨Tryz.f131.name,by decide,Tryz.func131.trans (congrArg some (by kernel_rfl))⟩
 f15:=Tryz.func132.trans (congrArg some (by kernel_rfl))
 f20:=⟨Tryz.f145.name,by decide,Tryz.func145.trans (congrArg some (by kernel_rfl))⟩
 f21:=⟨Tryz.f146.name,by decide,Tryz.func146.trans (congrArg some (by kernel_rfl))⟩
 f22:=⟨Tryz.f147.name,by decide,Tryz.func147.trans (congrArg some (by kernel_rfl))⟩
 f23:=⟨Tryz.f148.name,by decide,Tryz.func148.trans (congrArg some (by kernel_rfl))⟩
 f24:=⟨Tryz.f149.name,by decide,Tryz.func149.trans (congrArg some (by kernel_rfl))⟩
 f25:=⟨Tryz.f150.name,by decide,Tryz.func150.trans (congrArg some (by kernel_rfl))⟩
 f26:=⟨Tryz.f151.name,by decide,Tryz.func151.trans (congrArg some (by kernel_rfl))⟩
 f27:=⟨Tryz.f152.name,by decide,Tryz.func152.trans (congrArg some (by kernel_rfl))⟩
 f28:=Tryz.func153.trans (congrArg some (by kernel_rfl))
 f29:=Tryz.func154.trans (congrArg some (by kernel_rfl))
 f46:=⟨Tryz.f157.name,by decide,Tryz.func157.trans (congrArg some (by kernel_rfl))⟩
 f47:=Tryz.func158.trans (congrArg some (by kernel_rfl))
 f48:=Tryz.func159.trans (congrArg some (by kernel_rfl))
 f49:=⟨Tryz.f160.name,by decide,Tryz.func160.trans (congrArg some (by kernel_rfl))⟩
 f50:=⟨Tryz.f161.name,by decide,Tryz.func161.trans (congrArg some (by kernel_rfl))⟩
 f57:=⟨Tryz.f162.name,by decide,Tryz.func162.trans (congrArg some (by kernel_rfl))⟩
 t0:=Tryz.underlying0
 a0:=Tryz.isAgg0
 z0:=Tryz.sizeOf0
 v0:=Tryz.zeroValue0
 t3:=Tryz.underlying3
 a3:=Tryz.isAgg3
 z3:=Tryz.sizeOf3
 v3:=Tryz.zeroValue3
 t4:=Tryz.underlying4
 a4:=Tryz.isAgg4
 z4:=Tryz.sizeOf4
 v4:=Tryz.zeroValue4
 t5:=Tryz.underlying5
 a5:=Tryz.isAgg5
 z5:=Tryz.sizeOf5
 v5:=Tryz.zeroValue5
 t9:=Tryz.underlying9
 a9:=Tryz.isAgg9
 z9:=Tryz.sizeOf9
 v9:=Tryz.zeroValue9
 t22:=Tryz.underlying36
 a22:=Tryz.isAgg36
 z22:=Tryz.sizeOf36
 v22:=Tryz.zeroValue36
 t25:=Tryz.underlying162
 a25:=Tryz.isAgg162
 z25:=Tryz.sizeOf162
 v25:=Tryz.zeroValue162
 t39:=Tryz.underlying126
 a39:=Tryz.isAgg126
 z39:=Tryz.sizeOf126
 v39:=Tryz.zeroValue126
 t45:=Tryz.underlying221
 a45:=Tryz.isAgg221
 z45:=Tryz.sizeOf221
 v45:=Tryz.zeroValue221
 t46:=Tryz.underlying222
 a46:=Tryz.isAgg222
 z46:=Tryz.sizeOf222
 v46:=Tryz.zeroValue222
 t50:=Tryz.underlying169
 a50:=Tryz.isAgg169
 z50:=Tryz.sizeOf169
 v50:=Tryz.zeroValue169
 t53:=Tryz.underlying80
 a53:=Tryz.isAgg80
 z53:=Tryz.sizeOf80
 v53:=Tryz.zeroValue80
 t55:=Tryz.underlying179
 a55:=Tryz.isAgg179
 z55:=Tryz.sizeOf179
 v55:=Tryz.zeroValue179
 t66:=Tryz.underlying229
 a66:=Tryz.isAgg229
 z66:=Tryz.sizeOf229
 v66:=Tryz.zeroValue229
 t70:=Tryz.underlying233
 a70:=Tryz.isAgg233
 z70:=Tryz.sizeOf233
 v70:=Tryz.zeroValue233
 t76:=Tryz.underlying235
 a76:=Tryz.isAgg235
 z76:=Tryz.sizeOf235
 v76:=Tryz.zeroValue235
 t77:=Tryz.underlying236
 a77:=Tryz.isAgg236
 z77:=Tryz.sizeOf236
 v77:=Tryz.zeroValue236
def zNq : Ren where
 f:=fun x=>match x with | 5=>115 | 7=>138|n=>n
 t:=fun x=>match x with | 22=>3 | 3=>3 | 4=>4|n=>n
 g:=fun n=>n
theorem cmpInt : SlLaysC2.n5 Tryz.prog zNq where
 mixed:=by kernel_rfl
 f5:=⟨Tryz.f115.name,by decide,Tryz.func115.trans (congrArg some (by kernel_rfl))⟩
 f7:=⟨Tryz.f138.name,by decide,Tryz.func138.trans (congrArg some (by kernel_rfl))⟩
 t3:=Tryz.underlying3
 a3:=Tryz.isAgg3
 z3:=Tryz.sizeOf3
 v3:=Tryz.zeroValue3
 t4:=Tryz.underlying4
 a4:=Tryz.isAgg4
 z4:=Tryz.sizeOf4
 v4:=Tryz.zeroValue4
 t22:=Tryz.underlying3
 a22:=Tryz.isAgg3
 z22:=Tryz.sizeOf3
 v22:=Tryz.zeroValue3
end Go.Proofs.YtdigopgncfhiaaaGreatDoor
