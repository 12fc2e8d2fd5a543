/- C12 -/
import Derived.Test.YtdigopgncfhiaaaGreatDoorC11
import Derived.Test.YtdigopgncfhiaaaGreatDoorC6
import Derived.Shelf.SlSortCmp.NoneTotal
import Derived.Shelf.SlicesG.Cmp
set_option linter.unusedSimpArgs false
set_option linter.unusedVariables false
namespace Go.Proofs.YtdigopgncfhiaaaGreatDoor
open Go.RowKit
set_option maxRecDepth 20000
def zJU (c:Cov) (pl:List Sli) (z:Bed) (i:Int):List (Nat × Sp):=(List.range (c.hours.length+1)).map fun h=>(h,thickN c pl z i h)
def zGf (x:Nat × Sp):List Value:=[.int .i64 (x.1:Int),vSp x.2]
theorem zFo {c:Cov} {pl:List Sli} {z:Bed} {i:Int}:(zJU c pl z i).length=c.hours.length+1:=by simp [zJU]
theorem zIK {c:Cov} {pl:List Sli} {z:Bed} {i:Int} {k:Nat} (h:k≤c.hours.length):(zJU c pl z i)[k]?=some (k,thickN c pl z i k):=by
 simp only [zJU,List.getElem?_map,List.getElem?_range (show k<c.hours.length+1 by omega),Option.map_some]
def zDA (c:Cov) (A:Option Addr) (ca:Nat) (B:Option Addr) (cb:Nat) (C:Option Addr) (cc:Nat) (pl:List Sli) (P:Option Addr) (cp g1 g2 g3 r:Nat) (i:Int):List Ent :=
 [.blk g1 [.pointer (some ⟨r,0,none⟩)],.blk g2 [.int .i64 i],.blk g3 [.slice P pl.length cp],.blk r (zH c A ca B cb C cc)]
set_option maxHeartbeats 4000000 in
theorem days_seq (c:Cov) (A:Option Addr) (ca:Nat) (B:Option Addr) (cb:Nat) (C:Option Addr) (cc:Nat) (pl:List Sli) (P:Option Addr) (cp i g1 g2 g3 r:Nat) (z:Bed) (wb:World) (h:zAU wb c A B C) (hs:Small c) (hf:zBl c) (hp:zAu wb P pl) (hrl:∀ s∈pl,s.xs.length≤20) (hpl:pl.length=c.hours.length) (hz:c.beds[i]?=some z) :
  Seq Tryz.prog 104 [.pointer (some ⟨g1,0,none⟩),.pointer (some ⟨g2,0,none⟩),.pointer (some ⟨g3,0,none⟩)] (zDA c A ca B cb C cc pl P cp g1 g2 g3 r (i:Int)) zGf (zJU c pl z i) wb:=by
 intro ι l m I Cx go s0 w hwb hI0 hO hm hgo hend hround
 have h4:=hs.b;have h5:=hs.h
 have hb:=h.b;have hpp:=hp.p;have hh:=h.h
 have hzm:=List.mem_of_getElem? hz
 have hi:=(List.getElem?_eq_some_iff.1 hz).1
 have hlay:=hf.layer
 simp only [zAF] at hlay
 have hL:=fun W (hW:Below wb.heap.size wb W) j u (hu:c.hours[j]?=some u) (hr:InC W r 0 (zH c A ca B cb C cc))=>zFc c A ca B cb C cc r i j z u W hr (h.below hW) hs hf hz hu
 obtain ⟨bb,o,rfl,hblt,hc⟩:=hb.at_ hi
 have:InS wb bb o zAJ 3 c.beds:=⟨hb⟩
 have:zAR c.beds i z:=⟨hz⟩
 have hh1:=hf.hours
 rw [zAA] at hh1
 obtain ⟨b2,o2,rfl,hblt2,hc2⟩:=hpp.at_ (show 0<pl.length by omega)
 have:InS wb b2 o2 zAC 1 pl:=⟨hpp⟩
 unfold vSp at hL
 rw [zFo] at hm hend
 have hround:=fun k s W (hk:k<m)=>hround k (k,thickN c pl z i k) s W hk (zIK (by omega))
 unfold zDA zGf vSp at *
 unfold zH at *
 refine zKJ (n:=83) hwb hO Tryz.func104 rfl rfl rfl ?_
 refine zB5 (fun _ h=>zBn.1 h) ?_
 simp only [List.cons_append,List.nil_append]
 (repeat' (first|(with_reducible first|refine zI ?_)))
 (refine Two.zAd [] [] [] rfl (show ([]:List Nat).Nodup by decide) (fun _ h=>h) (by kernel_rfl) [[],[Z],[Z,Z],[Z,Z,Z],[Z,Z,Z,Z],[Y,Y,Y,Y,Y],[Z,Z,Z,Z,Z,Z],[Z,Z,Z,Z,Z,Z,Z],[Z,Z,Z,Z,Z,Z,Z,Z],[Y,Y,Y,Y,Y,Y,Y,Y,Y],[Z,Z,Z,Z,Z,Z,Z,Z,Z,Z]] (by kernel_rfl) (by kernel_rfl) (by kernel_rfl) (by kernel_rfl) (by kernel_rfl) ?_)
 (repeat' (first|(((with_reducible refine Two.zCJ ?_ ?_);(· exact rfl);refine ⟨_,fun G=>(by (try simp (decide:=true) only [Two.vis,Two.see,fltT,zAD,Nat.reduceAdd,Nat.reduceSub,if_true,if_false,List.set_cons_zero,List.set_cons_succ,List.set_nil,List.nil_append,List.cons_append]);rfl),?_⟩);first|refine Two.zX _ (fun _=>zy rfl rfl (by exact rfl)) (fun _=>rfl) rfl (by first|exact fun _ _ _=>rfl|(intro G G' h;simp (decide:=true) only [h])) ?_|(refine Two.zAb rfl ?_;refine Two.zX _ (fun _=>zAO rfl rfl) (fun _=>rfl) rfl (by first|exact fun _ _ _=>rfl|(intro G G' h;simp (decide:=true) only [h])) ?_)|refine Two.zX _ (fun _=>zAS (I:=i) rfl rfl rfl rfl (by omega)) (fun _=>rfl) rfl (by exact fun _ _ _=>rfl) ?_|refine Two.zX _ (fun _=>zAi rfl rfl) (fun _=>rfl) rfl (by first|exact fun _ _ _=>rfl|(intro G G' h;simp (decide:=true) only [h])) ?_|refine Two.zGC rfl (fun _=>rfl) rfl ?_)|((with_reducible refine Two.zBa ?_ ?_);(· exact rfl))))
 (intro G;simp only [regsT,zAD,Two.zBU,Two.ini,List.nil_append,List.cons_append])
 (repeat' (first|((with_reducible refine zG ?_);first|refine zE rfl rfl rfl rfl rfl ?_|(refine zK rfl rfl rfl rfl rfl ?_;refine ⟨_,rfl,?_⟩)|refine ze rfl rfl rfl rfl rfl ?_|refine zr rfl rfl rfl rfl rfl ?_|(refine zf rfl rfl rfl rfl rfl ?_;refine And.intro rfl (And.intro (by first|decide|exact Nat.le_of_ble_eq_true rfl|(simp;omega)) ⟨_,rfl,?_⟩))|refine zBP rfl rfl rfl rfl rfl ?_)|(with_reducible first|refine zI ?_|refine zB ?_|refine zD ?_|refine zA ?_|refine zN ?_)))
 simp only [Nat.zero_add,Nat.reduceAdd]
 generalize (G 9).g=bt
 have hm0:0<m:=by omega
 refine zu (ι:=Nat × ι) [0,1,2,3,5,22] rfl (fun q=>q.1≤c.hours.length∧q.1<m∧I q.1 q.2) (fun q=>[(23,.int .i64 (q.1:Int))]) (fun q=>.blk bt (zBZ (thickN c pl z i q.1))::(zDA c A ca (some ⟨bb,o,none⟩) cb C cc pl (some ⟨b2,o2,none⟩) cp g1 g2 g3 r (i:Int)++[.all (Cx q.2),.oldx w wb.heap.size (feet (zDA c A ca (some ⟨bb,o,none⟩) cb C cc pl (some ⟨b2,o2,none⟩) cp g1 g2 g3 r (i:Int)++Cx s0))])) (fun q=>c.hours.length - q.1) (0,s0) ⟨Nat.zero_le _,hm0,hI0⟩ (by (first|exact lK1|(repeat (first|exact lK1|(refine zL rfl ?_))))) (by (repeat (first|exact oK1 _|(refine oK2 (by (repeat (first|exact tK1 _ _|apply tK2))) ?_)))) ?_
 rintro ⟨k,s⟩ ⟨hk,hkm,hIk⟩
 simp only at hk hkm hIk
 have hY:=fun W=>hround k s W hkm hIk
 clear hround
 simp only [zAq,zDA,zH,List.cons_append,List.nil_append]
 by_cases hlt:k<c.hours.length
 ·obtain ⟨u,hu⟩:∃ u,c.hours[k]?=some u:=⟨_,List.getElem?_eq_getElem (by omega)⟩
  obtain ⟨sl,hsk⟩:∃ s,pl[k]?=some s:=⟨_,List.getElem?_eq_getElem (by omega)⟩
  have hsm:=List.mem_of_getElem? hsk
  have hrow:=hp.rows sl hsm
  have hsl:=hrl sl hsm
  have hin:=zGN (pl:=pl) (i:=i) hf hzm k (by omega)
  have hlin:=zFX hf hzm (List.mem_of_getElem? hu)
  have e1:thickN c pl z i (k+1)=layered c (sl.xs.contains (i:Int)) (thinned (thickN c pl z i k) (zBF c z u)):=by simp only [thickN,zAW hu,zAW hsk]
  generalize thickN c pl z i k=t at *
  have hL:=fun W hW=>hL W hW k u hu
  generalize zBF c z u=lo at *
  obtain ⟨sA,xs,sc⟩:=sl
  simp only at hrow hsl e1
  have hH:=fun W (hW:Below wb.heap.size wb W)=>zIL xs (i:Int) sA sc W (hrow.below hW) (by omega)
  have:zAR pl k ⟨sA,xs,sc⟩:=⟨hsk⟩
  generalize xs.contains (i:Int)=on at *
  cases hgk:go k
  ·simp only [hgk] at hY
   unfold zBZ
   (repeat' (first|((with_reducible refine zG ?_);first|refine zE rfl rfl rfl rfl rfl ?_|refine zC rfl rfl rfl rfl rfl ?_|(refine zK rfl rfl rfl rfl rfl ?_;refine ⟨_,rfl,?_⟩)|(refine zQ rfl rfl rfl rfl rfl rfl rfl (fun h=>?_) (fun h=>?_)<;>(dsimp only [cmpP] at h;(try (exfalso;omega))))|(refine zGo (D:=zDA c A ca (some ⟨bb,o,none⟩) cb C cc pl (some ⟨b2,o2,none⟩) cp g1 g2 g3 r (i:Int)) (L:=Cx s) (C:=Cx) (p:=I (k+1)) (go:=false) rfl rfl rfl rfl rfl rfl [.blk bt (zBZ t),.oldx w wb.heap.size (feet (zDA c A ca (some ⟨bb,o,none⟩) cb C cc pl (some ⟨b2,o2,none⟩) cp g1 g2 g3 r (i:Int)++Cx s0))] (by (repeat (first|exact oK1 _|(refine oK2 (by (repeat (first|exact tK1 _ _|apply tK2))) ?_)))) (fun _ W q=>hY W q.below (Own.append.1 (zBn.2 q.own)).1) ?_;rintro s' hs';simp only [zDA,zH,List.cons_append,List.nil_append])|refine zAh rfl rfl rfl rfl rfl ?_)|(with_reducible first|refine zI ?_|refine zB ?_|refine zD ?_|refine zA ?_|refine zb ?_|refine zP ?_|refine zd ?_|refine zN ?_|refine zA3 ?_)|((with_reducible refine zJ ?_ ?_);(· exact rfl))))
   have hmk:m=k+1:=by
    rcases Nat.lt_or_ge (k+1) m with h9|h9
    ·have:=hgo k h9;rw [hgk] at this;cases this
    ·omega
   exact zJf (vs:=[]) zO.nil s' (hmk ▸ hs') rfl hwb (fun W9 h=>zBn.2 (show Own wb.heap.size W9 (zDA c A ca (some ⟨bb,o,none⟩) cb C cc pl (some ⟨b2,o2,none⟩) cp g1 g2 g3 r (i:Int) ++ .all (Cx s')::[.oldx w wb.heap.size (feet (zDA c A ca (some ⟨bb,o,none⟩) cb C cc pl (some ⟨b2,o2,none⟩) cp g1 g2 g3 r (i:Int)++Cx s0))]) from h.sub (by (repeat (first|exact oK1 _|(refine oK2 (by (repeat (first|exact tK1 _ _|apply tK2))) ?_))))))
  ·simp only [hgk] at hY
   have hmk:k+1<m:=by
    rcases hend with h9 | ⟨h9,h10⟩
    ·omega
    ·rcases Nat.lt_or_ge (k+1) m with h11|h11
     ·exact h11
     ·have:m - 1=k:=by omega
      rw [this,hgk] at h10;cases h10
   unfold zBZ
   (repeat' (first|((with_reducible refine zG ?_);first|refine zE rfl rfl rfl rfl rfl ?_|refine zC rfl rfl rfl rfl rfl ?_|(refine zK rfl rfl rfl rfl rfl ?_;refine ⟨_,rfl,?_⟩)|refine ze rfl rfl rfl rfl rfl ?_|(refine zQ rfl rfl rfl rfl rfl rfl rfl (fun h=>?_) (fun h=>?_)<;>(dsimp only [cmpP] at h;(try (exfalso;omega))))|(refine zGo (D:=zDA c A ca (some ⟨bb,o,none⟩) cb C cc pl (some ⟨b2,o2,none⟩) cp g1 g2 g3 r (i:Int)) (L:=Cx s) (C:=Cx) (p:=I (k+1)) (go:=true) rfl rfl rfl rfl rfl rfl [.blk bt (zBZ t),.oldx w wb.heap.size (feet (zDA c A ca (some ⟨bb,o,none⟩) cb C cc pl (some ⟨b2,o2,none⟩) cp g1 g2 g3 r (i:Int)++Cx s0))] (by (repeat (first|exact oK1 _|(refine oK2 (by (repeat (first|exact tK1 _ _|apply tK2))) ?_)))) (fun _ W q=>hY W q.below (Own.append.1 (zBn.2 q.own)).1) ?_;rintro s' hs';simp only [zDA,zH,List.cons_append,List.nil_append];unfold zBZ)|refine zS rfl rfl rfl rfl rfl rfl (fun _ _ q=>hL _ q.below (zBi q.own (Below.refl _ _) rfl)) ?_|refine zAh rfl rfl rfl rfl rfl ?_|refine zCn rfl rfl rfl rfl rfl rfl (IntWalk.i64_in _ (by omega)) ?_|(refine zf rfl rfl rfl rfl rfl ?_;refine And.intro rfl (And.intro (by first|decide|exact Nat.le_of_ble_eq_true rfl|(simp;omega)) ⟨_,rfl,?_⟩))|(refine zo rfl rfl rfl rfl (fun b=>?_))|(refine zBA rfl rfl rfl rfl rfl ?_;refine ⟨_,rfl,?_⟩)|refine zJz rfl rfl rfl rfl rfl rfl ?_)|(with_reducible first|refine zI ?_|refine zB ?_|refine zD ?_|refine zA ?_|refine zP ?_|refine zN ?_)|((with_reducible refine zJ ?_ ?_);(· exact rfl))|((with_reducible refine zF ?_ ?_);(· exact rfl))))
   (refine zAv (by kernel_rfl) (by kernel_rfl) (by kernel_rfl) ?_)
   (repeat' (first|((with_reducible refine zBH ?_);first|refine zW (zAK rfl rfl) rfl rfl rfl ?_|refine zW (zy rfl rfl (by exact rfl)) rfl rfl rfl ?_|refine zW (zAS (I:=k) rfl rfl rfl (by omega) (by first|omega|(dsimp only;omega))) rfl rfl rfl ?_|(refine zH1 rfl rfl rfl rfl rfl rfl (fun _ _ q=>hH _ q.below) (fun h=>?_) (fun h=>?_)))|(with_reducible refine zBs ?_)))
   ·(repeat' (first|(with_reducible first|refine zA ?_)|((with_reducible refine zJ ?_ ?_);(· exact rfl))))
    (refine Two.zAd [] [] [] rfl (show ([]:List Nat).Nodup by decide) (fun _ h=>h) (by kernel_rfl) [[],[Z],[Y,Y],[Z,Y,Y],[Z,Z,Y,Y],[Z,Z,Z,Y,Y],[Z,Z,Z,Z,Y,Y],[Z,Z,Z,Z,Z,Y,Y],[Z,Z,Z,Z,Z,Z,Z,Z],[Y,Y,Y,Y,Y,Y,Y,Y,Y],[Z,Y,Y,Y,Y,Y,Y,Y,Y,Y],[Y,Y,Y,Y,Y,Y,Y,Y,Y,Y,Y],[Z,Y,Y,Y,Y,Y,Y,Y,Y,Y,Y,Y],[Z,Z,Y,Y,Y,Y,Y,Y,Y,Y,Y,Y,Y],[Z,Z,Z,Y,Y,Y,Y,Y,Y,Y,Y,Y,Y,Y],[Z,Z,Z,Z,Y,Y,Y,Y,Y,Y,Y,Y,Y,Y,Y],[Z,Z,Z,Z,Z,Y,Y,Y,Y,Y,Y,Y,Y,Y,Y,Y],[Z,Z,Z,Z,Z,Z,Z,Z,Y,Y,Y,Y,Y,Y,Y,Y,Y],[Z,Z,Z,Z,Z,Z,Z,Z,Z,Z,Z,Z,Z,Z,Z,Z,Z,Z],[Z,Z,Z,Z,Z,Z,Z,Z,Z,Z,Z,Z,Z,Z,Z,Z,Z,Z,Z]] (by kernel_rfl) (by kernel_rfl) (by kernel_rfl) (by kernel_rfl) (by kernel_rfl) ?_)
    (repeat' (first|(((with_reducible refine Two.zCJ ?_ ?_);(· exact rfl);refine ⟨_,fun G=>(by (try simp (decide:=true) only [Two.vis,Two.see,fltT,zAD,Nat.reduceAdd,Nat.reduceSub,if_true,if_false,List.set_cons_zero,List.set_cons_succ,List.set_nil,List.nil_append,List.cons_append]);rfl),?_⟩);first|refine Two.zX _ (fun _=>zy rfl rfl (by exact rfl)) (fun _=>rfl) rfl (by first|exact fun _ _ _=>rfl|(intro G G' h;simp (decide:=true) only [h])) ?_|(refine Two.zAb rfl ?_;refine Two.zX _ (fun _=>zAO rfl rfl) (fun _=>rfl) rfl (by first|exact fun _ _ _=>rfl|(intro G G' h;simp (decide:=true) only [h])) ?_)|refine Two.zX _ (fun _=>zDg rfl rfl rfl (IntWalk.i64_in _ (by omega))) (fun _=>rfl) rfl (by first|exact fun _ _ _=>rfl|(intro G G' h;simp (decide:=true) only [h])) ?_|refine Two.zX _ (fun _=>zAi rfl rfl) (fun _=>rfl) rfl (by first|exact fun _ _ _=>rfl|(intro G G' h;simp (decide:=true) only [h])) ?_|refine Two.zX _ (fun _=>zEE rfl rfl (by exact rfl)) (fun _=>rfl) rfl (by first|exact fun _ _ _=>rfl|(intro G G' h;simp (decide:=true) only [h])) ?_)|((with_reducible refine Two.zBa ?_ ?_);(· exact rfl))))
    (intro G;simp only [regsT,zAD,Two.zBU,Two.ini,List.nil_append,List.cons_append])
    (repeat' (first|((with_reducible refine zG ?_);first|refine zE rfl rfl rfl rfl rfl ?_|refine zj rfl rfl rfl rfl rfl rfl (by omega) ?_|(refine zf rfl rfl rfl rfl rfl ?_;refine And.intro rfl (And.intro (by first|decide|exact Nat.le_of_ble_eq_true rfl|(simp;omega)) ⟨_,rfl,?_⟩)))|(with_reducible first|refine zB ?_|refine zD ?_|refine zA ?_|refine zk ?_)))
    exact zc (k+1,s') ⟨by omega,hmk,hs'⟩ (by simp only;omega) (by (first|exact lK1|(repeat (first|exact lK1|(refine zL rfl ?_))))) (by
     dsimp only
     rw [e1]
     subst h
     simp only [layered,thinned,if_true,if_false,Bool.false_eq_true]
     (repeat (first|exact oK1 _|(refine oK2 (by (repeat (first|exact tK1 _ _|apply tK2))) ?_))))
   ·(repeat' (first|((with_reducible refine zG ?_);first|refine zE rfl rfl rfl rfl rfl ?_|refine zj rfl rfl rfl rfl rfl rfl (by omega) ?_)|(with_reducible first|refine zB ?_|refine zD ?_|refine zA ?_|refine zP ?_|refine zk ?_)|((with_reducible refine zF ?_ ?_);(· exact rfl))))
    exact zc (k+1,s') ⟨by omega,hmk,hs'⟩ (by simp only;omega) (by (first|exact lK1|(repeat (first|exact lK1|(refine zL rfl ?_))))) (by
     dsimp only
     rw [e1]
     subst h
     simp only [layered,thinned,if_true,if_false,Bool.false_eq_true]
     (repeat (first|exact oK1 _|(refine oK2 (by (repeat (first|exact tK1 _ _|apply tK2))) ?_))))
 ·obtain rfl:k=c.hours.length:=by omega
  (repeat' (first|((with_reducible refine zG ?_);first|(refine zQ rfl rfl rfl rfl rfl rfl rfl (fun h=>?_) (fun h=>?_)<;>(dsimp only [cmpP] at h;(try (exfalso;omega)))))|(with_reducible first|refine zI ?_|refine zB ?_|refine zD ?_|refine zA ?_|refine zn ?_|refine zR ?_|refine zY ?_)|((with_reducible refine zF ?_ ?_);(· exact rfl))))
  (refine Two.zAd [] [] [] rfl (show ([]:List Nat).Nodup by decide) (fun _ h=>h) (by kernel_rfl) [[],[Y],[Z,Y],[Z,Z,Y],[Z,Z,Z,Y],[Z,Z,Z,Z,Y],[Z,Z,Z,Z,Z,Y],[Y,Y,Y,Y,Y,Y,Y],[Z,Z,Z,Z,Z,Z,Z,Z]] (by kernel_rfl) (by kernel_rfl) (by kernel_rfl) (by kernel_rfl) (by kernel_rfl) ?_)
  (repeat' (first|(((with_reducible refine Two.zCJ ?_ ?_);(· exact rfl);refine ⟨_,fun G=>(by (try simp (decide:=true) only [Two.vis,Two.see,fltT,zAD,Nat.reduceAdd,Nat.reduceSub,if_true,if_false,List.set_cons_zero,List.set_cons_succ,List.set_nil,List.nil_append,List.cons_append]);rfl),?_⟩);first|refine Two.zX _ (fun _=>zAK rfl rfl) (fun _=>rfl) rfl (by first|exact fun _ _ _=>rfl|(intro G G' h;simp (decide:=true) only [h])) ?_|refine Two.zX _ (fun _=>zy rfl rfl (by exact rfl)) (fun _=>rfl) rfl (by first|exact fun _ _ _=>rfl|(intro G G' h;simp (decide:=true) only [h])) ?_|(refine Two.zAb rfl ?_;refine Two.zX _ (fun _=>zAO rfl rfl) (fun _=>rfl) rfl (by first|exact fun _ _ _=>rfl|(intro G G' h;simp (decide:=true) only [h])) ?_)|refine Two.zX _ (fun _=>zDT rfl rfl) (fun _=>rfl) rfl (by first|exact fun _ _ _=>rfl|(intro G G' h;simp (decide:=true) only [h])) ?_|refine Two.zX _ (fun _=>zAi rfl rfl) (fun _=>rfl) rfl (by first|exact fun _ _ _=>rfl|(intro G G' h;simp (decide:=true) only [h])) ?_)|((with_reducible refine Two.zBa ?_ ?_);(· exact rfl))))
  (intro G;simp only [regsT,zAD,Two.zBU,Two.ini,List.nil_append,List.cons_append])
  unfold zBZ
  (repeat' (first|((with_reducible refine zG ?_);first|(refine zGo (D:=zDA c A ca (some ⟨bb,o,none⟩) cb C cc pl (some ⟨b2,o2,none⟩) cp g1 g2 g3 r (i:Int)) (L:=Cx s) (C:=Cx) (p:=I (c.hours.length+1)) (go:=go c.hours.length) rfl rfl rfl rfl rfl rfl [.blk bt (zBZ (thickN c pl z i c.hours.length)),.oldx w wb.heap.size (feet (zDA c A ca (some ⟨bb,o,none⟩) cb C cc pl (some ⟨b2,o2,none⟩) cp g1 g2 g3 r (i:Int)++Cx s0))] (by (repeat (first|exact oK1 _|(refine oK2 (by (repeat (first|exact tK1 _ _|apply tK2))) ?_)))) (fun _ W q=>hY W q.below (Own.append.1 (zBn.2 q.own)).1) ?_;rintro s' hs';simp only [zDA,zH,List.cons_append,List.nil_append]))|(with_reducible first|refine zD ?_)))
  refine u_endG ?_
  have hmk:m=c.hours.length+1:=by omega
  exact zJf (vs:=[]) zO.nil s' (hmk ▸ hs') rfl hwb (fun W9 h=>zBn.2 (show Own wb.heap.size W9 (zDA c A ca (some ⟨bb,o,none⟩) cb C cc pl (some ⟨b2,o2,none⟩) cp g1 g2 g3 r (i:Int) ++ .all (Cx s')::[.oldx w wb.heap.size (feet (zDA c A ca (some ⟨bb,o,none⟩) cb C cc pl (some ⟨b2,o2,none⟩) cp g1 g2 g3 r (i:Int)++Cx s0))]) from h.sub (by (repeat (first|exact oK1 _|(refine oK2 (by (repeat (first|exact tK1 _ _|apply tK2))) ?_))))))
def zC9 (c:Cov) (A:Option Addr) (ca:Nat) (B:Option Addr) (cb:Nat) (C:Option Addr) (cc:Nat) (pl:List Sli) (P:Option Addr) (cp g1 g2 g3 r:Nat) (i:Int):List Ent :=
 [.blk g1 [.pointer (some ⟨r,0,none⟩)],.blk g2 [.int .i64 i],.blk g3 [.slice P pl.length cp]]
set_option maxHeartbeats 4000000 in
theorem zR9 (c:Cov) (A:Option Addr) (ca:Nat) (B:Option Addr) (cb:Nat) (C:Option Addr) (cc:Nat) (pl:List Sli) (P:Option Addr) (cp i g1 g2 g3 r:Nat) (z:Bed) (wb:World) (hr:InC wb r 0 (zH c A ca B cb C cc)) (h:zAU wb c A B C) (hs:Small c) (hf:zBl c) (hp:zAu wb P pl) (hrl:∀ s∈pl,s.xs.length≤20) (hpl:pl.length=c.hours.length) (hz:c.beds[i]?=some z) :
  Seq Tryz.prog 104 [.pointer (some ⟨g1,0,none⟩),.pointer (some ⟨g2,0,none⟩),.pointer (some ⟨g3,0,none⟩)] (zC9 c A ca B cb C cc pl P cp g1 g2 g3 r (i:Int)) zGf (zJU c pl z i) wb:=by
 intro ι l m I Cx go s0 w hwb hI0 hO hm hgo hend hround
 have h4:=hs.b;have h5:=hs.h
 have hb:=h.b;have hpp:=hp.p;have hh:=h.h
 have hzm:=List.mem_of_getElem? hz
 have hi:=(List.getElem?_eq_some_iff.1 hz).1
 have hlay:=hf.layer
 simp only [zAF] at hlay
 have hL:=fun W (hW:Below wb.heap.size wb W) j u (hu:c.hours[j]?=some u) (hr:InC W r 0 (zH c A ca B cb C cc))=>zFc c A ca B cb C cc r i j z u W hr (h.below hW) hs hf hz hu
 obtain ⟨bb,o,rfl,hblt,hc⟩:=hb.at_ hi
 have:InS wb bb o zAJ 3 c.beds:=⟨hb⟩
 have:zAR c.beds i z:=⟨hz⟩
 have hh1:=hf.hours
 rw [zAA] at hh1
 obtain ⟨b2,o2,rfl,hblt2,hc2⟩:=hpp.at_ (show 0<pl.length by omega)
 have:InS wb b2 o2 zAC 1 pl:=⟨hpp⟩
 unfold vSp at hL
 rw [zFo] at hm hend
 have hround:=fun k s W (hk:k<m)=>hround k (k,thickN c pl z i k) s W hk (zIK (by omega))
 unfold zC9 zGf vSp at *
 unfold zH at *
 refine zKJ (n:=83) hwb hO Tryz.func104 rfl rfl rfl ?_
 refine zB5 (fun _ h=>zBn.1 h) ?_
 simp only [List.cons_append,List.nil_append]
 (repeat' (first|(with_reducible first|refine zI ?_)))
 (refine Two.zAd [] [] [] rfl (show ([]:List Nat).Nodup by decide) (fun _ h=>h) (by kernel_rfl) [[],[Z],[Z,Z],[Z,Z,Z],[Z,Z,Z,Z],[Y,Y,Y,Y,Y],[Z,Z,Z,Z,Z,Z],[Z,Z,Z,Z,Z,Z,Z],[Z,Z,Z,Z,Z,Z,Z,Z],[Y,Y,Y,Y,Y,Y,Y,Y,Y],[Z,Z,Z,Z,Z,Z,Z,Z,Z,Z]] (by kernel_rfl) (by kernel_rfl) (by kernel_rfl) (by kernel_rfl) (by kernel_rfl) ?_)
 (repeat' (first|(((with_reducible refine Two.zCJ ?_ ?_);(· exact rfl);refine ⟨_,fun G=>(by (try simp (decide:=true) only [Two.vis,Two.see,fltT,zAD,Nat.reduceAdd,Nat.reduceSub,if_true,if_false,List.set_cons_zero,List.set_cons_succ,List.set_nil,List.nil_append,List.cons_append]);rfl),?_⟩);first|refine Two.zX _ (fun _=>zy rfl rfl (by exact rfl)) (fun _=>rfl) rfl (by first|exact fun _ _ _=>rfl|(intro G G' h;simp (decide:=true) only [h])) ?_|(refine Two.zAb rfl ?_;refine Two.zX _ (fun _=>zAO rfl rfl) (fun _=>rfl) rfl (by first|exact fun _ _ _=>rfl|(intro G G' h;simp (decide:=true) only [h])) ?_)|refine Two.zX _ (fun _=>zAS (I:=i) rfl rfl rfl rfl (by omega)) (fun _=>rfl) rfl (by exact fun _ _ _=>rfl) ?_|refine Two.zX _ (fun _=>zAi rfl rfl) (fun _=>rfl) rfl (by first|exact fun _ _ _=>rfl|(intro G G' h;simp (decide:=true) only [h])) ?_|refine Two.zGC rfl (fun _=>rfl) rfl ?_)|((with_reducible refine Two.zBa ?_ ?_);(· exact rfl))))
 (intro G;simp only [regsT,zAD,Two.zBU,Two.ini,List.nil_append,List.cons_append])
 (repeat' (first|((with_reducible refine zG ?_);first|refine zE rfl rfl rfl rfl rfl ?_|(refine zK rfl rfl rfl rfl rfl ?_;refine ⟨_,rfl,?_⟩)|refine ze rfl rfl rfl rfl rfl ?_|refine zr rfl rfl rfl rfl rfl ?_|(refine zf rfl rfl rfl rfl rfl ?_;refine And.intro rfl (And.intro (by first|decide|exact Nat.le_of_ble_eq_true rfl|(simp;omega)) ⟨_,rfl,?_⟩))|refine zBP rfl rfl rfl rfl rfl ?_)|(with_reducible first|refine zI ?_|refine zB ?_|refine zD ?_|refine zA ?_|refine zN ?_)))
 simp only [Nat.zero_add,Nat.reduceAdd]
 generalize (G 9).g=bt
 have hm0:0<m:=by omega
 refine zu (ι:=Nat × ι) [0,1,2,3,5,22] rfl (fun q=>q.1≤c.hours.length∧q.1<m∧I q.1 q.2) (fun q=>[(23,.int .i64 (q.1:Int))]) (fun q=>.blk bt (zBZ (thickN c pl z i q.1))::(zC9 c A ca (some ⟨bb,o,none⟩) cb C cc pl (some ⟨b2,o2,none⟩) cp g1 g2 g3 r (i:Int)++[.all (Cx q.2),.oldx w wb.heap.size (feet (zC9 c A ca (some ⟨bb,o,none⟩) cb C cc pl (some ⟨b2,o2,none⟩) cp g1 g2 g3 r (i:Int)++Cx s0))])) (fun q=>c.hours.length - q.1) (0,s0) ⟨Nat.zero_le _,hm0,hI0⟩ (by (first|exact lK1|(repeat (first|exact lK1|(refine zL rfl ?_))))) (by (repeat (first|exact oK1 _|(refine oK2 (by (repeat (first|exact tK1 _ _|apply tK2))) ?_)))) ?_
 rintro ⟨k,s⟩ ⟨hk,hkm,hIk⟩
 simp only at hk hkm hIk
 have hY:=fun W=>hround k s W hkm hIk
 clear hround
 simp only [zAq,zC9,zH,List.cons_append,List.nil_append]
 by_cases hlt:k<c.hours.length
 ·obtain ⟨u,hu⟩:∃ u,c.hours[k]?=some u:=⟨_,List.getElem?_eq_getElem (by omega)⟩
  obtain ⟨sl,hsk⟩:∃ s,pl[k]?=some s:=⟨_,List.getElem?_eq_getElem (by omega)⟩
  have hsm:=List.mem_of_getElem? hsk
  have hrow:=hp.rows sl hsm
  have hsl:=hrl sl hsm
  have hin:=zGN (pl:=pl) (i:=i) hf hzm k (by omega)
  have hlin:=zFX hf hzm (List.mem_of_getElem? hu)
  have e1:thickN c pl z i (k+1)=layered c (sl.xs.contains (i:Int)) (thinned (thickN c pl z i k) (zBF c z u)):=by simp only [thickN,zAW hu,zAW hsk]
  generalize thickN c pl z i k=t at *
  have hL:=fun W hW=>hL W hW k u hu
  generalize zBF c z u=lo at *
  obtain ⟨sA,xs,sc⟩:=sl
  simp only at hrow hsl e1
  have hH:=fun W (hW:Below wb.heap.size wb W)=>zIL xs (i:Int) sA sc W (hrow.below hW) (by omega)
  have:zAR pl k ⟨sA,xs,sc⟩:=⟨hsk⟩
  generalize xs.contains (i:Int)=on at *
  cases hgk:go k
  ·simp only [hgk] at hY
   unfold zBZ
   (repeat' (first|((with_reducible refine zG ?_);first|refine zE rfl rfl rfl rfl rfl ?_|refine zC rfl rfl rfl rfl rfl ?_|(refine zK rfl rfl rfl rfl rfl ?_;refine ⟨_,rfl,?_⟩)|(refine zQ rfl rfl rfl rfl rfl rfl rfl (fun h=>?_) (fun h=>?_)<;>(dsimp only [cmpP] at h;(try (exfalso;omega))))|(refine zGo (D:=zC9 c A ca (some ⟨bb,o,none⟩) cb C cc pl (some ⟨b2,o2,none⟩) cp g1 g2 g3 r (i:Int)) (L:=Cx s) (C:=Cx) (p:=I (k+1)) (go:=false) rfl rfl rfl rfl rfl rfl [.blk bt (zBZ t),.oldx w wb.heap.size (feet (zC9 c A ca (some ⟨bb,o,none⟩) cb C cc pl (some ⟨b2,o2,none⟩) cp g1 g2 g3 r (i:Int)++Cx s0))] (by (repeat (first|exact oK1 _|(refine oK2 (by (repeat (first|exact tK1 _ _|apply tK2))) ?_)))) (fun _ W q=>hY W q.below (Own.append.1 (zBn.2 q.own)).1) ?_;rintro s' hs';simp only [zC9,zH,List.cons_append,List.nil_append])|refine zAh rfl rfl rfl rfl rfl ?_)|(with_reducible first|refine zI ?_|refine zB ?_|refine zD ?_|refine zA ?_|refine zb ?_|refine zP ?_|refine zd ?_|refine zN ?_|refine zA3 ?_)|((with_reducible refine zJ ?_ ?_);(· exact rfl))))
   have hmk:m=k+1:=by
    rcases Nat.lt_or_ge (k+1) m with h9|h9
    ·have:=hgo k h9;rw [hgk] at this;cases this
    ·omega
   exact zJf (vs:=[]) zO.nil s' (hmk ▸ hs') rfl hwb (fun W9 h=>zBn.2 (show Own wb.heap.size W9 (zC9 c A ca (some ⟨bb,o,none⟩) cb C cc pl (some ⟨b2,o2,none⟩) cp g1 g2 g3 r (i:Int) ++ .all (Cx s')::[.oldx w wb.heap.size (feet (zC9 c A ca (some ⟨bb,o,none⟩) cb C cc pl (some ⟨b2,o2,none⟩) cp g1 g2 g3 r (i:Int)++Cx s0))]) from h.sub (by (repeat (first|exact oK1 _|(refine oK2 (by (repeat (first|exact tK1 _ _|apply tK2))) ?_))))))
  ·simp only [hgk] at hY
   have hmk:k+1<m:=by
    rcases hend with h9 | ⟨h9,h10⟩
    ·omega
    ·rcases Nat.lt_or_ge (k+1) m with h11|h11
     ·exact h11
     ·have:m - 1=k:=by omega
      rw [this,hgk] at h10;cases h10
   unfold zBZ
   (repeat' (first|((with_reducible refine zG ?_);first|refine zE rfl rfl rfl rfl rfl ?_|refine zC rfl rfl rfl rfl rfl ?_|(refine zK rfl rfl rfl rfl rfl ?_;refine ⟨_,rfl,?_⟩)|refine ze rfl rfl rfl rfl rfl ?_|(refine zQ rfl rfl rfl rfl rfl rfl rfl (fun h=>?_) (fun h=>?_)<;>(dsimp only [cmpP] at h;(try (exfalso;omega))))|(refine zGo (D:=zC9 c A ca (some ⟨bb,o,none⟩) cb C cc pl (some ⟨b2,o2,none⟩) cp g1 g2 g3 r (i:Int)) (L:=Cx s) (C:=Cx) (p:=I (k+1)) (go:=true) rfl rfl rfl rfl rfl rfl [.blk bt (zBZ t),.oldx w wb.heap.size (feet (zC9 c A ca (some ⟨bb,o,none⟩) cb C cc pl (some ⟨b2,o2,none⟩) cp g1 g2 g3 r (i:Int)++Cx s0))] (by (repeat (first|exact oK1 _|(refine oK2 (by (repeat (first|exact tK1 _ _|apply tK2))) ?_)))) (fun _ W q=>hY W q.below (Own.append.1 (zBn.2 q.own)).1) ?_;rintro s' hs';simp only [zC9,zH,List.cons_append,List.nil_append];unfold zBZ)|refine zS rfl rfl rfl rfl rfl rfl (fun _ _ q=>hL _ q.below (hr.below q.below)) ?_|refine zAh rfl rfl rfl rfl rfl ?_|refine zCn rfl rfl rfl rfl rfl rfl (IntWalk.i64_in _ (by omega)) ?_|(refine zf rfl rfl rfl rfl rfl ?_;refine And.intro rfl (And.intro (by first|decide|exact Nat.le_of_ble_eq_true rfl|(simp;omega)) ⟨_,rfl,?_⟩))|(refine zo rfl rfl rfl rfl (fun b=>?_))|(refine zBA rfl rfl rfl rfl rfl ?_;refine ⟨_,rfl,?_⟩)|refine zJz rfl rfl rfl rfl rfl rfl ?_)|(with_reducible first|refine zI ?_|refine zB ?_|refine zD ?_|refine zA ?_|refine zP ?_|refine zN ?_)|((with_reducible refine zJ ?_ ?_);(· exact rfl))|((with_reducible refine zF ?_ ?_);(· exact rfl))))
   (refine zAv (by kernel_rfl) (by kernel_rfl) (by kernel_rfl) ?_)
   (repeat' (first|((with_reducible refine zBH ?_);first|refine zW (zAK rfl rfl) rfl rfl rfl ?_|refine zW (zy rfl rfl (by exact rfl)) rfl rfl rfl ?_|refine zW (zAS (I:=k) rfl rfl rfl (by omega) (by first|omega|(dsimp only;omega))) rfl rfl rfl ?_|(refine zH1 rfl rfl rfl rfl rfl rfl (fun _ _ q=>hH _ q.below) (fun h=>?_) (fun h=>?_)))|(with_reducible refine zBs ?_)))
   ·(repeat' (first|(with_reducible first|refine zA ?_)|((with_reducible refine zJ ?_ ?_);(· exact rfl))))
    (refine Two.zAd [] [] [] rfl (show ([]:List Nat).Nodup by decide) (fun _ h=>h) (by kernel_rfl) [[],[Z],[Y,Y],[Z,Y,Y],[Z,Z,Y,Y],[Z,Z,Z,Y,Y],[Z,Z,Z,Z,Y,Y],[Z,Z,Z,Z,Z,Y,Y],[Z,Z,Z,Z,Z,Z,Z,Z],[Y,Y,Y,Y,Y,Y,Y,Y,Y],[Z,Y,Y,Y,Y,Y,Y,Y,Y,Y],[Y,Y,Y,Y,Y,Y,Y,Y,Y,Y,Y],[Z,Y,Y,Y,Y,Y,Y,Y,Y,Y,Y,Y],[Z,Z,Y,Y,Y,Y,Y,Y,Y,Y,Y,Y,Y],[Z,Z,Z,Y,Y,Y,Y,Y,Y,Y,Y,Y,Y,Y],[Z,Z,Z,Z,Y,Y,Y,Y,Y,Y,Y,Y,Y,Y,Y],[Z,Z,Z,Z,Z,Y,Y,Y,Y,Y,Y,Y,Y,Y,Y,Y],[Z,Z,Z,Z,Z,Z,Z,Z,Y,Y,Y,Y,Y,Y,Y,Y,Y],[Z,Z,Z,Z,Z,Z,Z,Z,Z,Z,Z,Z,Z,Z,Z,Z,Z,Z],[Z,Z,Z,Z,Z,Z,Z,Z,Z,Z,Z,Z,Z,Z,Z,Z,Z,Z,Z]] (by kernel_rfl) (by kernel_rfl) (by kernel_rfl) (by kernel_rfl) (by kernel_rfl) ?_)
    (repeat' (first|(((with_reducible refine Two.zCJ ?_ ?_);(· exact rfl);refine ⟨_,fun G=>(by (try simp (decide:=true) only [Two.vis,Two.see,fltT,zAD,Nat.reduceAdd,Nat.reduceSub,if_true,if_false,List.set_cons_zero,List.set_cons_succ,List.set_nil,List.nil_append,List.cons_append]);rfl),?_⟩);first|refine Two.zX _ (fun _=>zy rfl rfl (by exact rfl)) (fun _=>rfl) rfl (by first|exact fun _ _ _=>rfl|(intro G G' h;simp (decide:=true) only [h])) ?_|(refine Two.zAb rfl ?_;refine Two.zX _ (fun _=>zAO rfl rfl) (fun _=>rfl) rfl (by first|exact fun _ _ _=>rfl|(intro G G' h;simp (decide:=true) only [h])) ?_)|refine Two.zX _ (fun _=>zDg rfl rfl rfl (IntWalk.i64_in _ (by omega))) (fun _=>rfl) rfl (by first|exact fun _ _ _=>rfl|(intro G G' h;simp (decide:=true) only [h])) ?_|refine Two.zX _ (fun _=>zAi rfl rfl) (fun _=>rfl) rfl (by first|exact fun _ _ _=>rfl|(intro G G' h;simp (decide:=true) only [h])) ?_|refine Two.zX _ (fun _=>zEE rfl rfl (by exact rfl)) (fun _=>rfl) rfl (by first|exact fun _ _ _=>rfl|(intro G G' h;simp (decide:=true) only [h])) ?_)|((with_reducible refine Two.zBa ?_ ?_);(· exact rfl))))
    (intro G;simp only [regsT,zAD,Two.zBU,Two.ini,List.nil_append,List.cons_append])
    (repeat' (first|((with_reducible refine zG ?_);first|refine zE rfl rfl rfl rfl rfl ?_|refine zj rfl rfl rfl rfl rfl rfl (by omega) ?_|(refine zf rfl rfl rfl rfl rfl ?_;refine And.intro rfl (And.intro (by first|decide|exact Nat.le_of_ble_eq_true rfl|(simp;omega)) ⟨_,rfl,?_⟩)))|(with_reducible first|refine zB ?_|refine zD ?_|refine zA ?_|refine zk ?_)))
    exact zc (k+1,s') ⟨by omega,hmk,hs'⟩ (by simp only;omega) (by (first|exact lK1|(repeat (first|exact lK1|(refine zL rfl ?_))))) (by
     dsimp only
     rw [e1]
     subst h
     simp only [layered,thinned,if_true,if_false,Bool.false_eq_true]
     (repeat (first|exact oK1 _|(refine oK2 (by (repeat (first|exact tK1 _ _|apply tK2))) ?_))))
   ·(repeat' (first|((with_reducible refine zG ?_);first|refine zE rfl rfl rfl rfl rfl ?_|refine zj rfl rfl rfl rfl rfl rfl (by omega) ?_)|(with_reducible first|refine zB ?_|refine zD ?_|refine zA ?_|refine zP ?_|refine zk ?_)|((with_reducible refine zF ?_ ?_);(· exact rfl))))
    exact zc (k+1,s') ⟨by omega,hmk,hs'⟩ (by simp only;omega) (by (first|exact lK1|(repeat (first|exact lK1|(refine zL rfl ?_))))) (by
     dsimp only
     rw [e1]
     subst h
     simp only [layered,thinned,if_true,if_false,Bool.false_eq_true]
     (repeat (first|exact oK1 _|(refine oK2 (by (repeat (first|exact tK1 _ _|apply tK2))) ?_))))
 ·obtain rfl:k=c.hours.length:=by omega
  (repeat' (first|((with_reducible refine zG ?_);first|(refine zQ rfl rfl rfl rfl rfl rfl rfl (fun h=>?_) (fun h=>?_)<;>(dsimp only [cmpP] at h;(try (exfalso;omega)))))|(with_reducible first|refine zI ?_|refine zB ?_|refine zD ?_|refine zA ?_|refine zn ?_|refine zR ?_|refine zY ?_)|((with_reducible refine zF ?_ ?_);(· exact rfl))))
  (refine Two.zAd [] [] [] rfl (show ([]:List Nat).Nodup by decide) (fun _ h=>h) (by kernel_rfl) [[],[Y],[Z,Y],[Z,Z,Y],[Z,Z,Z,Y],[Z,Z,Z,Z,Y],[Z,Z,Z,Z,Z,Y],[Y,Y,Y,Y,Y,Y,Y],[Z,Z,Z,Z,Z,Z,Z,Z]] (by kernel_rfl) (by kernel_rfl) (by kernel_rfl) (by kernel_rfl) (by kernel_rfl) ?_)
  (repeat' (first|(((with_reducible refine Two.zCJ ?_ ?_);(· exact rfl);refine ⟨_,fun G=>(by (try simp (decide:=true) only [Two.vis,Two.see,fltT,zAD,Nat.reduceAdd,Nat.reduceSub,if_true,if_false,List.set_cons_zero,List.set_cons_succ,List.set_nil,List.nil_append,List.cons_append]);rfl),?_⟩);first|refine Two.zX _ (fun _=>zAK rfl rfl) (fun _=>rfl) rfl (by first|exact fun _ _ _=>rfl|(intro G G' h;simp (decide:=true) only [h])) ?_|refine Two.zX _ (fun _=>zy rfl rfl (by exact rfl)) (fun _=>rfl) rfl (by first|exact fun _ _ _=>rfl|(intro G G' h;simp (decide:=true) only [h])) ?_|(refine Two.zAb rfl ?_;refine Two.zX _ (fun _=>zAO rfl rfl) (fun _=>rfl) rfl (by first|exact fun _ _ _=>rfl|(intro G G' h;simp (decide:=true) only [h])) ?_)|refine Two.zX _ (fun _=>zDT rfl rfl) (fun _=>rfl) rfl (by first|exact fun _ _ _=>rfl|(intro G G' h;simp (decide:=true) only [h])) ?_|refine Two.zX _ (fun _=>zAi rfl rfl) (fun _=>rfl) rfl (by first|exact fun _ _ _=>rfl|(intro G G' h;simp (decide:=true) only [h])) ?_)|((with_reducible refine Two.zBa ?_ ?_);(· exact rfl))))
  (intro G;simp only [regsT,zAD,Two.zBU,Two.ini,List.nil_append,List.cons_append])
  unfold zBZ
  (repeat' (first|((with_reducible refine zG ?_);first|(refine zGo (D:=zC9 c A ca (some ⟨bb,o,none⟩) cb C cc pl (some ⟨b2,o2,none⟩) cp g1 g2 g3 r (i:Int)) (L:=Cx s) (C:=Cx) (p:=I (c.hours.length+1)) (go:=go c.hours.length) rfl rfl rfl rfl rfl rfl [.blk bt (zBZ (thickN c pl z i c.hours.length)),.oldx w wb.heap.size (feet (zC9 c A ca (some ⟨bb,o,none⟩) cb C cc pl (some ⟨b2,o2,none⟩) cp g1 g2 g3 r (i:Int)++Cx s0))] (by (repeat (first|exact oK1 _|(refine oK2 (by (repeat (first|exact tK1 _ _|apply tK2))) ?_)))) (fun _ W q=>hY W q.below (Own.append.1 (zBn.2 q.own)).1) ?_;rintro s' hs';simp only [zC9,zH,List.cons_append,List.nil_append]))|(with_reducible first|refine zD ?_)))
  refine u_endG ?_
  have hmk:m=c.hours.length+1:=by omega
  exact zJf (vs:=[]) zO.nil s' (hmk ▸ hs') rfl hwb (fun W9 h=>zBn.2 (show Own wb.heap.size W9 (zC9 c A ca (some ⟨bb,o,none⟩) cb C cc pl (some ⟨b2,o2,none⟩) cp g1 g2 g3 r (i:Int) ++ .all (Cx s')::[.oldx w wb.heap.size (feet (zC9 c A ca (some ⟨bb,o,none⟩) cb C cc pl (some ⟨b2,o2,none⟩) cp g1 g2 g3 r (i:Int)++Cx s0))]) from h.sub (by (repeat (first|exact oK1 _|(refine oK2 (by (repeat (first|exact tK1 _ _|apply tK2))) ?_))))))
end Go.Proofs.YtdigopgncfhiaaaGreatDoor
namespace Go.Proofs.YtdigopgncfhiaaaGreatDoor
open Go.RowKit
set_option maxRecDepth 20000
theorem zMI (r i:Nat) (pl:List Sli) (P:Option Addr) (cp:Nat) (w:World):Ret Tryz.prog 61 [.pointer (some ⟨r,0,none⟩),.slice P pl.length cp,.int .i64 (i:Int)] w (fun g:Nat × Nat × Nat=>.func (.func 104) #[] #[.pointer (some ⟨g.1,0,none⟩),.pointer (some ⟨g.2.1,0,none⟩),.pointer (some ⟨g.2.2,0,none⟩)])
  (fun g=>[.blk g.1 [.pointer (some ⟨r,0,none⟩)],.blk g.2.1 [.int .i64 (i:Int)],.blk g.2.2 [.slice P pl.length cp]]) (fun _=>True):=by
 (refine zM (n:=8) Tryz.func61 rfl rfl rfl ?_)
 (repeat' (first|((with_reducible refine zG ?_);first|refine zC rfl rfl rfl rfl rfl ?_|(refine zAM rfl rfl rfl rfl rfl rfl (fun b=>?_))|refine zCo rfl rfl rfl rfl rfl rfl ?_)|(with_reducible first|refine zI ?_|refine zB ?_|refine zD ?_|refine zA ?_|refine zb ?_)))
 rename_i b1 b3
 exact zT (by (exact zO.cons (by exact zq.tmp rfl) zO.nil)) (b1,b,b3) trivial rfl (fun _ h=>h.sub (by (repeat (first|exact oK1 _|(refine oK2 (by (repeat (first|exact tK1 _ _|apply tK2))) ?_)))))
def zDB (c:Cov) (pl:List Sli) (i h:Int):Sp × Int :=
 if zCG c pl=0 then (if inB 0 ((c.beds.length:Int) - 1) i=true∧inB 0 (c.hours.length:Int) h=true then (thickN c pl (c.beds.getD i.toNat default) i h.toNat,0) else (⟨0,0⟩,2)) else (⟨0,0⟩,zCG c pl)
theorem zFl {c:Cov} {pl:List Sli} (h:zCG c pl=0):zAr c=0∧zAz c pl=true:=by
 unfold zCG at h
 by_cases h0:zAr c=0
 ·rw [if_pos h0] at h
  cases hp:zAz c pl with
  | true=>exact ⟨h0,rfl⟩
  | false=>rw [hp] at h;simp at h
 ·rw [if_neg h0] at h;exact absurd h h0
set_option maxHeartbeats 4000000 in
theorem zPt (c:Cov) (A:Option Addr) (ca:Nat) (B:Option Addr) (cb:Nat) (C:Option Addr) (cc:Nat) (pl:List Sli) (P:Option Addr) (cp:Nat) (i h:Int) (w:World) (hc:zAU w c A B C) (hs:Small c) (hp:zAu w P pl) (hl:pl.length≤12) (hrl:∀ s∈pl,s.xs.length≤20) :
  Gv Tryz.prog 23 [zAI c A ca B cb C cc,.slice P pl.length cp,.int .i64 i,.int .i64 h] w (.tuple #[vSp (zDB c pl i h).1,.int .i64 (zDB c pl i h).2]):=by
 have hl4:=hs.b;have hl5:=hs.h
 have h1:=fun W (hb:Below w.heap.size w W)=>zFe c A ca B cb C cc pl P cp W (hc.below hb) hs (hp.below hb) hl hrl
 have h2:=fun W (hb:Below w.heap.size w W)=>zFd c A ca B cb C cc pl P cp W (hc.below hb) hs (hp.below hb) hl hrl
 unfold zAI at h1 h2
 unfold Gv zAI zDB
 by_cases h0:zCG c pl=0
 ·rw [if_pos h0]
  obtain ⟨h00,hpl⟩:=zFl h0
  have hf:=zA1 h00
  have h2:=fun W hb=>h2 W hb h00 hpl
  by_cases hin:inB 0 ((c.beds.length:Int) - 1) i=true∧inB 0 (c.hours.length:Int) h=true
  ·rw [if_pos hin]
   obtain ⟨I,rfl,hI⟩:=zKX hin.1
   obtain ⟨J,rfl,hJ⟩:∃ J:Nat,h=(J:Int)∧J≤c.hours.length:=by have:=zAA.1 hin.2;exact ⟨h.toNat,by omega,by omega⟩
   obtain ⟨hi1,hi2⟩:=hin
   obtain ⟨z,hz⟩:∃ z,c.beds[I]?=some z:=⟨_,List.getElem?_eq_getElem hI⟩
   simp only [Int.toNat_natCast]
   rw [zAW hz]
   have hseq:=fun g1 g2 g3 r=>days_seq c A ca B cb C cc pl P cp I g1 g2 g3 r z w hc hs hf hp hrl (zAc.1 hpl).1 hz
   unfold vSp
   unfold zH at h2 ⊢
   (refine zM (n:=54) Tryz.func23 rfl rfl rfl ?_)
   (repeat' (first|((with_reducible refine zG ?_);first|refine zE rfl rfl rfl rfl rfl ?_|refine zC rfl rfl rfl rfl rfl ?_|(refine zK rfl rfl rfl rfl rfl ?_;refine ⟨_,rfl,?_⟩)|refine ze rfl rfl rfl rfl rfl ?_|refine zAf rfl rfl rfl rfl rfl rfl ?_|(refine zQ rfl rfl rfl rfl rfl rfl rfl (fun h=>?_) (fun h=>?_)<;>(dsimp only [cmpP] at h;(try (exfalso;omega))))|(refine zAG rfl rfl rfl rfl rfl rfl (fun _ _ q=>h2 _ q.below) ?_;rintro g -;dsimp only [List.cons_append,List.nil_append])|(refine zS rfl rfl rfl rfl rfl rfl (fun _ _ q=>hi1 ▸ iin1 _ _ _ _ _ _ (zAl (enc:=encI) (by exact rfl) _ q.below q.own)) ?_)|(refine zS rfl rfl rfl rfl rfl rfl (fun _ _ q=>hi2 ▸ iin1 _ _ _ _ _ _ (zAl (enc:=encI) (by exact rfl) _ q.below q.own)) ?_)|(refine zAG rfl rfl rfl rfl rfl rfl (fun _ _ q=>zMI _ I pl P cp _) ?_;rintro ⟨g1,g2,g3⟩ -;dsimp only [List.cons_append,List.nil_append])|refine zg rfl rfl rfl rfl rfl rfl ?_|refine zAh rfl rfl rfl rfl rfl ?_|refine zCn rfl rfl rfl rfl rfl rfl (IntWalk.i64_in _ (by omega)) ?_|refine zr rfl rfl rfl rfl rfl ?_|(refine zo rfl rfl rfl rfl (fun b=>?_))|(refine zAM rfl rfl rfl rfl rfl rfl (fun b=>?_))|(refine zz rfl rfl rfl rfl rfl ?_;refine ⟨rfl,_,rfl,fun b=>?_⟩))|(with_reducible first|refine zI ?_|refine zB ?_|refine zD ?_|refine zA ?_|refine zP ?_|refine zN ?_)|((with_reducible refine zF ?_ ?_);(· exact rfl))))
   rename_i b4 b7 b8 ba1 ba2
   refine u_dfr0 ?_
   refine zQL (ι:=Sp) (α:=Nat × Sp) (gf:=104) (lb:=[.pointer (some ⟨g1,0,none⟩),.pointer (some ⟨g2,0,none⟩),.pointer (some ⟨g3,0,none⟩)]) (bs:=[]) (zDA c A ca B cb C cc pl P cp g1 g2 g3 g (I:Int)) zGf (zJU c pl z I) (J+1) (fun k s=>k=J+1→s=thickN c pl z I J) (fun s=>[.blk b (zBZ s),.blk b8 [.int .i64 0,.int .i64 0],.blk b7 [.int .i64 (J:Int)],.blk b4 (zH c A ca B cb C cc)]) (fun k=>!decide (k=J)) (.exit 0) ⟨0,0⟩ rfl (by unfold zDA zH;simp only [List.cons_append,List.nil_append];(repeat (first|exact oK1 _|(refine oK2 (by (repeat (first|exact tK1 _ _|apply tK2))) ?_)))) (fun h=>by omega) (by rw [zFo];omega) (fun k hk=>by simp;omega) (.inr ⟨by omega,by simp⟩) (fun x=>rfl) (by decide) (.inr ⟨0,rfl⟩) (hseq g1 g2 g3 g) ?_ ?_ ?_
   ·rintro l k x s ⟨⟩ W hk hx hI hr hrp hW
    simp only at hr hrp
    subst hr hrp
    rw [zIK (by omega)] at hx
    cases hx
    simp only [zGf,parR,zDA,zH,vSp,List.cons_append,List.nil_append]
    by_cases hkJ:k=J
    ·subst hkJ
     simp only [decide_true,Bool.not_true,Bool.false_eq_true,if_false]
     (repeat' (first|((with_reducible refine zG ?_);first|refine zC rfl rfl rfl rfl rfl ?_|(refine zf rfl rfl rfl rfl rfl ?_;refine And.intro rfl (And.intro (by first|decide|exact Nat.le_of_ble_eq_true rfl|(simp;omega)) ⟨_,rfl,?_⟩))|(refine zo rfl rfl rfl rfl (fun b=>?_)))|(with_reducible first|refine zI ?_|refine zB ?_|refine zD ?_|refine zA ?_)))
     refine zMt (by (repeat (first|exact tK1 _ _|apply tK2))) rfl ?_
     (repeat' (first|((with_reducible refine zG ?_);first|refine zE rfl rfl rfl rfl rfl ?_|(refine zK rfl rfl rfl rfl rfl ?_;refine ⟨_,rfl,?_⟩)|(refine zQ rfl rfl rfl rfl rfl rfl rfl (fun h=>?_) (fun h=>?_)<;>(dsimp only [cmpP] at h;(try (exfalso;omega))))|(refine zf rfl rfl rfl rfl rfl ?_;refine And.intro rfl (And.intro (by first|decide|exact Nat.le_of_ble_eq_true rfl|(simp;omega)) ⟨_,rfl,?_⟩)))|(with_reducible first|refine zI ?_|refine zB ?_|refine zD ?_|refine zA ?_|refine zN ?_|refine zn ?_)|((with_reducible refine zBD ?_ ?_);(· exact rfl))|((with_reducible refine zJ ?_ ?_);(· exact rfl))))
     exact zGM (some (.exit 0)) (.inr (.inr ⟨0,rfl,rfl⟩)) rfl (by (repeat (first|exact tK1 _ _|apply tK2))) (thickN c pl z I k) (fun _=>rfl) hW (fun _ h=>h.sub (by (repeat (first|exact oK1 _|(refine oK2 (by (repeat (first|exact tK1 _ _|apply tK2))) ?_)))))
    ·simp only [hkJ,decide_false,Bool.not_false,if_true]
     (repeat' (first|((with_reducible refine zG ?_);first|refine zC rfl rfl rfl rfl rfl ?_|(refine zf rfl rfl rfl rfl rfl ?_;refine And.intro rfl (And.intro (by first|decide|exact Nat.le_of_ble_eq_true rfl|(simp;omega)) ⟨_,rfl,?_⟩))|(refine zo rfl rfl rfl rfl (fun b=>?_)))|(with_reducible first|refine zI ?_|refine zB ?_|refine zD ?_|refine zA ?_)))
     refine zMt (by (repeat (first|exact tK1 _ _|apply tK2))) rfl ?_
     (repeat' (first|((with_reducible refine zG ?_);first|refine zE rfl rfl rfl rfl rfl ?_|(refine zK rfl rfl rfl rfl rfl ?_;refine ⟨_,rfl,?_⟩)|(refine zQ rfl rfl rfl rfl rfl rfl rfl (fun h=>?_) (fun h=>?_)<;>(dsimp only [cmpP] at h;(try (exfalso;omega)))))|(with_reducible first|refine zI ?_|refine zB ?_|refine zD ?_|refine zA ?_|refine zP ?_|refine zN ?_|refine zk ?_)|((with_reducible refine zF ?_ ?_);(· exact rfl))))
     exact zGM none (.inl ⟨rfl,rfl⟩) rfl (by (repeat (first|exact tK1 _ _|apply tK2))) s (fun h=>by omega) hW (fun _ h=>h.sub (by (repeat (first|exact oK1 _|(refine oK2 (by (repeat (first|exact tK1 _ _|apply tK2))) ?_)))))
   ·intro h9;simp at h9
   ·intro _ _ bd s hI
    have:=hI rfl
    subst this
    simp only [zDA,zH,List.cons_append,List.nil_append]
    (repeat' (first|((with_reducible refine zG ?_);first|refine zC rfl rfl rfl rfl rfl ?_|(refine zK rfl rfl rfl rfl rfl ?_;refine ⟨_,rfl,?_⟩)|(refine zf rfl rfl rfl rfl rfl ?_;refine And.intro rfl (And.intro (by first|decide|exact Nat.le_of_ble_eq_true rfl|(simp;omega)) ⟨_,rfl,?_⟩)))|(with_reducible first|refine zI ?_|refine zB ?_|refine zD ?_|refine zA ?_|refine zb ?_|refine zn ?_|refine zR ?_)))
    exact zQN (by (repeat (first|exact tK1 _ _|apply tK2))) (by (exact zO.cons (by exact res1c rfl (by exact rfl)) (zO.cons (by exact zq.tmp rfl) zO.nil))) () trivial rfl (fun _ _=>Own.nil _ _)
  ·rw [if_neg hin]
   unfold vSp
   unfold zH at h2 ⊢
   (refine zM (n:=54) Tryz.func23 rfl rfl rfl ?_)
   (repeat' (first|((with_reducible refine zG ?_);first|refine zE rfl rfl rfl rfl rfl ?_|refine zC rfl rfl rfl rfl rfl ?_|(refine zK rfl rfl rfl rfl rfl ?_;refine ⟨_,rfl,?_⟩)|refine ze rfl rfl rfl rfl rfl ?_|refine zAf rfl rfl rfl rfl rfl rfl ?_|refine zAT rfl rfl rfl ?_|(refine zQ rfl rfl rfl rfl rfl rfl rfl (fun h=>?_) (fun h=>?_)<;>(dsimp only [cmpP] at h;(try (exfalso;omega))))|(refine zAG rfl rfl rfl rfl rfl rfl (fun _ _ q=>h2 _ q.below) ?_;rintro g -;dsimp only [List.cons_append,List.nil_append])|(refine zAm rfl rfl rfl rfl rfl rfl (fun _ _ q=>iin1 _ _ _ _ _ _ (zAl (enc:=encI) (by exact rfl) _ q.below q.own)) (fun h=>?_) (fun h=>?_)<;>(try (exfalso;omega)))|refine zg rfl rfl rfl rfl rfl rfl ?_|refine zAh rfl rfl rfl rfl rfl ?_|refine zCn rfl rfl rfl rfl rfl rfl (IntWalk.i64_in _ (by omega)) ?_|refine zr rfl rfl rfl rfl rfl ?_|(refine zf rfl rfl rfl rfl rfl ?_;refine And.intro rfl (And.intro (by first|decide|exact Nat.le_of_ble_eq_true rfl|(simp;omega)) ⟨_,rfl,?_⟩))|(refine zo rfl rfl rfl rfl (fun b=>?_))|(refine zAM rfl rfl rfl rfl rfl rfl (fun b=>?_))|(refine zBA rfl rfl rfl rfl rfl ?_;refine ⟨_,rfl,?_⟩)|(refine zz rfl rfl rfl rfl rfl ?_;refine ⟨rfl,_,rfl,fun b=>?_⟩))|(with_reducible first|refine zI ?_|refine zB ?_|refine zD ?_|refine zA ?_|refine zb ?_|refine zP ?_|refine zd ?_)|((with_reducible refine zJ ?_ ?_);(· exact rfl))|((with_reducible refine zF ?_ ?_);(· exact rfl))))
   all_goals first|exact zT (by (exact zO.cons (by exact res1c rfl (by exact rfl)) (zO.cons (by exact zq.tmp rfl) zO.nil))) () trivial rfl (fun _ _=>Own.nil _ _)|(exfalso;exact hin ⟨by assumption,by assumption⟩)
 ·rw [if_neg h0]
  unfold vSp
  unfold zH at h1 ⊢
  generalize zCG c pl=e at *
  (refine zM (n:=54) Tryz.func23 rfl rfl rfl ?_)
  (repeat' (first|((with_reducible refine zG ?_);first|refine zE rfl rfl rfl rfl rfl ?_|refine zC rfl rfl rfl rfl rfl ?_|(refine zK rfl rfl rfl rfl rfl ?_;refine ⟨_,rfl,?_⟩)|(refine zQ rfl rfl rfl rfl rfl rfl rfl (fun h=>?_) (fun h=>?_)<;>(dsimp only [cmpP] at h;(try (exfalso;omega))))|refine zS rfl rfl rfl rfl rfl rfl (fun _ _ q=>h1 _ q.below h0) ?_|refine zg rfl rfl rfl rfl rfl rfl ?_|(refine zf rfl rfl rfl rfl rfl ?_;refine And.intro rfl (And.intro (by first|decide|exact Nat.le_of_ble_eq_true rfl|(simp;omega)) ⟨_,rfl,?_⟩))|(refine zo rfl rfl rfl rfl (fun b=>?_))|(refine zAM rfl rfl rfl rfl rfl rfl (fun b=>?_))|(refine zBA rfl rfl rfl rfl rfl ?_;refine ⟨_,rfl,?_⟩))|(with_reducible first|refine zI ?_|refine zB ?_|refine zD ?_|refine zA ?_|refine zb ?_|refine zd ?_)|((with_reducible refine zJ ?_ ?_);(· exact rfl))))
  all_goals exact zT (by (exact zO.cons (by exact res1c rfl (by exact rfl)) (zO.cons (by exact zq.tmp rfl) zO.nil))) () trivial rfl (fun _ _=>Own.nil _ _)
end Go.Proofs.YtdigopgncfhiaaaGreatDoor
namespace Go.Proofs.YtdigopgncfhiaaaGreatDoor
open Go.Shelf
set_option maxRecDepth 20000
def zPF : Ren where
 f:=fun x=>match x with | 6=>100 | 15=>132 | 14=>131 | 28=>153 | 29=>154 | 20=>145 | 21=>146 | 22=>147 | 23=>148 | 24=>149 | 25=>150 | 26=>151 | 27=>152 | 46=>157 | 47=>158 | 48=>159 | 49=>160 | 50=>161 | 57=>162|n=>n
 t:=fun x=>match x with | 22=>36 | 24=>75 | 25=>162 | 3=>3 | 39=>126 | 0=>0 | 53=>80 | 55=>179 | 4=>4 | 46=>222 | 45=>221 | 50=>169 | 5=>5 | 9=>9 | 66=>229 | 70=>233 | 76=>235 | 77=>236|n=>n
 g:=fun n=>n
theorem sortPr : SlLaysF0.n6 Tryz.prog zPF where
 mixed:=by kernel_rfl
 f6:=⟨Tryz.f100.name,by decide,Tryz.func100.trans (congrArg some (by kernel_rfl))⟩
 f14:=⟨Tryz.f131.name,by decide,Tryz.func131.trans (congrArg some (by kernel_rfl))⟩
 f15:=Tryz.func132.trans (congrArg some (by kernel_rfl))
 f20:=⟨Tryz.f145.name,by decide,Tryz.func145.trans (congrArg some (by kernel_rfl))⟩
 f21:=⟨Tryz.f146.name,by decide,Tryz.func146.trans (congrArg some (by kernel_rfl))⟩
 f22:=⟨Tryz.f147.name,by decide,Tryz.func147.trans (congrArg some (by kernel_rfl))⟩
 f23:=⟨Tryz.f148.name,by decide,Tryz.func148.trans (congrArg some (by kernel_rfl))⟩
 f24:=⟨Tryz.f149.name,by decide,Tryz.func149.trans (congrArg some (by kernel_rfl))⟩
 f25:=⟨Tryz.f150.name,by decide,Tryz.func150.trans (congrArg some (by kernel_rfl))⟩
 f26:=⟨Tryz.f151.name,by decide,Tryz.func151.trans (congrArg some (by kernel_rfl))⟩
 f27:=⟨Tryz.f152.name,by decide,Tryz.func152.trans (congrArg some (by kernel_rfl))⟩
 f28:=Tryz.func153.trans (congrArg some (by kernel_rfl))
 f29:=Tryz.func154.trans (congrArg some (by kernel_rfl))
 f46:=⟨Tryz.f157.name,by decide,Tryz.func157.trans (congrArg some (by kernel_rfl))⟩
 f47:=Tryz.func158.trans (congrArg some (by kernel_rfl))
 f48:=Tryz.func159.trans (congrArg some (by kernel_rfl))
 f49:=⟨Tryz.f160.name,by decide,Tryz.func160.trans (congrArg some (by kernel_rfl))⟩
 f50:=⟨Tryz.f161.name,by decide,Tryz.func161.trans (congrArg some (by kernel_rfl))⟩
 f57:=⟨Tryz.f162.name,by decide,Tryz.func162.trans (congrArg some (by kernel_rfl))⟩
 t0:=Tryz.underlying0
 a0:=Tryz.isAgg0
 z0:=Tryz.sizeOf0
 v0:=Tryz.zeroValue0
 t3:=Tryz.underlying3
 a3:=Tryz.isAgg3
 z3:=Tryz.sizeOf3
 v3:=Tryz.zeroValue3
 t4:=Tryz.underlying4
 a4:=Tryz.isAgg4
 z4:=Tryz.sizeOf4
 v4:=Tryz.zeroValue4
 t5:=Tryz.underlying5
 a5:=Tryz.isAgg5
 z5:=Tryz.sizeOf5
 v5:=Tryz.zeroValue5
 t9:=Tryz.underlying9
 a9:=Tryz.isAgg9
 z9:=Tryz.sizeOf9
 v9:=Tryz.zeroValue9
 t22:=Tryz.underlying36
 a22:=Tryz.isAgg36
 z22:=Tryz.sizeOf36
 v22:=Tryz.zeroValue36
 t25:=Tryz.underlying162
 a25:=Tryz.isAgg162
 z25:=Tryz.sizeOf162
 v25:=Tryz.zeroValue162
 t39:=Tryz.underlying126
 a39:=Tryz.isAgg126
 z39:=Tryz.sizeOf126
 v39:=Tryz.zeroValue126
 t45:=Tryz.underlying221
 a45:=Tryz.isAgg221
 z45:=Tryz.sizeOf221
 v45:=Tryz.zeroValue221
 t46:=Tryz.underlying222
 a46:=Tryz.isAgg222
 z46:=Tryz.sizeOf222
 v46:=Tryz.zeroValue222
 t50:=Tryz.underlying169
 a50:=Tryz.isAgg169
 z50:=Tryz.sizeOf169
 v50:=Tryz.zeroValue169
 t53:=Tryz.underlying80
 a53:=Tryz.isAgg80
 z53:=Tryz.sizeOf80
 v53:=Tryz.zeroValue80
 t55:=Tryz.underlying179
 a55:=Tryz.isAgg179
 z55:=Tryz.sizeOf179
 v55:=Tryz.zeroValue179
 t66:=Tryz.underlying229
 a66:=Tryz.isAgg229
 z66:=Tryz.sizeOf229
 v66:=Tryz.zeroValue229
 t70:=Tryz.underlying233
 a70:=Tryz.isAgg233
 z70:=Tryz.sizeOf233
 v70:=Tryz.zeroValue233
 t76:=Tryz.underlying235
 a76:=Tryz.isAgg235
 z76:=Tryz.sizeOf235
 v76:=Tryz.zeroValue235
 t77:=Tryz.underlying236
 a77:=Tryz.isAgg236
 z77:=Tryz.sizeOf236
 v77:=Tryz.zeroValue236
def zP5 : Ren where
 f:=fun x=>match x with | 5=>115 | 7=>138|n=>n
 t:=fun x=>match x with | 22=>3 | 3=>3 | 4=>4|n=>n
 g:=fun n=>n
theorem cmpInt : SlLaysC2.n5 Tryz.prog zP5 where
 mixed:=by kernel_rfl
 f5:=⟨Tryz.f115.name,by decide,Tryz.func115.trans (congrArg some (by kernel_rfl))⟩
 f7:=⟨Tryz.f138.name,by decide,Tryz.func138.trans (congrArg some (by kernel_rfl))⟩
 t3:=Tryz.underlying3
 a3:=Tryz.isAgg3
 z3:=Tryz.sizeOf3
 v3:=Tryz.zeroValue3
 t4:=Tryz.underlying4
 a4:=Tryz.isAgg4
 z4:=Tryz.sizeOf4
 v4:=Tryz.zeroValue4
 t22:=Tryz.underlying3
 a22:=Tryz.isAgg3
 z22:=Tryz.sizeOf3
 v22:=Tryz.zeroValue3
end Go.Proofs.YtdigopgncfhiaaaGreatDoor
