/- B12 -/
import Derived.Test.YtdigopgncfhiaaaGreatDoorB1
import Derived.Test.YtdigopgncfhiaaaGreatDoorB10
import Derived.Test.YtdigopgncfhiaaaGreatDoorB8
import Derived.Test.YtdigopgncfhiaaaGreatDoorB11
import Derived.Test.YtdigopgncfhiaaaGreatDoorB6
import Derived.Shelf.SlSortCmp.NoneTotal
import Derived.Shelf.SlicesG.Cmp
set_option linter.unusedSimpArgs false
set_option linter.unusedVariables false
namespace Go.Proofs.YtdigopgncfhiaaaGreatDoor
theorem zRs {p:Prop} (h:p:=by decide):p:=h
open Go.RowKit
set_option maxRecDepth 20000
def zI5 (c:Cov) (pl:List Sli) (z:Bed) (i:Int):List (Nat × Sp):=(List.range (c.hours.length+1)).map fun h=>(h,thickN c pl z i h)
def zGL (x:Nat × Sp):List Value:=[.int .i64 (x.1:Int),vSp x.2]
theorem zFV {c:Cov} {pl:List Sli} {z:Bed} {i:Int}:(zI5 c pl z i).length=c.hours.length+1:=by simp [zI5]
theorem zHz {c:Cov} {pl:List Sli} {z:Bed} {i:Int} {k:Nat} (h:k≤c.hours.length):(zI5 c pl z i)[k]?=some (k,thickN c pl z i k):=by
 simp only [zI5,List.getElem?_map,List.getElem?_range (show k<c.hours.length+1 by omega),Option.map_some]
def zCx (c:Cov) (A:Option Addr) (ca:Nat) (B:Option Addr) (cb:Nat) (C:Option Addr) (cc:Nat) (pl:List Sli) (P:Option Addr) (cp g1 g2 g3 r:Nat) (i:Int):List Ent :=
 [.blk g1 [.pointer (some ⟨r,0,none⟩)],.blk g2 [.int .i64 i],.blk g3 [.slice P pl.length cp],.blk r (zH c A ca B cb C cc)]
set_option maxHeartbeats 4000000 in
theorem days_seq (c:Cov) (A:Option Addr) (ca:Nat) (B:Option Addr) (cb:Nat) (C:Option Addr) (cc:Nat) (pl:List Sli) (P:Option Addr) (cp i g1 g2 g3 r:Nat) (z:Bed) (wb:World) (h:zAl wb c A B C) (hs:Small c) (hf:zBm c) (hp:zBA wb P pl) (hrl:∀ s∈pl,s.xs.length≤20) (hpl:pl.length=c.hours.length) (hz:c.beds[i]?=some z) :
  Seq Tryz.prog 104 [.pointer (some ⟨g1,0,none⟩),.pointer (some ⟨g2,0,none⟩),.pointer (some ⟨g3,0,none⟩)] (zCx c A ca B cb C cc pl P cp g1 g2 g3 r (i:Int)) zGL (zI5 c pl z i) wb:=by
 intro ι l m I Cx go s0 w hwb hI0 hO hm hgo hend hround
 have h4:=hs.b;have h5:=hs.h
 have hb:=h.b;have hpp:=hp.p;have hh:=h.h
 have hzm:=List.mem_of_getElem? hz
 have hi:=(List.getElem?_eq_some_iff.1 hz).1
 have hlay:=hf.layer
 simp only [zAE] at hlay
 have hL:=fun W (hW:Below wb.heap.size wb W) j u (hu:c.hours[j]?=some u) (hr:InC W r 0 (zH c A ca B cb C cc))=>zFG c A ca B cb C cc r i j z u W hr (h.below hW) hs hf hz hu
 obtain ⟨bb,o,rfl,hblt,hc⟩:=hb.at_ hi
 have:InS wb bb o zAX 3 c.beds:=⟨hb⟩
 have:zAP c.beds i z:=⟨hz⟩
 have hh1:=hf.hours
 rw [zx] at hh1
 obtain ⟨b2,o2,rfl,hblt2,hc2⟩:=hpp.at_ (show 0<pl.length by omega)
 have:InS wb b2 o2 zAA 1 pl:=⟨hpp⟩
 unfold vSp at hL
 rw [zFV] at hm hend
 have hround:=fun k s W (hk:k<m)=>hround k (k,thickN c pl z i k) s W hk (zHz zRU)
 unfold zCx zGL vSp at *
 unfold zH at *
 refine zJq (n:=83) hwb hO Tryz.func104 rfl rfl rfl ?_
 refine zB6 (fun _ h=>zBi.1 h) ?_
 simp only [List.cons_append,List.nil_append]
 (repeat' (first|(with_reducible first|refine zI ?_)))
 (refine Two.zAc [] [] [] rfl (show ([]:List Nat).Nodup by decide) (fun _ h=>h) zRW [[],[I0],[I0,I0],[I0,I0,I0],[I0,I0,I0,I0],[O0,O0,O0,O0,O0],[I0,I0,I0,I0,I0,I0],[I0,I0,I0,I0,I0,I0,I0],[I0,I0,I0,I0,I0,I0,I0,I0],[O0,O0,O0,O0,O0,O0,O0,O0,O0],[I0,I0,I0,I0,I0,I0,I0,I0,I0,I0]] zRW zRW zRW zRW zRW ?_)
 (repeat' (first|(((with_reducible refine Two.zCT ?_ ?_);(· exact rfl);refine ⟨_,fun G=>zRa,?_⟩);first|refine Two.zX _ (fun _=>zy rfl rfl zRe) (fun _=>rfl) rfl zRR ?_|(refine Two.zAU rfl ?_;refine Two.zX _ (fun _=>zAJ rfl rfl) (fun _=>rfl) rfl zRR ?_)|refine Two.zX _ (fun _=>zAO (I:=i) rfl rfl rfl rfl zRU) (fun _=>rfl) rfl zRm ?_|refine Two.zX _ (fun _=>zAY rfl rfl) (fun _=>rfl) rfl zRR ?_|refine Two.zH4 rfl (fun _=>rfl) rfl ?_)|((with_reducible refine Two.zBU ?_ ?_);(· exact rfl))))
 (intro G;simp only [regsT,zAG,Two.zBZ,Two.ini,List.nil_append,List.cons_append])
 (repeat' (first|((with_reducible refine zG ?_);first|refine zE rfl rfl rfl rfl rfl ?_|(refine zK rfl rfl rfl rfl rfl ?_;refine ⟨_,rfl,?_⟩)|refine zd rfl rfl rfl rfl rfl ?_|refine zp rfl rfl rfl rfl rfl ?_|(refine zf rfl rfl rfl rfl rfl ?_;refine And.intro rfl (And.intro zRY ⟨_,rfl,?_⟩))|refine zBI rfl rfl rfl rfl rfl ?_)|(with_reducible first|refine zI ?_|refine zB ?_|refine zD ?_|refine zA ?_|refine zN ?_)))
 simp only [Nat.zero_add,Nat.reduceAdd]
 generalize (G 9).g=bt
 have hm0:0<m:=by omega
 refine zq (ι:=Nat × ι) [0,1,2,3,5,22] rfl (fun q=>q.1≤c.hours.length∧q.1<m∧I q.1 q.2) (fun q=>[(23,.int .i64 (q.1:Int))]) (fun q=>.blk bt (zBX (thickN c pl z i q.1))::(zCx c A ca (some ⟨bb,o,none⟩) cb C cc pl (some ⟨b2,o2,none⟩) cp g1 g2 g3 r (i:Int)++[.all (Cx q.2),.oldx w wb.heap.size (feet (zCx c A ca (some ⟨bb,o,none⟩) cb C cc pl (some ⟨b2,o2,none⟩) cp g1 g2 g3 r (i:Int)++Cx s0))])) (fun q=>c.hours.length - q.1) (0,s0) ⟨Nat.zero_le _,hm0,hI0⟩ zRS zRQ ?_
 rintro ⟨k,s⟩ ⟨hk,hkm,hIk⟩
 simp only at hk hkm hIk
 have hY:=fun W=>hround k s W hkm hIk
 clear hround
 simp only [zAn,zCx,zH,List.cons_append,List.nil_append]
 by_cases hlt:k<c.hours.length
 ·obtain ⟨u,hu⟩:∃ u,c.hours[k]?=some u:=⟨_,List.getElem?_eq_getElem zRU⟩
  obtain ⟨sl,hsk⟩:∃ s,pl[k]?=some s:=⟨_,List.getElem?_eq_getElem zRU⟩
  have hsm:=List.mem_of_getElem? hsk
  have hrow:=hp.rows sl hsm
  have hsl:=hrl sl hsm
  have hin:=zF1 (pl:=pl) (i:=i) hf hzm k zRU
  have hlin:=zFB hf hzm (List.mem_of_getElem? hu)
  have e1:thickN c pl z i (k+1)=layered c (sl.xs.contains (i:Int)) (thinned (thickN c pl z i k) (zBB c z u)):=by simp only [thickN,zAS hu,zAS hsk]
  generalize thickN c pl z i k=t at *
  have hL:=fun W hW=>hL W hW k u hu
  generalize zBB c z u=lo at *
  obtain ⟨sA,xs,sc⟩:=sl
  simp only at hrow hsl e1
  have hH:=fun W (hW:Below wb.heap.size wb W)=>zH0 xs (i:Int) sA sc W (hrow.below hW) zRU
  have:zAP pl k ⟨sA,xs,sc⟩:=⟨hsk⟩
  generalize xs.contains (i:Int)=on at *
  cases hgk:go k
  ·simp only [hgk] at hY
   unfold zBX
   (repeat' (first|((with_reducible refine zG ?_);first|refine zE rfl rfl rfl rfl rfl ?_|refine zC rfl rfl rfl rfl rfl ?_|(refine zK rfl rfl rfl rfl rfl ?_;refine ⟨_,rfl,?_⟩)|(refine zQ rfl rfl rfl rfl rfl rfl rfl (fun h=>?_) (fun h=>?_)<;>(dsimp only [cmpP] at h;(try (exfalso;omega))))|(refine zGT (D:=zCx c A ca (some ⟨bb,o,none⟩) cb C cc pl (some ⟨b2,o2,none⟩) cp g1 g2 g3 r (i:Int)) (L:=Cx s) (C:=Cx) (p:=I (k+1)) (go:=false) rfl rfl rfl rfl rfl rfl [.blk bt (zBX t),.oldx w wb.heap.size (feet (zCx c A ca (some ⟨bb,o,none⟩) cb C cc pl (some ⟨b2,o2,none⟩) cp g1 g2 g3 r (i:Int)++Cx s0))] zRQ (fun _ W q=>hY W q.below (Own.append.1 (zBi.2 q.own)).1) ?_;rintro s' hs';simp only [zCx,zH,List.cons_append,List.nil_append])|refine zAf rfl rfl rfl rfl rfl ?_)|(with_reducible first|refine zI ?_|refine zB ?_|refine zD ?_|refine zA ?_|refine za ?_|refine zP ?_|refine zb ?_|refine zN ?_|refine zAv ?_)|((with_reducible refine zJ ?_ ?_);(· exact rfl))))
   have hmk:m=k+1:=by
    rcases Nat.lt_or_ge (k+1) m with h9|h9
    ·have:=hgo k h9;rw [hgk] at this;cases this
    ·omega
   exact zJF (vs:=[]) zO.nil s' (hmk ▸ hs') rfl hwb (fun W9 h=>zBi.2 (show Own wb.heap.size W9 (zCx c A ca (some ⟨bb,o,none⟩) cb C cc pl (some ⟨b2,o2,none⟩) cp g1 g2 g3 r (i:Int) ++ .all (Cx s')::[.oldx w wb.heap.size (feet (zCx c A ca (some ⟨bb,o,none⟩) cb C cc pl (some ⟨b2,o2,none⟩) cp g1 g2 g3 r (i:Int)++Cx s0))]) from h.sub zRQ))
  ·simp only [hgk] at hY
   have hmk:k+1<m:=by
    rcases hend with h9 | ⟨h9,h10⟩
    ·omega
    ·rcases Nat.lt_or_ge (k+1) m with h11|h11
     ·exact h11
     ·have:m - 1=k:=by omega
      rw [this,hgk] at h10;cases h10
   unfold zBX
   (repeat' (first|((with_reducible refine zG ?_);first|refine zE rfl rfl rfl rfl rfl ?_|refine zC rfl rfl rfl rfl rfl ?_|(refine zK rfl rfl rfl rfl rfl ?_;refine ⟨_,rfl,?_⟩)|refine zd rfl rfl rfl rfl rfl ?_|(refine zQ rfl rfl rfl rfl rfl rfl rfl (fun h=>?_) (fun h=>?_)<;>(dsimp only [cmpP] at h;(try (exfalso;omega))))|(refine zGT (D:=zCx c A ca (some ⟨bb,o,none⟩) cb C cc pl (some ⟨b2,o2,none⟩) cp g1 g2 g3 r (i:Int)) (L:=Cx s) (C:=Cx) (p:=I (k+1)) (go:=true) rfl rfl rfl rfl rfl rfl [.blk bt (zBX t),.oldx w wb.heap.size (feet (zCx c A ca (some ⟨bb,o,none⟩) cb C cc pl (some ⟨b2,o2,none⟩) cp g1 g2 g3 r (i:Int)++Cx s0))] zRQ (fun _ W q=>hY W q.below (Own.append.1 (zBi.2 q.own)).1) ?_;rintro s' hs';simp only [zCx,zH,List.cons_append,List.nil_append];unfold zBX)|refine zV rfl rfl rfl rfl rfl rfl (fun _ _ q=>hL _ q.below (zBf q.own (Below.refl _ _) rfl)) ?_|refine zAf rfl rfl rfl rfl rfl ?_|refine zCc rfl rfl rfl rfl rfl rfl (IntWalk.i64_in _ zRU) ?_|(refine zf rfl rfl rfl rfl rfl ?_;refine And.intro rfl (And.intro zRY ⟨_,rfl,?_⟩))|(refine zr rfl rfl rfl rfl (fun b=>?_))|(refine zBC rfl rfl rfl rfl rfl ?_;refine ⟨_,rfl,?_⟩)|refine zJX rfl rfl rfl rfl rfl rfl ?_)|(with_reducible first|refine zI ?_|refine zB ?_|refine zD ?_|refine zA ?_|refine zP ?_|refine zN ?_)|((with_reducible refine zJ ?_ ?_);(· exact rfl))|((with_reducible refine zF ?_ ?_);(· exact rfl))))
   (refine zAr zRW zRW zRW ?_)
   (repeat' (first|((with_reducible refine zBD ?_);first|refine zW (zAM rfl rfl) rfl rfl rfl ?_|refine zW (zy rfl rfl zRe) rfl rfl rfl ?_|refine zW (zAO (I:=k) rfl rfl rfl zRU zRj) rfl rfl rfl ?_|(refine zHe rfl rfl rfl rfl rfl rfl (fun _ _ q=>hH _ q.below) (fun h=>?_) (fun h=>?_)))|(with_reducible refine zBw ?_)))
   ·(repeat' (first|(with_reducible first|refine zA ?_)|((with_reducible refine zJ ?_ ?_);(· exact rfl))))
    (refine Two.zAc [] [] [] rfl (show ([]:List Nat).Nodup by decide) (fun _ h=>h) zRW [[],[I0],[O0,O0],[I0,O0,O0],[I0,I0,O0,O0],[I0,I0,I0,O0,O0],[I0,I0,I0,I0,O0,O0],[I0,I0,I0,I0,I0,O0,O0],[I0,I0,I0,I0,I0,I0,I0,I0],[O0,O0,O0,O0,O0,O0,O0,O0,O0],[I0,O0,O0,O0,O0,O0,O0,O0,O0,O0],[O0,O0,O0,O0,O0,O0,O0,O0,O0,O0,O0],[I0,O0,O0,O0,O0,O0,O0,O0,O0,O0,O0,O0],[I0,I0,O0,O0,O0,O0,O0,O0,O0,O0,O0,O0,O0],[I0,I0,I0,O0,O0,O0,O0,O0,O0,O0,O0,O0,O0,O0],[I0,I0,I0,I0,O0,O0,O0,O0,O0,O0,O0,O0,O0,O0,O0],[I0,I0,I0,I0,I0,O0,O0,O0,O0,O0,O0,O0,O0,O0,O0,O0],[I0,I0,I0,I0,I0,I0,I0,I0,O0,O0,O0,O0,O0,O0,O0,O0,O0],[I0,I0,I0,I0,I0,I0,I0,I0,I0,I0,I0,I0,I0,I0,I0,I0,I0,I0],[I0,I0,I0,I0,I0,I0,I0,I0,I0,I0,I0,I0,I0,I0,I0,I0,I0,I0,I0]] zRW zRW zRW zRW zRW ?_)
    (repeat' (first|(((with_reducible refine Two.zCT ?_ ?_);(· exact rfl);refine ⟨_,fun G=>zRa,?_⟩);first|refine Two.zX _ (fun _=>zy rfl rfl zRe) (fun _=>rfl) rfl zRR ?_|(refine Two.zAU rfl ?_;refine Two.zX _ (fun _=>zAJ rfl rfl) (fun _=>rfl) rfl zRR ?_)|refine Two.zX _ (fun _=>zDS rfl rfl rfl (IntWalk.i64_in _ zRU)) (fun _=>rfl) rfl zRR ?_|refine Two.zX _ (fun _=>zAY rfl rfl) (fun _=>rfl) rfl zRR ?_|refine Two.zX _ (fun _=>zD1 rfl rfl zRe) (fun _=>rfl) rfl zRR ?_)|((with_reducible refine Two.zBU ?_ ?_);(· exact rfl))))
    (intro G;simp only [regsT,zAG,Two.zBZ,Two.ini,List.nil_append,List.cons_append])
    (repeat' (first|((with_reducible refine zG ?_);first|refine zE rfl rfl rfl rfl rfl ?_|refine zg rfl rfl rfl rfl rfl rfl zRU ?_|(refine zf rfl rfl rfl rfl rfl ?_;refine And.intro rfl (And.intro zRY ⟨_,rfl,?_⟩)))|(with_reducible first|refine zB ?_|refine zD ?_|refine zA ?_|refine zi ?_)))
    exact zc (k+1,s') ⟨by omega,hmk,hs'⟩ zRi zRS (by
     dsimp only
     rw [e1]
     subst h
     simp only [layered,thinned,if_true,if_false,Bool.false_eq_true]
     (repeat (first|exact oK1 _|(refine oK2 zRT ?_))))
   ·(repeat' (first|((with_reducible refine zG ?_);first|refine zE rfl rfl rfl rfl rfl ?_|refine zg rfl rfl rfl rfl rfl rfl zRU ?_)|(with_reducible first|refine zB ?_|refine zD ?_|refine zA ?_|refine zP ?_|refine zi ?_)|((with_reducible refine zF ?_ ?_);(· exact rfl))))
    exact zc (k+1,s') ⟨by omega,hmk,hs'⟩ zRi zRS (by
     dsimp only
     rw [e1]
     subst h
     simp only [layered,thinned,if_true,if_false,Bool.false_eq_true]
     (repeat (first|exact oK1 _|(refine oK2 zRT ?_))))
 ·obtain rfl:k=c.hours.length:=by omega
  (repeat' (first|((with_reducible refine zG ?_);first|(refine zQ rfl rfl rfl rfl rfl rfl rfl (fun h=>?_) (fun h=>?_)<;>(dsimp only [cmpP] at h;(try (exfalso;omega)))))|(with_reducible first|refine zI ?_|refine zB ?_|refine zD ?_|refine zA ?_|refine zk ?_|refine zR ?_|refine zY ?_)|((with_reducible refine zF ?_ ?_);(· exact rfl))))
  (refine Two.zAc [] [] [] rfl (show ([]:List Nat).Nodup by decide) (fun _ h=>h) zRW [[],[O0],[I0,O0],[I0,I0,O0],[I0,I0,I0,O0],[I0,I0,I0,I0,O0],[I0,I0,I0,I0,I0,O0],[O0,O0,O0,O0,O0,O0,O0],[I0,I0,I0,I0,I0,I0,I0,I0]] zRW zRW zRW zRW zRW ?_)
  (repeat' (first|(((with_reducible refine Two.zCT ?_ ?_);(· exact rfl);refine ⟨_,fun G=>zRa,?_⟩);first|refine Two.zX _ (fun _=>zAM rfl rfl) (fun _=>rfl) rfl zRR ?_|refine Two.zX _ (fun _=>zy rfl rfl zRe) (fun _=>rfl) rfl zRR ?_|(refine Two.zAU rfl ?_;refine Two.zX _ (fun _=>zAJ rfl rfl) (fun _=>rfl) rfl zRR ?_)|refine Two.zX _ (fun _=>zDR rfl rfl) (fun _=>rfl) rfl zRR ?_|refine Two.zX _ (fun _=>zAY rfl rfl) (fun _=>rfl) rfl zRR ?_)|((with_reducible refine Two.zBU ?_ ?_);(· exact rfl))))
  (intro G;simp only [regsT,zAG,Two.zBZ,Two.ini,List.nil_append,List.cons_append])
  unfold zBX
  (repeat' (first|((with_reducible refine zG ?_);first|(refine zGT (D:=zCx c A ca (some ⟨bb,o,none⟩) cb C cc pl (some ⟨b2,o2,none⟩) cp g1 g2 g3 r (i:Int)) (L:=Cx s) (C:=Cx) (p:=I (c.hours.length+1)) (go:=go c.hours.length) rfl rfl rfl rfl rfl rfl [.blk bt (zBX (thickN c pl z i c.hours.length)),.oldx w wb.heap.size (feet (zCx c A ca (some ⟨bb,o,none⟩) cb C cc pl (some ⟨b2,o2,none⟩) cp g1 g2 g3 r (i:Int)++Cx s0))] zRQ (fun _ W q=>hY W q.below (Own.append.1 (zBi.2 q.own)).1) ?_;rintro s' hs';simp only [zCx,zH,List.cons_append,List.nil_append]))|(with_reducible first|refine zD ?_)))
  refine u_endG ?_
  have hmk:m=c.hours.length+1:=by omega
  exact zJF (vs:=[]) zO.nil s' (hmk ▸ hs') rfl hwb (fun W9 h=>zBi.2 (show Own wb.heap.size W9 (zCx c A ca (some ⟨bb,o,none⟩) cb C cc pl (some ⟨b2,o2,none⟩) cp g1 g2 g3 r (i:Int) ++ .all (Cx s')::[.oldx w wb.heap.size (feet (zCx c A ca (some ⟨bb,o,none⟩) cb C cc pl (some ⟨b2,o2,none⟩) cp g1 g2 g3 r (i:Int)++Cx s0))]) from h.sub zRQ))
def zCw (c:Cov) (A:Option Addr) (ca:Nat) (B:Option Addr) (cb:Nat) (C:Option Addr) (cc:Nat) (pl:List Sli) (P:Option Addr) (cp g1 g2 g3 r:Nat) (i:Int):List Ent :=
 [.blk g1 [.pointer (some ⟨r,0,none⟩)],.blk g2 [.int .i64 i],.blk g3 [.slice P pl.length cp]]
set_option maxHeartbeats 4000000 in
theorem zRH (c:Cov) (A:Option Addr) (ca:Nat) (B:Option Addr) (cb:Nat) (C:Option Addr) (cc:Nat) (pl:List Sli) (P:Option Addr) (cp i g1 g2 g3 r:Nat) (z:Bed) (wb:World) (hr:InC wb r 0 (zH c A ca B cb C cc)) (h:zAl wb c A B C) (hs:Small c) (hf:zBm c) (hp:zBA wb P pl) (hrl:∀ s∈pl,s.xs.length≤20) (hpl:pl.length=c.hours.length) (hz:c.beds[i]?=some z) :
  Seq Tryz.prog 104 [.pointer (some ⟨g1,0,none⟩),.pointer (some ⟨g2,0,none⟩),.pointer (some ⟨g3,0,none⟩)] (zCw c A ca B cb C cc pl P cp g1 g2 g3 r (i:Int)) zGL (zI5 c pl z i) wb:=by
 intro ι l m I Cx go s0 w hwb hI0 hO hm hgo hend hround
 have h4:=hs.b;have h5:=hs.h
 have hb:=h.b;have hpp:=hp.p;have hh:=h.h
 have hzm:=List.mem_of_getElem? hz
 have hi:=(List.getElem?_eq_some_iff.1 hz).1
 have hlay:=hf.layer
 simp only [zAE] at hlay
 have hL:=fun W (hW:Below wb.heap.size wb W) j u (hu:c.hours[j]?=some u) (hr:InC W r 0 (zH c A ca B cb C cc))=>zFG c A ca B cb C cc r i j z u W hr (h.below hW) hs hf hz hu
 obtain ⟨bb,o,rfl,hblt,hc⟩:=hb.at_ hi
 have:InS wb bb o zAX 3 c.beds:=⟨hb⟩
 have:zAP c.beds i z:=⟨hz⟩
 have hh1:=hf.hours
 rw [zx] at hh1
 obtain ⟨b2,o2,rfl,hblt2,hc2⟩:=hpp.at_ (show 0<pl.length by omega)
 have:InS wb b2 o2 zAA 1 pl:=⟨hpp⟩
 unfold vSp at hL
 rw [zFV] at hm hend
 have hround:=fun k s W (hk:k<m)=>hround k (k,thickN c pl z i k) s W hk (zHz zRU)
 unfold zCw zGL vSp at *
 unfold zH at *
 refine zJq (n:=83) hwb hO Tryz.func104 rfl rfl rfl ?_
 refine zB6 (fun _ h=>zBi.1 h) ?_
 simp only [List.cons_append,List.nil_append]
 (repeat' (first|(with_reducible first|refine zI ?_)))
 (refine Two.zAc [] [] [] rfl (show ([]:List Nat).Nodup by decide) (fun _ h=>h) zRW [[],[I0],[I0,I0],[I0,I0,I0],[I0,I0,I0,I0],[O0,O0,O0,O0,O0],[I0,I0,I0,I0,I0,I0],[I0,I0,I0,I0,I0,I0,I0],[I0,I0,I0,I0,I0,I0,I0,I0],[O0,O0,O0,O0,O0,O0,O0,O0,O0],[I0,I0,I0,I0,I0,I0,I0,I0,I0,I0]] zRW zRW zRW zRW zRW ?_)
 (repeat' (first|(((with_reducible refine Two.zCT ?_ ?_);(· exact rfl);refine ⟨_,fun G=>zRa,?_⟩);first|refine Two.zX _ (fun _=>zy rfl rfl zRe) (fun _=>rfl) rfl zRR ?_|(refine Two.zAU rfl ?_;refine Two.zX _ (fun _=>zAJ rfl rfl) (fun _=>rfl) rfl zRR ?_)|refine Two.zX _ (fun _=>zAO (I:=i) rfl rfl rfl rfl zRU) (fun _=>rfl) rfl zRm ?_|refine Two.zX _ (fun _=>zAY rfl rfl) (fun _=>rfl) rfl zRR ?_|refine Two.zH4 rfl (fun _=>rfl) rfl ?_)|((with_reducible refine Two.zBU ?_ ?_);(· exact rfl))))
 (intro G;simp only [regsT,zAG,Two.zBZ,Two.ini,List.nil_append,List.cons_append])
 (repeat' (first|((with_reducible refine zG ?_);first|refine zE rfl rfl rfl rfl rfl ?_|(refine zK rfl rfl rfl rfl rfl ?_;refine ⟨_,rfl,?_⟩)|refine zd rfl rfl rfl rfl rfl ?_|refine zp rfl rfl rfl rfl rfl ?_|(refine zf rfl rfl rfl rfl rfl ?_;refine And.intro rfl (And.intro zRY ⟨_,rfl,?_⟩))|refine zBI rfl rfl rfl rfl rfl ?_)|(with_reducible first|refine zI ?_|refine zB ?_|refine zD ?_|refine zA ?_|refine zN ?_)))
 simp only [Nat.zero_add,Nat.reduceAdd]
 generalize (G 9).g=bt
 have hm0:0<m:=by omega
 refine zq (ι:=Nat × ι) [0,1,2,3,5,22] rfl (fun q=>q.1≤c.hours.length∧q.1<m∧I q.1 q.2) (fun q=>[(23,.int .i64 (q.1:Int))]) (fun q=>.blk bt (zBX (thickN c pl z i q.1))::(zCw c A ca (some ⟨bb,o,none⟩) cb C cc pl (some ⟨b2,o2,none⟩) cp g1 g2 g3 r (i:Int)++[.all (Cx q.2),.oldx w wb.heap.size (feet (zCw c A ca (some ⟨bb,o,none⟩) cb C cc pl (some ⟨b2,o2,none⟩) cp g1 g2 g3 r (i:Int)++Cx s0))])) (fun q=>c.hours.length - q.1) (0,s0) ⟨Nat.zero_le _,hm0,hI0⟩ zRS zRQ ?_
 rintro ⟨k,s⟩ ⟨hk,hkm,hIk⟩
 simp only at hk hkm hIk
 have hY:=fun W=>hround k s W hkm hIk
 clear hround
 simp only [zAn,zCw,zH,List.cons_append,List.nil_append]
 by_cases hlt:k<c.hours.length
 ·obtain ⟨u,hu⟩:∃ u,c.hours[k]?=some u:=⟨_,List.getElem?_eq_getElem zRU⟩
  obtain ⟨sl,hsk⟩:∃ s,pl[k]?=some s:=⟨_,List.getElem?_eq_getElem zRU⟩
  have hsm:=List.mem_of_getElem? hsk
  have hrow:=hp.rows sl hsm
  have hsl:=hrl sl hsm
  have hin:=zF1 (pl:=pl) (i:=i) hf hzm k zRU
  have hlin:=zFB hf hzm (List.mem_of_getElem? hu)
  have e1:thickN c pl z i (k+1)=layered c (sl.xs.contains (i:Int)) (thinned (thickN c pl z i k) (zBB c z u)):=by simp only [thickN,zAS hu,zAS hsk]
  generalize thickN c pl z i k=t at *
  have hL:=fun W hW=>hL W hW k u hu
  generalize zBB c z u=lo at *
  obtain ⟨sA,xs,sc⟩:=sl
  simp only at hrow hsl e1
  have hH:=fun W (hW:Below wb.heap.size wb W)=>zH0 xs (i:Int) sA sc W (hrow.below hW) zRU
  have:zAP pl k ⟨sA,xs,sc⟩:=⟨hsk⟩
  generalize xs.contains (i:Int)=on at *
  cases hgk:go k
  ·simp only [hgk] at hY
   unfold zBX
   (repeat' (first|((with_reducible refine zG ?_);first|refine zE rfl rfl rfl rfl rfl ?_|refine zC rfl rfl rfl rfl rfl ?_|(refine zK rfl rfl rfl rfl rfl ?_;refine ⟨_,rfl,?_⟩)|(refine zQ rfl rfl rfl rfl rfl rfl rfl (fun h=>?_) (fun h=>?_)<;>(dsimp only [cmpP] at h;(try (exfalso;omega))))|(refine zGT (D:=zCw c A ca (some ⟨bb,o,none⟩) cb C cc pl (some ⟨b2,o2,none⟩) cp g1 g2 g3 r (i:Int)) (L:=Cx s) (C:=Cx) (p:=I (k+1)) (go:=false) rfl rfl rfl rfl rfl rfl [.blk bt (zBX t),.oldx w wb.heap.size (feet (zCw c A ca (some ⟨bb,o,none⟩) cb C cc pl (some ⟨b2,o2,none⟩) cp g1 g2 g3 r (i:Int)++Cx s0))] zRQ (fun _ W q=>hY W q.below (Own.append.1 (zBi.2 q.own)).1) ?_;rintro s' hs';simp only [zCw,zH,List.cons_append,List.nil_append])|refine zAf rfl rfl rfl rfl rfl ?_)|(with_reducible first|refine zI ?_|refine zB ?_|refine zD ?_|refine zA ?_|refine za ?_|refine zP ?_|refine zb ?_|refine zN ?_|refine zAv ?_)|((with_reducible refine zJ ?_ ?_);(· exact rfl))))
   have hmk:m=k+1:=by
    rcases Nat.lt_or_ge (k+1) m with h9|h9
    ·have:=hgo k h9;rw [hgk] at this;cases this
    ·omega
   exact zJF (vs:=[]) zO.nil s' (hmk ▸ hs') rfl hwb (fun W9 h=>zBi.2 (show Own wb.heap.size W9 (zCw c A ca (some ⟨bb,o,none⟩) cb C cc pl (some ⟨b2,o2,none⟩) cp g1 g2 g3 r (i:Int) ++ .all (Cx s')::[.oldx w wb.heap.size (feet (zCw c A ca (some ⟨bb,o,none⟩) cb C cc pl (some ⟨b2,o2,none⟩) cp g1 g2 g3 r (i:Int)++Cx s0))]) from h.sub zRQ))
  ·simp only [hgk] at hY
   have hmk:k+1<m:=by
    rcases hend with h9 | ⟨h9,h10⟩
    ·omega
    ·rcases Nat.lt_or_ge (k+1) m with h11|h11
     ·exact h11
     ·have:m - 1=k:=by omega
      rw [this,hgk] at h10;cases h10
   unfold zBX
   (repeat' (first|((with_reducible refine zG ?_);first|refine zE rfl rfl rfl rfl rfl ?_|refine zC rfl rfl rfl rfl rfl ?_|(refine zK rfl rfl rfl rfl rfl ?_;refine ⟨_,rfl,?_⟩)|refine zd rfl rfl rfl rfl rfl ?_|(refine zQ rfl rfl rfl rfl rfl rfl rfl (fun h=>?_) (fun h=>?_)<;>(dsimp only [cmpP] at h;(try (exfalso;omega))))|(refine zGT (D:=zCw c A ca (some ⟨bb,o,none⟩) cb C cc pl (some ⟨b2,o2,none⟩) cp g1 g2 g3 r (i:Int)) (L:=Cx s) (C:=Cx) (p:=I (k+1)) (go:=true) rfl rfl rfl rfl rfl rfl [.blk bt (zBX t),.oldx w wb.heap.size (feet (zCw c A ca (some ⟨bb,o,none⟩) cb C cc pl (some ⟨b2,o2,none⟩) cp g1 g2 g3 r (i:Int)++Cx s0))] zRQ (fun _ W q=>hY W q.below (Own.append.1 (zBi.2 q.own)).1) ?_;rintro s' hs';simp only [zCw,zH,List.cons_append,List.nil_append];unfold zBX)|refine zV rfl rfl rfl rfl rfl rfl (fun _ _ q=>hL _ q.below (hr.below q.below)) ?_|refine zAf rfl rfl rfl rfl rfl ?_|refine zCc rfl rfl rfl rfl rfl rfl (IntWalk.i64_in _ zRU) ?_|(refine zf rfl rfl rfl rfl rfl ?_;refine And.intro rfl (And.intro zRY ⟨_,rfl,?_⟩))|(refine zr rfl rfl rfl rfl (fun b=>?_))|(refine zBC rfl rfl rfl rfl rfl ?_;refine ⟨_,rfl,?_⟩)|refine zJX rfl rfl rfl rfl rfl rfl ?_)|(with_reducible first|refine zI ?_|refine zB ?_|refine zD ?_|refine zA ?_|refine zP ?_|refine zN ?_)|((with_reducible refine zJ ?_ ?_);(· exact rfl))|((with_reducible refine zF ?_ ?_);(· exact rfl))))
   (refine zAr zRW zRW zRW ?_)
   (repeat' (first|((with_reducible refine zBD ?_);first|refine zW (zAM rfl rfl) rfl rfl rfl ?_|refine zW (zy rfl rfl zRe) rfl rfl rfl ?_|refine zW (zAO (I:=k) rfl rfl rfl zRU zRj) rfl rfl rfl ?_|(refine zHe rfl rfl rfl rfl rfl rfl (fun _ _ q=>hH _ q.below) (fun h=>?_) (fun h=>?_)))|(with_reducible refine zBw ?_)))
   ·(repeat' (first|(with_reducible first|refine zA ?_)|((with_reducible refine zJ ?_ ?_);(· exact rfl))))
    (refine Two.zAc [] [] [] rfl (show ([]:List Nat).Nodup by decide) (fun _ h=>h) zRW [[],[I0],[O0,O0],[I0,O0,O0],[I0,I0,O0,O0],[I0,I0,I0,O0,O0],[I0,I0,I0,I0,O0,O0],[I0,I0,I0,I0,I0,O0,O0],[I0,I0,I0,I0,I0,I0,I0,I0],[O0,O0,O0,O0,O0,O0,O0,O0,O0],[I0,O0,O0,O0,O0,O0,O0,O0,O0,O0],[O0,O0,O0,O0,O0,O0,O0,O0,O0,O0,O0],[I0,O0,O0,O0,O0,O0,O0,O0,O0,O0,O0,O0],[I0,I0,O0,O0,O0,O0,O0,O0,O0,O0,O0,O0,O0],[I0,I0,I0,O0,O0,O0,O0,O0,O0,O0,O0,O0,O0,O0],[I0,I0,I0,I0,O0,O0,O0,O0,O0,O0,O0,O0,O0,O0,O0],[I0,I0,I0,I0,I0,O0,O0,O0,O0,O0,O0,O0,O0,O0,O0,O0],[I0,I0,I0,I0,I0,I0,I0,I0,O0,O0,O0,O0,O0,O0,O0,O0,O0],[I0,I0,I0,I0,I0,I0,I0,I0,I0,I0,I0,I0,I0,I0,I0,I0,I0,I0],[I0,I0,I0,I0,I0,I0,I0,I0,I0,I0,I0,I0,I0,I0,I0,I0,I0,I0,I0]] zRW zRW zRW zRW zRW ?_)
    (repeat' (first|(((with_reducible refine Two.zCT ?_ ?_);(· exact rfl);refine ⟨_,fun G=>zRa,?_⟩);first|refine Two.zX _ (fun _=>zy rfl rfl zRe) (fun _=>rfl) rfl zRR ?_|(refine Two.zAU rfl ?_;refine Two.zX _ (fun _=>zAJ rfl rfl) (fun _=>rfl) rfl zRR ?_)|refine Two.zX _ (fun _=>zDS rfl rfl rfl (IntWalk.i64_in _ zRU)) (fun _=>rfl) rfl zRR ?_|refine Two.zX _ (fun _=>zAY rfl rfl) (fun _=>rfl) rfl zRR ?_|refine Two.zX _ (fun _=>zD1 rfl rfl zRe) (fun _=>rfl) rfl zRR ?_)|((with_reducible refine Two.zBU ?_ ?_);(· exact rfl))))
    (intro G;simp only [regsT,zAG,Two.zBZ,Two.ini,List.nil_append,List.cons_append])
    (repeat' (first|((with_reducible refine zG ?_);first|refine zE rfl rfl rfl rfl rfl ?_|refine zg rfl rfl rfl rfl rfl rfl zRU ?_|(refine zf rfl rfl rfl rfl rfl ?_;refine And.intro rfl (And.intro zRY ⟨_,rfl,?_⟩)))|(with_reducible first|refine zB ?_|refine zD ?_|refine zA ?_|refine zi ?_)))
    exact zc (k+1,s') ⟨by omega,hmk,hs'⟩ zRi zRS (by
     dsimp only
     rw [e1]
     subst h
     simp only [layered,thinned,if_true,if_false,Bool.false_eq_true]
     (repeat (first|exact oK1 _|(refine oK2 zRT ?_))))
   ·(repeat' (first|((with_reducible refine zG ?_);first|refine zE rfl rfl rfl rfl rfl ?_|refine zg rfl rfl rfl rfl rfl rfl zRU ?_)|(with_reducible first|refine zB ?_|refine zD ?_|refine zA ?_|refine zP ?_|refine zi ?_)|((with_reducible refine zF ?_ ?_);(· exact rfl))))
    exact zc (k+1,s') ⟨by omega,hmk,hs'⟩ zRi zRS (by
     dsimp only
     rw [e1]
     subst h
     simp only [layered,thinned,if_true,if_false,Bool.false_eq_true]
     (repeat (first|exact oK1 _|(refine oK2 zRT ?_))))
 ·obtain rfl:k=c.hours.length:=by omega
  (repeat' (first|((with_reducible refine zG ?_);first|(refine zQ rfl rfl rfl rfl rfl rfl rfl (fun h=>?_) (fun h=>?_)<;>(dsimp only [cmpP] at h;(try (exfalso;omega)))))|(with_reducible first|refine zI ?_|refine zB ?_|refine zD ?_|refine zA ?_|refine zk ?_|refine zR ?_|refine zY ?_)|((with_reducible refine zF ?_ ?_);(· exact rfl))))
  (refine Two.zAc [] [] [] rfl (show ([]:List Nat).Nodup by decide) (fun _ h=>h) zRW [[],[O0],[I0,O0],[I0,I0,O0],[I0,I0,I0,O0],[I0,I0,I0,I0,O0],[I0,I0,I0,I0,I0,O0],[O0,O0,O0,O0,O0,O0,O0],[I0,I0,I0,I0,I0,I0,I0,I0]] zRW zRW zRW zRW zRW ?_)
  (repeat' (first|(((with_reducible refine Two.zCT ?_ ?_);(· exact rfl);refine ⟨_,fun G=>zRa,?_⟩);first|refine Two.zX _ (fun _=>zAM rfl rfl) (fun _=>rfl) rfl zRR ?_|refine Two.zX _ (fun _=>zy rfl rfl zRe) (fun _=>rfl) rfl zRR ?_|(refine Two.zAU rfl ?_;refine Two.zX _ (fun _=>zAJ rfl rfl) (fun _=>rfl) rfl zRR ?_)|refine Two.zX _ (fun _=>zDR rfl rfl) (fun _=>rfl) rfl zRR ?_|refine Two.zX _ (fun _=>zAY rfl rfl) (fun _=>rfl) rfl zRR ?_)|((with_reducible refine Two.zBU ?_ ?_);(· exact rfl))))
  (intro G;simp only [regsT,zAG,Two.zBZ,Two.ini,List.nil_append,List.cons_append])
  unfold zBX
  (repeat' (first|((with_reducible refine zG ?_);first|(refine zGT (D:=zCw c A ca (some ⟨bb,o,none⟩) cb C cc pl (some ⟨b2,o2,none⟩) cp g1 g2 g3 r (i:Int)) (L:=Cx s) (C:=Cx) (p:=I (c.hours.length+1)) (go:=go c.hours.length) rfl rfl rfl rfl rfl rfl [.blk bt (zBX (thickN c pl z i c.hours.length)),.oldx w wb.heap.size (feet (zCw c A ca (some ⟨bb,o,none⟩) cb C cc pl (some ⟨b2,o2,none⟩) cp g1 g2 g3 r (i:Int)++Cx s0))] zRQ (fun _ W q=>hY W q.below (Own.append.1 (zBi.2 q.own)).1) ?_;rintro s' hs';simp only [zCw,zH,List.cons_append,List.nil_append]))|(with_reducible first|refine zD ?_)))
  refine u_endG ?_
  have hmk:m=c.hours.length+1:=by omega
  exact zJF (vs:=[]) zO.nil s' (hmk ▸ hs') rfl hwb (fun W9 h=>zBi.2 (show Own wb.heap.size W9 (zCw c A ca (some ⟨bb,o,none⟩) cb C cc pl (some ⟨b2,o2,none⟩) cp g1 g2 g3 r (i:Int) ++ .all (Cx s')::[.oldx w wb.heap.size (feet (zCw c A ca (some ⟨bb,o,none⟩) cb C cc pl (some ⟨b2,o2,none⟩) cp g1 g2 g3 r (i:Int)++Cx s0))]) from h.sub zRQ))
end Go.Proofs.YtdigopgncfhiaaaGreatDoor
namespace Go.Proofs.YtdigopgncfhiaaaGreatDoor
open Go.RowKit
set_option maxRecDepth 20000
theorem zLk (r i:Nat) (pl:List Sli) (P:Option Addr) (cp:Nat) (w:World):Ret Tryz.prog 61 [.pointer (some ⟨r,0,none⟩),.slice P pl.length cp,.int .i64 (i:Int)] w (fun g:Nat × Nat × Nat=>.func (.func 104) #[] #[.pointer (some ⟨g.1,0,none⟩),.pointer (some ⟨g.2.1,0,none⟩),.pointer (some ⟨g.2.2,0,none⟩)])
  (fun g=>[.blk g.1 [.pointer (some ⟨r,0,none⟩)],.blk g.2.1 [.int .i64 (i:Int)],.blk g.2.2 [.slice P pl.length cp]]) (fun _=>True):=by
 (refine zM (n:=8) Tryz.func61 rfl rfl rfl ?_)
 (repeat' (first|((with_reducible refine zG ?_);first|refine zC rfl rfl rfl rfl rfl ?_|(refine zAI rfl rfl rfl rfl rfl rfl (fun b=>?_))|refine zCd rfl rfl rfl rfl rfl rfl ?_)|(with_reducible first|refine zI ?_|refine zB ?_|refine zD ?_|refine zA ?_|refine za ?_)))
 rename_i b1 b3
 exact zU zRZ (b1,b,b3) trivial rfl (fun _ h=>h.sub zRQ)
def zEI (c:Cov) (pl:List Sli) (i h:Int):Sp × Int :=
 if zCC c pl=0 then (if inB 0 ((c.beds.length:Int) - 1) i=true∧inB 0 (c.hours.length:Int) h=true then (thickN c pl (c.beds.getD i.toNat default) i h.toNat,0) else (⟨0,0⟩,2)) else (⟨0,0⟩,zCC c pl)
theorem zFQ {c:Cov} {pl:List Sli} (h:zCC c pl=0):zAp c=0∧zA2 c pl=true:=by
 unfold zCC at h
 by_cases h0:zAp c=0
 ·rw [if_pos h0] at h
  cases hp:zA2 c pl with
  | true=>exact ⟨h0,rfl⟩
  | false=>rw [hp] at h;simp at h
 ·rw [if_neg h0] at h;exact absurd h h0
set_option maxHeartbeats 4000000 in
theorem zO6 (c:Cov) (A:Option Addr) (ca:Nat) (B:Option Addr) (cb:Nat) (C:Option Addr) (cc:Nat) (pl:List Sli) (P:Option Addr) (cp:Nat) (i h:Int) (w:World) (hc:zAl w c A B C) (hs:Small c) (hp:zBA w P pl) (hl:pl.length≤12) (hrl:∀ s∈pl,s.xs.length≤20) :
  Gv Tryz.prog 23 [zAQ c A ca B cb C cc,.slice P pl.length cp,.int .i64 i,.int .i64 h] w (.tuple #[vSp (zEI c pl i h).1,.int .i64 (zEI c pl i h).2]):=by
 have hl4:=hs.b;have hl5:=hs.h
 have h1:=fun W (hb:Below w.heap.size w W)=>zFI c A ca B cb C cc pl P cp W (hc.below hb) hs (hp.below hb) hl hrl
 have h2:=fun W (hb:Below w.heap.size w W)=>zFH c A ca B cb C cc pl P cp W (hc.below hb) hs (hp.below hb) hl hrl
 unfold zAQ at h1 h2
 unfold Gv zAQ zEI
 by_cases h0:zCC c pl=0
 ·rw [if_pos h0]
  obtain ⟨h00,hpl⟩:=zFQ h0
  have hf:=zAy h00
  have h2:=fun W hb=>h2 W hb h00 hpl
  by_cases hin:inB 0 ((c.beds.length:Int) - 1) i=true∧inB 0 (c.hours.length:Int) h=true
  ·rw [if_pos hin]
   obtain ⟨I,rfl,hI⟩:=zJ5 hin.1
   obtain ⟨J,rfl,hJ⟩:∃ J:Nat,h=(J:Int)∧J≤c.hours.length:=by have:=zx.1 hin.2;exact ⟨h.toNat,by omega,by omega⟩
   obtain ⟨hi1,hi2⟩:=hin
   obtain ⟨z,hz⟩:∃ z,c.beds[I]?=some z:=⟨_,List.getElem?_eq_getElem hI⟩
   simp only [Int.toNat_natCast]
   rw [zAS hz]
   have hseq:=fun g1 g2 g3 r=>days_seq c A ca B cb C cc pl P cp I g1 g2 g3 r z w hc hs hf hp hrl (zAj.1 hpl).1 hz
   unfold vSp
   unfold zH at h2 ⊢
   (refine zM (n:=54) Tryz.func23 rfl rfl rfl ?_)
   (repeat' (first|((with_reducible refine zG ?_);first|refine zE rfl rfl rfl rfl rfl ?_|refine zC rfl rfl rfl rfl rfl ?_|(refine zK rfl rfl rfl rfl rfl ?_;refine ⟨_,rfl,?_⟩)|refine zd rfl rfl rfl rfl rfl ?_|refine zAg rfl rfl rfl rfl rfl rfl ?_|(refine zQ rfl rfl rfl rfl rfl rfl rfl (fun h=>?_) (fun h=>?_)<;>(dsimp only [cmpP] at h;(try (exfalso;omega))))|(refine zAV rfl rfl rfl rfl rfl rfl (fun _ _ q=>h2 _ q.below) ?_;rintro g -;dsimp only [List.cons_append,List.nil_append])|(refine zV rfl rfl rfl rfl rfl rfl (fun _ _ q=>hi1 ▸ iin1 _ _ _ _ _ _ (zAd (enc:=encI) zRe _ q.below q.own)) ?_)|(refine zV rfl rfl rfl rfl rfl rfl (fun _ _ q=>hi2 ▸ iin1 _ _ _ _ _ _ (zAd (enc:=encI) zRe _ q.below q.own)) ?_)|(refine zAV rfl rfl rfl rfl rfl rfl (fun _ _ q=>zLk _ I pl P cp _) ?_;rintro ⟨g1,g2,g3⟩ -;dsimp only [List.cons_append,List.nil_append])|refine zj rfl rfl rfl rfl rfl rfl ?_|refine zAf rfl rfl rfl rfl rfl ?_|refine zCc rfl rfl rfl rfl rfl rfl (IntWalk.i64_in _ zRU) ?_|refine zp rfl rfl rfl rfl rfl ?_|(refine zr rfl rfl rfl rfl (fun b=>?_))|(refine zAI rfl rfl rfl rfl rfl rfl (fun b=>?_))|(refine zz rfl rfl rfl rfl rfl ?_;refine ⟨rfl,_,rfl,fun b=>?_⟩))|(with_reducible first|refine zI ?_|refine zB ?_|refine zD ?_|refine zA ?_|refine zP ?_|refine zN ?_)|((with_reducible refine zF ?_ ?_);(· exact rfl))))
   rename_i b4 b7 b8 ba1 ba2
   refine u_dfr0 ?_
   refine zPY (ι:=Sp) (α:=Nat × Sp) (gf:=104) (lb:=[.pointer (some ⟨g1,0,none⟩),.pointer (some ⟨g2,0,none⟩),.pointer (some ⟨g3,0,none⟩)]) (bs:=[]) (zCx c A ca B cb C cc pl P cp g1 g2 g3 g (I:Int)) zGL (zI5 c pl z I) (J+1) (fun k s=>k=J+1→s=thickN c pl z I J) (fun s=>[.blk b (zBX s),.blk b8 [.int .i64 0,.int .i64 0],.blk b7 [.int .i64 (J:Int)],.blk b4 (zH c A ca B cb C cc)]) (fun k=>!decide (k=J)) (.exit 0) ⟨0,0⟩ rfl (by unfold zCx zH;simp only [List.cons_append,List.nil_append];(repeat (first|exact oK1 _|(refine oK2 zRT ?_)))) (fun h=>by omega) (by rw [zFV];omega) (fun k hk=>by simp;omega) (.inr ⟨by omega,by simp⟩) (fun x=>rfl) zRs (.inr ⟨0,rfl⟩) (hseq g1 g2 g3 g) ?_ ?_ ?_
   ·rintro l k x s ⟨⟩ W hk hx hI hr hrp hW
    simp only at hr hrp
    subst hr hrp
    rw [zHz zRU] at hx
    cases hx
    simp only [zGL,parR,zCx,zH,vSp,List.cons_append,List.nil_append]
    by_cases hkJ:k=J
    ·subst hkJ
     simp only [decide_true,Bool.not_true,Bool.false_eq_true,if_false]
     (repeat' (first|((with_reducible refine zG ?_);first|refine zC rfl rfl rfl rfl rfl ?_|(refine zf rfl rfl rfl rfl rfl ?_;refine And.intro rfl (And.intro zRY ⟨_,rfl,?_⟩))|(refine zr rfl rfl rfl rfl (fun b=>?_)))|(with_reducible first|refine zI ?_|refine zB ?_|refine zD ?_|refine zA ?_)))
     refine zMI zRT rfl ?_
     (repeat' (first|((with_reducible refine zG ?_);first|refine zE rfl rfl rfl rfl rfl ?_|(refine zK rfl rfl rfl rfl rfl ?_;refine ⟨_,rfl,?_⟩)|(refine zQ rfl rfl rfl rfl rfl rfl rfl (fun h=>?_) (fun h=>?_)<;>(dsimp only [cmpP] at h;(try (exfalso;omega))))|(refine zf rfl rfl rfl rfl rfl ?_;refine And.intro rfl (And.intro zRY ⟨_,rfl,?_⟩)))|(with_reducible first|refine zI ?_|refine zB ?_|refine zD ?_|refine zA ?_|refine zN ?_|refine zk ?_)|((with_reducible refine zA6 ?_ ?_);(· exact rfl))|((with_reducible refine zJ ?_ ?_);(· exact rfl))))
     exact zF0 (some (.exit 0)) (.inr (.inr ⟨0,rfl,rfl⟩)) rfl zRT (thickN c pl z I k) (fun _=>rfl) hW (fun _ h=>h.sub zRQ)
    ·simp only [hkJ,decide_false,Bool.not_false,if_true]
     (repeat' (first|((with_reducible refine zG ?_);first|refine zC rfl rfl rfl rfl rfl ?_|(refine zf rfl rfl rfl rfl rfl ?_;refine And.intro rfl (And.intro zRY ⟨_,rfl,?_⟩))|(refine zr rfl rfl rfl rfl (fun b=>?_)))|(with_reducible first|refine zI ?_|refine zB ?_|refine zD ?_|refine zA ?_)))
     refine zMI zRT rfl ?_
     (repeat' (first|((with_reducible refine zG ?_);first|refine zE rfl rfl rfl rfl rfl ?_|(refine zK rfl rfl rfl rfl rfl ?_;refine ⟨_,rfl,?_⟩)|(refine zQ rfl rfl rfl rfl rfl rfl rfl (fun h=>?_) (fun h=>?_)<;>(dsimp only [cmpP] at h;(try (exfalso;omega)))))|(with_reducible first|refine zI ?_|refine zB ?_|refine zD ?_|refine zA ?_|refine zP ?_|refine zN ?_|refine zi ?_)|((with_reducible refine zF ?_ ?_);(· exact rfl))))
     exact zF0 none (.inl ⟨rfl,rfl⟩) rfl zRT s (fun h=>by omega) hW (fun _ h=>h.sub zRQ)
   ·intro h9;simp at h9
   ·intro _ _ bd s hI
    have:=hI rfl
    subst this
    simp only [zCx,zH,List.cons_append,List.nil_append]
    (repeat' (first|((with_reducible refine zG ?_);first|refine zC rfl rfl rfl rfl rfl ?_|(refine zK rfl rfl rfl rfl rfl ?_;refine ⟨_,rfl,?_⟩)|(refine zf rfl rfl rfl rfl rfl ?_;refine And.intro rfl (And.intro zRY ⟨_,rfl,?_⟩)))|(with_reducible first|refine zI ?_|refine zB ?_|refine zD ?_|refine zA ?_|refine za ?_|refine zk ?_|refine zR ?_)))
    exact zPa zRT zRg () trivial rfl (fun _ _=>Own.nil _ _)
  ·rw [if_neg hin]
   unfold vSp
   unfold zH at h2 ⊢
   (refine zM (n:=54) Tryz.func23 rfl rfl rfl ?_)
   (repeat' (first|((with_reducible refine zG ?_);first|refine zE rfl rfl rfl rfl rfl ?_|refine zC rfl rfl rfl rfl rfl ?_|(refine zK rfl rfl rfl rfl rfl ?_;refine ⟨_,rfl,?_⟩)|refine zd rfl rfl rfl rfl rfl ?_|refine zAg rfl rfl rfl rfl rfl rfl ?_|refine zAN rfl rfl rfl ?_|(refine zQ rfl rfl rfl rfl rfl rfl rfl (fun h=>?_) (fun h=>?_)<;>(dsimp only [cmpP] at h;(try (exfalso;omega))))|(refine zAV rfl rfl rfl rfl rfl rfl (fun _ _ q=>h2 _ q.below) ?_;rintro g -;dsimp only [List.cons_append,List.nil_append])|(refine zAe rfl rfl rfl rfl rfl rfl (fun _ _ q=>iin1 _ _ _ _ _ _ (zAd (enc:=encI) zRe _ q.below q.own)) (fun h=>?_) (fun h=>?_)<;>(try (exfalso;omega)))|refine zj rfl rfl rfl rfl rfl rfl ?_|refine zAf rfl rfl rfl rfl rfl ?_|refine zCc rfl rfl rfl rfl rfl rfl (IntWalk.i64_in _ zRU) ?_|refine zp rfl rfl rfl rfl rfl ?_|(refine zf rfl rfl rfl rfl rfl ?_;refine And.intro rfl (And.intro zRY ⟨_,rfl,?_⟩))|(refine zr rfl rfl rfl rfl (fun b=>?_))|(refine zAI rfl rfl rfl rfl rfl rfl (fun b=>?_))|(refine zBC rfl rfl rfl rfl rfl ?_;refine ⟨_,rfl,?_⟩)|(refine zz rfl rfl rfl rfl rfl ?_;refine ⟨rfl,_,rfl,fun b=>?_⟩))|(with_reducible first|refine zI ?_|refine zB ?_|refine zD ?_|refine zA ?_|refine za ?_|refine zP ?_|refine zb ?_)|((with_reducible refine zJ ?_ ?_);(· exact rfl))|((with_reducible refine zF ?_ ?_);(· exact rfl))))
   all_goals first|exact zU zRg () trivial rfl (fun _ _=>Own.nil _ _)|(exfalso;exact hin ⟨by assumption,by assumption⟩)
 ·rw [if_neg h0]
  unfold vSp
  unfold zH at h1 ⊢
  generalize zCC c pl=e at *
  (refine zM (n:=54) Tryz.func23 rfl rfl rfl ?_)
  (repeat' (first|((with_reducible refine zG ?_);first|refine zE rfl rfl rfl rfl rfl ?_|refine zC rfl rfl rfl rfl rfl ?_|(refine zK rfl rfl rfl rfl rfl ?_;refine ⟨_,rfl,?_⟩)|(refine zQ rfl rfl rfl rfl rfl rfl rfl (fun h=>?_) (fun h=>?_)<;>(dsimp only [cmpP] at h;(try (exfalso;omega))))|refine zV rfl rfl rfl rfl rfl rfl (fun _ _ q=>h1 _ q.below h0) ?_|refine zj rfl rfl rfl rfl rfl rfl ?_|(refine zf rfl rfl rfl rfl rfl ?_;refine And.intro rfl (And.intro zRY ⟨_,rfl,?_⟩))|(refine zr rfl rfl rfl rfl (fun b=>?_))|(refine zAI rfl rfl rfl rfl rfl rfl (fun b=>?_))|(refine zBC rfl rfl rfl rfl rfl ?_;refine ⟨_,rfl,?_⟩))|(with_reducible first|refine zI ?_|refine zB ?_|refine zD ?_|refine zA ?_|refine za ?_|refine zb ?_)|((with_reducible refine zJ ?_ ?_);(· exact rfl))))
  all_goals exact zU zRg () trivial rfl (fun _ _=>Own.nil _ _)
end Go.Proofs.YtdigopgncfhiaaaGreatDoor
namespace Go.Proofs.YtdigopgncfhiaaaGreatDoor
open Go.Shelf
set_option maxRecDepth 20000
def zOX : Ren where
 f:=fun x=>match x with | 6=>100 | 15=>132 | 14=>131 | 28=>153 | 29=>154 | 20=>145 | 21=>146 | 22=>147 | 23=>148 | 24=>149 | 25=>150 | 26=>151 | 27=>152 | 46=>157 | 47=>158 | 48=>159 | 49=>160 | 50=>161 | 57=>162|n=>n
 t:=fun x=>match x with | 22=>36 | 24=>75 | 25=>162 | 3=>3 | 39=>126 | 0=>0 | 53=>80 | 55=>179 | 4=>4 | 46=>222 | 45=>221 | 50=>169 | 5=>5 | 9=>9 | 66=>229 | 70=>233 | 76=>235 | 77=>236|n=>n
 g:=fun n=>n
theorem sortPr : SlLaysF0.n6 Tryz.prog zOX where
 mixed:=by kernel_rfl
 f6:=⟨"slices.SortFunc[[][2]int,[2]int]",by decide,Tryz.func100.trans (congrArg some zRW)⟩
 f14:=⟨"slices.pdqsortCmpFunc[[2]int]",by decide,Tryz.func131.trans (congrArg some zRW)⟩
 f15:=Tryz.func132.trans (congrArg some zRW)
 f20:=⟨"slices.insertionSortCmpFunc[[2]int]",by decide,Tryz.func145.trans (congrArg some zRW)⟩
 f21:=⟨"slices.heapSortCmpFunc[[2]int]",by decide,Tryz.func146.trans (congrArg some zRW)⟩
 f22:=⟨"slices.breakPatternsCmpFunc[[2]int]",by decide,Tryz.func147.trans (congrArg some zRW)⟩
 f23:=⟨"slices.choosePivotCmpFunc[[2]int]",by decide,Tryz.func148.trans (congrArg some zRW)⟩
 f24:=⟨"slices.reverseRangeCmpFunc[[2]int]",by decide,Tryz.func149.trans (congrArg some zRW)⟩
 f25:=⟨"slices.partialInsertionSortCmpFunc[[2]int]",by decide,Tryz.func150.trans (congrArg some zRW)⟩
 f26:=⟨"slices.partitionEqualCmpFunc[[2]int]",by decide,Tryz.func151.trans (congrArg some zRW)⟩
 f27:=⟨"slices.partitionCmpFunc[[2]int]",by decide,Tryz.func152.trans (congrArg some zRW)⟩
 f28:=Tryz.func153.trans (congrArg some zRW)
 f29:=Tryz.func154.trans (congrArg some zRW)
 f46:=⟨"slices.siftDownCmpFunc[[2]int]",by decide,Tryz.func157.trans (congrArg some zRW)⟩
 f47:=Tryz.func158.trans (congrArg some zRW)
 f48:=Tryz.func159.trans (congrArg some zRW)
 f49:=⟨"slices.medianAdjacentCmpFunc[[2]int]",by decide,Tryz.func160.trans (congrArg some zRW)⟩
 f50:=⟨"slices.medianCmpFunc[[2]int]",by decide,Tryz.func161.trans (congrArg some zRW)⟩
 f57:=⟨"slices.order2CmpFunc[[2]int]",by decide,Tryz.func162.trans (congrArg some zRW)⟩
 t0:=Tryz.underlying0
 a0:=Tryz.isAgg0
 z0:=Tryz.sizeOf0
 v0:=Tryz.zeroValue0
 t3:=Tryz.underlying3
 a3:=Tryz.isAgg3
 z3:=Tryz.sizeOf3
 v3:=Tryz.zeroValue3
 t4:=Tryz.underlying4
 a4:=Tryz.isAgg4
 z4:=Tryz.sizeOf4
 v4:=Tryz.zeroValue4
 t5:=Tryz.underlying5
 a5:=Tryz.isAgg5
 z5:=Tryz.sizeOf5
 v5:=Tryz.zeroValue5
 t9:=Tryz.underlying9
 a9:=Tryz.isAgg9
 z9:=Tryz.sizeOf9
 v9:=Tryz.zeroValue9
 t22:=Tryz.underlying36
 a22:=Tryz.isAgg36
 z22:=Tryz.sizeOf36
 v22:=Tryz.zeroValue36
 t25:=Tryz.underlying162
 a25:=Tryz.isAgg162
 z25:=Tryz.sizeOf162
 v25:=Tryz.zeroValue162
 t39:=Tryz.underlying126
 a39:=Tryz.isAgg126
 z39:=Tryz.sizeOf126
 v39:=Tryz.zeroValue126
 t45:=Tryz.underlying221
 a45:=Tryz.isAgg221
 z45:=Tryz.sizeOf221
 v45:=Tryz.zeroValue221
 t46:=Tryz.underlying222
 a46:=Tryz.isAgg222
 z46:=Tryz.sizeOf222
 v46:=Tryz.zeroValue222
 t50:=Tryz.underlying169
 a50:=Tryz.isAgg169
 z50:=Tryz.sizeOf169
 v50:=Tryz.zeroValue169
 t53:=Tryz.underlying80
 a53:=Tryz.isAgg80
 z53:=Tryz.sizeOf80
 v53:=Tryz.zeroValue80
 t55:=Tryz.underlying179
 a55:=Tryz.isAgg179
 z55:=Tryz.sizeOf179
 v55:=Tryz.zeroValue179
 t66:=Tryz.underlying229
 a66:=Tryz.isAgg229
 z66:=Tryz.sizeOf229
 v66:=Tryz.zeroValue229
 t70:=Tryz.underlying233
 a70:=Tryz.isAgg233
 z70:=Tryz.sizeOf233
 v70:=Tryz.zeroValue233
 t76:=Tryz.underlying235
 a76:=Tryz.isAgg235
 z76:=Tryz.sizeOf235
 v76:=Tryz.zeroValue235
 t77:=Tryz.underlying236
 a77:=Tryz.isAgg236
 z77:=Tryz.sizeOf236
 v77:=Tryz.zeroValue236
def zPK : Ren where
 f:=fun x=>match x with | 5=>115 | 7=>138|n=>n
 t:=fun x=>match x with | 22=>3 | 3=>3 | 4=>4|n=>n
 g:=fun n=>n
theorem cmpInt : SlLaysC2.n5 Tryz.prog zPK where
 mixed:=by kernel_rfl
 f5:=⟨"cmp.Compare[int]",by decide,Tryz.func115.trans (congrArg some zRW)⟩
 f7:=⟨"cmp.isNaN[int]",by decide,Tryz.func138.trans (congrArg some zRW)⟩
 t3:=Tryz.underlying3
 a3:=Tryz.isAgg3
 z3:=Tryz.sizeOf3
 v3:=Tryz.zeroValue3
 t4:=Tryz.underlying4
 a4:=Tryz.isAgg4
 z4:=Tryz.sizeOf4
 v4:=Tryz.zeroValue4
 t22:=Tryz.underlying3
 a22:=Tryz.isAgg3
 z22:=Tryz.sizeOf3
 v22:=Tryz.zeroValue3
end Go.Proofs.YtdigopgncfhiaaaGreatDoor
