/- H10 -/
import Derived.Test.YtdigopgncfhiaaaGreatDoorH9
import Derived.Test.YtdigopgncfhiaaaGreatDoorH6
import Derived.Shelf.SlSortCmp.NoneTotal
import Derived.Shelf.SlicesG.Cmp
set_option linter.unusedSimpArgs false
set_option linter.unusedVariables false
namespace Go.Proofs.YtdigopgncfhiaaaGreatDoor
open Go.RowKit
set_option maxRecDepth 20000
theorem InC.below {w W:World} {b off:Nat} {vs:List Value} (h:InC w b off vs) (hb:Below w.heap.size w W):InC W b off vs:=⟨fun j v hv=>by
 have h1:=h.cells j v hv
 rw [hb.cell (p:=⟨b,off+j,none⟩) (World.block_lt_of_cell? w _ h1)];exact h1⟩
theorem zOU {n:Nat} {i:Int} (h:inB 0 ((n:Int) - 1) i=true):∃ I:Nat,i=(I:Int)∧I<n:=by
 rw [zAB] at h
 exact ⟨i.toNat,by omega,by omega⟩
set_option maxHeartbeats 1000000 in
theorem zQf (l:List Int) (n:Int) (A:Option Addr) (c:Nat) (w:World) (h:zp encI 1 w A l) (hl:l.length≤1000000):Gv Tryz.prog 133 [.slice A l.length c,.int .i64 n] w (.int .i64 (zC2 (fun y=>decide (n=y)) l)):=by
 unfold Gv
 (refine zJ (n:=19) Tryz.func133 rfl rfl rfl ?_)
 (repeat' (first|((with_reducible refine zF ?_);first|refine zE rfl rfl rfl ?_|refine zC rfl rfl rfl ?_|refine zq rfl rfl rfl ?_)|(with_reducible first|refine zH ?_|refine zB ?_|refine zD ?_|refine zA ?_|refine zP ?_)))
 refine zw (ι:=Nat) [0,1,7] rfl (fun i=>i≤l.length∧∀ j y,j<i→l[j]?=some y→decide (n=y)=false) (fun i=>[(8,.int .i64 (i:Int))]) (fun _=>[]) (fun i=>l.length - i) 0 ⟨Nat.zero_le _,fun j z h=>by omega⟩ (by (repeat first|exact lK1|refine zI rfl ?_)) (by (repeat constructor)) ?_
 rintro i ⟨hi,hall⟩
 simp only [zA1,List.cons_append,List.nil_append]
 by_cases hlt:i<l.length
 ·obtain ⟨x,hx⟩:∃ x,l[i]?=some x:=⟨_,List.getElem?_eq_getElem hlt⟩
  obtain ⟨bb,o,rfl,hblt,hc⟩:=h.at_ hlt
  have:InS w bb o encI 1 l:=⟨h⟩
  have:zAQ l i x:=⟨hx⟩
  (repeat' (first|((with_reducible refine zF ?_);first|refine zE rfl rfl rfl ?_|refine zC rfl rfl rfl ?_|(refine zL rfl rfl rfl ?_;refine ⟨_,rfl,?_⟩)|(refine zQ rfl rfl rfl rfl rfl (fun h=>?_) (fun h=>?_)<;>(dsimp only [cmpP] at h;(try (exfalso;omega))))|refine zi rfl rfl rfl rfl (by omega) ?_|refine zk rfl rfl rfl rfl rfl (by omega) ?_)|(with_reducible first|refine zH ?_|refine zB ?_|refine zD ?_|refine zA ?_|refine zW ?_|refine zS ?_|refine ze ?_|refine zP ?_|refine zg ?_|refine zBb ?_)|((with_reducible refine zK ?_ ?_);(· exact rfl))|((with_reducible refine zG ?_ ?_);(· exact rfl))))
  ·exact zR (by exact rTm rfl) () trivial (by rw [zEo hlt (by rw [List.getElem?_eq_getElem hlt] at hx;cases hx;simp;omega) hall];rfl) (fun _ h=>h.sub (by (repeat constructor)))
  ·exact zZ (i+1) ⟨by omega,fun j y hj hy=>by
    by_cases e:j=i
    ·subst e;rw [hx] at hy;cases hy;simp;omega
    ·exact hall j y (by omega) hy⟩ (by omega) (by (repeat first|exact lK1|refine zI rfl ?_)) (by (repeat constructor))
 ·obtain rfl:i=l.length:=by omega
  (repeat' (first|((with_reducible refine zF ?_);first|refine zC rfl rfl rfl ?_|(refine zQ rfl rfl rfl rfl rfl (fun h=>?_) (fun h=>?_)<;>(dsimp only [cmpP] at h;(try (exfalso;omega)))))|(with_reducible first|refine zH ?_|refine zB ?_|refine zD ?_|refine zA ?_|refine zW ?_|refine zl ?_|refine zV ?_|refine zX ?_)|((with_reducible refine zG ?_ ?_);(· exact rfl))))
  exact zR (by exact rTm rfl) () trivial (by rw [zDu (fun y hy=>by obtain ⟨j,hj⟩:=List.mem_iff_getElem?.1 hy;exact hall j y (List.getElem?_eq_some_iff.1 hj).1 hj)];rfl) (fun _ h=>h.sub (by (repeat constructor)))
theorem zQr {l:List Int} {n:Int}:(0≤zC2 (fun y=>decide (n=y)) l)↔l.contains n=true:=by
 rw [List.contains_iff_mem]
 unfold zC2
 cases hf:l.findIdx? (fun y=>decide (n=y)) with
 | none =>
  rw [List.findIdx?_eq_none_iff] at hf
  simp only
  constructor
  ·intro h;omega
  ·intro h;have:=hf n h;simp at this
 | some k =>
  obtain ⟨hk,hp,_⟩:=List.findIdx?_eq_some_iff_getElem.1 hf
  simp only
  constructor
  ·intro _
   simp only [decide_eq_true_eq] at hp
   rw [hp];exact List.getElem_mem hk
  ·intro _;omega
theorem zHV (l:List Int) (n:Int) (A:Option Addr) (c:Nat) (w:World) (h:zp encI 1 w A l) (hl:l.length≤1000000):Gv Tryz.prog 105 [.slice A l.length c,.int .i64 n] w (.bool (l.contains n)):=by
 have h1:=fun W (hb:Below w.heap.size w W)=>zQf l n A c W (h.below hb) hl
 have h2:=zQr (l:=l) (n:=n)
 generalize zC2 (fun y=>decide (n=y)) l=m at *
 unfold Gv
 (refine zJ (n:=9) Tryz.func105 rfl rfl rfl ?_)
 (repeat' (first|((with_reducible refine zF ?_);first|refine zE rfl rfl rfl ?_|refine zC rfl rfl rfl ?_|(refine zQ rfl rfl rfl rfl rfl (fun h=>?_) (fun h=>?_)<;>(dsimp only [cmpP] at h;(try (exfalso;omega))))|refine zY rfl rfl rfl rfl (fun _ _ q=>h1 _ q.below) ?_)|(with_reducible first|refine zH ?_|refine zB ?_|refine zD ?_|refine zA ?_|refine zW ?_)))
 ·exact zR (by exact rTm rfl) () trivial (by rw [h2.1 (by omega)];rfl) (fun _ h=>h.sub (by (repeat constructor)))
 ·exact zR (by exact rTm rfl) () trivial (by rw [show l.contains n=false from by cases e:l.contains n with|false=>rfl|true=>(have:=h2.2 e;omega)];rfl) (fun _ h=>h.sub (by (repeat constructor)))
end Go.Proofs.YtdigopgncfhiaaaGreatDoor
namespace Go.Proofs.YtdigopgncfhiaaaGreatDoor
open Go.RowKit
set_option maxRecDepth 20000
def thinned (t l:Sp):Sp:=⟨max 0 (t.lo - l.hi),max 0 (t.hi - l.lo)⟩
def layered (c:Cov) (on:Bool) (t:Sp):Sp:=if on then ⟨t.lo+c.layer.lo,t.hi+c.layer.hi⟩ else t
def thickN (c:Cov) (pl:List Sli) (z:Bed) (i:Int):Nat→Sp
 | 0=>z.thick
 | h+1=>layered c ((pl.getD h default).xs.contains i) (thinned (thickN c pl z i h) (zBs c z (c.hours.getD h default)))
theorem zG7 {c:Cov} {pl:List Sli} {z:Bed} {i:Int} (hf:zD5 c) (hz:z∈c.beds):∀ h,h≤c.hours.length→0≤(thickN c pl z i h).lo∧(thickN c pl z i h).lo≤2000+100 * h∧0≤(thickN c pl z i h).hi∧(thickN c pl z i h).hi≤2000+100 * h
 | 0,_=>by
  have:=hf.bed z hz
  simp only [zEz,Bool.and_eq_true,zA5] at this
  simp only [thickN];omega
 | h+1,hl=>by
  have ih:=zG7 (pl:=pl) (i:=i) hf hz h (by omega)
  obtain ⟨u,hu⟩:∃ u,c.hours[h]?=some u:=⟨_,List.getElem?_eq_getElem (by omega)⟩
  have l4:=zEf hf hz (List.mem_of_getElem? hu)
  have hl:=hf.layer
  simp only [zA5] at hl
  simp only [thickN,zBD hu,layered,thinned]
  split<;>simp only<;>omega
end Go.Proofs.YtdigopgncfhiaaaGreatDoor
namespace Go.Proofs.YtdigopgncfhiaaaGreatDoor
open Go.RowKit
set_option maxRecDepth 20000
def zIe (c:Cov) (pl:List Sli) (z:Bed) (i:Int):List (Nat × Sp):=(List.range (c.hours.length+1)).map fun h=>(h,thickN c pl z i h)
def zFr (x:Nat × Sp):List Value:=[.int .i64 (x.1:Int),vSp x.2]
theorem zEv {c:Cov} {pl:List Sli} {z:Bed} {i:Int}:(zIe c pl z i).length=c.hours.length+1:=by simp [zIe]
theorem zHU {c:Cov} {pl:List Sli} {z:Bed} {i:Int} {k:Nat} (h:k≤c.hours.length):(zIe c pl z i)[k]?=some (k,thickN c pl z i k):=by
 simp only [zIe,List.getElem?_map,List.getElem?_range (show k<c.hours.length+1 by omega),Option.map_some]
def zCX (c:Cov) (A:Option Addr) (ca:Nat) (B:Option Addr) (cb:Nat) (C:Option Addr) (cc:Nat) (pl:List Sli) (P:Option Addr) (cp g1 g2 g3 r:Nat) (i:Int):List Ent :=
 [.blk g1 [.pointer (some ⟨r,0,none⟩)],.blk g2 [.int .i64 i],.blk g3 [.slice P pl.length cp],.blk r (zN c A ca B cb C cc)]
set_option maxHeartbeats 4000000 in
theorem days_seq (c:Cov) (A:Option Addr) (ca:Nat) (B:Option Addr) (cb:Nat) (C:Option Addr) (cc:Nat) (pl:List Sli) (P:Option Addr) (cp i g1 g2 g3 r:Nat) (z:Bed) (wb:World) (h:zAp wb c A B C) (hs:Small c) (hf:zD5 c) (hp:zBJ wb P pl) (hrl:∀ s∈pl,s.xs.length≤20) (hpl:pl.length=c.hours.length) (hz:c.beds[i]?=some z) :
  Seq Tryz.prog 104 [.pointer (some ⟨g1,0,none⟩),.pointer (some ⟨g2,0,none⟩),.pointer (some ⟨g3,0,none⟩)] (zCX c A ca B cb C cc pl P cp g1 g2 g3 r (i:Int)) zFr (zIe c pl z i) wb:=by
 intro ι l m I Cx go s0 w hwb hI0 hO hm hgo hend hround
 have h4:=hs.b;have h5:=hs.h
 have hb:=h.b;have hpp:=hp.p;have hh:=h.h
 have hzm:=List.mem_of_getElem? hz
 have hi:=(List.getElem?_eq_some_iff.1 hz).1
 have hlay:=hf.layer
 simp only [zA5] at hlay
 have hL:=fun W (hW:Below wb.heap.size wb W) j u (hu:c.hours[j]?=some u) (hr:InC W r 0 (zN c A ca B cb C cc))=>zGL c A ca B cb C cc r i j z u W hr (h.below hW) hs hf hz hu
 obtain ⟨bb,o,rfl,hblt,hc⟩:=hb.at_ hi
 have:InS wb bb o zAw 3 c.beds:=⟨hb⟩
 have:zAQ c.beds i z:=⟨hz⟩
 have hh1:=hf.hours
 rw [zAB] at hh1
 obtain ⟨b2,o2,rfl,hblt2,hc2⟩:=hpp.at_ (show 0<pl.length by omega)
 have:InS wb b2 o2 zBC 1 pl:=⟨hpp⟩
 unfold vSp at hL
 rw [zEv] at hm hend
 have hround:=fun k s W (hk:k<m)=>hround k (k,thickN c pl z i k) s W hk (zHU (by omega))
 unfold zCX zFr vSp at *
 unfold zN at *
 refine zJS (n:=83) hwb hO Tryz.func104 rfl rfl rfl ?_
 refine zFW (fun _ h=>zBK.1 h) ?_
 simp only [List.cons_append,List.nil_append]
 (repeat' (first|(with_reducible first|refine zH ?_)))
 (refine Two.zAV [] [] [] rfl (show ([]:List Nat).Nodup by decide) (fun _ h=>h) (by kernel_rfl) [[],[Z],[Z,Z],[Z,Z,Z],[Z,Z,Z,Z],[Y,Y,Y,Y,Y],[Z,Z,Z,Z,Z,Z],[Z,Z,Z,Z,Z,Z,Z],[Z,Z,Z,Z,Z,Z,Z,Z],[Y,Y,Y,Y,Y,Y,Y,Y,Y],[Z,Z,Z,Z,Z,Z,Z,Z,Z,Z]] (by kernel_rfl) (by kernel_rfl) (by kernel_rfl) (by kernel_rfl) (by kernel_rfl) ?_)
 (repeat' (first|(((with_reducible refine Two.zCC ?_ ?_);(· exact rfl);refine ⟨_,fun G=>(by (try simp (decide:=true) only [Two.vis,Two.see,fltT,zm,Nat.reduceAdd,Nat.reduceSub,if_true,if_false,List.set_cons_zero,List.set_cons_succ,List.set_nil,List.nil_append,List.cons_append]);rfl),?_⟩);first|refine Two.zU _ (fun _=>zu rfl rfl (by exact rfl)) (fun _=>rfl) rfl (by intro G G' h;simp (decide:=true) only [h]) ?_|(refine Two.zAC rfl ?_;refine Two.zU _ (fun _=>zAE rfl rfl) (fun _=>rfl) rfl (by intro G G' h;simp (decide:=true) only [h]) ?_)|refine Two.zU _ (fun _=>zAl (I:=i) rfl rfl rfl rfl (by omega)) (fun _=>rfl) rfl (by exact fun _ _ _=>rfl) ?_|refine Two.zU _ (fun _=>zAJ rfl rfl) (fun _=>rfl) rfl (by intro G G' h;simp (decide:=true) only [h]) ?_|refine Two.zGR rfl (fun _=>rfl) rfl ?_)|((with_reducible refine Two.zA8 ?_ ?_);(· exact rfl))))
 (intro G;simp only [regsT,zm,Two.zAq,Two.ini,List.nil_append,List.cons_append])
 (repeat' (first|((with_reducible refine zF ?_);first|refine zE rfl rfl rfl ?_|(refine zL rfl rfl rfl ?_;refine ⟨_,rfl,?_⟩)|refine zb rfl rfl rfl ?_|refine zq rfl rfl rfl ?_|(refine za rfl rfl rfl rfl rfl ?_;refine ⟨rfl,by first|decide|exact Nat.le_of_ble_eq_true rfl|(simp;omega),_,rfl,?_⟩)|refine zAu rfl rfl rfl ?_)|(with_reducible first|refine zH ?_|refine zB ?_|refine zD ?_|refine zA ?_|refine zP ?_)))
 simp only [Nat.zero_add,Nat.reduceAdd]
 generalize (G 9).g=bt
 have hm0:0<m:=by omega
 refine zw (ι:=Nat × ι) [0,1,2,3,5,22] rfl (fun q=>q.1≤c.hours.length∧q.1<m∧I q.1 q.2) (fun q=>[(23,.int .i64 (q.1:Int))]) (fun q=>.blk bt (zA7 (thickN c pl z i q.1))::(zCX c A ca (some ⟨bb,o,none⟩) cb C cc pl (some ⟨b2,o2,none⟩) cp g1 g2 g3 r (i:Int)++[.all (Cx q.2),.oldx w wb.heap.size (feet (zCX c A ca (some ⟨bb,o,none⟩) cb C cc pl (some ⟨b2,o2,none⟩) cp g1 g2 g3 r (i:Int)++Cx s0))])) (fun q=>c.hours.length - q.1) (0,s0) ⟨Nat.zero_le _,hm0,hI0⟩ (by (repeat first|exact lK1|refine zI rfl ?_)) (by (repeat constructor)) ?_
 rintro ⟨k,s⟩ ⟨hk,hkm,hIk⟩
 simp only at hk hkm hIk
 have hY:=fun W=>hround k s W hkm hIk
 clear hround
 simp only [zA1,zCX,zN,List.cons_append,List.nil_append]
 by_cases hlt:k<c.hours.length
 ·obtain ⟨u,hu⟩:∃ u,c.hours[k]?=some u:=⟨_,List.getElem?_eq_getElem (by omega)⟩
  obtain ⟨sl,hsk⟩:∃ s,pl[k]?=some s:=⟨_,List.getElem?_eq_getElem (by omega)⟩
  have hsm:=List.mem_of_getElem? hsk
  have hrow:=hp.rows sl hsm
  have hsl:=hrl sl hsm
  have hin:=zG7 (pl:=pl) (i:=i) hf hzm k (by omega)
  have hlin:=zEf hf hzm (List.mem_of_getElem? hu)
  have e1:thickN c pl z i (k+1)=layered c (sl.xs.contains (i:Int)) (thinned (thickN c pl z i k) (zBs c z u)):=by simp only [thickN,zBD hu,zBD hsk]
  generalize thickN c pl z i k=t at *
  have hL:=fun W hW=>hL W hW k u hu
  generalize zBs c z u=lo at *
  obtain ⟨sA,xs,sc⟩:=sl
  simp only at hrow hsl e1
  have hH:=fun W (hW:Below wb.heap.size wb W)=>zHV xs (i:Int) sA sc W (hrow.below hW) (by omega)
  have:zAQ pl k ⟨sA,xs,sc⟩:=⟨hsk⟩
  generalize xs.contains (i:Int)=on at *
  cases hgk:go k
  ·simp only [hgk] at hY
   unfold zA7
   (repeat' (first|((with_reducible refine zF ?_);first|refine zE rfl rfl rfl ?_|refine zC rfl rfl rfl ?_|(refine zL rfl rfl rfl ?_;refine ⟨_,rfl,?_⟩)|(refine zQ rfl rfl rfl rfl rfl (fun h=>?_) (fun h=>?_)<;>(dsimp only [cmpP] at h;(try (exfalso;omega))))|(refine zF0 (D:=zCX c A ca (some ⟨bb,o,none⟩) cb C cc pl (some ⟨b2,o2,none⟩) cp g1 g2 g3 r (i:Int)) (L:=Cx s) (C:=Cx) (p:=I (k+1)) (go:=false) rfl rfl rfl rfl [.blk bt (zA7 t),.oldx w wb.heap.size (feet (zCX c A ca (some ⟨bb,o,none⟩) cb C cc pl (some ⟨b2,o2,none⟩) cp g1 g2 g3 r (i:Int)++Cx s0))] (by (repeat constructor)) (fun _ W q=>hY W q.below (Own.append.1 (zBK.2 q.own)).1) ?_;rintro s' hs';simp only [zCX,zN,List.cons_append,List.nil_append])|refine zAd rfl rfl rfl ?_)|(with_reducible first|refine zH ?_|refine zB ?_|refine zD ?_|refine zA ?_|refine zW ?_|refine zS ?_|refine ze ?_|refine zP ?_|refine zBb ?_)|((with_reducible refine zK ?_ ?_);(· exact rfl))))
   have hmk:m=k+1:=by
    rcases Nat.lt_or_ge (k+1) m with h9|h9
    ·have:=hgo k h9;rw [hgk] at this;cases this
    ·omega
   exact zIp (vs:=[]) zf.nil s' (hmk ▸ hs') rfl hwb (fun W9 h=>zBK.2 (show Own wb.heap.size W9 (zCX c A ca (some ⟨bb,o,none⟩) cb C cc pl (some ⟨b2,o2,none⟩) cp g1 g2 g3 r (i:Int) ++ .all (Cx s')::[.oldx w wb.heap.size (feet (zCX c A ca (some ⟨bb,o,none⟩) cb C cc pl (some ⟨b2,o2,none⟩) cp g1 g2 g3 r (i:Int)++Cx s0))]) from h.sub (by (repeat constructor))))
  ·simp only [hgk] at hY
   have hmk:k+1<m:=by
    rcases hend with h9 | ⟨h9,h10⟩
    ·omega
    ·rcases Nat.lt_or_ge (k+1) m with h11|h11
     ·exact h11
     ·have:m - 1=k:=by omega
      rw [this,hgk] at h10;cases h10
   unfold zA7
   (repeat' (first|((with_reducible refine zF ?_);first|refine zE rfl rfl rfl ?_|refine zC rfl rfl rfl ?_|(refine zL rfl rfl rfl ?_;refine ⟨_,rfl,?_⟩)|refine zb rfl rfl rfl ?_|(refine zQ rfl rfl rfl rfl rfl (fun h=>?_) (fun h=>?_)<;>(dsimp only [cmpP] at h;(try (exfalso;omega))))|(refine zF0 (D:=zCX c A ca (some ⟨bb,o,none⟩) cb C cc pl (some ⟨b2,o2,none⟩) cp g1 g2 g3 r (i:Int)) (L:=Cx s) (C:=Cx) (p:=I (k+1)) (go:=true) rfl rfl rfl rfl [.blk bt (zA7 t),.oldx w wb.heap.size (feet (zCX c A ca (some ⟨bb,o,none⟩) cb C cc pl (some ⟨b2,o2,none⟩) cp g1 g2 g3 r (i:Int)++Cx s0))] (by (repeat constructor)) (fun _ W q=>hY W q.below (Own.append.1 (zBK.2 q.own)).1) ?_;rintro s' hs';simp only [zCX,zN,List.cons_append,List.nil_append];unfold zA7)|refine zY rfl rfl rfl rfl (fun _ _ q=>hL _ q.below (zBO q.own (Below.refl _ _) rfl)) ?_|refine zAd rfl rfl rfl ?_|refine zCi rfl rfl rfl rfl (IntWalk.i64_in _ (by omega)) ?_|(refine za rfl rfl rfl rfl rfl ?_;refine ⟨rfl,by first|decide|exact Nat.le_of_ble_eq_true rfl|(simp;omega),_,rfl,?_⟩)|(refine zh rfl rfl (fun b=>?_))|(refine zAo rfl rfl rfl ?_;refine ⟨_,rfl,?_⟩)|refine zKl rfl rfl rfl rfl ?_)|(with_reducible first|refine zH ?_|refine zB ?_|refine zD ?_|refine zA ?_|refine zS ?_|refine zP ?_)|((with_reducible refine zK ?_ ?_);(· exact rfl))|((with_reducible refine zG ?_ ?_);(· exact rfl))))
   (refine zBW (by kernel_rfl) (by kernel_rfl) (by kernel_rfl) ?_)
   (repeat' (first|((with_reducible refine zBy ?_);first|refine zj (zAO rfl rfl) rfl ?_|refine zj (zu rfl rfl (by exact rfl)) rfl ?_|refine zj (zAl (I:=k) rfl rfl rfl (by omega) (by first|omega|(dsimp only;omega))) rfl ?_|(refine zMy rfl rfl rfl rfl (fun _ _ q=>hH _ q.below) (fun h=>?_) (fun h=>?_)))|(with_reducible refine zCx ?_)))
   ·(repeat' (first|(with_reducible first|refine zA ?_)|((with_reducible refine zK ?_ ?_);(· exact rfl))))
    (refine Two.zAV [] [] [] rfl (show ([]:List Nat).Nodup by decide) (fun _ h=>h) (by kernel_rfl) [[],[Z],[Y,Y],[Z,Y,Y],[Z,Z,Y,Y],[Z,Z,Z,Y,Y],[Z,Z,Z,Z,Y,Y],[Z,Z,Z,Z,Z,Y,Y],[Z,Z,Z,Z,Z,Z,Z,Z],[Y,Y,Y,Y,Y,Y,Y,Y,Y],[Z,Y,Y,Y,Y,Y,Y,Y,Y,Y],[Y,Y,Y,Y,Y,Y,Y,Y,Y,Y,Y],[Z,Y,Y,Y,Y,Y,Y,Y,Y,Y,Y,Y],[Z,Z,Y,Y,Y,Y,Y,Y,Y,Y,Y,Y,Y],[Z,Z,Z,Y,Y,Y,Y,Y,Y,Y,Y,Y,Y,Y],[Z,Z,Z,Z,Y,Y,Y,Y,Y,Y,Y,Y,Y,Y,Y],[Z,Z,Z,Z,Z,Y,Y,Y,Y,Y,Y,Y,Y,Y,Y,Y],[Z,Z,Z,Z,Z,Z,Z,Z,Y,Y,Y,Y,Y,Y,Y,Y,Y],[Z,Z,Z,Z,Z,Z,Z,Z,Z,Z,Z,Z,Z,Z,Z,Z,Z,Z],[Z,Z,Z,Z,Z,Z,Z,Z,Z,Z,Z,Z,Z,Z,Z,Z,Z,Z,Z]] (by kernel_rfl) (by kernel_rfl) (by kernel_rfl) (by kernel_rfl) (by kernel_rfl) ?_)
    (repeat' (first|(((with_reducible refine Two.zCC ?_ ?_);(· exact rfl);refine ⟨_,fun G=>(by (try simp (decide:=true) only [Two.vis,Two.see,fltT,zm,Nat.reduceAdd,Nat.reduceSub,if_true,if_false,List.set_cons_zero,List.set_cons_succ,List.set_nil,List.nil_append,List.cons_append]);rfl),?_⟩);first|refine Two.zU _ (fun _=>zu rfl rfl (by exact rfl)) (fun _=>rfl) rfl (by intro G G' h;simp (decide:=true) only [h]) ?_|(refine Two.zAC rfl ?_;refine Two.zU _ (fun _=>zAE rfl rfl) (fun _=>rfl) rfl (by intro G G' h;simp (decide:=true) only [h]) ?_)|refine Two.zU _ (fun _=>zIc rfl rfl rfl (IntWalk.i64_in _ (by omega))) (fun _=>rfl) rfl (by intro G G' h;simp (decide:=true) only [h]) ?_|refine Two.zU _ (fun _=>zAJ rfl rfl) (fun _=>rfl) rfl (by intro G G' h;simp (decide:=true) only [h]) ?_|refine Two.zU _ (fun _=>zDN rfl rfl (by exact rfl)) (fun _=>rfl) rfl (by intro G G' h;simp (decide:=true) only [h]) ?_)|((with_reducible refine Two.zA8 ?_ ?_);(· exact rfl))))
    (intro G;simp only [regsT,zm,Two.zAq,Two.ini,List.nil_append,List.cons_append])
    (repeat' (first|((with_reducible refine zF ?_);first|refine zE rfl rfl rfl ?_|refine zi rfl rfl rfl rfl (by omega) ?_|(refine za rfl rfl rfl rfl rfl ?_;refine ⟨rfl,by first|decide|exact Nat.le_of_ble_eq_true rfl|(simp;omega),_,rfl,?_⟩))|(with_reducible first|refine zB ?_|refine zD ?_|refine zA ?_|refine zg ?_)))
    exact zZ (k+1,s') ⟨by omega,hmk,hs'⟩ (by simp only;omega) (by (repeat first|exact lK1|refine zI rfl ?_)) (by
     dsimp only
     rw [e1]
     subst h
     simp only [layered,thinned,if_true,if_false,Bool.false_eq_true]
     (repeat constructor))
   ·(repeat' (first|((with_reducible refine zF ?_);first|refine zE rfl rfl rfl ?_|refine zi rfl rfl rfl rfl (by omega) ?_)|(with_reducible first|refine zB ?_|refine zD ?_|refine zA ?_|refine zS ?_|refine zg ?_)|((with_reducible refine zG ?_ ?_);(· exact rfl))))
    exact zZ (k+1,s') ⟨by omega,hmk,hs'⟩ (by simp only;omega) (by (repeat first|exact lK1|refine zI rfl ?_)) (by
     dsimp only
     rw [e1]
     subst h
     simp only [layered,thinned,if_true,if_false,Bool.false_eq_true]
     (repeat constructor))
 ·obtain rfl:k=c.hours.length:=by omega
  (repeat' (first|((with_reducible refine zF ?_);first|(refine zQ rfl rfl rfl rfl rfl (fun h=>?_) (fun h=>?_)<;>(dsimp only [cmpP] at h;(try (exfalso;omega)))))|(with_reducible first|refine zH ?_|refine zB ?_|refine zD ?_|refine zA ?_|refine zl ?_|refine zV ?_|refine zX ?_)|((with_reducible refine zG ?_ ?_);(· exact rfl))))
  (refine Two.zAV [] [] [] rfl (show ([]:List Nat).Nodup by decide) (fun _ h=>h) (by kernel_rfl) [[],[Y],[Z,Y],[Z,Z,Y],[Z,Z,Z,Y],[Z,Z,Z,Z,Y],[Z,Z,Z,Z,Z,Y],[Y,Y,Y,Y,Y,Y,Y],[Z,Z,Z,Z,Z,Z,Z,Z]] (by kernel_rfl) (by kernel_rfl) (by kernel_rfl) (by kernel_rfl) (by kernel_rfl) ?_)
  (repeat' (first|(((with_reducible refine Two.zCC ?_ ?_);(· exact rfl);refine ⟨_,fun G=>(by (try simp (decide:=true) only [Two.vis,Two.see,fltT,zm,Nat.reduceAdd,Nat.reduceSub,if_true,if_false,List.set_cons_zero,List.set_cons_succ,List.set_nil,List.nil_append,List.cons_append]);rfl),?_⟩);first|refine Two.zU _ (fun _=>zAO rfl rfl) (fun _=>rfl) rfl (by intro G G' h;simp (decide:=true) only [h]) ?_|refine Two.zU _ (fun _=>zu rfl rfl (by exact rfl)) (fun _=>rfl) rfl (by intro G G' h;simp (decide:=true) only [h]) ?_|(refine Two.zAC rfl ?_;refine Two.zU _ (fun _=>zAE rfl rfl) (fun _=>rfl) rfl (by intro G G' h;simp (decide:=true) only [h]) ?_)|refine Two.zU _ (fun _=>zEu rfl rfl) (fun _=>rfl) rfl (by intro G G' h;simp (decide:=true) only [h]) ?_|refine Two.zU _ (fun _=>zAJ rfl rfl) (fun _=>rfl) rfl (by intro G G' h;simp (decide:=true) only [h]) ?_)|((with_reducible refine Two.zA8 ?_ ?_);(· exact rfl))))
  (intro G;simp only [regsT,zm,Two.zAq,Two.ini,List.nil_append,List.cons_append])
  unfold zA7
  (repeat' (first|((with_reducible refine zF ?_);first|(refine zF0 (D:=zCX c A ca (some ⟨bb,o,none⟩) cb C cc pl (some ⟨b2,o2,none⟩) cp g1 g2 g3 r (i:Int)) (L:=Cx s) (C:=Cx) (p:=I (c.hours.length+1)) (go:=go c.hours.length) rfl rfl rfl rfl [.blk bt (zA7 (thickN c pl z i c.hours.length)),.oldx w wb.heap.size (feet (zCX c A ca (some ⟨bb,o,none⟩) cb C cc pl (some ⟨b2,o2,none⟩) cp g1 g2 g3 r (i:Int)++Cx s0))] (by (repeat constructor)) (fun _ W q=>hY W q.below (Own.append.1 (zBK.2 q.own)).1) ?_;rintro s' hs';simp only [zCX,zN,List.cons_append,List.nil_append]))|(with_reducible first|refine zD ?_)))
  refine u_endG ?_
  have hmk:m=c.hours.length+1:=by omega
  exact zIp (vs:=[]) zf.nil s' (hmk ▸ hs') rfl hwb (fun W9 h=>zBK.2 (show Own wb.heap.size W9 (zCX c A ca (some ⟨bb,o,none⟩) cb C cc pl (some ⟨b2,o2,none⟩) cp g1 g2 g3 r (i:Int) ++ .all (Cx s')::[.oldx w wb.heap.size (feet (zCX c A ca (some ⟨bb,o,none⟩) cb C cc pl (some ⟨b2,o2,none⟩) cp g1 g2 g3 r (i:Int)++Cx s0))]) from h.sub (by (repeat constructor))))
def zCW (c:Cov) (A:Option Addr) (ca:Nat) (B:Option Addr) (cb:Nat) (C:Option Addr) (cc:Nat) (pl:List Sli) (P:Option Addr) (cp g1 g2 g3 r:Nat) (i:Int):List Ent :=
 [.blk g1 [.pointer (some ⟨r,0,none⟩)],.blk g2 [.int .i64 i],.blk g3 [.slice P pl.length cp]]
set_option maxHeartbeats 4000000 in
theorem zQ3 (c:Cov) (A:Option Addr) (ca:Nat) (B:Option Addr) (cb:Nat) (C:Option Addr) (cc:Nat) (pl:List Sli) (P:Option Addr) (cp i g1 g2 g3 r:Nat) (z:Bed) (wb:World) (hr:InC wb r 0 (zN c A ca B cb C cc)) (h:zAp wb c A B C) (hs:Small c) (hf:zD5 c) (hp:zBJ wb P pl) (hrl:∀ s∈pl,s.xs.length≤20) (hpl:pl.length=c.hours.length) (hz:c.beds[i]?=some z) :
  Seq Tryz.prog 104 [.pointer (some ⟨g1,0,none⟩),.pointer (some ⟨g2,0,none⟩),.pointer (some ⟨g3,0,none⟩)] (zCW c A ca B cb C cc pl P cp g1 g2 g3 r (i:Int)) zFr (zIe c pl z i) wb:=by
 intro ι l m I Cx go s0 w hwb hI0 hO hm hgo hend hround
 have h4:=hs.b;have h5:=hs.h
 have hb:=h.b;have hpp:=hp.p;have hh:=h.h
 have hzm:=List.mem_of_getElem? hz
 have hi:=(List.getElem?_eq_some_iff.1 hz).1
 have hlay:=hf.layer
 simp only [zA5] at hlay
 have hL:=fun W (hW:Below wb.heap.size wb W) j u (hu:c.hours[j]?=some u) (hr:InC W r 0 (zN c A ca B cb C cc))=>zGL c A ca B cb C cc r i j z u W hr (h.below hW) hs hf hz hu
 obtain ⟨bb,o,rfl,hblt,hc⟩:=hb.at_ hi
 have:InS wb bb o zAw 3 c.beds:=⟨hb⟩
 have:zAQ c.beds i z:=⟨hz⟩
 have hh1:=hf.hours
 rw [zAB] at hh1
 obtain ⟨b2,o2,rfl,hblt2,hc2⟩:=hpp.at_ (show 0<pl.length by omega)
 have:InS wb b2 o2 zBC 1 pl:=⟨hpp⟩
 unfold vSp at hL
 rw [zEv] at hm hend
 have hround:=fun k s W (hk:k<m)=>hround k (k,thickN c pl z i k) s W hk (zHU (by omega))
 unfold zCW zFr vSp at *
 unfold zN at *
 refine zJS (n:=83) hwb hO Tryz.func104 rfl rfl rfl ?_
 refine zFW (fun _ h=>zBK.1 h) ?_
 simp only [List.cons_append,List.nil_append]
 (repeat' (first|(with_reducible first|refine zH ?_)))
 (refine Two.zAV [] [] [] rfl (show ([]:List Nat).Nodup by decide) (fun _ h=>h) (by kernel_rfl) [[],[Z],[Z,Z],[Z,Z,Z],[Z,Z,Z,Z],[Y,Y,Y,Y,Y],[Z,Z,Z,Z,Z,Z],[Z,Z,Z,Z,Z,Z,Z],[Z,Z,Z,Z,Z,Z,Z,Z],[Y,Y,Y,Y,Y,Y,Y,Y,Y],[Z,Z,Z,Z,Z,Z,Z,Z,Z,Z]] (by kernel_rfl) (by kernel_rfl) (by kernel_rfl) (by kernel_rfl) (by kernel_rfl) ?_)
 (repeat' (first|(((with_reducible refine Two.zCC ?_ ?_);(· exact rfl);refine ⟨_,fun G=>(by (try simp (decide:=true) only [Two.vis,Two.see,fltT,zm,Nat.reduceAdd,Nat.reduceSub,if_true,if_false,List.set_cons_zero,List.set_cons_succ,List.set_nil,List.nil_append,List.cons_append]);rfl),?_⟩);first|refine Two.zU _ (fun _=>zu rfl rfl (by exact rfl)) (fun _=>rfl) rfl (by intro G G' h;simp (decide:=true) only [h]) ?_|(refine Two.zAC rfl ?_;refine Two.zU _ (fun _=>zAE rfl rfl) (fun _=>rfl) rfl (by intro G G' h;simp (decide:=true) only [h]) ?_)|refine Two.zU _ (fun _=>zAl (I:=i) rfl rfl rfl rfl (by omega)) (fun _=>rfl) rfl (by exact fun _ _ _=>rfl) ?_|refine Two.zU _ (fun _=>zAJ rfl rfl) (fun _=>rfl) rfl (by intro G G' h;simp (decide:=true) only [h]) ?_|refine Two.zGR rfl (fun _=>rfl) rfl ?_)|((with_reducible refine Two.zA8 ?_ ?_);(· exact rfl))))
 (intro G;simp only [regsT,zm,Two.zAq,Two.ini,List.nil_append,List.cons_append])
 (repeat' (first|((with_reducible refine zF ?_);first|refine zE rfl rfl rfl ?_|(refine zL rfl rfl rfl ?_;refine ⟨_,rfl,?_⟩)|refine zb rfl rfl rfl ?_|refine zq rfl rfl rfl ?_|(refine za rfl rfl rfl rfl rfl ?_;refine ⟨rfl,by first|decide|exact Nat.le_of_ble_eq_true rfl|(simp;omega),_,rfl,?_⟩)|refine zAu rfl rfl rfl ?_)|(with_reducible first|refine zH ?_|refine zB ?_|refine zD ?_|refine zA ?_|refine zP ?_)))
 simp only [Nat.zero_add,Nat.reduceAdd]
 generalize (G 9).g=bt
 have hm0:0<m:=by omega
 refine zw (ι:=Nat × ι) [0,1,2,3,5,22] rfl (fun q=>q.1≤c.hours.length∧q.1<m∧I q.1 q.2) (fun q=>[(23,.int .i64 (q.1:Int))]) (fun q=>.blk bt (zA7 (thickN c pl z i q.1))::(zCW c A ca (some ⟨bb,o,none⟩) cb C cc pl (some ⟨b2,o2,none⟩) cp g1 g2 g3 r (i:Int)++[.all (Cx q.2),.oldx w wb.heap.size (feet (zCW c A ca (some ⟨bb,o,none⟩) cb C cc pl (some ⟨b2,o2,none⟩) cp g1 g2 g3 r (i:Int)++Cx s0))])) (fun q=>c.hours.length - q.1) (0,s0) ⟨Nat.zero_le _,hm0,hI0⟩ (by (repeat first|exact lK1|refine zI rfl ?_)) (by (repeat constructor)) ?_
 rintro ⟨k,s⟩ ⟨hk,hkm,hIk⟩
 simp only at hk hkm hIk
 have hY:=fun W=>hround k s W hkm hIk
 clear hround
 simp only [zA1,zCW,zN,List.cons_append,List.nil_append]
 by_cases hlt:k<c.hours.length
 ·obtain ⟨u,hu⟩:∃ u,c.hours[k]?=some u:=⟨_,List.getElem?_eq_getElem (by omega)⟩
  obtain ⟨sl,hsk⟩:∃ s,pl[k]?=some s:=⟨_,List.getElem?_eq_getElem (by omega)⟩
  have hsm:=List.mem_of_getElem? hsk
  have hrow:=hp.rows sl hsm
  have hsl:=hrl sl hsm
  have hin:=zG7 (pl:=pl) (i:=i) hf hzm k (by omega)
  have hlin:=zEf hf hzm (List.mem_of_getElem? hu)
  have e1:thickN c pl z i (k+1)=layered c (sl.xs.contains (i:Int)) (thinned (thickN c pl z i k) (zBs c z u)):=by simp only [thickN,zBD hu,zBD hsk]
  generalize thickN c pl z i k=t at *
  have hL:=fun W hW=>hL W hW k u hu
  generalize zBs c z u=lo at *
  obtain ⟨sA,xs,sc⟩:=sl
  simp only at hrow hsl e1
  have hH:=fun W (hW:Below wb.heap.size wb W)=>zHV xs (i:Int) sA sc W (hrow.below hW) (by omega)
  have:zAQ pl k ⟨sA,xs,sc⟩:=⟨hsk⟩
  generalize xs.contains (i:Int)=on at *
  cases hgk:go k
  ·simp only [hgk] at hY
   unfold zA7
   (repeat' (first|((with_reducible refine zF ?_);first|refine zE rfl rfl rfl ?_|refine zC rfl rfl rfl ?_|(refine zL rfl rfl rfl ?_;refine ⟨_,rfl,?_⟩)|(refine zQ rfl rfl rfl rfl rfl (fun h=>?_) (fun h=>?_)<;>(dsimp only [cmpP] at h;(try (exfalso;omega))))|(refine zF0 (D:=zCW c A ca (some ⟨bb,o,none⟩) cb C cc pl (some ⟨b2,o2,none⟩) cp g1 g2 g3 r (i:Int)) (L:=Cx s) (C:=Cx) (p:=I (k+1)) (go:=false) rfl rfl rfl rfl [.blk bt (zA7 t),.oldx w wb.heap.size (feet (zCW c A ca (some ⟨bb,o,none⟩) cb C cc pl (some ⟨b2,o2,none⟩) cp g1 g2 g3 r (i:Int)++Cx s0))] (by (repeat constructor)) (fun _ W q=>hY W q.below (Own.append.1 (zBK.2 q.own)).1) ?_;rintro s' hs';simp only [zCW,zN,List.cons_append,List.nil_append])|refine zAd rfl rfl rfl ?_)|(with_reducible first|refine zH ?_|refine zB ?_|refine zD ?_|refine zA ?_|refine zW ?_|refine zS ?_|refine ze ?_|refine zP ?_|refine zBb ?_)|((with_reducible refine zK ?_ ?_);(· exact rfl))))
   have hmk:m=k+1:=by
    rcases Nat.lt_or_ge (k+1) m with h9|h9
    ·have:=hgo k h9;rw [hgk] at this;cases this
    ·omega
   exact zIp (vs:=[]) zf.nil s' (hmk ▸ hs') rfl hwb (fun W9 h=>zBK.2 (show Own wb.heap.size W9 (zCW c A ca (some ⟨bb,o,none⟩) cb C cc pl (some ⟨b2,o2,none⟩) cp g1 g2 g3 r (i:Int) ++ .all (Cx s')::[.oldx w wb.heap.size (feet (zCW c A ca (some ⟨bb,o,none⟩) cb C cc pl (some ⟨b2,o2,none⟩) cp g1 g2 g3 r (i:Int)++Cx s0))]) from h.sub (by (repeat constructor))))
  ·simp only [hgk] at hY
   have hmk:k+1<m:=by
    rcases hend with h9 | ⟨h9,h10⟩
    ·omega
    ·rcases Nat.lt_or_ge (k+1) m with h11|h11
     ·exact h11
     ·have:m - 1=k:=by omega
      rw [this,hgk] at h10;cases h10
   unfold zA7
   (repeat' (first|((with_reducible refine zF ?_);first|refine zE rfl rfl rfl ?_|refine zC rfl rfl rfl ?_|(refine zL rfl rfl rfl ?_;refine ⟨_,rfl,?_⟩)|refine zb rfl rfl rfl ?_|(refine zQ rfl rfl rfl rfl rfl (fun h=>?_) (fun h=>?_)<;>(dsimp only [cmpP] at h;(try (exfalso;omega))))|(refine zF0 (D:=zCW c A ca (some ⟨bb,o,none⟩) cb C cc pl (some ⟨b2,o2,none⟩) cp g1 g2 g3 r (i:Int)) (L:=Cx s) (C:=Cx) (p:=I (k+1)) (go:=true) rfl rfl rfl rfl [.blk bt (zA7 t),.oldx w wb.heap.size (feet (zCW c A ca (some ⟨bb,o,none⟩) cb C cc pl (some ⟨b2,o2,none⟩) cp g1 g2 g3 r (i:Int)++Cx s0))] (by (repeat constructor)) (fun _ W q=>hY W q.below (Own.append.1 (zBK.2 q.own)).1) ?_;rintro s' hs';simp only [zCW,zN,List.cons_append,List.nil_append];unfold zA7)|refine zY rfl rfl rfl rfl (fun _ _ q=>hL _ q.below (hr.below q.below)) ?_|refine zAd rfl rfl rfl ?_|refine zCi rfl rfl rfl rfl (IntWalk.i64_in _ (by omega)) ?_|(refine za rfl rfl rfl rfl rfl ?_;refine ⟨rfl,by first|decide|exact Nat.le_of_ble_eq_true rfl|(simp;omega),_,rfl,?_⟩)|(refine zh rfl rfl (fun b=>?_))|(refine zAo rfl rfl rfl ?_;refine ⟨_,rfl,?_⟩)|refine zKl rfl rfl rfl rfl ?_)|(with_reducible first|refine zH ?_|refine zB ?_|refine zD ?_|refine zA ?_|refine zS ?_|refine zP ?_)|((with_reducible refine zK ?_ ?_);(· exact rfl))|((with_reducible refine zG ?_ ?_);(· exact rfl))))
   (refine zBW (by kernel_rfl) (by kernel_rfl) (by kernel_rfl) ?_)
   (repeat' (first|((with_reducible refine zBy ?_);first|refine zj (zAO rfl rfl) rfl ?_|refine zj (zu rfl rfl (by exact rfl)) rfl ?_|refine zj (zAl (I:=k) rfl rfl rfl (by omega) (by first|omega|(dsimp only;omega))) rfl ?_|(refine zMy rfl rfl rfl rfl (fun _ _ q=>hH _ q.below) (fun h=>?_) (fun h=>?_)))|(with_reducible refine zCx ?_)))
   ·(repeat' (first|(with_reducible first|refine zA ?_)|((with_reducible refine zK ?_ ?_);(· exact rfl))))
    (refine Two.zAV [] [] [] rfl (show ([]:List Nat).Nodup by decide) (fun _ h=>h) (by kernel_rfl) [[],[Z],[Y,Y],[Z,Y,Y],[Z,Z,Y,Y],[Z,Z,Z,Y,Y],[Z,Z,Z,Z,Y,Y],[Z,Z,Z,Z,Z,Y,Y],[Z,Z,Z,Z,Z,Z,Z,Z],[Y,Y,Y,Y,Y,Y,Y,Y,Y],[Z,Y,Y,Y,Y,Y,Y,Y,Y,Y],[Y,Y,Y,Y,Y,Y,Y,Y,Y,Y,Y],[Z,Y,Y,Y,Y,Y,Y,Y,Y,Y,Y,Y],[Z,Z,Y,Y,Y,Y,Y,Y,Y,Y,Y,Y,Y],[Z,Z,Z,Y,Y,Y,Y,Y,Y,Y,Y,Y,Y,Y],[Z,Z,Z,Z,Y,Y,Y,Y,Y,Y,Y,Y,Y,Y,Y],[Z,Z,Z,Z,Z,Y,Y,Y,Y,Y,Y,Y,Y,Y,Y,Y],[Z,Z,Z,Z,Z,Z,Z,Z,Y,Y,Y,Y,Y,Y,Y,Y,Y],[Z,Z,Z,Z,Z,Z,Z,Z,Z,Z,Z,Z,Z,Z,Z,Z,Z,Z],[Z,Z,Z,Z,Z,Z,Z,Z,Z,Z,Z,Z,Z,Z,Z,Z,Z,Z,Z]] (by kernel_rfl) (by kernel_rfl) (by kernel_rfl) (by kernel_rfl) (by kernel_rfl) ?_)
    (repeat' (first|(((with_reducible refine Two.zCC ?_ ?_);(· exact rfl);refine ⟨_,fun G=>(by (try simp (decide:=true) only [Two.vis,Two.see,fltT,zm,Nat.reduceAdd,Nat.reduceSub,if_true,if_false,List.set_cons_zero,List.set_cons_succ,List.set_nil,List.nil_append,List.cons_append]);rfl),?_⟩);first|refine Two.zU _ (fun _=>zu rfl rfl (by exact rfl)) (fun _=>rfl) rfl (by intro G G' h;simp (decide:=true) only [h]) ?_|(refine Two.zAC rfl ?_;refine Two.zU _ (fun _=>zAE rfl rfl) (fun _=>rfl) rfl (by intro G G' h;simp (decide:=true) only [h]) ?_)|refine Two.zU _ (fun _=>zIc rfl rfl rfl (IntWalk.i64_in _ (by omega))) (fun _=>rfl) rfl (by intro G G' h;simp (decide:=true) only [h]) ?_|refine Two.zU _ (fun _=>zAJ rfl rfl) (fun _=>rfl) rfl (by intro G G' h;simp (decide:=true) only [h]) ?_|refine Two.zU _ (fun _=>zDN rfl rfl (by exact rfl)) (fun _=>rfl) rfl (by intro G G' h;simp (decide:=true) only [h]) ?_)|((with_reducible refine Two.zA8 ?_ ?_);(· exact rfl))))
    (intro G;simp only [regsT,zm,Two.zAq,Two.ini,List.nil_append,List.cons_append])
    (repeat' (first|((with_reducible refine zF ?_);first|refine zE rfl rfl rfl ?_|refine zi rfl rfl rfl rfl (by omega) ?_|(refine za rfl rfl rfl rfl rfl ?_;refine ⟨rfl,by first|decide|exact Nat.le_of_ble_eq_true rfl|(simp;omega),_,rfl,?_⟩))|(with_reducible first|refine zB ?_|refine zD ?_|refine zA ?_|refine zg ?_)))
    exact zZ (k+1,s') ⟨by omega,hmk,hs'⟩ (by simp only;omega) (by (repeat first|exact lK1|refine zI rfl ?_)) (by
     dsimp only
     rw [e1]
     subst h
     simp only [layered,thinned,if_true,if_false,Bool.false_eq_true]
     (repeat constructor))
   ·(repeat' (first|((with_reducible refine zF ?_);first|refine zE rfl rfl rfl ?_|refine zi rfl rfl rfl rfl (by omega) ?_)|(with_reducible first|refine zB ?_|refine zD ?_|refine zA ?_|refine zS ?_|refine zg ?_)|((with_reducible refine zG ?_ ?_);(· exact rfl))))
    exact zZ (k+1,s') ⟨by omega,hmk,hs'⟩ (by simp only;omega) (by (repeat first|exact lK1|refine zI rfl ?_)) (by
     dsimp only
     rw [e1]
     subst h
     simp only [layered,thinned,if_true,if_false,Bool.false_eq_true]
     (repeat constructor))
 ·obtain rfl:k=c.hours.length:=by omega
  (repeat' (first|((with_reducible refine zF ?_);first|(refine zQ rfl rfl rfl rfl rfl (fun h=>?_) (fun h=>?_)<;>(dsimp only [cmpP] at h;(try (exfalso;omega)))))|(with_reducible first|refine zH ?_|refine zB ?_|refine zD ?_|refine zA ?_|refine zl ?_|refine zV ?_|refine zX ?_)|((with_reducible refine zG ?_ ?_);(· exact rfl))))
  (refine Two.zAV [] [] [] rfl (show ([]:List Nat).Nodup by decide) (fun _ h=>h) (by kernel_rfl) [[],[Y],[Z,Y],[Z,Z,Y],[Z,Z,Z,Y],[Z,Z,Z,Z,Y],[Z,Z,Z,Z,Z,Y],[Y,Y,Y,Y,Y,Y,Y],[Z,Z,Z,Z,Z,Z,Z,Z]] (by kernel_rfl) (by kernel_rfl) (by kernel_rfl) (by kernel_rfl) (by kernel_rfl) ?_)
  (repeat' (first|(((with_reducible refine Two.zCC ?_ ?_);(· exact rfl);refine ⟨_,fun G=>(by (try simp (decide:=true) only [Two.vis,Two.see,fltT,zm,Nat.reduceAdd,Nat.reduceSub,if_true,if_false,List.set_cons_zero,List.set_cons_succ,List.set_nil,List.nil_append,List.cons_append]);rfl),?_⟩);first|refine Two.zU _ (fun _=>zAO rfl rfl) (fun _=>rfl) rfl (by intro G G' h;simp (decide:=true) only [h]) ?_|refine Two.zU _ (fun _=>zu rfl rfl (by exact rfl)) (fun _=>rfl) rfl (by intro G G' h;simp (decide:=true) only [h]) ?_|(refine Two.zAC rfl ?_;refine Two.zU _ (fun _=>zAE rfl rfl) (fun _=>rfl) rfl (by intro G G' h;simp (decide:=true) only [h]) ?_)|refine Two.zU _ (fun _=>zEu rfl rfl) (fun _=>rfl) rfl (by intro G G' h;simp (decide:=true) only [h]) ?_|refine Two.zU _ (fun _=>zAJ rfl rfl) (fun _=>rfl) rfl (by intro G G' h;simp (decide:=true) only [h]) ?_)|((with_reducible refine Two.zA8 ?_ ?_);(· exact rfl))))
  (intro G;simp only [regsT,zm,Two.zAq,Two.ini,List.nil_append,List.cons_append])
  unfold zA7
  (repeat' (first|((with_reducible refine zF ?_);first|(refine zF0 (D:=zCW c A ca (some ⟨bb,o,none⟩) cb C cc pl (some ⟨b2,o2,none⟩) cp g1 g2 g3 r (i:Int)) (L:=Cx s) (C:=Cx) (p:=I (c.hours.length+1)) (go:=go c.hours.length) rfl rfl rfl rfl [.blk bt (zA7 (thickN c pl z i c.hours.length)),.oldx w wb.heap.size (feet (zCW c A ca (some ⟨bb,o,none⟩) cb C cc pl (some ⟨b2,o2,none⟩) cp g1 g2 g3 r (i:Int)++Cx s0))] (by (repeat constructor)) (fun _ W q=>hY W q.below (Own.append.1 (zBK.2 q.own)).1) ?_;rintro s' hs';simp only [zCW,zN,List.cons_append,List.nil_append]))|(with_reducible first|refine zD ?_)))
  refine u_endG ?_
  have hmk:m=c.hours.length+1:=by omega
  exact zIp (vs:=[]) zf.nil s' (hmk ▸ hs') rfl hwb (fun W9 h=>zBK.2 (show Own wb.heap.size W9 (zCW c A ca (some ⟨bb,o,none⟩) cb C cc pl (some ⟨b2,o2,none⟩) cp g1 g2 g3 r (i:Int) ++ .all (Cx s')::[.oldx w wb.heap.size (feet (zCW c A ca (some ⟨bb,o,none⟩) cb C cc pl (some ⟨b2,o2,none⟩) cp g1 g2 g3 r (i:Int)++Cx s0))]) from h.sub (by (repeat constructor))))
end Go.Proofs.YtdigopgncfhiaaaGreatDoor
namespace Go.Proofs.YtdigopgncfhiaaaGreatDoor
open Go.RowKit
set_option maxRecDepth 20000
theorem zLJ (r i:Nat) (pl:List Sli) (P:Option Addr) (cp:Nat) (w:World):Ret Tryz.prog 61 [.pointer (some ⟨r,0,none⟩),.slice P pl.length cp,.int .i64 (i:Int)] w (fun g:Nat × Nat × Nat=>.func (.func 104) #[] #[.pointer (some ⟨g.1,0,none⟩),.pointer (some ⟨g.2.1,0,none⟩),.pointer (some ⟨g.2.2,0,none⟩)])
  (fun g=>[.blk g.1 [.pointer (some ⟨r,0,none⟩)],.blk g.2.1 [.int .i64 (i:Int)],.blk g.2.2 [.slice P pl.length cp]]) (fun _=>True):=by
 (refine zJ (n:=8) Tryz.func61 rfl rfl rfl ?_)
 (repeat' (first|((with_reducible refine zF ?_);first|refine zC rfl rfl rfl ?_|(refine zy rfl rfl rfl rfl (fun b=>?_))|refine zBa rfl rfl rfl rfl ?_)|(with_reducible first|refine zH ?_|refine zB ?_|refine zD ?_|refine zA ?_|refine zW ?_)))
 rename_i b1 b3
 exact zR (by exact rTm rfl) (b1,b,b3) trivial rfl (fun _ h=>h.sub (by (repeat constructor)))
def zE5 (c:Cov) (pl:List Sli) (i h:Int):Sp × Int :=
 if zCB c pl=0 then (if inB 0 ((c.beds.length:Int) - 1) i=true∧inB 0 (c.hours.length:Int) h=true then (thickN c pl (c.beds.getD i.toNat default) i h.toNat,0) else (⟨0,0⟩,2)) else (⟨0,0⟩,zCB c pl)
theorem zEr {c:Cov} {pl:List Sli} (h:zCB c pl=0):zAs c=0∧zBd c pl=true:=by
 unfold zCB at h
 by_cases h0:zAs c=0
 ·rw [if_pos h0] at h
  cases hp:zBd c pl with
  | true=>exact ⟨h0,rfl⟩
  | false=>rw [hp] at h;simp at h
 ·rw [if_neg h0] at h;exact absurd h h0
set_option maxHeartbeats 4000000 in
theorem zOl (c:Cov) (A:Option Addr) (ca:Nat) (B:Option Addr) (cb:Nat) (C:Option Addr) (cc:Nat) (pl:List Sli) (P:Option Addr) (cp:Nat) (i h:Int) (w:World) (hc:zAp w c A B C) (hs:Small c) (hp:zBJ w P pl) (hl:pl.length≤12) (hrl:∀ s∈pl,s.xs.length≤20) :
  Gv Tryz.prog 23 [zAS c A ca B cb C cc,.slice P pl.length cp,.int .i64 i,.int .i64 h] w (.tuple #[vSp (zE5 c pl i h).1,.int .i64 (zE5 c pl i h).2]):=by
 have hl4:=hs.b;have hl5:=hs.h
 have h1:=fun W (hb:Below w.heap.size w W)=>zEk c A ca B cb C cc pl P cp W (hc.below hb) hs (hp.below hb) hl hrl
 have h2:=fun W (hb:Below w.heap.size w W)=>zEj c A ca B cb C cc pl P cp W (hc.below hb) hs (hp.below hb) hl hrl
 unfold zAS at h1 h2
 unfold Gv zAS zE5
 by_cases h0:zCB c pl=0
 ·rw [if_pos h0]
  obtain ⟨h00,hpl⟩:=zEr h0
  have hf:=zBm h00
  have h2:=fun W hb=>h2 W hb h00 hpl
  by_cases hin:inB 0 ((c.beds.length:Int) - 1) i=true∧inB 0 (c.hours.length:Int) h=true
  ·rw [if_pos hin]
   obtain ⟨I,rfl,hI⟩:=zOU hin.1
   obtain ⟨J,rfl,hJ⟩:∃ J:Nat,h=(J:Int)∧J≤c.hours.length:=by have:=zAB.1 hin.2;exact ⟨h.toNat,by omega,by omega⟩
   obtain ⟨hi1,hi2⟩:=hin
   obtain ⟨z,hz⟩:∃ z,c.beds[I]?=some z:=⟨_,List.getElem?_eq_getElem hI⟩
   simp only [Int.toNat_natCast]
   rw [zBD hz]
   have hseq:=fun g1 g2 g3 r=>days_seq c A ca B cb C cc pl P cp I g1 g2 g3 r z w hc hs hf hp hrl (zBc.1 hpl).1 hz
   unfold vSp
   unfold zN at h2 ⊢
   (refine zJ (n:=54) Tryz.func23 rfl rfl rfl ?_)
   (repeat' (first|((with_reducible refine zF ?_);first|refine zE rfl rfl rfl ?_|refine zC rfl rfl rfl ?_|(refine zL rfl rfl rfl ?_;refine ⟨_,rfl,?_⟩)|refine zb rfl rfl rfl ?_|refine zAY rfl rfl rfl rfl ?_|(refine zQ rfl rfl rfl rfl rfl (fun h=>?_) (fun h=>?_)<;>(dsimp only [cmpP] at h;(try (exfalso;omega))))|(refine zAW rfl rfl rfl rfl (fun _ _ q=>h2 _ q.below) ?_;rintro g -;dsimp only [List.cons_append,List.nil_append])|(refine zY rfl rfl rfl rfl (fun _ _ q=>hi1 ▸ iin1 _ _ _ _ _ _ (zAg (enc:=encI) (by exact rfl) _ q.below q.own)) ?_)|(refine zY rfl rfl rfl rfl (fun _ _ q=>hi2 ▸ iin1 _ _ _ _ _ _ (zAg (enc:=encI) (by exact rfl) _ q.below q.own)) ?_)|(refine zAW rfl rfl rfl rfl (fun _ _ q=>zLJ _ I pl P cp _) ?_;rintro ⟨g1,g2,g3⟩ -;dsimp only [List.cons_append,List.nil_append])|refine zc rfl rfl rfl rfl ?_|refine zAd rfl rfl rfl ?_|refine zCi rfl rfl rfl rfl (IntWalk.i64_in _ (by omega)) ?_|refine zq rfl rfl rfl ?_|(refine zh rfl rfl (fun b=>?_))|(refine zy rfl rfl rfl rfl (fun b=>?_))|(refine zt rfl rfl rfl ?_;refine ⟨rfl,_,rfl,fun b=>?_⟩))|(with_reducible first|refine zH ?_|refine zB ?_|refine zD ?_|refine zA ?_|refine zS ?_|refine zP ?_)|((with_reducible refine zG ?_ ?_);(· exact rfl))))
   rename_i b4 b7 b8 ba1 ba2
   refine u_dfr0 ?_
   refine zPA (ι:=Sp) (α:=Nat × Sp) (gf:=104) (lb:=[.pointer (some ⟨g1,0,none⟩),.pointer (some ⟨g2,0,none⟩),.pointer (some ⟨g3,0,none⟩)]) (bs:=[]) (zCX c A ca B cb C cc pl P cp g1 g2 g3 g (I:Int)) zFr (zIe c pl z I) (J+1) (fun k s=>k=J+1→s=thickN c pl z I J) (fun s=>[.blk b (zA7 s),.blk b8 [.int .i64 0,.int .i64 0],.blk b7 [.int .i64 (J:Int)],.blk b4 (zN c A ca B cb C cc)]) (fun k=>!decide (k=J)) (.exit 0) ⟨0,0⟩ rfl (by unfold zCX zN;simp only [List.cons_append,List.nil_append];(repeat constructor)) (fun h=>by omega) (by rw [zEv];omega) (fun k hk=>by simp;omega) (.inr ⟨by omega,by simp⟩) (fun x=>rfl) (by decide) (.inr ⟨0,rfl⟩) (hseq g1 g2 g3 g) ?_ ?_ ?_
   ·rintro l k x s ⟨⟩ W hk hx hI hr hrp hW
    simp only at hr hrp
    subst hr hrp
    rw [zHU (by omega)] at hx
    cases hx
    simp only [zFr,parR,zCX,zN,vSp,List.cons_append,List.nil_append]
    by_cases hkJ:k=J
    ·subst hkJ
     simp only [decide_true,Bool.not_true,Bool.false_eq_true,if_false]
     (repeat' (first|((with_reducible refine zF ?_);first|refine zC rfl rfl rfl ?_|(refine za rfl rfl rfl rfl rfl ?_;refine ⟨rfl,by first|decide|exact Nat.le_of_ble_eq_true rfl|(simp;omega),_,rfl,?_⟩)|(refine zh rfl rfl (fun b=>?_)))|(with_reducible first|refine zH ?_|refine zB ?_|refine zD ?_|refine zA ?_)))
     refine zLl (by (repeat constructor)) rfl ?_
     (repeat' (first|((with_reducible refine zF ?_);first|refine zE rfl rfl rfl ?_|(refine zL rfl rfl rfl ?_;refine ⟨_,rfl,?_⟩)|(refine zQ rfl rfl rfl rfl rfl (fun h=>?_) (fun h=>?_)<;>(dsimp only [cmpP] at h;(try (exfalso;omega))))|(refine za rfl rfl rfl rfl rfl ?_;refine ⟨rfl,by first|decide|exact Nat.le_of_ble_eq_true rfl|(simp;omega),_,rfl,?_⟩))|(with_reducible first|refine zH ?_|refine zB ?_|refine zD ?_|refine zA ?_|refine zP ?_|refine zl ?_)|((with_reducible refine zN7 ?_ ?_);(· exact rfl))|((with_reducible refine zK ?_ ?_);(· exact rfl))))
     exact zFX (some (.exit 0)) (.inr (.inr ⟨0,rfl,rfl⟩)) rfl (by (repeat constructor)) (thickN c pl z I k) (fun _=>rfl) hW (fun _ h=>h.sub (by (repeat constructor)))
    ·simp only [hkJ,decide_false,Bool.not_false,if_true]
     (repeat' (first|((with_reducible refine zF ?_);first|refine zC rfl rfl rfl ?_|(refine za rfl rfl rfl rfl rfl ?_;refine ⟨rfl,by first|decide|exact Nat.le_of_ble_eq_true rfl|(simp;omega),_,rfl,?_⟩)|(refine zh rfl rfl (fun b=>?_)))|(with_reducible first|refine zH ?_|refine zB ?_|refine zD ?_|refine zA ?_)))
     refine zLl (by (repeat constructor)) rfl ?_
     (repeat' (first|((with_reducible refine zF ?_);first|refine zE rfl rfl rfl ?_|(refine zL rfl rfl rfl ?_;refine ⟨_,rfl,?_⟩)|(refine zQ rfl rfl rfl rfl rfl (fun h=>?_) (fun h=>?_)<;>(dsimp only [cmpP] at h;(try (exfalso;omega)))))|(with_reducible first|refine zH ?_|refine zB ?_|refine zD ?_|refine zA ?_|refine zS ?_|refine zP ?_|refine zg ?_)|((with_reducible refine zG ?_ ?_);(· exact rfl))))
     exact zFX none (.inl ⟨rfl,rfl⟩) rfl (by (repeat constructor)) s (fun h=>by omega) hW (fun _ h=>h.sub (by (repeat constructor)))
   ·intro h9;simp at h9
   ·intro _ _ bd s hI
    have:=hI rfl
    subst this
    simp only [zCX,zN,List.cons_append,List.nil_append]
    (repeat' (first|((with_reducible refine zF ?_);first|refine zC rfl rfl rfl ?_|(refine zL rfl rfl rfl ?_;refine ⟨_,rfl,?_⟩)|(refine za rfl rfl rfl rfl rfl ?_;refine ⟨rfl,by first|decide|exact Nat.le_of_ble_eq_true rfl|(simp;omega),_,rfl,?_⟩))|(with_reducible first|refine zH ?_|refine zB ?_|refine zD ?_|refine zA ?_|refine zW ?_|refine zl ?_|refine zV ?_)))
    exact zPD (by (repeat constructor)) (by (exact zf.cons (by exact res1c rfl (by exact rfl)) (zf.cons (by exact zAL.tmp rfl) zf.nil))) () trivial rfl (fun _ h=>h.sub (by (repeat constructor)))
  ·rw [if_neg hin]
   unfold vSp
   unfold zN at h2 ⊢
   (refine zJ (n:=54) Tryz.func23 rfl rfl rfl ?_)
   (repeat' (first|((with_reducible refine zF ?_);first|refine zE rfl rfl rfl ?_|refine zC rfl rfl rfl ?_|(refine zL rfl rfl rfl ?_;refine ⟨_,rfl,?_⟩)|refine zb rfl rfl rfl ?_|refine zAY rfl rfl rfl rfl ?_|refine zx rfl rfl rfl ?_|(refine zQ rfl rfl rfl rfl rfl (fun h=>?_) (fun h=>?_)<;>(dsimp only [cmpP] at h;(try (exfalso;omega))))|(refine zAW rfl rfl rfl rfl (fun _ _ q=>h2 _ q.below) ?_;rintro g -;dsimp only [List.cons_append,List.nil_append])|(refine zAG rfl rfl rfl rfl (fun _ _ q=>iin1 _ _ _ _ _ _ (zAg (enc:=encI) (by exact rfl) _ q.below q.own)) (fun h=>?_) (fun h=>?_)<;>(try (exfalso;omega)))|refine zc rfl rfl rfl rfl ?_|refine zAd rfl rfl rfl ?_|refine zCi rfl rfl rfl rfl (IntWalk.i64_in _ (by omega)) ?_|refine zq rfl rfl rfl ?_|(refine za rfl rfl rfl rfl rfl ?_;refine ⟨rfl,by first|decide|exact Nat.le_of_ble_eq_true rfl|(simp;omega),_,rfl,?_⟩)|(refine zh rfl rfl (fun b=>?_))|(refine zy rfl rfl rfl rfl (fun b=>?_))|(refine zAo rfl rfl rfl ?_;refine ⟨_,rfl,?_⟩)|(refine zt rfl rfl rfl ?_;refine ⟨rfl,_,rfl,fun b=>?_⟩))|(with_reducible first|refine zH ?_|refine zB ?_|refine zD ?_|refine zA ?_|refine zW ?_|refine zS ?_|refine ze ?_)|((with_reducible refine zK ?_ ?_);(· exact rfl))|((with_reducible refine zG ?_ ?_);(· exact rfl))))
   all_goals first|exact zR (by (exact zf.cons (by exact res1c rfl (by exact rfl)) (zf.cons (by exact zAL.tmp rfl) zf.nil))) () trivial rfl (fun _ h=>h.sub (by (repeat constructor)))|(exfalso;exact hin ⟨by assumption,by assumption⟩)
 ·rw [if_neg h0]
  unfold vSp
  unfold zN at h1 ⊢
  generalize zCB c pl=e at *
  (refine zJ (n:=54) Tryz.func23 rfl rfl rfl ?_)
  (repeat' (first|((with_reducible refine zF ?_);first|refine zE rfl rfl rfl ?_|refine zC rfl rfl rfl ?_|(refine zL rfl rfl rfl ?_;refine ⟨_,rfl,?_⟩)|(refine zQ rfl rfl rfl rfl rfl (fun h=>?_) (fun h=>?_)<;>(dsimp only [cmpP] at h;(try (exfalso;omega))))|refine zY rfl rfl rfl rfl (fun _ _ q=>h1 _ q.below h0) ?_|refine zc rfl rfl rfl rfl ?_|(refine za rfl rfl rfl rfl rfl ?_;refine ⟨rfl,by first|decide|exact Nat.le_of_ble_eq_true rfl|(simp;omega),_,rfl,?_⟩)|(refine zh rfl rfl (fun b=>?_))|(refine zy rfl rfl rfl rfl (fun b=>?_))|(refine zAo rfl rfl rfl ?_;refine ⟨_,rfl,?_⟩))|(with_reducible first|refine zH ?_|refine zB ?_|refine zD ?_|refine zA ?_|refine zW ?_|refine ze ?_)|((with_reducible refine zK ?_ ?_);(· exact rfl))))
  all_goals exact zR (by (exact zf.cons (by exact res1c rfl (by exact rfl)) (zf.cons (by exact zAL.tmp rfl) zf.nil))) () trivial rfl (fun _ h=>h.sub (by (repeat constructor)))
end Go.Proofs.YtdigopgncfhiaaaGreatDoor
namespace Go.Proofs.YtdigopgncfhiaaaGreatDoor
open Go.Shelf
set_option maxRecDepth 20000
def zOA : Ren where
 f:=fun x=>match x with | 6=>100 | 15=>132 | 14=>131 | 28=>153 | 29=>154 | 20=>145 | 21=>146 | 22=>147 | 23=>148 | 24=>149 | 25=>150 | 26=>151 | 27=>152 | 46=>157 | 47=>158 | 48=>159 | 49=>160 | 50=>161 | 57=>162|n=>n
 t:=fun x=>match x with | 22=>36 | 24=>75 | 25=>162 | 3=>3 | 39=>126 | 0=>0 | 53=>80 | 55=>179 | 4=>4 | 46=>222 | 45=>221 | 50=>169 | 5=>5 | 9=>9 | 66=>229 | 70=>233 | 76=>235 | 77=>236|n=>n
 g:=fun n=>n
theorem sortPr : SlLaysF0.n6 Tryz.prog zOA where
 mixed:=by kernel_rfl
 f6:=⟨Tryz.f100.name,by decide,Tryz.func100.trans (congrArg some (by kernel_rfl))⟩
 f14:=⟨Tryz.f131.name,by decide,Tryz.func131.trans (congrArg some (by kernel_rfl))⟩
 f15:=Tryz.func132.trans (congrArg some (by kernel_rfl))
 f20:=⟨Tryz.f145.name,by decide,Tryz.func145.trans (congrArg some (by kernel_rfl))⟩
 f21:=⟨Tryz.f146.name,by decide,Tryz.func146.trans (congrArg some (by kernel_rfl))⟩
 f22:=⟨Tryz.f147.name,by decide,Tryz.func147.trans (congrArg some (by kernel_rfl))⟩
 f23:=⟨Tryz.f148.name,by decide,Tryz.func148.trans (congrArg some (by kernel_rfl))⟩
 f24:=⟨Tryz.f149.name,by decide,Tryz.func149.trans (congrArg some (by kernel_rfl))⟩
 f25:=⟨Tryz.f150.name,by decide,Tryz.func150.trans (congrArg some (by kernel_rfl))⟩
 f26:=⟨Tryz.f151.name,by decide,Tryz.func151.trans (congrArg some (by kernel_rfl))⟩
 f27:=⟨Tryz.f152.name,by decide,Tryz.func152.trans (congrArg some (by kernel_rfl))⟩
 f28:=Tryz.func153.trans (congrArg some (by kernel_rfl))
 f29:=Tryz.func154.trans (congrArg some (by kernel_rfl))
 f46:=⟨Tryz.f157.name,by decide,Tryz.func157.trans (congrArg some (by kernel_rfl))⟩
 f47:=Tryz.func158.trans (congrArg some (by kernel_rfl))
 f48:=Tryz.func159.trans (congrArg some (by kernel_rfl))
 f49:=⟨Tryz.f160.name,by decide,Tryz.func160.trans (congrArg some (by kernel_rfl))⟩
 f50:=⟨Tryz.f161.name,by decide,Tryz.func161.trans (congrArg some (by kernel_rfl))⟩
 f57:=⟨Tryz.f162.name,by decide,Tryz.func162.trans (congrArg some (by kernel_rfl))⟩
 t0:=Tryz.underlying0
 a0:=Tryz.isAgg0
 z0:=Tryz.sizeOf0
 v0:=Tryz.zeroValue0
 t3:=Tryz.underlying3
 a3:=Tryz.isAgg3
 z3:=Tryz.sizeOf3
 v3:=Tryz.zeroValue3
 t4:=Tryz.underlying4
 a4:=Tryz.isAgg4
 z4:=Tryz.sizeOf4
 v4:=Tryz.zeroValue4
 t5:=Tryz.underlying5
 a5:=Tryz.isAgg5
 z5:=Tryz.sizeOf5
 v5:=Tryz.zeroValue5
 t9:=Tryz.underlying9
 a9:=Tryz.isAgg9
 z9:=Tryz.sizeOf9
 v9:=Tryz.zeroValue9
 t22:=Tryz.underlying36
 a22:=Tryz.isAgg36
 z22:=Tryz.sizeOf36
 v22:=Tryz.zeroValue36
 t25:=Tryz.underlying162
 a25:=Tryz.isAgg162
 z25:=Tryz.sizeOf162
 v25:=Tryz.zeroValue162
 t39:=Tryz.underlying126
 a39:=Tryz.isAgg126
 z39:=Tryz.sizeOf126
 v39:=Tryz.zeroValue126
 t45:=Tryz.underlying221
 a45:=Tryz.isAgg221
 z45:=Tryz.sizeOf221
 v45:=Tryz.zeroValue221
 t46:=Tryz.underlying222
 a46:=Tryz.isAgg222
 z46:=Tryz.sizeOf222
 v46:=Tryz.zeroValue222
 t50:=Tryz.underlying169
 a50:=Tryz.isAgg169
 z50:=Tryz.sizeOf169
 v50:=Tryz.zeroValue169
 t53:=Tryz.underlying80
 a53:=Tryz.isAgg80
 z53:=Tryz.sizeOf80
 v53:=Tryz.zeroValue80
 t55:=Tryz.underlying179
 a55:=Tryz.isAgg179
 z55:=Tryz.sizeOf179
 v55:=Tryz.zeroValue179
 t66:=Tryz.underlying229
 a66:=Tryz.isAgg229
 z66:=Tryz.sizeOf229
 v66:=Tryz.zeroValue229
 t70:=Tryz.underlying233
 a70:=Tryz.isAgg233
 z70:=Tryz.sizeOf233
 v70:=Tryz.zeroValue233
 t76:=Tryz.underlying235
 a76:=Tryz.isAgg235
 z76:=Tryz.sizeOf235
 v76:=Tryz.zeroValue235
 t77:=Tryz.underlying236
 a77:=Tryz.isAgg236
 z77:=Tryz.sizeOf236
 v77:=Tryz.zeroValue236
def zO2 : Ren where
 f:=fun x=>match x with | 5=>115 | 7=>138|n=>n
 t:=fun x=>match x with | 22=>3 | 3=>3 | 4=>4|n=>n
 g:=fun n=>n
theorem cmpInt : SlLaysC2.n5 Tryz.prog zO2 where
 mixed:=by kernel_rfl
 f5:=⟨Tryz.f115.name,by decide,Tryz.func115.trans (congrArg some (by kernel_rfl))⟩
 f7:=⟨Tryz.f138.name,by decide,Tryz.func138.trans (congrArg some (by kernel_rfl))⟩
 t3:=Tryz.underlying3
 a3:=Tryz.isAgg3
 z3:=Tryz.sizeOf3
 v3:=Tryz.zeroValue3
 t4:=Tryz.underlying4
 a4:=Tryz.isAgg4
 z4:=Tryz.sizeOf4
 v4:=Tryz.zeroValue4
 t22:=Tryz.underlying3
 a22:=Tryz.isAgg3
 z22:=Tryz.sizeOf3
 v22:=Tryz.zeroValue3
end Go.Proofs.YtdigopgncfhiaaaGreatDoor
