/- H21 -/
import Derived.Test.YtdigopgncfhiaaaGreatDoorH20
import Derived.Test.YtdigopgncfhiaaaGreatDoorH8
import Derived.Test.YtdigopgncfhiaaaGreatDoorH1
set_option linter.unusedSimpArgs false
set_option linter.unusedVariables false
namespace Go.Proofs.YtdigopgncfhiaaaGreatDoor.Two
open Go.RowKit
set_option maxRecDepth 20000
set_option maxHeartbeats 8000000 in
theorem zQe (c:Cov) (A:Option Addr) (ca:Nat) (B:Option Addr) (cb:Nat) (C:Option Addr) (cc:Nat) (w:World) (h:zAp w c A B C) (hs:Small c) (hG:InC w 0 0 zCz) (h0:zAs c=0) (hcan:zIB (zBx c) (zGp c) (zBN c)=true) :
  Ret Tryz.prog 25 [zAS c A ca B cb C cc] w (fun p:Nat × List (zz Int)=>.tuple #[.slice (some ⟨p.1,0,none⟩) c.hours.length c.hours.length,.int .i64 0]) (fun p=>[.zA2 zn (rowOf encI 1 3) p.1 p.2]) (fun p=>p.2.map (·.xs)=(zEH c).1):=by
 have h4:=hs.b;have h5:=hs.h
 have hb:=h.b;have hh:=h.h
 have hf:=zBm h0
 have hh1:=hf.hours
 rw [zAB] at hh1
 have h1:=fun W (hb:Below w.heap.size w W)=>zDr c A ca B cb C cc W (h.below hb) hs h0
 have h2:=fun W (hb:Below w.heap.size w W) g (hr:InC W g 0 (zN c A ca B cb C cc))=>Two.zFk c A ca B cb C cc g W hr (hG.below hb) (h.below hb) hs hf
 have hP:(zEH c).1=(zDB c.beds.length c.hours.length (zBY c)).out:=by unfold zEH;rw [if_pos h0,if_pos hcan]
 have hcr:∀ u∈c.hours,0≤u.crew∧u.crew≤1000:=fun u hu=>by
  have h9:=hf.hour u hu
  unfold zCe at h9
  simp only [Bool.and_eq_true,zAB] at h9
  omega
 have ok0:=zF7 hf hs hcr
 have hbl:0<c.beds.length:=by
  have hv:valid c.t=true:=by
   cases hv:valid c.t with
   | true=>rfl
   | false=>unfold zAs at h0;rw [hv] at h0;simp at h0
  have:=(zCN hv).1
  have:=hf.beds
  omega
 rw [hP]
 unfold zAS at h1 ⊢
 unfold zN at h1 h2 ⊢
 (refine zJ (n:=140) Tryz.func25 rfl rfl rfl ?_)
 (repeat' (first|((with_reducible refine zF ?_);first|refine zE rfl rfl rfl ?_|refine zC rfl rfl rfl ?_|(refine zL rfl rfl rfl ?_;refine ⟨_,rfl,?_⟩)|(refine zQ rfl rfl rfl rfl rfl (fun h=>?_) (fun h=>?_)<;>(dsimp only [cmpP] at h;(try (exfalso;omega))))|(refine zAW rfl rfl rfl rfl (fun _ _ q=>h1 _ q.below) ?_;rintro g -;dsimp only [List.cons_append,List.nil_append])|(refine zAW rfl rfl rfl rfl (fun _ _ q=>h2 _ q.below g (zBO q.own (Below.refl _ _) rfl)) ?_;rintro ⟨⟨gn,L⟩,⟨gm,M⟩,gh⟩ ⟨hL,hM⟩;dsimp only [List.cons_append,List.nil_append])|refine zc rfl rfl rfl rfl ?_|(refine za rfl rfl rfl rfl rfl ?_;refine ⟨rfl,by first|decide|exact Nat.le_of_ble_eq_true rfl|(simp;omega),_,rfl,?_⟩)|(refine zh rfl rfl (fun b=>?_))|(refine zy rfl rfl rfl rfl (fun b=>?_)))|(with_reducible first|refine zH ?_|refine zB ?_|refine zD ?_|refine zA ?_|refine zS ?_)|((with_reducible refine zG ?_ ?_);(· exact rfl))))
 simp only at hL hM
 have hca:=fun (W:World) (a1:zC1 encI 1 W (some ⟨gn,0,none⟩) L) (a2:zC1 zAx 1 W (some ⟨gm,0,none⟩) M) (a3:zp encI 1 W (some ⟨gh,0,none⟩) (zBN c))=>zH6 ok0 hL hM (by omega) (by omega) (by omega) hbl _ _ _ c.beds.length c.beds.length c.hours.length W a1 a2 a3
 rw [show zIB (zBY c).nds (zBY c).may (zBY c).hands=true from hcan] at hca
 unfold zBE at hca
 (repeat' (first|((with_reducible refine zF ?_);first|refine zE rfl rfl rfl ?_|refine zC rfl rfl rfl ?_|(refine zL rfl rfl rfl ?_;refine ⟨_,rfl,?_⟩)|refine zb rfl rfl rfl ?_|refine zY rfl rfl rfl rfl (fun _ _ q=>hca _ (zCu q.own (by (repeat constructor))) (zCu q.own (by (repeat constructor))) (zDR q.own (by (repeat constructor)))) ?_|refine zLj rfl rfl rfl rfl rfl rfl rfl rfl rfl (by omega) (fun go=>?_)|refine zAd rfl rfl rfl ?_|refine zq rfl rfl rfl ?_)|(with_reducible first|refine zH ?_|refine zB ?_|refine zD ?_|refine zA ?_|refine zS ?_|refine zP ?_)|((with_reducible refine zG ?_ ?_);(· exact rfl))))
 rename_i b1
 obtain ⟨b6,hb6⟩:∃ x,x=b:=⟨_,rfl⟩
 subst hb6
 refine zI8 (enc:=encI) (k:=1) (e:=3) (Take.here _ _) ?_
 refine zw (ι:=PM) [1,6,7,32] rfl (fun q=>q.k≤c.hours.length∧PMat q (zDB c.beds.length q.k (zBY c))) (fun q=>[(33,.int .i64 (q.k:Int))]) (fun q=>[.zA2 zn (rowOf encI 1 3) gn q.nd,.zA2 zn (rowOf zAx 1 4) gm q.my,.row encI 1 3 (.slice (some ⟨gh,0,none⟩) c.hours.length c.hours.length) ((zDB c.beds.length q.k (zBY c)).hands),.zA2 zn (rowOf encI 1 3) go q.ot,.blk b1 (zN c A ca B cb C cc),.blk b6 (zBE (some ⟨gn,0,none⟩) c.beds.length c.beds.length (some ⟨gm,0,none⟩) c.beds.length c.beds.length (some ⟨gh,0,none⟩) c.hours.length c.hours.length)]) (fun q=>c.hours.length - q.k) ⟨0,L,M,List.replicate c.hours.length zAr⟩ ⟨Nat.zero_le _,hL,hM,by simp [zDB,zBY,zAr]⟩ (by (repeat first|exact lK1|refine zI rfl ?_)) (by (repeat constructor)) ?_
 clear hca hL hM L M
 rintro ⟨y,L,M,O⟩ ⟨hy,hL,hM,hO⟩
 simp only at hy hL hM hO
 simp only [zA1,zN,zBE,List.cons_append,List.nil_append]
 by_cases hyl:y<c.hours.length
 ·have okh:=zJ1 ok0 y hy
  (repeat' (first|((with_reducible refine zF ?_);first|refine zE rfl rfl rfl ?_|refine zC rfl rfl rfl ?_|(refine zL rfl rfl rfl ?_;refine ⟨_,rfl,?_⟩)|refine zb rfl rfl rfl ?_|(refine zQ rfl rfl rfl rfl rfl (fun h=>?_) (fun h=>?_)<;>(dsimp only [cmpP] at h;(try (exfalso;omega))))|refine zq rfl rfl rfl ?_)|(with_reducible first|refine zH ?_|refine zB ?_|refine zD ?_|refine zA ?_|refine zS ?_|refine zP ?_)|((with_reducible refine zK ?_ ?_);(· exact rfl))))
  refine zw (ι:=PM) [1,6,7,8,32,33,38] rfl (fun q=>q.k≤c.beds.length∧PMat q (stepsP y q.k (zDB c.beds.length y (zBY c)))) (fun q=>[(39,.int .i64 (q.k:Int))]) (fun q=>[.zA2 zn (rowOf encI 1 3) gn q.nd,.zA2 zn (rowOf zAx 1 4) gm q.my,.row encI 1 3 (.slice (some ⟨gh,0,none⟩) c.hours.length c.hours.length) ((stepsP y q.k (zDB c.beds.length y (zBY c))).hands),.zA2 zn (rowOf encI 1 3) go q.ot,.blk b1 (zN c A ca B cb C cc),.blk b6 (zBE (some ⟨gn,0,none⟩) c.beds.length c.beds.length (some ⟨gm,0,none⟩) c.beds.length c.beds.length (some ⟨gh,0,none⟩) c.hours.length c.hours.length)]) (fun q=>c.beds.length - q.k) ⟨0,L,M,O⟩ ⟨Nat.zero_le _,hL,hM,hO⟩ (by (repeat first|exact lK1|refine zI rfl ?_)) (by (repeat constructor)) ?_
  clear hL hM hO L M O
  rintro ⟨i,L,M,O⟩ ⟨hi,hL,hM,hO⟩
  simp only at hi hL hM hO
  simp only [zA1,zN,zBE,List.cons_append,List.nil_append]
  by_cases hil:i<c.beds.length
  ·have oki:=zJF okh hyl i hi
   have hnext:stepsP y (i+1) (zDB c.beds.length y (zBY c))=zEC y i (stepsP y i (zDB c.beds.length y (zBY c))):=rfl
   generalize stepsP y i (zDB c.beds.length y (zBY c))=st at *
   have hLl:L.length=c.beds.length:=by have:=congrArg List.length hL;rw [oki.nl] at this;simpa using this
   have hMl:M.length=c.beds.length:=by have:=congrArg List.length hM;rw [oki.ml] at this;simpa using this
   have hHl:=oki.hl
   obtain ⟨s,hs1⟩:∃ s,L[i]?=some s:=⟨_,List.getElem?_eq_getElem (by omega)⟩
   obtain ⟨t,ht1⟩:∃ t,M[i]?=some t:=⟨_,List.getElem?_eq_getElem (by omega)⟩
   have hsr:NRow c.hours.length s.xs:=oki.nr _ (by rw [← hL];exact List.mem_map_of_mem (List.mem_of_getElem? hs1))
   have htl:t.xs.length=c.hours.length:=oki.mr _ (by rw [← hM];exact List.mem_map_of_mem (List.mem_of_getElem? ht1))
   have gs1:st.nds.getD i []=s.xs:=by rw [← hL];exact getD_map hs1
   have gt1:st.may.getD i []=t.xs:=by rw [← hM];exact getD_map ht1
   have hsl:=hsr.len
   have htk:zJB st y i=(t.xs.getD y false && (decide (0<st.hands.getD y 0) && decide (0<Flow.zD7 s.xs))):=by unfold zJB;rw [gs1,gt1]
   obtain ⟨sA,sx,sc⟩:=s
   obtain ⟨tA,tx,tc⟩:=t
   simp only at hsr htl gs1 gt1 hsl htk
   (repeat' (first|((with_reducible refine zF ?_);first|refine zE rfl rfl rfl ?_|refine zC rfl rfl rfl ?_|(refine zL rfl rfl rfl ?_;refine ⟨_,rfl,?_⟩)|refine zb rfl rfl rfl ?_|(refine zQ rfl rfl rfl rfl rfl (fun h=>?_) (fun h=>?_)<;>(dsimp only [cmpP] at h;(try (exfalso;omega))))|refine zk rfl rfl rfl rfl rfl (by omega) ?_)|(with_reducible first|refine zH ?_|refine zB ?_|refine zD ?_|refine zA ?_|refine zS ?_|refine zP ?_)|((with_reducible refine zK ?_ ?_);(· exact rfl))))
   refine zCh i hs1 (by (repeat constructor)) ?_
   refine zHl (A:=sA) (xs:=sx) (k:=1) (e:=3) (enc:=encI) (m:=sx.length) (c:=sc) (Take.there _ (Take.here _ _)) (by omega) ?_
   rintro gs rfl
   refine zCh i ht1 (by (repeat constructor)) ?_
   refine zHl (A:=tA) (xs:=tx) (k:=1) (e:=4) (enc:=zAx) (m:=tx.length) (c:=tc) (Take.there _ (Take.here _ _)) (by omega) ?_
   rintro gt rfl
   simp only [rowOf]
   have:zAQ (L.set i ⟨some ⟨gs,0,none⟩,sx,sc⟩) i ⟨some ⟨gs,0,none⟩,sx,sc⟩:=⟨List.getElem?_set_self (by omega)⟩
   have:zAQ (M.set i ⟨some ⟨gt,0,none⟩,tx,tc⟩) i ⟨some ⟨gt,0,none⟩,tx,tc⟩:=⟨List.getElem?_set_self (by omega)⟩
   have hmaxc:=fun W hA=>zL6 sx (some ⟨gs,0,none⟩) sc W hA (by omega) (by omega)
   have:zAQ tx y (tx.getD y false):=⟨by rw [Flow.zAh (by omega)];simp⟩
   have:zAQ st.hands y (st.hands.getD y 0):=⟨by rw [Flow.zAh (by omega)];simp⟩
   generalize hz:tx.getD y false=z at *
   generalize hk:st.hands.getD y 0=kk at *
   generalize hmm:Flow.zD7 sx=mm at *
   cases z
   ·(repeat' (first|((with_reducible refine zF ?_);first|refine zE rfl rfl rfl ?_|refine zC rfl rfl rfl ?_|(refine zL rfl rfl rfl ?_;refine ⟨_,rfl,?_⟩)|refine zb rfl rfl rfl ?_|refine zAY rfl rfl rfl rfl ?_|refine zx rfl rfl rfl ?_|refine zCq (enc:=zAx) (i:=y) false rfl rfl rfl rfl rfl rfl rfl rfl (by omega) ?_|refine zk (I:=y) rfl rfl rfl rfl rfl (by dsimp only;omega) ?_|refine zAd rfl rfl rfl ?_|refine zi rfl rfl rfl rfl (by omega) ?_|refine zk rfl rfl rfl rfl rfl (by omega) ?_)|(with_reducible first|refine zH ?_|refine zB ?_|refine zD ?_|refine zA ?_|refine zl ?_|refine zV ?_|refine zX ?_)|((with_reducible refine zK ?_ ?_);(· exact rfl))))
    have hstep:zEC y i st=⟨st.nds,zFC st y i,st.hands,st.out⟩:=by unfold zEC;rw [htk,if_neg (by simp)]
    refine zE4 i (tx.set y false) (by simp) ht1 (by (repeat constructor)) (by (repeat constructor)) (by (repeat constructor)) ?_
    refine zGh i (re:=rowOf encI 1 3) hs1 (by (repeat constructor)) (by (repeat constructor)) (by (repeat constructor)) ?_
    refine zZ (ι:=PM) ⟨i+1,L,M.set i ⟨some ⟨gt,0,none⟩,tx.set y false,tc⟩,O⟩ (by
     refine ⟨by simp only;omega,?_⟩
     simp only
     rw [hnext,hstep]
     exact ⟨hL,by simp only;rw [List.map_set,hM];unfold zFC;rw [gt1],hO⟩) (by simp only;omega) (by (repeat first|exact lK1|refine zI rfl ?_)) (by simp only [hnext,hstep];(repeat constructor))
   ·by_cases hk0:0<kk
    ·by_cases hm0:0<mm
     ·have htk1:zJB st y i=true:=by rw [htk];simp [hk0,hm0]
      have hn1:=oki.zPR hil
      have hm1:=oki.zPT (h:=y) hil
      have hh1':=oki.zLN hyl htk1
      have hkb:=oki.hr kk (by rw [← hk,Flow.zAh (by omega)];exact List.getElem_mem _)
      (repeat' (first|((with_reducible refine zF ?_);first|refine zE rfl rfl rfl ?_|refine zC rfl rfl rfl ?_|(refine zL rfl rfl rfl ?_;refine ⟨_,rfl,?_⟩)|refine zb rfl rfl rfl ?_|refine zAY rfl rfl rfl rfl ?_|(refine zQ rfl rfl rfl rfl rfl (fun h=>?_) (fun h=>?_)<;>(dsimp only [cmpP] at h;(try (exfalso;omega))))|refine zY rfl rfl rfl rfl (fun _ _ q=>hmaxc _ (zDR q.own (by (repeat constructor)))) ?_|refine zCq (enc:=zAx) (i:=y) false rfl rfl rfl rfl rfl rfl rfl rfl (by omega) ?_|refine zk (I:=y) rfl rfl rfl rfl rfl (by dsimp only;omega) ?_|refine zCs (hd:=zn) (i:=i) (s:=⟨some ⟨gs,0,none⟩,sx,sc⟩) zAr rfl rfl rfl rfl rfl (by simp [zn,zAr,Value.cells]) (by (repeat constructor)) (by omega) ?_|refine zAd rfl rfl rfl ?_|refine zk rfl rfl rfl rfl rfl (by omega) ?_|refine zq rfl rfl rfl ?_)|(with_reducible first|refine zH ?_|refine zB ?_|refine zD ?_|refine zA ?_|refine zS ?_|refine zP ?_)|((with_reducible refine zG ?_ ?_);(· exact rfl))))
      refine zE4 i (tx.set y false) (by simp) ht1 (by (repeat constructor)) (by (repeat constructor)) (by (repeat constructor)) ?_
      refine zDf encI 1 3 ?_
      refine zw (ι:=Nat × zz Int) [1,6,7,8,9,11,32,33,38,39,85,86] rfl (fun p=>p.1≤sx.length∧p.2.xs=zDW (sx.take p.1)) (fun p=>[(87,.int .i64 (p.1:Int))]) (fun p=>[rowOf encI 1 3 p.2,.arr zn 1 gn (L.set i p.2),.row encI 1 3 (.slice (some ⟨gs,0,none⟩) sx.length sc) sx,.all ((L.eraseIdx i).map (rowOf encI 1 3)),.zA2 zn (rowOf zAx 1 4) gm (M.set i ⟨some ⟨gt,0,none⟩,tx.set y false,tc⟩),.row encI 1 3 (.slice (some ⟨gh,0,none⟩) c.hours.length c.hours.length) st.hands,.zA2 zn (rowOf encI 1 3) go O,.blk b1 (zN c A ca B cb C cc),.blk b6 (zBE (some ⟨gn,0,none⟩) c.beds.length c.beds.length (some ⟨gm,0,none⟩) c.beds.length c.beds.length (some ⟨gh,0,none⟩) c.hours.length c.hours.length)]) (fun p=>sx.length - p.1) (0,zAr) ⟨Nat.zero_le _,rfl⟩ (by (repeat first|exact lK1|refine zI rfl ?_)) (by unfold zN zBE;simp only [rowOf,zAr,List.length_nil];(repeat constructor)) ?_
      rintro ⟨j,sA2,sx2,sc2⟩ ⟨hj,hsx⟩
      simp only at hj hsx
      simp only [zA1,rowOf,zN,zBE,List.cons_append,List.nil_append]
      by_cases hjl:j<sx.length
      ·obtain ⟨x,hx⟩:∃ x,sx[j]?=some x:=⟨_,List.getElem?_eq_getElem hjl⟩
       have:zAQ sx j x:=⟨hx⟩
       have hbx:=hsr.big x (List.mem_of_getElem? hx)
       have:zAQ (L.set i ⟨sA2,sx2,sc2⟩) i ⟨sA2,sx2,sc2⟩:=⟨List.getElem?_set_self (by omega)⟩
       have hl2:sx2.length≤12:=by rw [hsx];simp [zDW];omega
       have e1:sx2++[max 0 (x - 1)]=zDW (sx.take (j+1)):=by rw [hsx];unfold zDW;rw [List.take_add_one,hx,List.map_append];rfl
       (repeat' (first|((with_reducible refine zF ?_);first|refine zC rfl rfl rfl ?_|(refine zL rfl rfl rfl ?_;refine ⟨_,rfl,?_⟩)|(refine zQ rfl rfl rfl rfl rfl (fun h=>?_) (fun h=>?_)<;>(dsimp only [cmpP] at h;(try (exfalso;omega))))|refine zk rfl rfl rfl rfl rfl (by omega) ?_)|(with_reducible first|refine zH ?_|refine zB ?_|refine zD ?_|refine zA ?_|refine zS ?_|refine zP ?_)|((with_reducible refine zK ?_ ?_);(· exact rfl))))
       (refine zAV [] [(12,0,0,[.row encI 1 3 (.slice sA2 sx2.length sc2) sx2])] [(12,0,0)] rfl (show ([12]:List Nat).Nodup by decide) (H0:=[.arr zn 1 gn (L.set i ⟨sA2,sx2,sc2⟩),.row encI 1 3 (.slice (some ⟨gs,0,none⟩) sx.length sc) sx,.all ((L.eraseIdx i).map (rowOf encI 1 3)),.zA2 zn (rowOf zAx 1 4) gm (M.set i ⟨some ⟨gt,0,none⟩,tx.set y false,tc⟩),.row encI 1 3 (.slice (some ⟨gh,0,none⟩) c.hours.length c.hours.length) st.hands,.zA2 zn (rowOf encI 1 3) go O,.blk b1 [.slice A c.t.length ca,.slice B c.beds.length cb,.slice C c.hours.length cc,.int .i64 c.wear.lo,.int .i64 c.wear.hi,.int .i64 c.layer.lo,.int .i64 c.layer.hi,.int .i64 c.rate,.int .i64 c.limit,.int .i64 c.base],.blk b6 [.slice (some ⟨gn,0,none⟩) c.beds.length c.beds.length,.slice (some ⟨gm,0,none⟩) c.beds.length c.beds.length,.slice (some ⟨gh,0,none⟩) c.hours.length c.hours.length]]) (fun _ h=>h.sub (by (repeat constructor))) (by kernel_rfl) [[],[Z],[Y,Y],[Y,Y,Y],[Z,Y,Y,Y],[Y,Y,Y,Y,Y],[Z,Z,Z,Y,Y,Y],[Z,Z,Z,Z,Y,Y,Y],[Y,Y,Y,Y,Y,Y,Y,Y],[Z,Y,Y,Y,Y,Y,Y,Y,Y],[Z,Z,Y,Y,Y,Y,Y,Y,Y,Y],[Z,Z,Z,Y,Y,Y,Y,Y,Y,Y,Y],[Z,Z,Z,Z,Z,Z,Z,Z,Z,Y,Y,Y],[Z,Z,Z,Z,Z,Z,Z,Z,Z,Z,Z,Z,Z],[Z,Z,Z,Z,Z,Z,Z,Z,Z,Z,Z,Z,Z,Z]] (by kernel_rfl) (by kernel_rfl) (by kernel_rfl) (by kernel_rfl) (by kernel_rfl) ?_)
       (repeat' (first|(((with_reducible refine zCC ?_ ?_);(· exact rfl);refine ⟨_,fun G=>(by (try simp (decide:=true) only [vis,see,fltT,zm,Nat.reduceAdd,Nat.reduceSub,if_true,if_false,List.set_cons_zero,List.set_cons_succ,List.set_nil,List.nil_append,List.cons_append]);rfl),?_⟩);first|refine zU _ (fun _=>zAO rfl rfl) (fun _=>rfl) rfl (by intro G G' h;simp (decide:=true) only [h]) ?_|refine zU _ (fun _=>zu rfl rfl (by exact rfl)) (fun _=>rfl) rfl (by intro G G' h;simp (decide:=true) only [h]) ?_|(refine zAC rfl ?_;refine zU _ (fun _=>zAE rfl rfl) (fun _=>rfl) rfl (by intro G G' h;simp (decide:=true) only [h]) ?_)|refine zU _ (fun _=>e_sub rfl rfl rfl (IntWalk.i64_in _ (by omega))) (fun _=>rfl) rfl (by intro G G' h;simp (decide:=true) only [h]) ?_|refine zU _ (fun _=>zAl rfl rfl rfl rfl (by omega)) (fun _=>rfl) rfl (by intro G G' h;simp (decide:=true) only [h]) ?_|refine zU _ (fun _=>e_max rfl rfl rfl) (fun _=>rfl) rfl (by intro G G' h;simp (decide:=true) only [h]) ?_|refine zB2 rfl (fun _=>rfl) rfl (fun _=>rfl) (by exact rfl) (by exact fun _=>rfl) (by intro G G' h;simp (decide:=true) only [h]) ?_)|(refine zEy (enc:=encI) (xs:=sx2) (vx:=.slice sA2 sx2.length sc2) [max 0 (x - 1)] List.mem_cons_self rfl rfl (fun _=>rfl) rfl (fun _=>rfl) (fun _=>rfl) rfl (fun G=>(by (try simp (decide:=true) only [vis,see,fltT,zm,Nat.reduceAdd,Nat.reduceSub,if_true,if_false,List.set_cons_zero,List.set_cons_succ,List.set_nil,List.nil_append,List.cons_append]);rfl)) (fun _ W hW h=>zAg (enc:=encI) (by exact rfl) W hW h) ⟨by simp;omega,by decide⟩ ?_)|((with_reducible refine zA8 ?_ ?_);(· exact rfl))))
       intro G
       simp only [regsT,List.nil_append,List.cons_append]
       refine zFW (H':=[.row encI 1 3 (.slice (G 12).A (sx2++[max 0 (x - 1)]).length (G 12).m) (sx2++[max 0 (x - 1)]),.blk (G 11).g (encI (max 0 (x - 1))),.arr zn 1 gn (L.set i ⟨sA2,sx2,sc2⟩),.row encI 1 3 (.slice (some ⟨gs,0,none⟩) sx.length sc) sx,.all ((L.eraseIdx i).map (rowOf encI 1 3)),.zA2 zn (rowOf zAx 1 4) gm (M.set i ⟨some ⟨gt,0,none⟩,tx.set y false,tc⟩),.row encI 1 3 (.slice (some ⟨gh,0,none⟩) c.hours.length c.hours.length) st.hands,.zA2 zn (rowOf encI 1 3) go O,.blk b1 [.slice A c.t.length ca,.slice B c.beds.length cb,.slice C c.hours.length cc,.int .i64 c.wear.lo,.int .i64 c.wear.hi,.int .i64 c.layer.lo,.int .i64 c.layer.hi,.int .i64 c.rate,.int .i64 c.limit,.int .i64 c.base],.blk b6 [.slice (some ⟨gn,0,none⟩) c.beds.length c.beds.length,.slice (some ⟨gm,0,none⟩) c.beds.length c.beds.length,.slice (some ⟨gh,0,none⟩) c.hours.length c.hours.length]]) (fun _ h=>h) ?_
       (repeat' (first|((with_reducible refine zF ?_);first|refine zE rfl rfl rfl ?_|refine zCs (hd:=zn) (i:=i) (s:=⟨sA2,sx2,sc2⟩) ⟨(G 12).A,sx2++[max 0 (x - 1)],(G 12).m⟩ rfl rfl rfl rfl rfl rfl (by (repeat constructor)) (by omega) ?_|refine zi rfl rfl rfl rfl (by omega) ?_)|(with_reducible first|refine zB ?_|refine zD ?_|refine zA ?_|refine zg ?_)))
       exact zZ (ι:=Nat × zz Int) (j+1,⟨(G 12).A,sx2++[max 0 (x - 1)],(G 12).m⟩) (by exact ⟨by simp only;omega,e1⟩) (by simp only;omega) (by (repeat first|exact lK1|refine zI rfl ?_)) (by (repeat constructor))
      ·obtain rfl:j=sx.length:=by omega
       rw [List.take_length] at hsx
       subst hsx
       (repeat' (first|((with_reducible refine zF ?_);first|refine zE rfl rfl rfl ?_|(refine zL rfl rfl rfl ?_;refine ⟨_,rfl,?_⟩)|refine zb rfl rfl rfl ?_|(refine zQ rfl rfl rfl rfl rfl (fun h=>?_) (fun h=>?_)<;>(dsimp only [cmpP] at h;(try (exfalso;omega))))|refine zCi rfl rfl rfl rfl (IntWalk.i64_in _ (by omega)) ?_|refine zk rfl rfl rfl rfl rfl (by omega) ?_)|(with_reducible first|refine zH ?_|refine zB ?_|refine zD ?_|refine zA ?_|refine zl ?_|refine zV ?_|refine zX ?_)|((with_reducible refine zG ?_ ?_);(· exact rfl))))
       refine zCg i (re:=rowOf encI 1 3) ⟨sA2,zDW sx,sc2⟩ hs1 (by (repeat constructor)) (by (repeat constructor)) (by (repeat constructor)) ?_
       have ok2:zEX c.beds.length c.hours.length y i ⟨ndsO st i,zFC st y i,zDU st y,st.out⟩:=⟨hn1.1,hm1.1,hh1'.1,oki.ol,hn1.2,hm1.2,hh1'.2,oki.or_⟩
       have eL:(L.set i ⟨sA2,zDW sx,sc2⟩).map (·.xs)=ndsO st i:=by rw [List.map_set,hL];unfold ndsO;rw [gs1]
       have eM:(M.set i ⟨some ⟨gt,0,none⟩,tx.set y false,tc⟩).map (·.xs)=zFC st y i:=by rw [List.map_set,hM];unfold zFC;rw [gt1]
       have eH:st.hands.set y (kk - 1)=zDU st y:=by unfold zDU;rw [hk]
       have hca:=fun (W:World) a1 a2 a3=>zH6 ok2 eL eM (by omega) (by omega) (by omega) hbl (some ⟨gn,0,none⟩) (some ⟨gm,0,none⟩) (some ⟨gh,0,none⟩) c.beds.length c.beds.length c.hours.length W a1 a2 a3
       unfold zBE at hca
       dsimp only at hca
       cases hcb:zIB (ndsO st i) (zFC st y i) (zDU st y) with
       | true =>
        rw [hcb] at hca
        have hOl:O.length=c.hours.length:=by have:=congrArg List.length hO;rw [oki.ol] at this;simpa using this
        obtain ⟨o,ho1⟩:∃ o,O[y]?=some o:=⟨_,List.getElem?_eq_getElem (by omega)⟩
        have go1:st.out.getD y []=o.xs:=by rw [← hO];exact getD_map ho1
        have hol:=oki.or_ y
        rw [if_neg (by omega),if_pos rfl,go1] at hol
        obtain ⟨oA,ox,oc⟩:=o
        simp only at go1 hol
        have:zAQ O y ⟨oA,ox,oc⟩:=⟨ho1⟩
        have hstep:zEC y i st=⟨ndsO st i,zFC st y i,zDU st y,outO st y i⟩:=by unfold zEC;rw [if_pos htk1,if_pos hcb]
        (repeat' (first|((with_reducible refine zF ?_);first|refine zE rfl rfl rfl ?_|(refine zL rfl rfl rfl ?_;refine ⟨_,rfl,?_⟩)|(refine zCq (enc:=encI) (i:=y) (kk - 1) rfl rfl rfl rfl rfl rfl rfl rfl (by omega) ?_;rw [eH])|refine zY rfl rfl rfl rfl (fun _ _ q=>hca _ (zCu q.own (by (repeat constructor))) (zCu q.own (by (repeat constructor))) (zDR q.own (by (repeat constructor)))) ?_|refine zk rfl rfl rfl rfl rfl (by omega) ?_|(refine zt rfl rfl rfl ?_;refine ⟨rfl,_,rfl,fun b=>?_⟩))|(with_reducible first|refine zH ?_|refine zB ?_|refine zD ?_|refine zA ?_)|((with_reducible refine zK ?_ ?_);(· exact rfl))))
        refine zCh y ho1 (by (repeat constructor)) ?_
        simp only [rowOf]
        (repeat' (first|((with_reducible refine zF ?_);first|refine zE rfl rfl rfl ?_|(refine zA4 (enc:=encI) [_] rfl rfl rfl (by (repeat constructor)) rfl rfl (zAg (by exact rfl)) (by refine ⟨?_,by decide⟩;(try simp only [List.length_append,List.length_cons,List.length_nil]);omega) (fun A' c'=>?_))|refine zCs (hd:=zn) (i:=y) (s:=⟨oA,ox,oc⟩) ⟨A',ox++[(i:Int)],c'⟩ rfl rfl rfl rfl rfl (by simp [zn,Value.cells]) (by (repeat constructor)) (by omega) ?_|refine zi rfl rfl rfl rfl (by omega) ?_|refine zk rfl rfl rfl rfl rfl (by omega) ?_)|(with_reducible first|refine zB ?_|refine zD ?_|refine zA ?_|refine zl ?_|refine zV ?_|refine zX ?_)))
        refine zCg y (re:=rowOf encI 1 3) ⟨A',ox++[(i:Int)],c'⟩ ho1 (by (repeat constructor)) (by (repeat constructor)) (by (repeat constructor)) ?_
        refine zZ (ι:=PM) ⟨i+1,L.set i ⟨sA2,zDW sx,sc2⟩,M.set i ⟨some ⟨gt,0,none⟩,tx.set y false,tc⟩,O.set y ⟨A',ox++[(i:Int)],c'⟩⟩ (by
         refine ⟨by simp only;omega,?_⟩
         simp only
         rw [hnext,hstep]
         exact ⟨eL,eM,by simp only;rw [List.map_set,hO];unfold outO;rw [go1]⟩) (by simp only;omega) (by (repeat first|exact lK1|refine zI rfl ?_)) (by simp only [hnext,hstep];(repeat constructor))
       | false =>
        rw [hcb] at hca
        have lL:(L.set i ⟨sA2,zDW sx,sc2⟩).length=c.beds.length:=by rw [List.length_set];exact hLl
        have hs2:(L.set i ⟨sA2,zDW sx,sc2⟩)[i]?=some ⟨sA2,zDW sx,sc2⟩:=List.getElem?_set_self (by omega)
        have eB:(L.set i ⟨sA2,zDW sx,sc2⟩).set i ⟨some ⟨gs,0,none⟩,sx,sc⟩=L:=by
         rw [List.set_set]
         obtain ⟨h9,h8⟩:=List.getElem?_eq_some_iff.1 hs1
         rw [← h8];exact List.set_getElem_self h9
        have eH2:(zDU st y).set y (kk - 1+1)=st.hands:=by
         rw [← eH,List.set_set,Int.sub_add_cancel,← hk,Flow.zAh (by omega)];exact List.set_getElem_self _
        have:zAQ (zDU st y) y (kk - 1):=⟨by rw [← eH];exact List.getElem?_set_self (by omega)⟩
        have hstep:zEC y i st=⟨st.nds,zFC st y i,st.hands,st.out⟩:=by unfold zEC;rw [if_pos htk1,if_neg (by rw [hcb];simp)]
        (repeat' (first|((with_reducible refine zF ?_);first|refine zE rfl rfl rfl ?_|(refine zL rfl rfl rfl ?_;refine ⟨_,rfl,?_⟩)|refine zb rfl rfl rfl ?_|(refine zCq (enc:=encI) (i:=y) (kk - 1) rfl rfl rfl rfl rfl rfl rfl rfl (by omega) ?_;rw [eH])|refine zY rfl rfl rfl rfl (fun _ _ q=>hca _ (zCu q.own (by (repeat constructor))) (zCu q.own (by (repeat constructor))) (zDR q.own (by (repeat constructor)))) ?_|refine zk rfl rfl rfl rfl rfl (by omega) ?_)|(with_reducible first|refine zH ?_|refine zB ?_|refine zD ?_|refine zA ?_|refine zS ?_)|((with_reducible refine zG ?_ ?_);(· exact rfl))))
        refine zCh i hs2 (by (repeat constructor)) ?_
        (repeat' (first|((with_reducible refine zF ?_);first|refine zE rfl rfl rfl ?_|(refine zL rfl rfl rfl ?_;refine ⟨_,rfl,?_⟩)|refine zb rfl rfl rfl ?_|refine zCs (hd:=zn) (i:=i) (s:=⟨sA2,zDW sx,sc2⟩) ⟨some ⟨gs,0,none⟩,sx,sc⟩ rfl rfl rfl rfl rfl (by simp [zn,Value.cells]) (by (repeat constructor)) (by omega) ?_|(refine zCq (enc:=encI) (i:=y) (kk - 1+1) rfl rfl rfl rfl rfl rfl rfl rfl (by omega) ?_;rw [eH2])|refine zi rfl rfl rfl rfl (by omega) ?_|refine zFL rfl rfl rfl rfl (IntWalk.i64_in _ (by omega)) ?_|refine zk rfl rfl rfl rfl rfl (by omega) ?_)|(with_reducible first|refine zB ?_|refine zD ?_|refine zA ?_|refine zg ?_)))
        refine zCg i (re:=rowOf encI 1 3) ⟨some ⟨gs,0,none⟩,sx,sc⟩ hs2 (by (repeat constructor)) (by (repeat constructor)) (by (repeat constructor)) ?_
        rw [eB]
        refine zZ (ι:=PM) ⟨i+1,L,M.set i ⟨some ⟨gt,0,none⟩,tx.set y false,tc⟩,O⟩ (by
         refine ⟨by simp only;omega,?_⟩
         simp only
         rw [hnext,hstep]
         exact ⟨hL,eM,hO⟩) (by simp only;omega) (by (repeat first|exact lK1|refine zI rfl ?_)) (by simp only [hnext,hstep];(repeat constructor))
     ·(repeat' (first|((with_reducible refine zF ?_);first|refine zE rfl rfl rfl ?_|refine zC rfl rfl rfl ?_|(refine zL rfl rfl rfl ?_;refine ⟨_,rfl,?_⟩)|refine zb rfl rfl rfl ?_|refine zAY rfl rfl rfl rfl ?_|(refine zQ rfl rfl rfl rfl rfl (fun h=>?_) (fun h=>?_)<;>(dsimp only [cmpP] at h;(try (exfalso;omega))))|refine zY rfl rfl rfl rfl (fun _ _ q=>hmaxc _ (zDR q.own (by (repeat constructor)))) ?_|refine zCq (enc:=zAx) (i:=y) false rfl rfl rfl rfl rfl rfl rfl rfl (by omega) ?_|refine zk (I:=y) rfl rfl rfl rfl rfl (by dsimp only;omega) ?_|refine zAd rfl rfl rfl ?_|refine zi rfl rfl rfl rfl (by omega) ?_|refine zk rfl rfl rfl rfl rfl (by omega) ?_)|(with_reducible first|refine zH ?_|refine zB ?_|refine zD ?_|refine zA ?_|refine zl ?_|refine zV ?_|refine zX ?_)|((with_reducible refine zK ?_ ?_);(· exact rfl))))
      have hstep:zEC y i st=⟨st.nds,zFC st y i,st.hands,st.out⟩:=by unfold zEC;rw [htk,if_neg (by simp;omega)]
      refine zE4 i (tx.set y false) (by simp) ht1 (by (repeat constructor)) (by (repeat constructor)) (by (repeat constructor)) ?_
      refine zGh i (re:=rowOf encI 1 3) hs1 (by (repeat constructor)) (by (repeat constructor)) (by (repeat constructor)) ?_
      refine zZ (ι:=PM) ⟨i+1,L,M.set i ⟨some ⟨gt,0,none⟩,tx.set y false,tc⟩,O⟩ (by
       refine ⟨by simp only;omega,?_⟩
       simp only
       rw [hnext,hstep]
       exact ⟨hL,by simp only;rw [List.map_set,hM];unfold zFC;rw [gt1],hO⟩) (by simp only;omega) (by (repeat first|exact lK1|refine zI rfl ?_)) (by simp only [hnext,hstep];(repeat constructor))
    ·(repeat' (first|((with_reducible refine zF ?_);first|refine zE rfl rfl rfl ?_|refine zC rfl rfl rfl ?_|(refine zL rfl rfl rfl ?_;refine ⟨_,rfl,?_⟩)|refine zb rfl rfl rfl ?_|refine zAY rfl rfl rfl rfl ?_|refine zx rfl rfl rfl ?_|(refine zQ rfl rfl rfl rfl rfl (fun h=>?_) (fun h=>?_)<;>(dsimp only [cmpP] at h;(try (exfalso;omega))))|refine zCq (enc:=zAx) (i:=y) false rfl rfl rfl rfl rfl rfl rfl rfl (by omega) ?_|refine zk (I:=y) rfl rfl rfl rfl rfl (by dsimp only;omega) ?_|refine zAd rfl rfl rfl ?_|refine zi rfl rfl rfl rfl (by omega) ?_|refine zk rfl rfl rfl rfl rfl (by omega) ?_)|(with_reducible first|refine zH ?_|refine zB ?_|refine zD ?_|refine zA ?_|refine zl ?_|refine zV ?_|refine zX ?_)|((with_reducible refine zK ?_ ?_);(· exact rfl))))
     have hstep:zEC y i st=⟨st.nds,zFC st y i,st.hands,st.out⟩:=by unfold zEC;rw [htk,if_neg (by simp;omega)]
     refine zE4 i (tx.set y false) (by simp) ht1 (by (repeat constructor)) (by (repeat constructor)) (by (repeat constructor)) ?_
     refine zGh i (re:=rowOf encI 1 3) hs1 (by (repeat constructor)) (by (repeat constructor)) (by (repeat constructor)) ?_
     refine zZ (ι:=PM) ⟨i+1,L,M.set i ⟨some ⟨gt,0,none⟩,tx.set y false,tc⟩,O⟩ (by
      refine ⟨by simp only;omega,?_⟩
      simp only
      rw [hnext,hstep]
      exact ⟨hL,by simp only;rw [List.map_set,hM];unfold zFC;rw [gt1],hO⟩) (by simp only;omega) (by (repeat first|exact lK1|refine zI rfl ?_)) (by simp only [hnext,hstep];(repeat constructor))
  ·obtain rfl:i=c.beds.length:=by omega
   (repeat' (first|((with_reducible refine zF ?_);first|refine zE rfl rfl rfl ?_|(refine zQ rfl rfl rfl rfl rfl (fun h=>?_) (fun h=>?_)<;>(dsimp only [cmpP] at h;(try (exfalso;omega))))|refine zi rfl rfl rfl rfl (by omega) ?_)|(with_reducible first|refine zH ?_|refine zB ?_|refine zD ?_|refine zA ?_|refine zl ?_|refine zg ?_|refine zV ?_|refine zX ?_)|((with_reducible refine zG ?_ ?_);(· exact rfl))))
   exact zZ (ι:=PM) ⟨y+1,L,M,O⟩ (by exact ⟨by simp only;omega,hL,hM,hO⟩) (by simp only;omega) (by (repeat first|exact lK1|refine zI rfl ?_)) (by (repeat constructor))
 ·obtain rfl:y=c.hours.length:=by omega
  (repeat' (first|((with_reducible refine zF ?_);first|refine zE rfl rfl rfl ?_|refine zC rfl rfl rfl ?_|(refine zQ rfl rfl rfl rfl rfl (fun h=>?_) (fun h=>?_)<;>(dsimp only [cmpP] at h;(try (exfalso;omega)))))|(with_reducible first|refine zH ?_|refine zB ?_|refine zD ?_|refine zA ?_|refine zW ?_|refine zl ?_|refine zV ?_|refine zX ?_)|((with_reducible refine zG ?_ ?_);(· exact rfl))))
  exact zR (by (exact zf.cons (by exact zAL.tmp rfl) (zf.cons (by exact zAL.tmp rfl) zf.nil))) (go,O) hO (by simp [resV]) (fun _ h=>h.sub (by (repeat constructor)))
end Go.Proofs.YtdigopgncfhiaaaGreatDoor.Two
namespace Go.Proofs.YtdigopgncfhiaaaGreatDoor
open Go.RowKit
set_option maxRecDepth 20000
theorem zKJ {c:Cov} (h0:zAs c=0):0<c.beds.length:=by
 have hv:valid c.t=true:=by
  cases hv:valid c.t with
  | true=>rfl
  | false=>unfold zAs at h0;rw [hv] at h0;simp at h0
 have:=(zCN hv).1
 have:=(zBm h0).beds
 omega
theorem zIz {c:Cov} (hf:zD5 c):∀ u∈c.hours,0≤u.crew∧u.crew≤1000:=fun u hu=>by
 have h9:=hf.hour u hu
 unfold zCe at h9
 simp only [Bool.and_eq_true,zAB] at h9
 omega
set_option maxHeartbeats 2000000 in
theorem zOd (c:Cov) (A:Option Addr) (ca:Nat) (B:Option Addr) (cb:Nat) (C:Option Addr) (cc:Nat) (w:World) (h:zAp w c A B C) (hs:Small c) (hG:InC w 0 0 zCz) (h0:zAs c=0) (hcan:zIB (zBx c) (zGp c) (zBN c)=false) :
  Gv Tryz.prog 25 [zAS c A ca B cb C cc] w (.tuple #[.slice none 0 0,.int .i64 8]):=by
 have h4:=hs.b;have h5:=hs.h
 have hf:=zBm h0
 have hh1:=hf.hours
 rw [zAB] at hh1
 have h1:=fun W (hb:Below w.heap.size w W)=>zDr c A ca B cb C cc W (h.below hb) hs h0
 have h2:=fun W (hb:Below w.heap.size w W) g (hr:InC W g 0 (zN c A ca B cb C cc))=>Two.zFk c A ca B cb C cc g W hr (hG.below hb) (h.below hb) hs hf
 have ok0:=zF7 hf hs (zIz hf)
 have hbl:=zKJ h0
 unfold Gv
 unfold zAS at h1 ⊢
 unfold zN at h1 h2 ⊢
 (refine zJ (n:=140) Tryz.func25 rfl rfl rfl ?_)
 (repeat' (first|((with_reducible refine zF ?_);first|refine zE rfl rfl rfl ?_|refine zC rfl rfl rfl ?_|(refine zL rfl rfl rfl ?_;refine ⟨_,rfl,?_⟩)|(refine zQ rfl rfl rfl rfl rfl (fun h=>?_) (fun h=>?_)<;>(dsimp only [cmpP] at h;(try (exfalso;omega))))|(refine zAW rfl rfl rfl rfl (fun _ _ q=>h1 _ q.below) ?_;rintro g -;dsimp only [List.cons_append,List.nil_append])|(refine zAW rfl rfl rfl rfl (fun _ _ q=>h2 _ q.below g (zBO q.own (Below.refl _ _) rfl)) ?_;rintro ⟨⟨gn,L⟩,⟨gm,M⟩,gh⟩ ⟨hL,hM⟩;dsimp only [List.cons_append,List.nil_append])|refine zc rfl rfl rfl rfl ?_|(refine za rfl rfl rfl rfl rfl ?_;refine ⟨rfl,by first|decide|exact Nat.le_of_ble_eq_true rfl|(simp;omega),_,rfl,?_⟩)|(refine zh rfl rfl (fun b=>?_))|(refine zy rfl rfl rfl rfl (fun b=>?_)))|(with_reducible first|refine zH ?_|refine zB ?_|refine zD ?_|refine zA ?_|refine zS ?_)|((with_reducible refine zG ?_ ?_);(· exact rfl))))
 simp only at hL hM
 have hca:=fun (W:World) (a1:zC1 encI 1 W (some ⟨gn,0,none⟩) L) (a2:zC1 zAx 1 W (some ⟨gm,0,none⟩) M) (a3:zp encI 1 W (some ⟨gh,0,none⟩) (zBN c))=>zH6 ok0 hL hM (by omega) (by omega) (by omega) hbl _ _ _ c.beds.length c.beds.length c.hours.length W a1 a2 a3
 rw [show zIB (zBY c).nds (zBY c).may (zBY c).hands=false from hcan] at hca
 unfold zBE at hca
 (repeat' (first|((with_reducible refine zF ?_);first|refine zC rfl rfl rfl ?_|refine zY rfl rfl rfl rfl (fun _ _ q=>hca _ (zCu q.own (by (repeat constructor))) (zCu q.own (by (repeat constructor))) (zDR q.own (by (repeat constructor)))) ?_|refine zAd rfl rfl rfl ?_)|(with_reducible first|refine zH ?_|refine zB ?_|refine zD ?_|refine zA ?_|refine zW ?_|refine ze ?_)|((with_reducible refine zK ?_ ?_);(· exact rfl))))
 exact zR (by (exact zf.cons (by exact zAL.tmp rfl) (zf.cons (by exact zAL.tmp rfl) zf.nil))) () trivial rfl (fun _ h=>h.sub (by (repeat constructor)))
end Go.Proofs.YtdigopgncfhiaaaGreatDoor
namespace Go.Proofs.YtdigopgncfhiaaaGreatDoor
open Go.RowKit
theorem zHT {α:Type} (l:List α) (i j:Nat) (hi:i≤j) (hj:j<l.length):l.extract i (j+1)=l.extract i j++[l[j]]:=by
 simp only [List.extract_eq_take_drop]
 rw [show j+1 - i=(j - i)+1 by omega,List.take_succ_eq_append_getElem (by simp;omega)]
 simp [show i+(j - i)=j by omega]
theorem zJC (l:List Sp) (x:Sp):zIH (l++[x])=zBj (zIH l) x:=by simp [zIH]
theorem zC9 {t:List St} {i j:Nat} (hi:i≤j) (hj:j<t.length):zd t i (j+1)=zBj (zd t i j) t[j].long:=by
 unfold zd
 rw [zHT _ _ _ hi (by simpa [longs] using hj),zJC];simp [longs]
theorem zEp {t:List St} {i j:Nat} (hi:i≤j) (hj:j<t.length):zAH t i (j+1)=zBj (zAH t i j) t[j].fall:=by
 unfold zAH
 rw [zHT _ _ _ hi (by simpa [falls] using hj),zJC];simp [falls]
theorem zCR (t:List St) (i:Nat):zd t i i=⟨0,0⟩:=by simp [zd,zIH,List.extract_eq_take_drop]
theorem zDD (t:List St) (i:Nat):zAH t i i=⟨0,0⟩:=by simp [zAH,zIH,List.extract_eq_take_drop]
theorem zO6 {t : List St} (h : ∀ s ∈ t, Okay s) : ∀ {i j : Nat}, i ≤ j → j ≤ t.length →
    0≤(zd t i j).lo∧(zd t i j).lo≤(zd t i j).hi∧(zd t i j).hi≤30000 * (j - i:Int) ∧
    0≤(zAH t i j).lo∧(zAH t i j).lo≤(zAH t i j).hi∧(zAH t i j).hi≤5000 * (j - i:Int):=by
  intro i j hij
  induction j with
  | zero => intro _; obtain rfl : i = 0 := by omega
            simp [zCR,zDD]
  | succ j ih =>
    intro hj
    by_cases hji:i=j+1
    · subst hji;simp [zCR,zDD]
    · have:=ih (by omega) (by omega)
      have ho:=h t[j] (List.getElem_mem (by omega))
      rw [zC9 (by omega) (by omega),zEp (by omega) (by omega)]
      have:=ho.l0;have:=ho.l1;have:=ho.l2;have:=ho.f0;have:=ho.f1;have:=ho.f2
      simp only [zBj]
      omega
end Go.Proofs.YtdigopgncfhiaaaGreatDoor
