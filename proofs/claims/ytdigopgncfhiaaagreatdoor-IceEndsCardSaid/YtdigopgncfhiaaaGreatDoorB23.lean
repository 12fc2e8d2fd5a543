/- B23 -/
import Derived.Test.YtdigopgncfhiaaaGreatDoorB6
import Derived.Test.YtdigopgncfhiaaaGreatDoorB11
import Derived.Test.YtdigopgncfhiaaaGreatDoorB18
import Derived.Test.YtdigopgncfhiaaaGreatDoorB10
import Derived.Test.YtdigopgncfhiaaaGreatDoorB22
import Derived.Test.YtdigopgncfhiaaaGreatDoorB8
import Derived.Test.YtdigopgncfhiaaaGreatDoorB1
set_option linter.unusedSimpArgs false
set_option linter.unusedVariables false
namespace Go.Proofs.YtdigopgncfhiaaaGreatDoor
theorem zRr {p:Prop} (h:p:=by simp only [hnext,hstep];(repeat (first|exact oK1 _|(refine oK2 zRT ?_)))):p:=h
end Go.Proofs.YtdigopgncfhiaaaGreatDoor
namespace Go.Proofs.YtdigopgncfhiaaaGreatDoor.Two
open Go.RowKit
set_option maxRecDepth 20000
set_option maxHeartbeats 8000000 in
theorem zLj (c:Cov) (A:Option Addr) (ca:Nat) (B:Option Addr) (cb:Nat) (C:Option Addr) (cc:Nat) (w:World) (h:zAl w c A B C) (hs:Small c) (hG:InC w 0 0 zCS) (h0:zAp c=0) (hcan:zC1 (zAu c) (zCs c) (zAk c)=true) :
  Ret Tryz.prog 25 [zAQ c A ca B cb C cc] w (fun p:Nat × List (zAH Int)=>.tuple #[.slice (some ⟨p.1,0,none⟩) c.hours.length c.hours.length,.int .i64 0]) (fun p=>[.zBV zAF (rowOf encI 1 3) p.1 p.2]) (fun p=>p.2.map (·.xs)=(zAt c).1):=by
 have h4:=hs.b;have h5:=hs.h
 have hb:=h.b;have hh:=h.h
 have hf:=zAy h0
 have hh1:=hf.hours
 rw [zx] at hh1
 have h1:=fun W (hb:Below w.heap.size w W)=>zDy c A ca B cb C cc W (h.below hb) hs h0
 have h2:=fun W (hb:Below w.heap.size w W) g (hr:InC W g 0 (zH c A ca B cb C cc))=>Two.zGI c A ca B cb C cc g W hr (hG.below hb) (h.below hb) hs hf
 have hP:(zAt c).1=(zBt c.beds.length c.hours.length (zAi c)).out:=by unfold zAt;rw [if_pos h0,if_pos hcan]
 have hcr:∀ u∈c.hours,0≤u.crew∧u.crew≤1000:=fun u hu=>by
  have h9:=hf.hour u hu
  unfold zBR at h9
  simp only [Bool.and_eq_true,zx] at h9
  omega
 have ok0:=zCV hf hs hcr
 have hbl:0<c.beds.length:=by
  have hv:valid c.t=true:=by
   cases hv:valid c.t with
   | true=>rfl
   | false=>unfold zAp at h0;rw [hv] at h0;simp at h0
  have:=(zEz hv).1
  have:=hf.beds
  omega
 rw [hP]
 unfold zAQ at h1 ⊢
 unfold zH at h1 h2 ⊢
 (refine zM (n:=140) Tryz.func25 rfl rfl rfl ?_)
 (repeat' (first|((with_reducible refine zG ?_);first|refine zE rfl rfl rfl rfl rfl ?_|refine zC rfl rfl rfl rfl rfl ?_|(refine zK rfl rfl rfl rfl rfl ?_;refine ⟨_,rfl,?_⟩)|(refine zQ rfl rfl rfl rfl rfl rfl rfl (fun h=>?_) (fun h=>?_)<;>(dsimp only [cmpP] at h;(try (exfalso;omega))))|(refine zAV rfl rfl rfl rfl rfl rfl (fun _ _ q=>h1 _ q.below) ?_;rintro g -;dsimp only [List.cons_append,List.nil_append])|(refine zAV rfl rfl rfl rfl rfl rfl (fun _ _ q=>h2 _ q.below g (zBf q.own (Below.refl _ _) rfl)) ?_;rintro ⟨⟨gn,L⟩,⟨gm,M⟩,gh⟩ ⟨hL,hM⟩;dsimp only [List.cons_append,List.nil_append])|refine zj rfl rfl rfl rfl rfl rfl ?_|(refine zf rfl rfl rfl rfl rfl ?_;refine And.intro rfl (And.intro zRY ⟨_,rfl,?_⟩))|(refine zr rfl rfl rfl rfl (fun b=>?_))|(refine zAI rfl rfl rfl rfl rfl rfl (fun b=>?_)))|(with_reducible first|refine zI ?_|refine zB ?_|refine zD ?_|refine zA ?_|refine zP ?_)|((with_reducible refine zF ?_ ?_);(· exact rfl))))
 simp only at hL hM
 have hca:=fun (W:World) (a1:zDU encI 1 W (some ⟨gn,0,none⟩) L) (a2:zDU zBF 1 W (some ⟨gm,0,none⟩) M) (a3:zAB encI 1 W (some ⟨gh,0,none⟩) (zAk c))=>zIY ok0 hL hM zRU zRU zRU hbl _ _ _ c.beds.length c.beds.length c.hours.length W a1 a2 a3
 rw [show zC1 (zAi c).nds (zAi c).may (zAi c).hands=true from hcan] at hca
 unfold zBa at hca
 (repeat' (first|((with_reducible refine zG ?_);first|refine zE rfl rfl rfl rfl rfl ?_|refine zC rfl rfl rfl rfl rfl ?_|(refine zK rfl rfl rfl rfl rfl ?_;refine ⟨_,rfl,?_⟩)|refine zd rfl rfl rfl rfl rfl ?_|refine zV rfl rfl rfl rfl rfl rfl (fun _ _ q=>hca _ (zDJ q.own zRT) (zDJ q.own zRT) (zD4 q.own zRT)) ?_|refine zMF rfl rfl rfl rfl rfl rfl rfl rfl rfl rfl rfl zRU (fun go=>?_)|refine zAf rfl rfl rfl rfl rfl ?_|refine zp rfl rfl rfl rfl rfl ?_)|(with_reducible first|refine zI ?_|refine zB ?_|refine zD ?_|refine zA ?_|refine zP ?_|refine zN ?_)|((with_reducible refine zF ?_ ?_);(· exact rfl))))
 rename_i b1
 obtain ⟨b6,hb6⟩:∃ x,x=b:=⟨_,rfl⟩
 subst hb6
 refine zJW (enc:=encI) (k:=1) (e:=3) (Take.here _ _) ?_
 refine zq (ι:=PM) [1,6,7,32] rfl (fun q=>q.k≤c.hours.length∧PMat q (zBt c.beds.length q.k (zAi c))) (fun q=>[(33,.int .i64 (q.k:Int))]) (fun q=>[.zBV zAF (rowOf encI 1 3) gn q.nd,.zBV zAF (rowOf zBF 1 4) gm q.my,.row encI 1 3 (.slice (some ⟨gh,0,none⟩) c.hours.length c.hours.length) ((zBt c.beds.length q.k (zAi c)).hands),.zBV zAF (rowOf encI 1 3) go q.ot,.blk b1 (zH c A ca B cb C cc),.blk b6 (zBa (some ⟨gn,0,none⟩) c.beds.length c.beds.length (some ⟨gm,0,none⟩) c.beds.length c.beds.length (some ⟨gh,0,none⟩) c.hours.length c.hours.length)]) (fun q=>c.hours.length - q.k) ⟨0,L,M,List.replicate c.hours.length zBH⟩ ⟨Nat.zero_le _,hL,hM,by simp [zBt,zAi,zBH]⟩ zRS zRQ ?_
 clear hca hL hM L M
 rintro ⟨y,L,M,O⟩ ⟨hy,hL,hM,hO⟩
 simp only at hy hL hM hO
 simp only [zAn,zH,zBa,List.cons_append,List.nil_append]
 by_cases hyl:y<c.hours.length
 ·have okh:=zC0 ok0 y hy
  (repeat' (first|((with_reducible refine zG ?_);first|refine zE rfl rfl rfl rfl rfl ?_|refine zC rfl rfl rfl rfl rfl ?_|(refine zK rfl rfl rfl rfl rfl ?_;refine ⟨_,rfl,?_⟩)|refine zd rfl rfl rfl rfl rfl ?_|(refine zQ rfl rfl rfl rfl rfl rfl rfl (fun h=>?_) (fun h=>?_)<;>(dsimp only [cmpP] at h;(try (exfalso;omega))))|refine zp rfl rfl rfl rfl rfl ?_)|(with_reducible first|refine zI ?_|refine zB ?_|refine zD ?_|refine zA ?_|refine zP ?_|refine zN ?_)|((with_reducible refine zJ ?_ ?_);(· exact rfl))))
  refine zq (ι:=PM) [1,6,7,8,32,33,38] rfl (fun q=>q.k≤c.beds.length∧PMat q (stepsP y q.k (zBt c.beds.length y (zAi c)))) (fun q=>[(39,.int .i64 (q.k:Int))]) (fun q=>[.zBV zAF (rowOf encI 1 3) gn q.nd,.zBV zAF (rowOf zBF 1 4) gm q.my,.row encI 1 3 (.slice (some ⟨gh,0,none⟩) c.hours.length c.hours.length) ((stepsP y q.k (zBt c.beds.length y (zAi c))).hands),.zBV zAF (rowOf encI 1 3) go q.ot,.blk b1 (zH c A ca B cb C cc),.blk b6 (zBa (some ⟨gn,0,none⟩) c.beds.length c.beds.length (some ⟨gm,0,none⟩) c.beds.length c.beds.length (some ⟨gh,0,none⟩) c.hours.length c.hours.length)]) (fun q=>c.beds.length - q.k) ⟨0,L,M,O⟩ ⟨Nat.zero_le _,hL,hM,hO⟩ zRS zRQ ?_
  clear hL hM hO L M O
  rintro ⟨i,L,M,O⟩ ⟨hi,hL,hM,hO⟩
  simp only at hi hL hM hO
  simp only [zAn,zH,zBa,List.cons_append,List.nil_append]
  by_cases hil:i<c.beds.length
  ·have oki:=zEK okh hyl i hi
   have hnext:stepsP y (i+1) (zBt c.beds.length y (zAi c))=zCF y i (stepsP y i (zBt c.beds.length y (zAi c))):=rfl
   generalize stepsP y i (zBt c.beds.length y (zAi c))=st at *
   have hLl:L.length=c.beds.length:=by have:=congrArg List.length hL;rw [oki.nl] at this;simpa using this
   have hMl:M.length=c.beds.length:=by have:=congrArg List.length hM;rw [oki.ml] at this;simpa using this
   have hHl:=oki.hl
   obtain ⟨s,hs1⟩:∃ s,L[i]?=some s:=⟨_,List.getElem?_eq_getElem zRU⟩
   obtain ⟨t,ht1⟩:∃ t,M[i]?=some t:=⟨_,List.getElem?_eq_getElem zRU⟩
   have hsr:NRow c.hours.length s.xs:=oki.nr _ (by rw [← hL];exact List.mem_map_of_mem (List.mem_of_getElem? hs1))
   have htl:t.xs.length=c.hours.length:=oki.mr _ (by rw [← hM];exact List.mem_map_of_mem (List.mem_of_getElem? ht1))
   have gs1:st.nds.getD i []=s.xs:=by rw [← hL];exact getD_map hs1
   have gt1:st.may.getD i []=t.xs:=by rw [← hM];exact getD_map ht1
   have hsl:=hsr.len
   have htk:zEf st y i=(t.xs.getD y false && (decide (0<st.hands.getD y 0) && decide (0<Flow.zDx s.xs))):=by unfold zEf;rw [gs1,gt1]
   obtain ⟨sA,sx,sc⟩:=s
   obtain ⟨tA,tx,tc⟩:=t
   simp only at hsr htl gs1 gt1 hsl htk
   (repeat' (first|((with_reducible refine zG ?_);first|refine zE rfl rfl rfl rfl rfl ?_|refine zC rfl rfl rfl rfl rfl ?_|(refine zK rfl rfl rfl rfl rfl ?_;refine ⟨_,rfl,?_⟩)|refine zd rfl rfl rfl rfl rfl ?_|(refine zQ rfl rfl rfl rfl rfl rfl rfl (fun h=>?_) (fun h=>?_)<;>(dsimp only [cmpP] at h;(try (exfalso;omega))))|refine ze rfl rfl rfl rfl rfl rfl rfl zRU ?_)|(with_reducible first|refine zI ?_|refine zB ?_|refine zD ?_|refine zA ?_|refine zP ?_|refine zN ?_)|((with_reducible refine zJ ?_ ?_);(· exact rfl))))
   refine zC9 i hs1 zRT ?_
   refine zGU (A:=sA) (xs:=sx) (k:=1) (e:=3) (enc:=encI) (m:=sx.length) (c:=sc) (Take.there _ (Take.here _ _)) zRU ?_
   rintro gs rfl
   refine zC9 i ht1 zRT ?_
   refine zGU (A:=tA) (xs:=tx) (k:=1) (e:=4) (enc:=zBF) (m:=tx.length) (c:=tc) (Take.there _ (Take.here _ _)) zRU ?_
   rintro gt rfl
   simp only [rowOf]
   have:zAP (L.set i ⟨some ⟨gs,0,none⟩,sx,sc⟩) i ⟨some ⟨gs,0,none⟩,sx,sc⟩:=⟨List.getElem?_set_self zRU⟩
   have:zAP (M.set i ⟨some ⟨gt,0,none⟩,tx,tc⟩) i ⟨some ⟨gt,0,none⟩,tx,tc⟩:=⟨List.getElem?_set_self zRU⟩
   have hmaxc:=fun W hA=>zMZ sx (some ⟨gs,0,none⟩) sc W hA zRU zRU
   have:zAP tx y (tx.getD y false):=⟨by rw [Flow.zm zRU];simp⟩
   have:zAP st.hands y (st.hands.getD y 0):=⟨by rw [Flow.zm zRU];simp⟩
   generalize hz:tx.getD y false=z at *
   generalize hk:st.hands.getD y 0=kk at *
   generalize hmm:Flow.zDx sx=mm at *
   cases z
   ·(repeat' (first|((with_reducible refine zG ?_);first|refine zE rfl rfl rfl rfl rfl ?_|refine zC rfl rfl rfl rfl rfl ?_|(refine zK rfl rfl rfl rfl rfl ?_;refine ⟨_,rfl,?_⟩)|refine zd rfl rfl rfl rfl rfl ?_|refine zAg rfl rfl rfl rfl rfl rfl ?_|refine zAN rfl rfl rfl ?_|refine zCR (enc:=zBF) (i:=y) false rfl rfl rfl rfl rfl rfl rfl rfl zRU ?_|refine ze (I:=y) rfl rfl rfl rfl rfl rfl rfl (by dsimp only;omega) ?_|refine zAf rfl rfl rfl rfl rfl ?_|refine zg rfl rfl rfl rfl rfl rfl zRU ?_|refine ze rfl rfl rfl rfl rfl rfl rfl zRU ?_)|(with_reducible first|refine zI ?_|refine zB ?_|refine zD ?_|refine zA ?_|refine zk ?_|refine zR ?_|refine zY ?_)|((with_reducible refine zJ ?_ ?_);(· exact rfl))))
    have hstep:zCF y i st=⟨st.nds,zCy st y i,st.hands,st.out⟩:=by unfold zCF;rw [htk,if_neg zRf]
    refine zFf i (tx.set y false) zRf ht1 zRT zRT zRT ?_
    refine zHA i (re:=rowOf encI 1 3) hs1 zRT zRT zRT ?_
    refine zc (ι:=PM) ⟨i+1,L,M.set i ⟨some ⟨gt,0,none⟩,tx.set y false,tc⟩,O⟩ (by
     refine ⟨by simp only;omega,?_⟩
     simp only
     rw [hnext,hstep]
     exact ⟨hL,by simp only;rw [List.map_set,hM];unfold zCy;rw [gt1],hO⟩) zRi zRS zRr
   ·by_cases hk0:0<kk
    ·by_cases hm0:0<mm
     ·have htk1:zEf st y i=true:=by rw [htk];simp [hk0,hm0]
      have hn1:=oki.zGd hil
      have hm1:=oki.zGg (h:=y) hil
      have hh1':=oki.zEG hyl htk1
      have hkb:=oki.hr kk (by rw [← hk,Flow.zm zRU];exact List.getElem_mem _)
      (repeat' (first|((with_reducible refine zG ?_);first|refine zE rfl rfl rfl rfl rfl ?_|refine zC rfl rfl rfl rfl rfl ?_|(refine zK rfl rfl rfl rfl rfl ?_;refine ⟨_,rfl,?_⟩)|refine zd rfl rfl rfl rfl rfl ?_|refine zAg rfl rfl rfl rfl rfl rfl ?_|(refine zQ rfl rfl rfl rfl rfl rfl rfl (fun h=>?_) (fun h=>?_)<;>(dsimp only [cmpP] at h;(try (exfalso;omega))))|refine zV rfl rfl rfl rfl rfl rfl (fun _ _ q=>hmaxc _ (zD4 q.own zRT)) ?_|refine zCR (enc:=zBF) (i:=y) false rfl rfl rfl rfl rfl rfl rfl rfl zRU ?_|refine ze (I:=y) rfl rfl rfl rfl rfl rfl rfl (by dsimp only;omega) ?_|refine zDG (hd:=zAF) (i:=i) (s:=⟨some ⟨gs,0,none⟩,sx,sc⟩) zBH rfl rfl rfl rfl rfl (by simp [zAF,zBH,Value.cells]) zRT zRU ?_|refine zAf rfl rfl rfl rfl rfl ?_|refine ze rfl rfl rfl rfl rfl rfl rfl zRU ?_|refine zp rfl rfl rfl rfl rfl ?_)|(with_reducible first|refine zI ?_|refine zB ?_|refine zD ?_|refine zA ?_|refine zP ?_|refine zN ?_)|((with_reducible refine zF ?_ ?_);(· exact rfl))))
      refine zFf i (tx.set y false) zRf ht1 zRT zRT zRT ?_
      refine zCE encI 1 3 ?_
      refine zq (ι:=Nat × zAH Int) [1,6,7,8,9,11,32,33,38,39,85,86] rfl (fun p=>p.1≤sx.length∧p.2.xs=zDY (sx.take p.1)) (fun p=>[(87,.int .i64 (p.1:Int))]) (fun p=>[rowOf encI 1 3 p.2,.arr zAF 1 gn (L.set i p.2),.row encI 1 3 (.slice (some ⟨gs,0,none⟩) sx.length sc) sx,.all ((L.eraseIdx i).map (rowOf encI 1 3)),.zBV zAF (rowOf zBF 1 4) gm (M.set i ⟨some ⟨gt,0,none⟩,tx.set y false,tc⟩),.row encI 1 3 (.slice (some ⟨gh,0,none⟩) c.hours.length c.hours.length) st.hands,.zBV zAF (rowOf encI 1 3) go O,.blk b1 (zH c A ca B cb C cc),.blk b6 (zBa (some ⟨gn,0,none⟩) c.beds.length c.beds.length (some ⟨gm,0,none⟩) c.beds.length c.beds.length (some ⟨gh,0,none⟩) c.hours.length c.hours.length)]) (fun p=>sx.length - p.1) (0,zBH) ⟨Nat.zero_le _,rfl⟩ zRS (by unfold zH zBa;simp only [rowOf,zBH,List.length_nil];(repeat (first|exact oK1 _|(refine oK2 zRT ?_)))) ?_
      rintro ⟨j,sA2,sx2,sc2⟩ ⟨hj,hsx⟩
      simp only at hj hsx
      simp only [zAn,rowOf,zH,zBa,List.cons_append,List.nil_append]
      by_cases hjl:j<sx.length
      ·obtain ⟨x,hx⟩:∃ x,sx[j]?=some x:=⟨_,List.getElem?_eq_getElem hjl⟩
       have:zAP sx j x:=⟨hx⟩
       have hbx:=hsr.big x (List.mem_of_getElem? hx)
       have:zAP (L.set i ⟨sA2,sx2,sc2⟩) i ⟨sA2,sx2,sc2⟩:=⟨List.getElem?_set_self zRU⟩
       have hl2:sx2.length≤12:=by rw [hsx];simp [zDY];omega
       have e1:sx2++[max 0 (x - 1)]=zDY (sx.take (j+1)):=by rw [hsx];unfold zDY;rw [List.take_add_one,hx,List.map_append];rfl
       (repeat' (first|((with_reducible refine zG ?_);first|refine zC rfl rfl rfl rfl rfl ?_|(refine zK rfl rfl rfl rfl rfl ?_;refine ⟨_,rfl,?_⟩)|(refine zQ rfl rfl rfl rfl rfl rfl rfl (fun h=>?_) (fun h=>?_)<;>(dsimp only [cmpP] at h;(try (exfalso;omega))))|refine ze rfl rfl rfl rfl rfl rfl rfl zRU ?_)|(with_reducible first|refine zI ?_|refine zB ?_|refine zD ?_|refine zA ?_|refine zP ?_|refine zN ?_)|((with_reducible refine zJ ?_ ?_);(· exact rfl))))
       (refine zAc [] [(12,0,0,[.row encI 1 3 (.slice sA2 sx2.length sc2) sx2])] [(12,0,0)] rfl (show ([12]:List Nat).Nodup by decide) (H0:=[.arr zAF 1 gn (L.set i ⟨sA2,sx2,sc2⟩),.row encI 1 3 (.slice (some ⟨gs,0,none⟩) sx.length sc) sx,.all ((L.eraseIdx i).map (rowOf encI 1 3)),.zBV zAF (rowOf zBF 1 4) gm (M.set i ⟨some ⟨gt,0,none⟩,tx.set y false,tc⟩),.row encI 1 3 (.slice (some ⟨gh,0,none⟩) c.hours.length c.hours.length) st.hands,.zBV zAF (rowOf encI 1 3) go O,.blk b1 [.slice A c.t.length ca,.slice B c.beds.length cb,.slice C c.hours.length cc,.int .i64 c.wear.lo,.int .i64 c.wear.hi,.int .i64 c.layer.lo,.int .i64 c.layer.hi,.int .i64 c.rate,.int .i64 c.limit,.int .i64 c.base],.blk b6 [.slice (some ⟨gn,0,none⟩) c.beds.length c.beds.length,.slice (some ⟨gm,0,none⟩) c.beds.length c.beds.length,.slice (some ⟨gh,0,none⟩) c.hours.length c.hours.length]]) (fun _ h=>h.sub zRQ) zRW [[],[I0],[O0,O0],[O0,O0,O0],[I0,O0,O0,O0],[O0,O0,O0,O0,O0],[I0,I0,I0,O0,O0,O0],[I0,I0,I0,I0,O0,O0,O0],[O0,O0,O0,O0,O0,O0,O0,O0],[I0,O0,O0,O0,O0,O0,O0,O0,O0],[I0,I0,O0,O0,O0,O0,O0,O0,O0,O0],[I0,I0,I0,O0,O0,O0,O0,O0,O0,O0,O0],[I0,I0,I0,I0,I0,I0,I0,I0,I0,O0,O0,O0],[I0,I0,I0,I0,I0,I0,I0,I0,I0,I0,I0,I0,I0],[I0,I0,I0,I0,I0,I0,I0,I0,I0,I0,I0,I0,I0,I0]] zRW zRW zRW zRW zRW ?_)
       (repeat' (first|(((with_reducible refine zCT ?_ ?_);(· exact rfl);refine ⟨_,fun G=>zRX,?_⟩);first|refine zX _ (fun _=>zAM rfl rfl) (fun _=>rfl) rfl zRR ?_|refine zX _ (fun _=>zy rfl rfl zRe) (fun _=>rfl) rfl zRR ?_|(refine zAU rfl ?_;refine zX _ (fun _=>zAJ rfl rfl) (fun _=>rfl) rfl zRR ?_)|refine zX _ (fun _=>zFS rfl rfl rfl (IntWalk.i64_in _ zRU)) (fun _=>rfl) rfl zRR ?_|refine zX _ (fun _=>zAO rfl rfl rfl rfl zRU) (fun _=>rfl) rfl zRR ?_|refine zX _ (fun _=>e_max rfl rfl rfl) (fun _=>rfl) rfl zRR ?_|refine zBu rfl (fun _=>rfl) rfl (fun _=>rfl) zRe (by exact fun _=>rfl) zRR ?_)|(refine zDn (enc:=encI) (xs:=sx2) (vx:=.slice sA2 sx2.length sc2) [max 0 (x - 1)] List.mem_cons_self rfl rfl (fun _=>rfl) rfl (fun _=>rfl) (fun _=>rfl) rfl (fun G=>zRX) (fun _ W hW h=>zAd (enc:=encI) zRe W hW h) ⟨by simp;omega,by decide⟩ ?_)|((with_reducible refine zBU ?_ ?_);(· exact rfl))))
       intro G
       simp only [regsT,List.nil_append,List.cons_append]
       refine zB6 (H':=[.row encI 1 3 (.slice (G 12).A (sx2++[max 0 (x - 1)]).length (G 12).m) (sx2++[max 0 (x - 1)]),.blk (G 11).g (encI (max 0 (x - 1))),.arr zAF 1 gn (L.set i ⟨sA2,sx2,sc2⟩),.row encI 1 3 (.slice (some ⟨gs,0,none⟩) sx.length sc) sx,.all ((L.eraseIdx i).map (rowOf encI 1 3)),.zBV zAF (rowOf zBF 1 4) gm (M.set i ⟨some ⟨gt,0,none⟩,tx.set y false,tc⟩),.row encI 1 3 (.slice (some ⟨gh,0,none⟩) c.hours.length c.hours.length) st.hands,.zBV zAF (rowOf encI 1 3) go O,.blk b1 [.slice A c.t.length ca,.slice B c.beds.length cb,.slice C c.hours.length cc,.int .i64 c.wear.lo,.int .i64 c.wear.hi,.int .i64 c.layer.lo,.int .i64 c.layer.hi,.int .i64 c.rate,.int .i64 c.limit,.int .i64 c.base],.blk b6 [.slice (some ⟨gn,0,none⟩) c.beds.length c.beds.length,.slice (some ⟨gm,0,none⟩) c.beds.length c.beds.length,.slice (some ⟨gh,0,none⟩) c.hours.length c.hours.length]]) (fun _ h=>h) ?_
       (repeat' (first|((with_reducible refine zG ?_);first|refine zE rfl rfl rfl rfl rfl ?_|refine zDG (hd:=zAF) (i:=i) (s:=⟨sA2,sx2,sc2⟩) ⟨(G 12).A,sx2++[max 0 (x - 1)],(G 12).m⟩ rfl rfl rfl rfl rfl rfl zRT zRU ?_|refine zg rfl rfl rfl rfl rfl rfl zRU ?_)|(with_reducible first|refine zB ?_|refine zD ?_|refine zA ?_|refine zi ?_)))
       exact zc (ι:=Nat × zAH Int) (j+1,⟨(G 12).A,sx2++[max 0 (x - 1)],(G 12).m⟩) (by exact ⟨by simp only;omega,e1⟩) zRi zRS zRQ
      ·obtain rfl:j=sx.length:=by omega
       rw [List.take_length] at hsx
       subst hsx
       (repeat' (first|((with_reducible refine zG ?_);first|refine zE rfl rfl rfl rfl rfl ?_|(refine zK rfl rfl rfl rfl rfl ?_;refine ⟨_,rfl,?_⟩)|refine zd rfl rfl rfl rfl rfl ?_|(refine zQ rfl rfl rfl rfl rfl rfl rfl (fun h=>?_) (fun h=>?_)<;>(dsimp only [cmpP] at h;(try (exfalso;omega))))|refine zCc rfl rfl rfl rfl rfl rfl (IntWalk.i64_in _ zRU) ?_|refine ze rfl rfl rfl rfl rfl rfl rfl zRU ?_)|(with_reducible first|refine zI ?_|refine zB ?_|refine zD ?_|refine zA ?_|refine zk ?_|refine zR ?_|refine zY ?_)|((with_reducible refine zF ?_ ?_);(· exact rfl))))
       refine zC8 i (re:=rowOf encI 1 3) ⟨sA2,zDY sx,sc2⟩ hs1 zRT zRT zRT ?_
       have ok2:zCP c.beds.length c.hours.length y i ⟨zFz st i,zCy st y i,zCH st y,st.out⟩:=⟨hn1.1,hm1.1,hh1'.1,oki.ol,hn1.2,hm1.2,hh1'.2,oki.or_⟩
       have eL:(L.set i ⟨sA2,zDY sx,sc2⟩).map (·.xs)=zFz st i:=by rw [List.map_set,hL];unfold zFz;rw [gs1]
       have eM:(M.set i ⟨some ⟨gt,0,none⟩,tx.set y false,tc⟩).map (·.xs)=zCy st y i:=by rw [List.map_set,hM];unfold zCy;rw [gt1]
       have eH:st.hands.set y (kk - 1)=zCH st y:=by unfold zCH;rw [hk]
       have hca:=fun (W:World) a1 a2 a3=>zIY ok2 eL eM zRU zRU zRU hbl (some ⟨gn,0,none⟩) (some ⟨gm,0,none⟩) (some ⟨gh,0,none⟩) c.beds.length c.beds.length c.hours.length W a1 a2 a3
       unfold zBa at hca
       dsimp only at hca
       cases hcb:zC1 (zFz st i) (zCy st y i) (zCH st y) with
       | true =>
        rw [hcb] at hca
        have hOl:O.length=c.hours.length:=by have:=congrArg List.length hO;rw [oki.ol] at this;simpa using this
        obtain ⟨o,ho1⟩:∃ o,O[y]?=some o:=⟨_,List.getElem?_eq_getElem zRU⟩
        have go1:st.out.getD y []=o.xs:=by rw [← hO];exact getD_map ho1
        have hol:=oki.or_ y
        rw [if_neg zRU,if_pos rfl,go1] at hol
        obtain ⟨oA,ox,oc⟩:=o
        simp only at go1 hol
        have:zAP O y ⟨oA,ox,oc⟩:=⟨ho1⟩
        have hstep:zCF y i st=⟨zFz st i,zCy st y i,zCH st y,zIQ st y i⟩:=by unfold zCF;rw [if_pos htk1,if_pos hcb]
        (repeat' (first|((with_reducible refine zG ?_);first|refine zE rfl rfl rfl rfl rfl ?_|(refine zK rfl rfl rfl rfl rfl ?_;refine ⟨_,rfl,?_⟩)|(refine zCR (enc:=encI) (i:=y) (kk - 1) rfl rfl rfl rfl rfl rfl rfl rfl zRU ?_;rw [eH])|refine zV rfl rfl rfl rfl rfl rfl (fun _ _ q=>hca _ (zDJ q.own zRT) (zDJ q.own zRT) (zD4 q.own zRT)) ?_|refine ze rfl rfl rfl rfl rfl rfl rfl zRU ?_|(refine zz rfl rfl rfl rfl rfl ?_;refine ⟨rfl,_,rfl,fun b=>?_⟩))|(with_reducible first|refine zI ?_|refine zB ?_|refine zD ?_|refine zA ?_)|((with_reducible refine zJ ?_ ?_);(· exact rfl))))
        refine zC9 y ho1 zRT ?_
        simp only [rowOf]
        (repeat' (first|((with_reducible refine zG ?_);first|refine zE rfl rfl rfl rfl rfl ?_|(refine zAq (enc:=encI) [_] rfl rfl rfl rfl rfl zRT rfl rfl (zAd zRe) zRc (fun A' c'=>?_))|refine zDG (hd:=zAF) (i:=y) (s:=⟨oA,ox,oc⟩) ⟨A',ox++[(i:Int)],c'⟩ rfl rfl rfl rfl rfl (by simp [zAF,Value.cells]) zRT zRU ?_|refine zg rfl rfl rfl rfl rfl rfl zRU ?_|refine ze rfl rfl rfl rfl rfl rfl rfl zRU ?_)|(with_reducible first|refine zB ?_|refine zD ?_|refine zA ?_|refine zk ?_|refine zR ?_|refine zY ?_)))
        refine zC8 y (re:=rowOf encI 1 3) ⟨A',ox++[(i:Int)],c'⟩ ho1 zRT zRT zRT ?_
        refine zc (ι:=PM) ⟨i+1,L.set i ⟨sA2,zDY sx,sc2⟩,M.set i ⟨some ⟨gt,0,none⟩,tx.set y false,tc⟩,O.set y ⟨A',ox++[(i:Int)],c'⟩⟩ (by
         refine ⟨by simp only;omega,?_⟩
         simp only
         rw [hnext,hstep]
         exact ⟨eL,eM,by simp only;rw [List.map_set,hO];unfold zIQ;rw [go1]⟩) zRi zRS zRr
       | false =>
        rw [hcb] at hca
        have lL:(L.set i ⟨sA2,zDY sx,sc2⟩).length=c.beds.length:=by rw [List.length_set];exact hLl
        have hs2:(L.set i ⟨sA2,zDY sx,sc2⟩)[i]?=some ⟨sA2,zDY sx,sc2⟩:=List.getElem?_set_self zRU
        have eB:(L.set i ⟨sA2,zDY sx,sc2⟩).set i ⟨some ⟨gs,0,none⟩,sx,sc⟩=L:=by
         rw [List.set_set]
         obtain ⟨h9,h8⟩:=List.getElem?_eq_some_iff.1 hs1
         rw [← h8];exact List.set_getElem_self h9
        have eH2:(zCH st y).set y (kk - 1+1)=st.hands:=by
         rw [← eH,List.set_set,Int.sub_add_cancel,← hk,Flow.zm zRU];exact List.set_getElem_self _
        have:zAP (zCH st y) y (kk - 1):=⟨by rw [← eH];exact List.getElem?_set_self zRU⟩
        have hstep:zCF y i st=⟨st.nds,zCy st y i,st.hands,st.out⟩:=by unfold zCF;rw [if_pos htk1,if_neg (by rw [hcb];simp)]
        (repeat' (first|((with_reducible refine zG ?_);first|refine zE rfl rfl rfl rfl rfl ?_|(refine zK rfl rfl rfl rfl rfl ?_;refine ⟨_,rfl,?_⟩)|refine zd rfl rfl rfl rfl rfl ?_|(refine zCR (enc:=encI) (i:=y) (kk - 1) rfl rfl rfl rfl rfl rfl rfl rfl zRU ?_;rw [eH])|refine zV rfl rfl rfl rfl rfl rfl (fun _ _ q=>hca _ (zDJ q.own zRT) (zDJ q.own zRT) (zD4 q.own zRT)) ?_|refine ze rfl rfl rfl rfl rfl rfl rfl zRU ?_)|(with_reducible first|refine zI ?_|refine zB ?_|refine zD ?_|refine zA ?_|refine zP ?_)|((with_reducible refine zF ?_ ?_);(· exact rfl))))
        refine zC9 i hs2 zRT ?_
        (repeat' (first|((with_reducible refine zG ?_);first|refine zE rfl rfl rfl rfl rfl ?_|(refine zK rfl rfl rfl rfl rfl ?_;refine ⟨_,rfl,?_⟩)|refine zd rfl rfl rfl rfl rfl ?_|refine zDG (hd:=zAF) (i:=i) (s:=⟨sA2,zDY sx,sc2⟩) ⟨some ⟨gs,0,none⟩,sx,sc⟩ rfl rfl rfl rfl rfl (by simp [zAF,Value.cells]) zRT zRU ?_|(refine zCR (enc:=encI) (i:=y) (kk - 1+1) rfl rfl rfl rfl rfl rfl rfl rfl zRU ?_;rw [eH2])|refine zg rfl rfl rfl rfl rfl rfl zRU ?_|refine zCX rfl rfl rfl rfl rfl rfl (IntWalk.i64_in _ zRU) ?_|refine ze rfl rfl rfl rfl rfl rfl rfl zRU ?_)|(with_reducible first|refine zB ?_|refine zD ?_|refine zA ?_|refine zi ?_)))
        refine zC8 i (re:=rowOf encI 1 3) ⟨some ⟨gs,0,none⟩,sx,sc⟩ hs2 zRT zRT zRT ?_
        rw [eB]
        refine zc (ι:=PM) ⟨i+1,L,M.set i ⟨some ⟨gt,0,none⟩,tx.set y false,tc⟩,O⟩ (by
         refine ⟨by simp only;omega,?_⟩
         simp only
         rw [hnext,hstep]
         exact ⟨hL,eM,hO⟩) zRi zRS zRr
     ·(repeat' (first|((with_reducible refine zG ?_);first|refine zE rfl rfl rfl rfl rfl ?_|refine zC rfl rfl rfl rfl rfl ?_|(refine zK rfl rfl rfl rfl rfl ?_;refine ⟨_,rfl,?_⟩)|refine zd rfl rfl rfl rfl rfl ?_|refine zAg rfl rfl rfl rfl rfl rfl ?_|(refine zQ rfl rfl rfl rfl rfl rfl rfl (fun h=>?_) (fun h=>?_)<;>(dsimp only [cmpP] at h;(try (exfalso;omega))))|refine zV rfl rfl rfl rfl rfl rfl (fun _ _ q=>hmaxc _ (zD4 q.own zRT)) ?_|refine zCR (enc:=zBF) (i:=y) false rfl rfl rfl rfl rfl rfl rfl rfl zRU ?_|refine ze (I:=y) rfl rfl rfl rfl rfl rfl rfl (by dsimp only;omega) ?_|refine zAf rfl rfl rfl rfl rfl ?_|refine zg rfl rfl rfl rfl rfl rfl zRU ?_|refine ze rfl rfl rfl rfl rfl rfl rfl zRU ?_)|(with_reducible first|refine zI ?_|refine zB ?_|refine zD ?_|refine zA ?_|refine zk ?_|refine zR ?_|refine zY ?_)|((with_reducible refine zJ ?_ ?_);(· exact rfl))))
      have hstep:zCF y i st=⟨st.nds,zCy st y i,st.hands,st.out⟩:=by unfold zCF;rw [htk,if_neg zRp]
      refine zFf i (tx.set y false) zRf ht1 zRT zRT zRT ?_
      refine zHA i (re:=rowOf encI 1 3) hs1 zRT zRT zRT ?_
      refine zc (ι:=PM) ⟨i+1,L,M.set i ⟨some ⟨gt,0,none⟩,tx.set y false,tc⟩,O⟩ (by
       refine ⟨by simp only;omega,?_⟩
       simp only
       rw [hnext,hstep]
       exact ⟨hL,by simp only;rw [List.map_set,hM];unfold zCy;rw [gt1],hO⟩) zRi zRS zRr
    ·(repeat' (first|((with_reducible refine zG ?_);first|refine zE rfl rfl rfl rfl rfl ?_|refine zC rfl rfl rfl rfl rfl ?_|(refine zK rfl rfl rfl rfl rfl ?_;refine ⟨_,rfl,?_⟩)|refine zd rfl rfl rfl rfl rfl ?_|refine zAg rfl rfl rfl rfl rfl rfl ?_|refine zAN rfl rfl rfl ?_|(refine zQ rfl rfl rfl rfl rfl rfl rfl (fun h=>?_) (fun h=>?_)<;>(dsimp only [cmpP] at h;(try (exfalso;omega))))|refine zCR (enc:=zBF) (i:=y) false rfl rfl rfl rfl rfl rfl rfl rfl zRU ?_|refine ze (I:=y) rfl rfl rfl rfl rfl rfl rfl (by dsimp only;omega) ?_|refine zAf rfl rfl rfl rfl rfl ?_|refine zg rfl rfl rfl rfl rfl rfl zRU ?_|refine ze rfl rfl rfl rfl rfl rfl rfl zRU ?_)|(with_reducible first|refine zI ?_|refine zB ?_|refine zD ?_|refine zA ?_|refine zk ?_|refine zR ?_|refine zY ?_)|((with_reducible refine zJ ?_ ?_);(· exact rfl))))
     have hstep:zCF y i st=⟨st.nds,zCy st y i,st.hands,st.out⟩:=by unfold zCF;rw [htk,if_neg zRp]
     refine zFf i (tx.set y false) zRf ht1 zRT zRT zRT ?_
     refine zHA i (re:=rowOf encI 1 3) hs1 zRT zRT zRT ?_
     refine zc (ι:=PM) ⟨i+1,L,M.set i ⟨some ⟨gt,0,none⟩,tx.set y false,tc⟩,O⟩ (by
      refine ⟨by simp only;omega,?_⟩
      simp only
      rw [hnext,hstep]
      exact ⟨hL,by simp only;rw [List.map_set,hM];unfold zCy;rw [gt1],hO⟩) zRi zRS zRr
  ·obtain rfl:i=c.beds.length:=by omega
   (repeat' (first|((with_reducible refine zG ?_);first|refine zE rfl rfl rfl rfl rfl ?_|(refine zQ rfl rfl rfl rfl rfl rfl rfl (fun h=>?_) (fun h=>?_)<;>(dsimp only [cmpP] at h;(try (exfalso;omega))))|refine zg rfl rfl rfl rfl rfl rfl zRU ?_)|(with_reducible first|refine zI ?_|refine zB ?_|refine zD ?_|refine zA ?_|refine zk ?_|refine zi ?_|refine zR ?_|refine zY ?_)|((with_reducible refine zF ?_ ?_);(· exact rfl))))
   exact zc (ι:=PM) ⟨y+1,L,M,O⟩ (by exact ⟨by simp only;omega,hL,hM,hO⟩) zRi zRS zRQ
 ·obtain rfl:y=c.hours.length:=by omega
  (repeat' (first|((with_reducible refine zG ?_);first|refine zE rfl rfl rfl rfl rfl ?_|refine zC rfl rfl rfl rfl rfl ?_|(refine zQ rfl rfl rfl rfl rfl rfl rfl (fun h=>?_) (fun h=>?_)<;>(dsimp only [cmpP] at h;(try (exfalso;omega)))))|(with_reducible first|refine zI ?_|refine zB ?_|refine zD ?_|refine zA ?_|refine za ?_|refine zk ?_|refine zR ?_|refine zY ?_)|((with_reducible refine zF ?_ ?_);(· exact rfl))))
  exact zU zRd (go,O) hO (by simp [resV]) (fun _ h=>h.sub zRQ)
end Go.Proofs.YtdigopgncfhiaaaGreatDoor.Two
namespace Go.Proofs.YtdigopgncfhiaaaGreatDoor
open Go.RowKit
set_option maxRecDepth 20000
theorem zGP {c:Cov} (h0:zAp c=0):0<c.beds.length:=by
 have hv:valid c.t=true:=by
  cases hv:valid c.t with
  | true=>rfl
  | false=>unfold zAp at h0;rw [hv] at h0;simp at h0
 have:=(zEz hv).1
 have:=(zAy h0).beds
 omega
theorem zDt {c:Cov} (hf:zBm c):∀ u∈c.hours,0≤u.crew∧u.crew≤1000:=fun u hu=>by
 have h9:=hf.hour u hu
 unfold zBR at h9
 simp only [Bool.and_eq_true,zx] at h9
 omega
set_option maxHeartbeats 2000000 in
theorem zOy (c:Cov) (A:Option Addr) (ca:Nat) (B:Option Addr) (cb:Nat) (C:Option Addr) (cc:Nat) (w:World) (h:zAl w c A B C) (hs:Small c) (hG:InC w 0 0 zCS) (h0:zAp c=0) (hcan:zC1 (zAu c) (zCs c) (zAk c)=false) :
  Gv Tryz.prog 25 [zAQ c A ca B cb C cc] w (.tuple #[.slice none 0 0,.int .i64 8]):=by
 have h4:=hs.b;have h5:=hs.h
 have hf:=zAy h0
 have hh1:=hf.hours
 rw [zx] at hh1
 have h1:=fun W (hb:Below w.heap.size w W)=>zDy c A ca B cb C cc W (h.below hb) hs h0
 have h2:=fun W (hb:Below w.heap.size w W) g (hr:InC W g 0 (zH c A ca B cb C cc))=>Two.zGI c A ca B cb C cc g W hr (hG.below hb) (h.below hb) hs hf
 have ok0:=zCV hf hs (zDt hf)
 have hbl:=zGP h0
 unfold Gv
 unfold zAQ at h1 ⊢
 unfold zH at h1 h2 ⊢
 (refine zM (n:=140) Tryz.func25 rfl rfl rfl ?_)
 (repeat' (first|((with_reducible refine zG ?_);first|refine zE rfl rfl rfl rfl rfl ?_|refine zC rfl rfl rfl rfl rfl ?_|(refine zK rfl rfl rfl rfl rfl ?_;refine ⟨_,rfl,?_⟩)|(refine zQ rfl rfl rfl rfl rfl rfl rfl (fun h=>?_) (fun h=>?_)<;>(dsimp only [cmpP] at h;(try (exfalso;omega))))|(refine zAV rfl rfl rfl rfl rfl rfl (fun _ _ q=>h1 _ q.below) ?_;rintro g -;dsimp only [List.cons_append,List.nil_append])|(refine zAV rfl rfl rfl rfl rfl rfl (fun _ _ q=>h2 _ q.below g (zBf q.own (Below.refl _ _) rfl)) ?_;rintro ⟨⟨gn,L⟩,⟨gm,M⟩,gh⟩ ⟨hL,hM⟩;dsimp only [List.cons_append,List.nil_append])|refine zj rfl rfl rfl rfl rfl rfl ?_|(refine zf rfl rfl rfl rfl rfl ?_;refine And.intro rfl (And.intro zRY ⟨_,rfl,?_⟩))|(refine zr rfl rfl rfl rfl (fun b=>?_))|(refine zAI rfl rfl rfl rfl rfl rfl (fun b=>?_)))|(with_reducible first|refine zI ?_|refine zB ?_|refine zD ?_|refine zA ?_|refine zP ?_)|((with_reducible refine zF ?_ ?_);(· exact rfl))))
 simp only at hL hM
 have hca:=fun (W:World) (a1:zDU encI 1 W (some ⟨gn,0,none⟩) L) (a2:zDU zBF 1 W (some ⟨gm,0,none⟩) M) (a3:zAB encI 1 W (some ⟨gh,0,none⟩) (zAk c))=>zIY ok0 hL hM zRU zRU zRU hbl _ _ _ c.beds.length c.beds.length c.hours.length W a1 a2 a3
 rw [show zC1 (zAi c).nds (zAi c).may (zAi c).hands=false from hcan] at hca
 unfold zBa at hca
 (repeat' (first|((with_reducible refine zG ?_);first|refine zC rfl rfl rfl rfl rfl ?_|refine zV rfl rfl rfl rfl rfl rfl (fun _ _ q=>hca _ (zDJ q.own zRT) (zDJ q.own zRT) (zD4 q.own zRT)) ?_|refine zAf rfl rfl rfl rfl rfl ?_)|(with_reducible first|refine zI ?_|refine zB ?_|refine zD ?_|refine zA ?_|refine za ?_|refine zb ?_)|((with_reducible refine zJ ?_ ?_);(· exact rfl))))
 exact zU zRd () trivial rfl (fun _ _=>Own.nil _ _)
end Go.Proofs.YtdigopgncfhiaaaGreatDoor
namespace Go.Proofs.YtdigopgncfhiaaaGreatDoor
open Go.RowKit
theorem zHv {α:Type} (l:List α) (i j:Nat) (hi:i≤j) (hj:j<l.length):l.extract i (j+1)=l.extract i j++[l[j]]:=by
 simp only [List.extract_eq_take_drop]
 rw [show j+1 - i=(j - i)+1 by omega,List.take_succ_eq_append_getElem zRp]
 simp [show i+(j - i)=j by omega]
theorem zJb (l:List Sp) (x:Sp):zIp (l++[x])=zCB (zIp l) x:=by simp [zIp]
theorem zFC {t:List St} {i j:Nat} (hi:i≤j) (hj:j<t.length):zo t i (j+1)=zCB (zo t i j) t[j].long:=by
 unfold zo
 rw [zHv _ _ _ hi (by simpa [longs] using hj),zJb];simp [longs]
theorem zFO {t:List St} {i j:Nat} (hi:i≤j) (hj:j<t.length):zAZ t i (j+1)=zCB (zAZ t i j) t[j].fall:=by
 unfold zAZ
 rw [zHv _ _ _ hi (by simpa [falls] using hj),zJb];simp [falls]
theorem zDe (t:List St) (i:Nat):zo t i i=⟨0,0⟩:=by simp [zo,zIp,List.extract_eq_take_drop]
theorem zDj (t:List St) (i:Nat):zAZ t i i=⟨0,0⟩:=by simp [zAZ,zIp,List.extract_eq_take_drop]
theorem zPR {t : List St} (h : ∀ s ∈ t, Okay s) : ∀ {i j : Nat}, i ≤ j → j ≤ t.length →
    0≤(zo t i j).lo∧(zo t i j).lo≤(zo t i j).hi∧(zo t i j).hi≤30000 * (j - i:Int) ∧
    0≤(zAZ t i j).lo∧(zAZ t i j).lo≤(zAZ t i j).hi∧(zAZ t i j).hi≤5000 * (j - i:Int):=by
  intro i j hij
  induction j with
  | zero => intro _; obtain rfl : i = 0 := by omega
            simp [zDe,zDj]
  | succ j ih =>
    intro hj
    by_cases hji:i=j+1
    · subst hji;simp [zDe,zDj]
    · have:=ih zRU zRU
      have ho:=h t[j] (List.getElem_mem zRU)
      rw [zFC zRU zRU,zFO zRU zRU]
      have:=ho.l0;have:=ho.l1;have:=ho.l2;have:=ho.f0;have:=ho.f1;have:=ho.f2
      simp only [zCB]
      omega
end Go.Proofs.YtdigopgncfhiaaaGreatDoor
