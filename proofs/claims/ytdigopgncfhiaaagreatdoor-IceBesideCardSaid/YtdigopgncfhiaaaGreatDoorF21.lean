/- F21 -/
import Derived.Test.YtdigopgncfhiaaaGreatDoorF20
import Derived.Test.YtdigopgncfhiaaaGreatDoorF8
import Derived.Test.YtdigopgncfhiaaaGreatDoorF1
set_option linter.unusedSimpArgs false
set_option linter.unusedVariables false
namespace Go.Proofs.YtdigopgncfhiaaaGreatDoor.Two
open Go.RowKit
set_option maxRecDepth 20000
set_option maxHeartbeats 8000000 in
theorem zNr (c:Cov) (A:Option Addr) (ca:Nat) (B:Option Addr) (cb:Nat) (C:Option Addr) (cc:Nat) (w:World) (h:zAe w c A B C) (hs:Small c) (hG:InC w 0 0 zCP) (h0:zAm c=0) (hcan:zGx (zAk c) (zFl c) (zBM c)=true) :
  Ret Tryz.prog 25 [zAH c A ca B cb C cc] w (fun p:Nat × List (zx Int)=>.tuple #[.slice (some ⟨p.1,0,none⟩) c.hours.length c.hours.length,.int .i64 0]) (fun p=>[.zA0 zp (rowOf encI 1 3) p.1 p.2]) (fun p=>p.2.map (·.xs)=(zDX c).1):=by
 have h4:=hs.b;have h5:=hs.h
 have hb:=h.b;have hh:=h.h
 have hf:=zBu h0
 have hh1:=hf.hours
 rw [zAC] at hh1
 have h1:=fun W (hb:Below w.heap.size w W)=>zCu c A ca B cb C cc W (h.below hb) hs h0
 have h2:=fun W (hb:Below w.heap.size w W) g (hr:InC W g 0 (zM c A ca B cb C cc))=>Two.zEv c A ca B cb C cc g W hr (hG.below hb) (h.below hb) hs hf
 have hP:(zDX c).1=(zCj c.beds.length c.hours.length (zBH c)).out:=by unfold zDX;rw [if_pos h0,if_pos hcan]
 have hcr:∀ u∈c.hours,0≤u.crew∧u.crew≤1000:=fun u hu=>by
  have h9:=hf.hour u hu
  unfold zCH at h9
  simp only [Bool.and_eq_true,zAC] at h9
  omega
 have ok0:=zE5 hf hs hcr
 have hbl:0<c.beds.length:=by
  have hv:valid c.t=true:=by
   cases hv:valid c.t with
   | true=>rfl
   | false=>unfold zAm at h0;rw [hv] at h0;simp at h0
  have:=(zCd hv).1
  have:=hf.beds
  omega
 rw [hP]
 unfold zAH at h1 ⊢
 unfold zM at h1 h2 ⊢
 (refine zJ (n:=140) Tryz.func25 rfl rfl rfl ?_)
 (repeat' (first|((with_reducible refine zF ?_);first|refine zE rfl rfl rfl ?_|refine zC rfl rfl rfl ?_|(refine zK rfl rfl rfl ?_;refine ⟨_,rfl,?_⟩)|(refine zQ rfl rfl rfl rfl rfl (fun h=>?_) (fun h=>?_)<;>(dsimp only [cmpP] at h;(try (exfalso;omega))))|(refine zAQ rfl rfl rfl rfl (fun _ _ q=>h1 _ q.below) ?_;rintro g -;dsimp only [List.cons_append,List.nil_append])|(refine zAQ rfl rfl rfl rfl (fun _ _ q=>h2 _ q.below g (zA5 q.own (Below.refl _ _) rfl)) ?_;rintro ⟨⟨gn,L⟩,⟨gm,M⟩,gh⟩ ⟨hL,hM⟩;dsimp only [List.cons_append,List.nil_append])|refine zc rfl rfl rfl rfl ?_|(refine zb rfl rfl rfl rfl rfl ?_;refine ⟨rfl,by first|decide|exact Nat.le_of_ble_eq_true rfl|(simp;omega),_,rfl,?_⟩)|(refine zj rfl rfl (fun b=>?_))|(refine zu rfl rfl rfl rfl (fun b=>?_)))|(with_reducible first|refine zH ?_|refine zB ?_|refine zD ?_|refine zA ?_|refine zT ?_)|((with_reducible refine zG ?_ ?_);(· exact rfl))))
 simp only at hL hM
 have hca:=fun (W:World) (a1:zCX encI 1 W (some ⟨gn,0,none⟩) L) (a2:zCX zAo 1 W (some ⟨gm,0,none⟩) M) (a3:zq encI 1 W (some ⟨gh,0,none⟩) (zBM c))=>zGr ok0 hL hM (by omega) (by omega) (by omega) hbl _ _ _ c.beds.length c.beds.length c.hours.length W a1 a2 a3
 rw [show zGx (zBH c).nds (zBH c).may (zBH c).hands=true from hcan] at hca
 unfold zA2 at hca
 (repeat' (first|((with_reducible refine zF ?_);first|refine zE rfl rfl rfl ?_|refine zC rfl rfl rfl ?_|(refine zK rfl rfl rfl ?_;refine ⟨_,rfl,?_⟩)|refine za rfl rfl rfl ?_|refine zV rfl rfl rfl rfl (fun _ _ q=>hca _ (zCG q.own (by (repeat constructor))) (zCG q.own (by (repeat constructor))) (zDj q.own (by (repeat constructor)))) ?_|refine zJm rfl rfl rfl rfl rfl rfl rfl rfl rfl (by omega) (fun go=>?_)|refine zAN rfl rfl rfl ?_|refine zo rfl rfl rfl ?_)|(with_reducible first|refine zH ?_|refine zB ?_|refine zD ?_|refine zA ?_|refine zT ?_|refine zP ?_)|((with_reducible refine zG ?_ ?_);(· exact rfl))))
 rename_i b1
 obtain ⟨b6,hb6⟩:∃ x,x=b:=⟨_,rfl⟩
 subst hb6
 refine zHd (enc:=encI) (k:=1) (e:=3) (Take.here _ _) ?_
 refine zw (ι:=PM) [1,6,7,32] rfl (fun q=>q.k≤c.hours.length∧PMat q (zCj c.beds.length q.k (zBH c))) (fun q=>[(33,.int .i64 (q.k:Int))]) (fun q=>[.zA0 zp (rowOf encI 1 3) gn q.nd,.zA0 zp (rowOf zAo 1 4) gm q.my,.row encI 1 3 (.slice (some ⟨gh,0,none⟩) c.hours.length c.hours.length) ((zCj c.beds.length q.k (zBH c)).hands),.zA0 zp (rowOf encI 1 3) go q.ot,.blk b1 (zM c A ca B cb C cc),.blk b6 (zA2 (some ⟨gn,0,none⟩) c.beds.length c.beds.length (some ⟨gm,0,none⟩) c.beds.length c.beds.length (some ⟨gh,0,none⟩) c.hours.length c.hours.length)]) (fun q=>c.hours.length - q.k) ⟨0,L,M,List.replicate c.hours.length zAs⟩ ⟨Nat.zero_le _,hL,hM,by simp [zCj,zBH,zAs]⟩ (by (repeat first|exact lK1|refine zL rfl ?_)) (by (repeat constructor)) ?_
 clear hca hL hM L M
 rintro ⟨y,L,M,O⟩ ⟨hy,hL,hM,hO⟩
 simp only at hy hL hM hO
 simp only [zAt,zM,zA2,List.cons_append,List.nil_append]
 by_cases hyl:y<c.hours.length
 ·have okh:=zIK ok0 y hy
  (repeat' (first|((with_reducible refine zF ?_);first|refine zE rfl rfl rfl ?_|refine zC rfl rfl rfl ?_|(refine zK rfl rfl rfl ?_;refine ⟨_,rfl,?_⟩)|refine za rfl rfl rfl ?_|(refine zQ rfl rfl rfl rfl rfl (fun h=>?_) (fun h=>?_)<;>(dsimp only [cmpP] at h;(try (exfalso;omega))))|refine zo rfl rfl rfl ?_)|(with_reducible first|refine zH ?_|refine zB ?_|refine zD ?_|refine zA ?_|refine zT ?_|refine zP ?_)|((with_reducible refine zI ?_ ?_);(· exact rfl))))
  refine zw (ι:=PM) [1,6,7,8,32,33,38] rfl (fun q=>q.k≤c.beds.length∧PMat q (stepsP y q.k (zCj c.beds.length y (zBH c)))) (fun q=>[(39,.int .i64 (q.k:Int))]) (fun q=>[.zA0 zp (rowOf encI 1 3) gn q.nd,.zA0 zp (rowOf zAo 1 4) gm q.my,.row encI 1 3 (.slice (some ⟨gh,0,none⟩) c.hours.length c.hours.length) ((stepsP y q.k (zCj c.beds.length y (zBH c))).hands),.zA0 zp (rowOf encI 1 3) go q.ot,.blk b1 (zM c A ca B cb C cc),.blk b6 (zA2 (some ⟨gn,0,none⟩) c.beds.length c.beds.length (some ⟨gm,0,none⟩) c.beds.length c.beds.length (some ⟨gh,0,none⟩) c.hours.length c.hours.length)]) (fun q=>c.beds.length - q.k) ⟨0,L,M,O⟩ ⟨Nat.zero_le _,hL,hM,hO⟩ (by (repeat first|exact lK1|refine zL rfl ?_)) (by (repeat constructor)) ?_
  clear hL hM hO L M O
  rintro ⟨i,L,M,O⟩ ⟨hi,hL,hM,hO⟩
  simp only at hi hL hM hO
  simp only [zAt,zM,zA2,List.cons_append,List.nil_append]
  by_cases hil:i<c.beds.length
  ·have oki:=zHn okh hyl i hi
   have hnext:stepsP y (i+1) (zCj c.beds.length y (zBH c))=zDT y i (stepsP y i (zCj c.beds.length y (zBH c))):=rfl
   generalize stepsP y i (zCj c.beds.length y (zBH c))=st at *
   have hLl:L.length=c.beds.length:=by have:=congrArg List.length hL;rw [oki.nl] at this;simpa using this
   have hMl:M.length=c.beds.length:=by have:=congrArg List.length hM;rw [oki.ml] at this;simpa using this
   have hHl:=oki.hl
   obtain ⟨s,hs1⟩:∃ s,L[i]?=some s:=⟨_,List.getElem?_eq_getElem (by omega)⟩
   obtain ⟨t,ht1⟩:∃ t,M[i]?=some t:=⟨_,List.getElem?_eq_getElem (by omega)⟩
   have hsr:NRow c.hours.length s.xs:=oki.nr _ (by rw [← hL];exact List.mem_map_of_mem (List.mem_of_getElem? hs1))
   have htl:t.xs.length=c.hours.length:=oki.mr _ (by rw [← hM];exact List.mem_map_of_mem (List.mem_of_getElem? ht1))
   have gs1:st.nds.getD i []=s.xs:=by rw [← hL];exact getD_map hs1
   have gt1:st.may.getD i []=t.xs:=by rw [← hM];exact getD_map ht1
   have hsl:=hsr.len
   have htk:zHj st y i=(t.xs.getD y false && (decide (0<st.hands.getD y 0) && decide (0<Flow.zBl s.xs))):=by unfold zHj;rw [gs1,gt1]
   obtain ⟨sA,sx,sc⟩:=s
   obtain ⟨tA,tx,tc⟩:=t
   simp only at hsr htl gs1 gt1 hsl htk
   (repeat' (first|((with_reducible refine zF ?_);first|refine zE rfl rfl rfl ?_|refine zC rfl rfl rfl ?_|(refine zK rfl rfl rfl ?_;refine ⟨_,rfl,?_⟩)|refine za rfl rfl rfl ?_|(refine zQ rfl rfl rfl rfl rfl (fun h=>?_) (fun h=>?_)<;>(dsimp only [cmpP] at h;(try (exfalso;omega))))|refine zl rfl rfl rfl rfl rfl (by omega) ?_)|(with_reducible first|refine zH ?_|refine zB ?_|refine zD ?_|refine zA ?_|refine zT ?_|refine zP ?_)|((with_reducible refine zI ?_ ?_);(· exact rfl))))
   refine zCK i hs1 (by (repeat constructor)) ?_
   refine zGY (A:=sA) (xs:=sx) (k:=1) (e:=3) (enc:=encI) (m:=sx.length) (c:=sc) (Take.there _ (Take.here _ _)) (by omega) ?_
   rintro gs rfl
   refine zCK i ht1 (by (repeat constructor)) ?_
   refine zGY (A:=tA) (xs:=tx) (k:=1) (e:=4) (enc:=zAo) (m:=tx.length) (c:=tc) (Take.there _ (Take.here _ _)) (by omega) ?_
   rintro gt rfl
   simp only [rowOf]
   have:zAT (L.set i ⟨some ⟨gs,0,none⟩,sx,sc⟩) i ⟨some ⟨gs,0,none⟩,sx,sc⟩:=⟨List.getElem?_set_self (by omega)⟩
   have:zAT (M.set i ⟨some ⟨gt,0,none⟩,tx,tc⟩) i ⟨some ⟨gt,0,none⟩,tx,tc⟩:=⟨List.getElem?_set_self (by omega)⟩
   have hmaxc:=fun W hA=>zHS sx (some ⟨gs,0,none⟩) sc W hA (by omega) (by omega)
   have:zAT tx y (tx.getD y false):=⟨by rw [Flow.zAZ (by omega)];simp⟩
   have:zAT st.hands y (st.hands.getD y 0):=⟨by rw [Flow.zAZ (by omega)];simp⟩
   generalize hz:tx.getD y false=z at *
   generalize hk:st.hands.getD y 0=kk at *
   generalize hmm:Flow.zBl sx=mm at *
   cases z
   ·(repeat' (first|((with_reducible refine zF ?_);first|refine zE rfl rfl rfl ?_|refine zC rfl rfl rfl ?_|(refine zK rfl rfl rfl ?_;refine ⟨_,rfl,?_⟩)|refine za rfl rfl rfl ?_|refine zAB rfl rfl rfl rfl ?_|refine zd rfl rfl rfl ?_|refine zCq (enc:=zAo) (i:=y) false rfl rfl rfl rfl rfl rfl rfl rfl (by omega) ?_|refine zl (I:=y) rfl rfl rfl rfl rfl (by dsimp only;omega) ?_|refine zAN rfl rfl rfl ?_|refine zh rfl rfl rfl rfl (by omega) ?_|refine zl rfl rfl rfl rfl rfl (by omega) ?_)|(with_reducible first|refine zH ?_|refine zB ?_|refine zD ?_|refine zA ?_|refine zk ?_|refine zR ?_|refine zW ?_)|((with_reducible refine zI ?_ ?_);(· exact rfl))))
    have hstep:zDT y i st=⟨st.nds,zEW st y i,st.hands,st.out⟩:=by unfold zDT;rw [htk,if_neg (by simp)]
    refine zEK i (tx.set y false) (by simp) ht1 (by (repeat constructor)) (by (repeat constructor)) (by (repeat constructor)) ?_
    refine zFc i (re:=rowOf encI 1 3) hs1 (by (repeat constructor)) (by (repeat constructor)) (by (repeat constructor)) ?_
    refine zf (ι:=PM) ⟨i+1,L,M.set i ⟨some ⟨gt,0,none⟩,tx.set y false,tc⟩,O⟩ (by
     refine ⟨by simp only;omega,?_⟩
     simp only
     rw [hnext,hstep]
     exact ⟨hL,by simp only;rw [List.map_set,hM];unfold zEW;rw [gt1],hO⟩) (by simp only;omega) (by (repeat first|exact lK1|refine zL rfl ?_)) (by simp only [hnext,hstep];(repeat constructor))
   ·by_cases hk0:0<kk
    ·by_cases hm0:0<mm
     ·have htk1:zHj st y i=true:=by rw [htk];simp [hk0,hm0]
      have hn1:=oki.zMv hil
      have hm1:=oki.zMw (h:=y) hil
      have hh1':=oki.zJR hyl htk1
      have hkb:=oki.hr kk (by rw [← hk,Flow.zAZ (by omega)];exact List.getElem_mem _)
      (repeat' (first|((with_reducible refine zF ?_);first|refine zE rfl rfl rfl ?_|refine zC rfl rfl rfl ?_|(refine zK rfl rfl rfl ?_;refine ⟨_,rfl,?_⟩)|refine za rfl rfl rfl ?_|refine zAB rfl rfl rfl rfl ?_|(refine zQ rfl rfl rfl rfl rfl (fun h=>?_) (fun h=>?_)<;>(dsimp only [cmpP] at h;(try (exfalso;omega))))|refine zV rfl rfl rfl rfl (fun _ _ q=>hmaxc _ (zDj q.own (by (repeat constructor)))) ?_|refine zCq (enc:=zAo) (i:=y) false rfl rfl rfl rfl rfl rfl rfl rfl (by omega) ?_|refine zl (I:=y) rfl rfl rfl rfl rfl (by dsimp only;omega) ?_|refine zCS (hd:=zp) (i:=i) (s:=⟨some ⟨gs,0,none⟩,sx,sc⟩) zAs rfl rfl rfl rfl rfl (by simp [zp,zAs,Value.cells]) (by (repeat constructor)) (by omega) ?_|refine zAN rfl rfl rfl ?_|refine zl rfl rfl rfl rfl rfl (by omega) ?_|refine zo rfl rfl rfl ?_)|(with_reducible first|refine zH ?_|refine zB ?_|refine zD ?_|refine zA ?_|refine zT ?_|refine zP ?_)|((with_reducible refine zG ?_ ?_);(· exact rfl))))
      refine zEK i (tx.set y false) (by simp) ht1 (by (repeat constructor)) (by (repeat constructor)) (by (repeat constructor)) ?_
      refine zDr encI 1 3 ?_
      refine zw (ι:=Nat × zx Int) [1,6,7,8,9,11,32,33,38,39,85,86] rfl (fun p=>p.1≤sx.length∧p.2.xs=zC1 (sx.take p.1)) (fun p=>[(87,.int .i64 (p.1:Int))]) (fun p=>[rowOf encI 1 3 p.2,.arr zp 1 gn (L.set i p.2),.row encI 1 3 (.slice (some ⟨gs,0,none⟩) sx.length sc) sx,.all ((L.eraseIdx i).map (rowOf encI 1 3)),.zA0 zp (rowOf zAo 1 4) gm (M.set i ⟨some ⟨gt,0,none⟩,tx.set y false,tc⟩),.row encI 1 3 (.slice (some ⟨gh,0,none⟩) c.hours.length c.hours.length) st.hands,.zA0 zp (rowOf encI 1 3) go O,.blk b1 (zM c A ca B cb C cc),.blk b6 (zA2 (some ⟨gn,0,none⟩) c.beds.length c.beds.length (some ⟨gm,0,none⟩) c.beds.length c.beds.length (some ⟨gh,0,none⟩) c.hours.length c.hours.length)]) (fun p=>sx.length - p.1) (0,zAs) ⟨Nat.zero_le _,rfl⟩ (by (repeat first|exact lK1|refine zL rfl ?_)) (by unfold zM zA2;simp only [rowOf,zAs,List.length_nil];(repeat constructor)) ?_
      rintro ⟨j,sA2,sx2,sc2⟩ ⟨hj,hsx⟩
      simp only at hj hsx
      simp only [zAt,rowOf,zM,zA2,List.cons_append,List.nil_append]
      by_cases hjl:j<sx.length
      ·obtain ⟨x,hx⟩:∃ x,sx[j]?=some x:=⟨_,List.getElem?_eq_getElem hjl⟩
       have:zAT sx j x:=⟨hx⟩
       have hbx:=hsr.big x (List.mem_of_getElem? hx)
       have:zAT (L.set i ⟨sA2,sx2,sc2⟩) i ⟨sA2,sx2,sc2⟩:=⟨List.getElem?_set_self (by omega)⟩
       have hl2:sx2.length≤12:=by rw [hsx];simp [zC1];omega
       have e1:sx2++[max 0 (x - 1)]=zC1 (sx.take (j+1)):=by rw [hsx];unfold zC1;rw [List.take_add_one,hx,List.map_append];rfl
       (repeat' (first|((with_reducible refine zF ?_);first|refine zC rfl rfl rfl ?_|(refine zK rfl rfl rfl ?_;refine ⟨_,rfl,?_⟩)|(refine zQ rfl rfl rfl rfl rfl (fun h=>?_) (fun h=>?_)<;>(dsimp only [cmpP] at h;(try (exfalso;omega))))|refine zl rfl rfl rfl rfl rfl (by omega) ?_)|(with_reducible first|refine zH ?_|refine zB ?_|refine zD ?_|refine zA ?_|refine zT ?_|refine zP ?_)|((with_reducible refine zI ?_ ?_);(· exact rfl))))
       (refine zA1 [] [(12,0,0,[.row encI 1 3 (.slice sA2 sx2.length sc2) sx2])] [(12,0,0)] rfl (show ([12]:List Nat).Nodup by decide) (H0:=[.arr zp 1 gn (L.set i ⟨sA2,sx2,sc2⟩),.row encI 1 3 (.slice (some ⟨gs,0,none⟩) sx.length sc) sx,.all ((L.eraseIdx i).map (rowOf encI 1 3)),.zA0 zp (rowOf zAo 1 4) gm (M.set i ⟨some ⟨gt,0,none⟩,tx.set y false,tc⟩),.row encI 1 3 (.slice (some ⟨gh,0,none⟩) c.hours.length c.hours.length) st.hands,.zA0 zp (rowOf encI 1 3) go O,.blk b1 [.slice A c.t.length ca,.slice B c.beds.length cb,.slice C c.hours.length cc,.int .i64 c.wear.lo,.int .i64 c.wear.hi,.int .i64 c.layer.lo,.int .i64 c.layer.hi,.int .i64 c.rate,.int .i64 c.limit,.int .i64 c.base],.blk b6 [.slice (some ⟨gn,0,none⟩) c.beds.length c.beds.length,.slice (some ⟨gm,0,none⟩) c.beds.length c.beds.length,.slice (some ⟨gh,0,none⟩) c.hours.length c.hours.length]]) (fun _ h=>h.sub (by (repeat constructor))) (by kernel_rfl) [[],[Z],[Y,Y],[Y,Y,Y],[Z,Y,Y,Y],[Y,Y,Y,Y,Y],[Z,Z,Z,Y,Y,Y],[Z,Z,Z,Z,Y,Y,Y],[Y,Y,Y,Y,Y,Y,Y,Y],[Z,Y,Y,Y,Y,Y,Y,Y,Y],[Z,Z,Y,Y,Y,Y,Y,Y,Y,Y],[Z,Z,Z,Y,Y,Y,Y,Y,Y,Y,Y],[Z,Z,Z,Z,Z,Z,Z,Z,Z,Y,Y,Y],[Z,Z,Z,Z,Z,Z,Z,Z,Z,Z,Z,Z,Z],[Z,Z,Z,Z,Z,Z,Z,Z,Z,Z,Z,Z,Z,Z]] (by kernel_rfl) (by kernel_rfl) (by kernel_rfl) (by kernel_rfl) (by kernel_rfl) ?_)
       (repeat' (first|(((with_reducible refine zDQ ?_ ?_);(· exact rfl);refine ⟨_,fun G=>(by (try simp (decide:=true) only [vis,see,fltT,zAF,Nat.reduceAdd,Nat.reduceSub,if_true,if_false,List.set_cons_zero,List.set_cons_succ,List.set_nil,List.nil_append,List.cons_append]);rfl),?_⟩);first|refine zm _ (fun _=>zAi rfl rfl) (fun _=>rfl) rfl (by intro G G' h;simp (decide:=true) only [h]) ?_|refine zm _ (fun _=>zAG rfl rfl (by exact rfl)) (fun _=>rfl) rfl (by intro G G' h;simp (decide:=true) only [h]) ?_|(refine zAj rfl ?_;refine zm _ (fun _=>zAU rfl rfl) (fun _=>rfl) rfl (by intro G G' h;simp (decide:=true) only [h]) ?_)|refine zm _ (fun _=>e_sub rfl rfl rfl (IntWalk.i64_in _ (by omega))) (fun _=>rfl) rfl (by intro G G' h;simp (decide:=true) only [h]) ?_|refine zm _ (fun _=>zAr rfl rfl rfl rfl (by omega)) (fun _=>rfl) rfl (by intro G G' h;simp (decide:=true) only [h]) ?_|refine zm _ (fun _=>e_max rfl rfl rfl) (fun _=>rfl) rfl (by intro G G' h;simp (decide:=true) only [h]) ?_|refine zBn rfl (fun _=>rfl) rfl (fun _=>rfl) (by exact rfl) (by exact fun _=>rfl) (by intro G G' h;simp (decide:=true) only [h]) ?_)|(refine zED (enc:=encI) (xs:=sx2) (vx:=.slice sA2 sx2.length sc2) [max 0 (x - 1)] List.mem_cons_self rfl rfl (fun _=>rfl) rfl (fun _=>rfl) (fun _=>rfl) rfl (fun G=>(by (try simp (decide:=true) only [vis,see,fltT,zAF,Nat.reduceAdd,Nat.reduceSub,if_true,if_false,List.set_cons_zero,List.set_cons_succ,List.set_nil,List.nil_append,List.cons_append]);rfl)) (fun _ W hW h=>zAY (enc:=encI) (by exact rfl) W hW h) ⟨by simp;omega,by decide⟩ ?_)|((with_reducible refine zB3 ?_ ?_);(· exact rfl))))
       intro G
       simp only [regsT,List.nil_append,List.cons_append]
       refine zEj (H':=[.row encI 1 3 (.slice (G 12).A (sx2++[max 0 (x - 1)]).length (G 12).m) (sx2++[max 0 (x - 1)]),.blk (G 11).g (encI (max 0 (x - 1))),.arr zp 1 gn (L.set i ⟨sA2,sx2,sc2⟩),.row encI 1 3 (.slice (some ⟨gs,0,none⟩) sx.length sc) sx,.all ((L.eraseIdx i).map (rowOf encI 1 3)),.zA0 zp (rowOf zAo 1 4) gm (M.set i ⟨some ⟨gt,0,none⟩,tx.set y false,tc⟩),.row encI 1 3 (.slice (some ⟨gh,0,none⟩) c.hours.length c.hours.length) st.hands,.zA0 zp (rowOf encI 1 3) go O,.blk b1 [.slice A c.t.length ca,.slice B c.beds.length cb,.slice C c.hours.length cc,.int .i64 c.wear.lo,.int .i64 c.wear.hi,.int .i64 c.layer.lo,.int .i64 c.layer.hi,.int .i64 c.rate,.int .i64 c.limit,.int .i64 c.base],.blk b6 [.slice (some ⟨gn,0,none⟩) c.beds.length c.beds.length,.slice (some ⟨gm,0,none⟩) c.beds.length c.beds.length,.slice (some ⟨gh,0,none⟩) c.hours.length c.hours.length]]) (fun _ h=>h) ?_
       (repeat' (first|((with_reducible refine zF ?_);first|refine zE rfl rfl rfl ?_|refine zCS (hd:=zp) (i:=i) (s:=⟨sA2,sx2,sc2⟩) ⟨(G 12).A,sx2++[max 0 (x - 1)],(G 12).m⟩ rfl rfl rfl rfl rfl rfl (by (repeat constructor)) (by omega) ?_|refine zh rfl rfl rfl rfl (by omega) ?_)|(with_reducible first|refine zB ?_|refine zD ?_|refine zA ?_|refine zg ?_)))
       exact zf (ι:=Nat × zx Int) (j+1,⟨(G 12).A,sx2++[max 0 (x - 1)],(G 12).m⟩) (by exact ⟨by simp only;omega,e1⟩) (by simp only;omega) (by (repeat first|exact lK1|refine zL rfl ?_)) (by (repeat constructor))
      ·obtain rfl:j=sx.length:=by omega
       rw [List.take_length] at hsx
       subst hsx
       (repeat' (first|((with_reducible refine zF ?_);first|refine zE rfl rfl rfl ?_|(refine zK rfl rfl rfl ?_;refine ⟨_,rfl,?_⟩)|refine za rfl rfl rfl ?_|(refine zQ rfl rfl rfl rfl rfl (fun h=>?_) (fun h=>?_)<;>(dsimp only [cmpP] at h;(try (exfalso;omega))))|refine zCC rfl rfl rfl rfl (IntWalk.i64_in _ (by omega)) ?_|refine zl rfl rfl rfl rfl rfl (by omega) ?_)|(with_reducible first|refine zH ?_|refine zB ?_|refine zD ?_|refine zA ?_|refine zk ?_|refine zR ?_|refine zW ?_)|((with_reducible refine zG ?_ ?_);(· exact rfl))))
       refine zCJ i (re:=rowOf encI 1 3) ⟨sA2,zC1 sx,sc2⟩ hs1 (by (repeat constructor)) (by (repeat constructor)) (by (repeat constructor)) ?_
       have ok2:zDn c.beds.length c.hours.length y i ⟨ndsO st i,zEW st y i,zC0 st y,st.out⟩:=⟨hn1.1,hm1.1,hh1'.1,oki.ol,hn1.2,hm1.2,hh1'.2,oki.or_⟩
       have eL:(L.set i ⟨sA2,zC1 sx,sc2⟩).map (·.xs)=ndsO st i:=by rw [List.map_set,hL];unfold ndsO;rw [gs1]
       have eM:(M.set i ⟨some ⟨gt,0,none⟩,tx.set y false,tc⟩).map (·.xs)=zEW st y i:=by rw [List.map_set,hM];unfold zEW;rw [gt1]
       have eH:st.hands.set y (kk - 1)=zC0 st y:=by unfold zC0;rw [hk]
       have hca:=fun (W:World) a1 a2 a3=>zGr ok2 eL eM (by omega) (by omega) (by omega) hbl (some ⟨gn,0,none⟩) (some ⟨gm,0,none⟩) (some ⟨gh,0,none⟩) c.beds.length c.beds.length c.hours.length W a1 a2 a3
       unfold zA2 at hca
       dsimp only at hca
       cases hcb:zGx (ndsO st i) (zEW st y i) (zC0 st y) with
       | true =>
        rw [hcb] at hca
        have hOl:O.length=c.hours.length:=by have:=congrArg List.length hO;rw [oki.ol] at this;simpa using this
        obtain ⟨o,ho1⟩:∃ o,O[y]?=some o:=⟨_,List.getElem?_eq_getElem (by omega)⟩
        have go1:st.out.getD y []=o.xs:=by rw [← hO];exact getD_map ho1
        have hol:=oki.or_ y
        rw [if_neg (by omega),if_pos rfl,go1] at hol
        obtain ⟨oA,ox,oc⟩:=o
        simp only at go1 hol
        have:zAT O y ⟨oA,ox,oc⟩:=⟨ho1⟩
        have hstep:zDT y i st=⟨ndsO st i,zEW st y i,zC0 st y,outO st y i⟩:=by unfold zDT;rw [if_pos htk1,if_pos hcb]
        (repeat' (first|((with_reducible refine zF ?_);first|refine zE rfl rfl rfl ?_|(refine zK rfl rfl rfl ?_;refine ⟨_,rfl,?_⟩)|(refine zCq (enc:=encI) (i:=y) (kk - 1) rfl rfl rfl rfl rfl rfl rfl rfl (by omega) ?_;rw [eH])|refine zV rfl rfl rfl rfl (fun _ _ q=>hca _ (zCG q.own (by (repeat constructor))) (zCG q.own (by (repeat constructor))) (zDj q.own (by (repeat constructor)))) ?_|refine zl rfl rfl rfl rfl rfl (by omega) ?_|(refine zY rfl rfl rfl ?_;refine ⟨rfl,_,rfl,fun b=>?_⟩))|(with_reducible first|refine zH ?_|refine zB ?_|refine zD ?_|refine zA ?_)|((with_reducible refine zI ?_ ?_);(· exact rfl))))
        refine zCK y ho1 (by (repeat constructor)) ?_
        simp only [rowOf]
        (repeat' (first|((with_reducible refine zF ?_);first|refine zE rfl rfl rfl ?_|(refine zAn (enc:=encI) [_] rfl rfl rfl (by (repeat constructor)) rfl rfl (zAY (by exact rfl)) (by refine ⟨?_,by decide⟩;(try simp only [List.length_append,List.length_cons,List.length_nil]);omega) (fun A' c'=>?_))|refine zCS (hd:=zp) (i:=y) (s:=⟨oA,ox,oc⟩) ⟨A',ox++[(i:Int)],c'⟩ rfl rfl rfl rfl rfl (by simp [zp,Value.cells]) (by (repeat constructor)) (by omega) ?_|refine zh rfl rfl rfl rfl (by omega) ?_|refine zl rfl rfl rfl rfl rfl (by omega) ?_)|(with_reducible first|refine zB ?_|refine zD ?_|refine zA ?_|refine zk ?_|refine zR ?_|refine zW ?_)))
        refine zCJ y (re:=rowOf encI 1 3) ⟨A',ox++[(i:Int)],c'⟩ ho1 (by (repeat constructor)) (by (repeat constructor)) (by (repeat constructor)) ?_
        refine zf (ι:=PM) ⟨i+1,L.set i ⟨sA2,zC1 sx,sc2⟩,M.set i ⟨some ⟨gt,0,none⟩,tx.set y false,tc⟩,O.set y ⟨A',ox++[(i:Int)],c'⟩⟩ (by
         refine ⟨by simp only;omega,?_⟩
         simp only
         rw [hnext,hstep]
         exact ⟨eL,eM,by simp only;rw [List.map_set,hO];unfold outO;rw [go1]⟩) (by simp only;omega) (by (repeat first|exact lK1|refine zL rfl ?_)) (by simp only [hnext,hstep];(repeat constructor))
       | false =>
        rw [hcb] at hca
        have lL:(L.set i ⟨sA2,zC1 sx,sc2⟩).length=c.beds.length:=by rw [List.length_set];exact hLl
        have hs2:(L.set i ⟨sA2,zC1 sx,sc2⟩)[i]?=some ⟨sA2,zC1 sx,sc2⟩:=List.getElem?_set_self (by omega)
        have eB:(L.set i ⟨sA2,zC1 sx,sc2⟩).set i ⟨some ⟨gs,0,none⟩,sx,sc⟩=L:=by
         rw [List.set_set]
         obtain ⟨h9,h8⟩:=List.getElem?_eq_some_iff.1 hs1
         rw [← h8];exact List.set_getElem_self h9
        have eH2:(zC0 st y).set y (kk - 1+1)=st.hands:=by
         rw [← eH,List.set_set,Int.sub_add_cancel,← hk,Flow.zAZ (by omega)];exact List.set_getElem_self _
        have:zAT (zC0 st y) y (kk - 1):=⟨by rw [← eH];exact List.getElem?_set_self (by omega)⟩
        have hstep:zDT y i st=⟨st.nds,zEW st y i,st.hands,st.out⟩:=by unfold zDT;rw [if_pos htk1,if_neg (by rw [hcb];simp)]
        (repeat' (first|((with_reducible refine zF ?_);first|refine zE rfl rfl rfl ?_|(refine zK rfl rfl rfl ?_;refine ⟨_,rfl,?_⟩)|refine za rfl rfl rfl ?_|(refine zCq (enc:=encI) (i:=y) (kk - 1) rfl rfl rfl rfl rfl rfl rfl rfl (by omega) ?_;rw [eH])|refine zV rfl rfl rfl rfl (fun _ _ q=>hca _ (zCG q.own (by (repeat constructor))) (zCG q.own (by (repeat constructor))) (zDj q.own (by (repeat constructor)))) ?_|refine zl rfl rfl rfl rfl rfl (by omega) ?_)|(with_reducible first|refine zH ?_|refine zB ?_|refine zD ?_|refine zA ?_|refine zT ?_)|((with_reducible refine zG ?_ ?_);(· exact rfl))))
        refine zCK i hs2 (by (repeat constructor)) ?_
        (repeat' (first|((with_reducible refine zF ?_);first|refine zE rfl rfl rfl ?_|(refine zK rfl rfl rfl ?_;refine ⟨_,rfl,?_⟩)|refine za rfl rfl rfl ?_|refine zCS (hd:=zp) (i:=i) (s:=⟨sA2,zC1 sx,sc2⟩) ⟨some ⟨gs,0,none⟩,sx,sc⟩ rfl rfl rfl rfl rfl (by simp [zp,Value.cells]) (by (repeat constructor)) (by omega) ?_|(refine zCq (enc:=encI) (i:=y) (kk - 1+1) rfl rfl rfl rfl rfl rfl rfl rfl (by omega) ?_;rw [eH2])|refine zh rfl rfl rfl rfl (by omega) ?_|refine zBd rfl rfl rfl rfl (IntWalk.i64_in _ (by omega)) ?_|refine zl rfl rfl rfl rfl rfl (by omega) ?_)|(with_reducible first|refine zB ?_|refine zD ?_|refine zA ?_|refine zg ?_)))
        refine zCJ i (re:=rowOf encI 1 3) ⟨some ⟨gs,0,none⟩,sx,sc⟩ hs2 (by (repeat constructor)) (by (repeat constructor)) (by (repeat constructor)) ?_
        rw [eB]
        refine zf (ι:=PM) ⟨i+1,L,M.set i ⟨some ⟨gt,0,none⟩,tx.set y false,tc⟩,O⟩ (by
         refine ⟨by simp only;omega,?_⟩
         simp only
         rw [hnext,hstep]
         exact ⟨hL,eM,hO⟩) (by simp only;omega) (by (repeat first|exact lK1|refine zL rfl ?_)) (by simp only [hnext,hstep];(repeat constructor))
     ·(repeat' (first|((with_reducible refine zF ?_);first|refine zE rfl rfl rfl ?_|refine zC rfl rfl rfl ?_|(refine zK rfl rfl rfl ?_;refine ⟨_,rfl,?_⟩)|refine za rfl rfl rfl ?_|refine zAB rfl rfl rfl rfl ?_|(refine zQ rfl rfl rfl rfl rfl (fun h=>?_) (fun h=>?_)<;>(dsimp only [cmpP] at h;(try (exfalso;omega))))|refine zV rfl rfl rfl rfl (fun _ _ q=>hmaxc _ (zDj q.own (by (repeat constructor)))) ?_|refine zCq (enc:=zAo) (i:=y) false rfl rfl rfl rfl rfl rfl rfl rfl (by omega) ?_|refine zl (I:=y) rfl rfl rfl rfl rfl (by dsimp only;omega) ?_|refine zAN rfl rfl rfl ?_|refine zh rfl rfl rfl rfl (by omega) ?_|refine zl rfl rfl rfl rfl rfl (by omega) ?_)|(with_reducible first|refine zH ?_|refine zB ?_|refine zD ?_|refine zA ?_|refine zk ?_|refine zR ?_|refine zW ?_)|((with_reducible refine zI ?_ ?_);(· exact rfl))))
      have hstep:zDT y i st=⟨st.nds,zEW st y i,st.hands,st.out⟩:=by unfold zDT;rw [htk,if_neg (by simp;omega)]
      refine zEK i (tx.set y false) (by simp) ht1 (by (repeat constructor)) (by (repeat constructor)) (by (repeat constructor)) ?_
      refine zFc i (re:=rowOf encI 1 3) hs1 (by (repeat constructor)) (by (repeat constructor)) (by (repeat constructor)) ?_
      refine zf (ι:=PM) ⟨i+1,L,M.set i ⟨some ⟨gt,0,none⟩,tx.set y false,tc⟩,O⟩ (by
       refine ⟨by simp only;omega,?_⟩
       simp only
       rw [hnext,hstep]
       exact ⟨hL,by simp only;rw [List.map_set,hM];unfold zEW;rw [gt1],hO⟩) (by simp only;omega) (by (repeat first|exact lK1|refine zL rfl ?_)) (by simp only [hnext,hstep];(repeat constructor))
    ·(repeat' (first|((with_reducible refine zF ?_);first|refine zE rfl rfl rfl ?_|refine zC rfl rfl rfl ?_|(refine zK rfl rfl rfl ?_;refine ⟨_,rfl,?_⟩)|refine za rfl rfl rfl ?_|refine zAB rfl rfl rfl rfl ?_|refine zd rfl rfl rfl ?_|(refine zQ rfl rfl rfl rfl rfl (fun h=>?_) (fun h=>?_)<;>(dsimp only [cmpP] at h;(try (exfalso;omega))))|refine zCq (enc:=zAo) (i:=y) false rfl rfl rfl rfl rfl rfl rfl rfl (by omega) ?_|refine zl (I:=y) rfl rfl rfl rfl rfl (by dsimp only;omega) ?_|refine zAN rfl rfl rfl ?_|refine zh rfl rfl rfl rfl (by omega) ?_|refine zl rfl rfl rfl rfl rfl (by omega) ?_)|(with_reducible first|refine zH ?_|refine zB ?_|refine zD ?_|refine zA ?_|refine zk ?_|refine zR ?_|refine zW ?_)|((with_reducible refine zI ?_ ?_);(· exact rfl))))
     have hstep:zDT y i st=⟨st.nds,zEW st y i,st.hands,st.out⟩:=by unfold zDT;rw [htk,if_neg (by simp;omega)]
     refine zEK i (tx.set y false) (by simp) ht1 (by (repeat constructor)) (by (repeat constructor)) (by (repeat constructor)) ?_
     refine zFc i (re:=rowOf encI 1 3) hs1 (by (repeat constructor)) (by (repeat constructor)) (by (repeat constructor)) ?_
     refine zf (ι:=PM) ⟨i+1,L,M.set i ⟨some ⟨gt,0,none⟩,tx.set y false,tc⟩,O⟩ (by
      refine ⟨by simp only;omega,?_⟩
      simp only
      rw [hnext,hstep]
      exact ⟨hL,by simp only;rw [List.map_set,hM];unfold zEW;rw [gt1],hO⟩) (by simp only;omega) (by (repeat first|exact lK1|refine zL rfl ?_)) (by simp only [hnext,hstep];(repeat constructor))
  ·obtain rfl:i=c.beds.length:=by omega
   (repeat' (first|((with_reducible refine zF ?_);first|refine zE rfl rfl rfl ?_|(refine zQ rfl rfl rfl rfl rfl (fun h=>?_) (fun h=>?_)<;>(dsimp only [cmpP] at h;(try (exfalso;omega))))|refine zh rfl rfl rfl rfl (by omega) ?_)|(with_reducible first|refine zH ?_|refine zB ?_|refine zD ?_|refine zA ?_|refine zk ?_|refine zg ?_|refine zR ?_|refine zW ?_)|((with_reducible refine zG ?_ ?_);(· exact rfl))))
   exact zf (ι:=PM) ⟨y+1,L,M,O⟩ (by exact ⟨by simp only;omega,hL,hM,hO⟩) (by simp only;omega) (by (repeat first|exact lK1|refine zL rfl ?_)) (by (repeat constructor))
 ·obtain rfl:y=c.hours.length:=by omega
  (repeat' (first|((with_reducible refine zF ?_);first|refine zE rfl rfl rfl ?_|refine zC rfl rfl rfl ?_|(refine zQ rfl rfl rfl rfl rfl (fun h=>?_) (fun h=>?_)<;>(dsimp only [cmpP] at h;(try (exfalso;omega)))))|(with_reducible first|refine zH ?_|refine zB ?_|refine zD ?_|refine zA ?_|refine zX ?_|refine zk ?_|refine zR ?_|refine zW ?_)|((with_reducible refine zG ?_ ?_);(· exact rfl))))
  exact zS (by (exact zi.cons (by exact zAR.tmp rfl) (zi.cons (by exact zAR.tmp rfl) zi.nil))) (go,O) hO (by simp [resV]) (fun _ h=>h.sub (by (repeat constructor)))
end Go.Proofs.YtdigopgncfhiaaaGreatDoor.Two
namespace Go.Proofs.YtdigopgncfhiaaaGreatDoor
open Go.RowKit
set_option maxRecDepth 20000
theorem zIV {c:Cov} (h0:zAm c=0):0<c.beds.length:=by
 have hv:valid c.t=true:=by
  cases hv:valid c.t with
  | true=>rfl
  | false=>unfold zAm at h0;rw [hv] at h0;simp at h0
 have:=(zCd hv).1
 have:=(zBu h0).beds
 omega
theorem zKI {c:Cov} (hf:zDo c):∀ u∈c.hours,0≤u.crew∧u.crew≤1000:=fun u hu=>by
 have h9:=hf.hour u hu
 unfold zCH at h9
 simp only [Bool.and_eq_true,zAC] at h9
 omega
set_option maxHeartbeats 2000000 in
theorem zMA (c:Cov) (A:Option Addr) (ca:Nat) (B:Option Addr) (cb:Nat) (C:Option Addr) (cc:Nat) (w:World) (h:zAe w c A B C) (hs:Small c) (hG:InC w 0 0 zCP) (h0:zAm c=0) (hcan:zGx (zAk c) (zFl c) (zBM c)=false) :
  Gv Tryz.prog 25 [zAH c A ca B cb C cc] w (.tuple #[.slice none 0 0,.int .i64 8]):=by
 have h4:=hs.b;have h5:=hs.h
 have hf:=zBu h0
 have hh1:=hf.hours
 rw [zAC] at hh1
 have h1:=fun W (hb:Below w.heap.size w W)=>zCu c A ca B cb C cc W (h.below hb) hs h0
 have h2:=fun W (hb:Below w.heap.size w W) g (hr:InC W g 0 (zM c A ca B cb C cc))=>Two.zEv c A ca B cb C cc g W hr (hG.below hb) (h.below hb) hs hf
 have ok0:=zE5 hf hs (zKI hf)
 have hbl:=zIV h0
 unfold Gv
 unfold zAH at h1 ⊢
 unfold zM at h1 h2 ⊢
 (refine zJ (n:=140) Tryz.func25 rfl rfl rfl ?_)
 (repeat' (first|((with_reducible refine zF ?_);first|refine zE rfl rfl rfl ?_|refine zC rfl rfl rfl ?_|(refine zK rfl rfl rfl ?_;refine ⟨_,rfl,?_⟩)|(refine zQ rfl rfl rfl rfl rfl (fun h=>?_) (fun h=>?_)<;>(dsimp only [cmpP] at h;(try (exfalso;omega))))|(refine zAQ rfl rfl rfl rfl (fun _ _ q=>h1 _ q.below) ?_;rintro g -;dsimp only [List.cons_append,List.nil_append])|(refine zAQ rfl rfl rfl rfl (fun _ _ q=>h2 _ q.below g (zA5 q.own (Below.refl _ _) rfl)) ?_;rintro ⟨⟨gn,L⟩,⟨gm,M⟩,gh⟩ ⟨hL,hM⟩;dsimp only [List.cons_append,List.nil_append])|refine zc rfl rfl rfl rfl ?_|(refine zb rfl rfl rfl rfl rfl ?_;refine ⟨rfl,by first|decide|exact Nat.le_of_ble_eq_true rfl|(simp;omega),_,rfl,?_⟩)|(refine zj rfl rfl (fun b=>?_))|(refine zu rfl rfl rfl rfl (fun b=>?_)))|(with_reducible first|refine zH ?_|refine zB ?_|refine zD ?_|refine zA ?_|refine zT ?_)|((with_reducible refine zG ?_ ?_);(· exact rfl))))
 simp only at hL hM
 have hca:=fun (W:World) (a1:zCX encI 1 W (some ⟨gn,0,none⟩) L) (a2:zCX zAo 1 W (some ⟨gm,0,none⟩) M) (a3:zq encI 1 W (some ⟨gh,0,none⟩) (zBM c))=>zGr ok0 hL hM (by omega) (by omega) (by omega) hbl _ _ _ c.beds.length c.beds.length c.hours.length W a1 a2 a3
 rw [show zGx (zBH c).nds (zBH c).may (zBH c).hands=false from hcan] at hca
 unfold zA2 at hca
 (repeat' (first|((with_reducible refine zF ?_);first|refine zC rfl rfl rfl ?_|refine zV rfl rfl rfl rfl (fun _ _ q=>hca _ (zCG q.own (by (repeat constructor))) (zCG q.own (by (repeat constructor))) (zDj q.own (by (repeat constructor)))) ?_|refine zAN rfl rfl rfl ?_)|(with_reducible first|refine zH ?_|refine zB ?_|refine zD ?_|refine zA ?_|refine zX ?_|refine zZ ?_)|((with_reducible refine zI ?_ ?_);(· exact rfl))))
 exact zS (by (exact zi.cons (by exact zAR.tmp rfl) (zi.cons (by exact zAR.tmp rfl) zi.nil))) () trivial rfl (fun _ h=>h.sub (by (repeat constructor)))
end Go.Proofs.YtdigopgncfhiaaaGreatDoor
namespace Go.Proofs.YtdigopgncfhiaaaGreatDoor
open Go.RowKit
theorem zGH {α:Type} (l:List α) (i j:Nat) (hi:i≤j) (hj:j<l.length):l.extract i (j+1)=l.extract i j++[l[j]]:=by
 simp only [List.extract_eq_take_drop]
 rw [show j+1 - i=(j - i)+1 by omega,List.take_succ_eq_append_getElem (by simp;omega)]
 simp [show i+(j - i)=j by omega]
theorem zHk (l:List Sp) (x:Sp):zG1 (l++[x])=zBa (zG1 l) x:=by simp [zG1]
theorem zDw {t:List St} {i j:Nat} (hi:i≤j) (hj:j<t.length):ze t i (j+1)=zBa (ze t i j) t[j].long:=by
 unfold ze
 rw [zGH _ _ _ hi (by simpa [longs] using hj),zHk];simp [longs]
theorem zD4 {t:List St} {i j:Nat} (hi:i≤j) (hj:j<t.length):zAD t i (j+1)=zBa (zAD t i j) t[j].fall:=by
 unfold zAD
 rw [zGH _ _ _ hi (by simpa [falls] using hj),zHk];simp [falls]
theorem zCi (t:List St) (i:Nat):ze t i i=⟨0,0⟩:=by simp [ze,zG1,List.extract_eq_take_drop]
theorem zCl (t:List St) (i:Nat):zAD t i i=⟨0,0⟩:=by simp [zAD,zG1,List.extract_eq_take_drop]
theorem zMe {t : List St} (h : ∀ s ∈ t, Okay s) : ∀ {i j : Nat}, i ≤ j → j ≤ t.length →
    0≤(ze t i j).lo∧(ze t i j).lo≤(ze t i j).hi∧(ze t i j).hi≤30000 * (j - i:Int) ∧
    0≤(zAD t i j).lo∧(zAD t i j).lo≤(zAD t i j).hi∧(zAD t i j).hi≤5000 * (j - i:Int):=by
  intro i j hij
  induction j with
  | zero => intro _; obtain rfl : i = 0 := by omega
            simp [zCi,zCl]
  | succ j ih =>
    intro hj
    by_cases hji:i=j+1
    · subst hji;simp [zCi,zCl]
    · have:=ih (by omega) (by omega)
      have ho:=h t[j] (List.getElem_mem (by omega))
      rw [zDw (by omega) (by omega),zD4 (by omega) (by omega)]
      have:=ho.l0;have:=ho.l1;have:=ho.l2;have:=ho.f0;have:=ho.f1;have:=ho.f2
      simp only [zBa]
      omega
end Go.Proofs.YtdigopgncfhiaaaGreatDoor
