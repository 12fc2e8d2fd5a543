/- H32 -/
import Derived.Test.YtdigopgncfhiaaaGreatDoorH29
import Derived.Test.YtdigopgncfhiaaaGreatDoorH30
import Derived.Test.YtdigopgncfhiaaaGreatDoorH23
import Derived.Test.YtdigopgncfhiaaaGreatDoorH31
set_option linter.unusedSimpArgs false
set_option linter.unusedVariables false
namespace Go.Proofs.YtdigopgncfhiaaaGreatDoor.Two
variable {ro : Option Nat}
open Go.RowKit
set_option maxRecDepth 20000
set_option maxHeartbeats 8000000 in
theorem zMB (c:Cov) (A:Option Addr) (ca:Nat) (B:Option Addr) (cb:Nat) (C:Option Addr) (cc:Nat) (ch:List Int) (D:Option Addr) (cd:Nat) (ms:List Me) (M:Option Addr) (mc:Nat) (w:World) (hc:zAp w c A B C) (hfit:zEY c.t) (hD:zp encU 1 w D ch) (hfu:FitW ch) (hM:zp zC3 5 w M ms) (hMb:∀ b o,M=some ⟨b,o,none⟩→b<w.heap.size) (hMf:zN3 ms) (hG:InC w 0 0 zCz) :
  Gv Tryz.prog 14 [zAS c A ca B cb C cc,.slice D ch.length cd,.slice M ms.length mc] w (.bool true):=by
 have hAl:=fun W (hW:Below w.heap.size w W)=>zOp W (hG.below hW)
 have hR:=fun W (hW:Below w.heap.size w W)=>zOc c A ca B cb C cc W (hc.below hW) hfit
 cases hr:zHu c
 ·rw [hr] at hR
  unfold zAS zN at hR ⊢
  unfold Gv
  (refine zJ (n:=158) Tryz.func14 rfl rfl rfl ?_)
  (repeat' (first|((with_reducible refine zF ?_);first|refine zE rfl rfl rfl ?_|refine zC rfl rfl rfl ?_|(refine zL rfl rfl rfl ?_;refine ⟨_,rfl,?_⟩)|refine zAY rfl rfl rfl rfl ?_|refine zx rfl rfl rfl ?_|refine zY rfl rfl rfl rfl (fun _ _ q=>hAl _ q.below) ?_|refine zY rfl rfl rfl rfl (fun _ _ q=>hR _ q.below) ?_|refine zAd rfl rfl rfl ?_|(refine zy rfl rfl rfl rfl (fun b=>?_)))|(with_reducible first|refine zH ?_|refine zB ?_|refine zD ?_|refine zA ?_|refine zW ?_|refine zS ?_|refine ze ?_)|((with_reducible refine zK ?_ ?_);(· exact rfl))|((with_reducible refine zG ?_ ?_);(· exact rfl))))
  all_goals exact zR (by exact rTm rfl) () trivial rfl (fun _ h=>h.sub (by (repeat constructor)))
 rw [hr] at hR
 have hs:=zLw hr hfit
 have h0:=(zJU.1 hr).2
 have hf:=zBm h0
 have hv:=zJ8 h0
 have h4:=hs.b;have h5:=hs.h;have h6:=hs.t
 have hh1:=hf.hours
 rw [zAB] at hh1
 have hb0:=zKJ h0
 have hbt:=hf.beds
 have hrt:=hf.rate
 rw [zAB] at hrt
 have hok:=zCE hv
 by_cases hml:20<ms.length
 ·unfold zAS zN at hR ⊢
  unfold Gv
  (refine zJ (n:=158) Tryz.func14 rfl rfl rfl ?_)
  (repeat' (first|((with_reducible refine zF ?_);first|refine zE rfl rfl rfl ?_|refine zC rfl rfl rfl ?_|(refine zL rfl rfl rfl ?_;refine ⟨_,rfl,?_⟩)|refine zAY rfl rfl rfl rfl ?_|(refine zQ rfl rfl rfl rfl rfl (fun h=>?_) (fun h=>?_)<;>(dsimp only [cmpP] at h;(try (exfalso;omega))))|refine zY rfl rfl rfl rfl (fun _ _ q=>hAl _ q.below) ?_|refine zY rfl rfl rfl rfl (fun _ _ q=>hR _ q.below) ?_|refine zAd rfl rfl rfl ?_|refine zq rfl rfl rfl ?_|(refine zy rfl rfl rfl rfl (fun b=>?_)))|(with_reducible first|refine zH ?_|refine zB ?_|refine zD ?_|refine zA ?_|refine zW ?_|refine zS ?_|refine ze ?_)|((with_reducible refine zK ?_ ?_);(· exact rfl))|((with_reducible refine zG ?_ ?_);(· exact rfl))))
  all_goals exact zR (by exact rTm rfl) () trivial rfl (fun _ h=>h.sub (by (repeat constructor)))
 have hyo:=drawn_ok (ch:=ch) (f:=0) hf
 have hDr:=fun W (hW:Below w.heap.size w W)=>zNU c A ca B cb C cc ch D cd 0 W (hc.below hW) hs (hD.below hW) hfu (by omega)
 have hyl:(zAP c ch 0).length=c.hours.length:=zB0
 have hyr:∀ r∈zAP c ch 0,r.length≤20:=fun r hr=>Nat.le_trans (zOy r hr) h4
 have hW1:=fun W (hW:Below w.heap.size w W) P cp hp=>zMC c A ca B cb C cc (zAP c ch 0) P cp W (hc.below hW) hs hp (by omega) hyr
 have hek:=zMH h0 hyo
 have hws:=zHh h0 hyo
 have hypw:∀ k,((zAP c ch 0).getD k []).Pairwise (· < ·):=fun k=>by
  by_cases hk:k<c.hours.length
  ·exact (zL0 hf hyo k hk).1
  ·rw [List.getD_eq_getElem?_getD,List.getElem?_eq_none (by omega)];exact List.Pairwise.nil
 have hyin:∀ r∈zAP c ch 0,∀ x∈r,∃ j:Nat,x=(j:Int)∧j<c.beds.length:=fun r hr x hx=>by
  obtain ⟨k,hk⟩:=List.getElem?_of_mem hr
  have hkl:=(List.getElem?_eq_some_iff.1 hk).1
  have:=(zL0 hf hyo k (by omega)).2.1
  rw [List.getD_eq_getElem?_getD,hk] at this
  exact this x hx
 have hmi:∀ i,i<c.beds.length→0≤zGT (zAP c ch 0) i c.hours.length∧zGT (zAP c ch 0) i c.hours.length≤1000:=fun i hi=>by
  have:=zPe (xss:=zAP c ch 0) (r:=c.hours.length) (m:=0) (j:=i) hyr
  rw [zNt hypw] at this;omega
 have hma:∀ i,i<c.beds.length→(zGU (zAP c ch 0) c.beds.length c.hours.length 0)[i]?=some (zGT (zAP c ch 0) i c.hours.length):=fun i hi=>by rw [zHX hi,zNt hypw]
 have hmlen:(zGU (zAP c ch 0) c.beds.length c.hours.length 0).length=c.beds.length:=zFt
 have hC1:=fun W (hW:Below w.heap.size w W) pl P cp (hx:pl.map Sli.xs=zAP c ch 0) hp=>zOi c A ca B cb C cc pl P cp W h4 hp (by have:=congrArg List.length hx;rw [List.length_map] at this;omega) (fun s hs=>hyr _ (by rw [← hx];exact List.mem_map_of_mem hs)) (fun s hs=>hyin _ (by rw [← hx];exact List.mem_map_of_mem hs))
 have hDp:=fun W (hW:Below w.heap.size w W) (i:Nat) (hi:i<c.beds.length)=>by
  have:=(zNo c.t A ca (i:Int) ((i:Int)+1) W (hc.below hW).t hfit (by omega)).gv
  rw [(zNn hv (by omega)).1,(zNn hv (by omega)).2] at this
  rw [show ((i:Int)+1)=((i+1:Nat):Int) from rfl] at this
  exact this
 have hlg:∀ i,i<c.beds.length→1≤(zAe c (i:Int)).lo∧(zAe c (i:Int)).lo≤(zAe c (i:Int)).hi∧(zAe c (i:Int)).hi≤30000:=fun i hi=>by
  have h2:i<c.t.length:=by omega
  have:=hok _ (List.getElem_mem h2)
  unfold zAe
  simp only [Int.toNat_natCast,List.getD_eq_getElem?_getD,List.getElem?_eq_getElem h2,Option.getD_some]
  exact ⟨this.l0,this.l1,this.l2⟩
 have hle:∀ i:Nat,(c.t.getD i default).long=zAe c (i:Int):=fun i=>by simp [zAe]
 simp only [hle] at hDp
 have hCh:=fun W (hW:Below w.heap.size w W) (i:Nat)=>zIY ch D cd (50+(i:Int)) (50+i) W (hD.below hW) hfu (by omega)
 have hci:=fun i=>chW_in hfu i
 have hOf:=fun W (i:Nat) (hi:i<c.beds.length)=>iof_any (zAe c (i:Int)) (chW ch (50+i)) W (hlg i hi).2.1 (by have:=hlg i hi;omega) (by have:=hlg i hi;omega) (hci (50+i))
 have hof:=fun (i:Nat) (hi:i<c.beds.length)=>ofS_in (n:=chW ch (50+i)) (hlg i hi).2.1
 have q1:=zIn (c:=c) (xss:=zAP c ch 0) (f:=fun j=>(zAe c (j:Int)).lo) hrt hmi (fun j hj=>by have:=hlg j hj;omega)
 have q2:=zIn (c:=c) (xss:=zAP c ch 0) (f:=fun j=>(zAe c (j:Int)).hi) hrt hmi (fun j hj=>by have:=hlg j hj;omega)
 have q3:=zIn (c:=c) (xss:=zAP c ch 0) (f:=fun j=>ofS (zAe c (j:Int)) (chW ch (50+j))) hrt hmi (fun j hj=>by have:=hlg j hj;have:=hof j hj;omega)
 have s1:=zFy (c:=c) (xss:=zAP c ch 0) (f:=fun j=>(zAe c (j:Int)).lo)
 have s2:=zFy (c:=c) (xss:=zAP c ch 0) (f:=fun j=>(zAe c (j:Int)).hi)
 have s3:=zFy (c:=c) (xss:=zAP c ch 0) (f:=fun j=>ofS (zAe c (j:Int)) (chW ch (50+j)))
 have l1:=zIm (c:=c) (xss:=zAP c ch 0) (f:=fun j=>(zAe c (j:Int)).lo) (g:=fun j=>ofS (zAe c (j:Int)) (chW ch (50+j))) hrt.1 (fun j hj=>(hmi j hj).1) (fun j hj=>(hof j hj).1)
 have l2:=zIm (c:=c) (xss:=zAP c ch 0) (f:=fun j=>ofS (zAe c (j:Int)) (chW ch (50+j))) (g:=fun j=>(zAe c (j:Int)).hi) hrt.1 (fun j hj=>(hmi j hj).1) (fun j hj=>(hof j hj).2)
 have hw1:(zCD c (zBH (zAP c ch 0))).lo=zG1 c (zAP c ch 0) (fun j=>(zAe c (j:Int)).lo) c.beds.length:=by rw [hws];rfl
 have hw2:(zCD c (zBH (zAP c ch 0))).hi=zG1 c (zAP c ch 0) (fun j=>(zAe c (j:Int)).hi) c.beds.length:=by rw [hws];rfl
 have hNr:=fun W (hW:Below w.heap.size w W)=>zOV c.t A ca ms M mc W (hc.below hW).t (hM.below hW) (fun b o e=>Nat.lt_of_lt_of_le (hMb b o e) hW.size) hfit hMf (by omega) (by omega)
 have hT:=fun W (hW:Below w.heap.size w W)=>zP4 c A ca B cb C cc W (hc.below hW) (by omega) (by omega) (by omega)
 rw [hek,hyl] at hW1
 have hna:zDv c.t ms=0→valid (nT c.t ms)=true∧NarT (nT c.t ms) c.t:=fun he=>by
  have hm:zD6 c.t.length ms=true:=by
   cases hm:zD6 c.t.length ms with
   | true=>rfl
   | false=>simp [zDv,hv,hm] at he
  have:=zL1 hv hm he
  exact ⟨this.1,this.2.1⟩
 have hwn:=fun he=>zLe h0 hyo (fun j hj=>(hmi j hj).1) (hna he).1 (hna he).2
 have hev:=fun he=>zJ9 h0 (hna he).1 (hna he).2.1
 have hnl:=nT_len (t:=c.t) (ms:=ms)
 have hW2:=fun (he:zDv c.t ms=0) W A1 c1 A2 c2 A3 c3 P cp hC hp=>zMC { c with t:=nT c.t ms } A1 c1 A2 c2 A3 c3 (zAP c ch 0) P cp W hC ⟨zPu (hna he).1,by simp only;omega,h4,h5⟩ hp (by omega) hyr
 have hek2:zDv c.t ms=0→zCB { c with t:=nT c.t ms } (zBH (zAP c ch 0))=0:=fun he=>zMH (hev he) hyo
 have hW2:=fun he W A1 c1 A2 c2 A3 c3 P cp hC hp=>by
  have:=hW2 he W A1 c1 A2 c2 A3 c3 P cp hC hp
  rw [hek2 he,hyl] at this
  exact this
 generalize hmls:zGU (zAP c ch 0) c.beds.length c.hours.length 0=ml at *
 generalize hwx:zCD c (zBH (zAP c ch 0))=wx at *
 generalize hwa:zG1 c (zAP c ch 0) (fun j=>(zAe c (j:Int)).lo)=wa at *
 generalize hwb:zG1 c (zAP c ch 0) (fun j=>(zAe c (j:Int)).hi)=wb at *
 generalize hwc:zG1 c (zAP c ch 0) (fun j=>ofS (zAe c (j:Int)) (chW ch (50+j)))=wo at *
 have z1:wa 0=0:=by rw [← hwa];rfl
 have z2:wb 0=0:=by rw [← hwb];rfl
 have z3:wo 0=0:=by rw [← hwc];rfl
 generalize hwy:zCD { c with t:=nT c.t ms } (zBH (zAP c ch 0))=wy at *
 unfold vSp at hW1 hW2 hDp
 unfold zAS zN at hR hDr hW1 hC1 hT hW2 ⊢
 unfold Gv
 (refine zJ (n:=158) Tryz.func14 rfl rfl rfl ?_)
 (repeat' (first|((with_reducible refine zF ?_);first|refine zE rfl rfl rfl ?_|refine zC rfl rfl rfl ?_|(refine zL rfl rfl rfl ?_;refine ⟨_,rfl,?_⟩)|refine zAY rfl rfl rfl rfl ?_|(refine zQ rfl rfl rfl rfl rfl (fun h=>?_) (fun h=>?_)<;>(dsimp only [cmpP] at h;(try (exfalso;omega))))|refine zY rfl rfl rfl rfl (fun _ _ q=>hAl _ q.below) ?_|refine zY rfl rfl rfl rfl (fun _ _ q=>hR _ q.below) ?_|(refine zAW rfl rfl rfl rfl (fun _ _ q=>hDr _ q.below) ?_;rintro ⟨⟨P2,pc2⟩,pl2⟩ hx2;dsimp only [List.cons_append,List.nil_append])|refine zAd rfl rfl rfl ?_|refine zq rfl rfl rfl ?_|(refine zy rfl rfl rfl rfl (fun b=>?_)))|(with_reducible first|refine zH ?_|refine zB ?_|refine zD ?_|refine zA ?_|refine zS ?_)|((with_reducible refine zG ?_ ?_);(· exact rfl))))
 simp only at hx2
 have hl2:pl2.length=c.hours.length:=by have:=congrArg List.length hx2;rw [List.length_map,hyl] at this;exact this
 have hC1:=fun W hW P cp hp=>hC1 W hW pl2 P cp hx2 hp
 simp only [hx2,hl2,hmls] at hC1
 rw [hl2]
 obtain ⟨b3,hb3⟩:∃ x,x=b:=⟨_,rfl⟩
 subst hb3
 (repeat' (first|((with_reducible refine zF ?_);first|refine zE rfl rfl rfl ?_|refine zC rfl rfl rfl ?_|(refine zL rfl rfl rfl ?_;refine ⟨_,rfl,?_⟩)|refine zY rfl rfl rfl rfl (fun _ _ q=>hW1 _ q.below _ _ ⟨_,hx2.trans (zIr _).symm,zLy q.own (by (repeat constructor)) (by (repeat constructor))⟩) ?_|(refine zBt rfl rfl rfl rfl (fun _ _ q=>hC1 _ q.below _ _ (zLy q.own (by (repeat constructor)) (by (repeat constructor)))) (fun M1 mc1=>?_))|refine zc rfl rfl rfl rfl ?_|refine zq rfl rfl rfl ?_|(refine za rfl rfl rfl rfl rfl ?_;refine ⟨rfl,by first|decide|exact Nat.le_of_ble_eq_true rfl|(simp;omega),_,rfl,?_⟩)|(refine zh rfl rfl (fun b=>?_)))|(with_reducible first|refine zH ?_|refine zB ?_|refine zD ?_|refine zA ?_|refine zP ?_)))
 rename_i b9
 obtain ⟨b11,hb11⟩:∃ x,x=b:=⟨_,rfl⟩
 subst hb11
 refine zw (ι:=Nat) [1,2,3,7,8,9,10,11,46,47] rfl (fun i=>i≤c.beds.length) (fun i=>[(48,.int .i64 (i:Int)),(12,.int .i64 (wo i))]) (fun i=>[.sl encI 1 M1 ml,.sl zBC 1 P2 pl2,.rows pl2,.blk b11 [.int .i64 (wa i),.int .i64 (wb i)],.blk b9 [.int .i64 wx.lo,.int .i64 wx.hi],.blk b3 [.slice A c.t.length ca,.slice B c.beds.length cb,.slice C c.hours.length cc,.int .i64 c.wear.lo,.int .i64 c.wear.hi,.int .i64 c.layer.lo,.int .i64 c.layer.hi,.int .i64 c.rate,.int .i64 c.limit,.int .i64 c.base]]) (fun i=>c.beds.length - i) 0 (Nat.zero_le _) (by (try simp only [z3]);(repeat first|exact lK1|refine zI rfl ?_)) (by (try simp only [z1,z2]);(repeat constructor)) ?_
 rintro i hi
 simp only [zA1,List.cons_append,List.nil_append]
 by_cases hil:i<c.beds.length
 ·have hx:=hma i hil
  have hn:=hmi i hil
  have g1:=q1 i hi
  have g2:=q2 i hi
  have g3:=q3 i hi
  have t1:=s1 i
  have t2:=s2 i
  have t3:=s3 i
  have hD:=fun W hW=>hDp W hW i hil
  have hO:=fun W=>hOf W i hil
  have hoi:=hof i hil
  have hli:=hlg i hil
  have hch:=fun W hW=>hCh W hW i
  clear hDp hOf hof hlg hCh
  generalize zGT (zAP c ch 0) i c.hours.length=n at *
  have hnr:=zCy hn.1 hn.2 hrt.1 hrt.2
  generalize hlv:zAe c (i:Int)=lg at *
  obtain ⟨ll,lh⟩:=lg
  simp only at hD hO hoi hli t1 t2 t3
  generalize chW ch (50+i)=x at *
  generalize ofS ⟨ll,lh⟩ x=ov at *
  have hp1:=zCy hnr.1 hnr.2 (show 0≤ll by omega) (show ll≤30000 by omega)
  have hp2:=zCy hnr.1 hnr.2 (show 0≤lh by omega) (show lh≤30000 by omega)
  have hp3:=zCy hnr.1 hnr.2 (show 0≤ov by omega) (show ov≤30000 by omega)
  have:zAQ ml i n:=⟨hx⟩
  refine u_slS (enc:=encI) (A:=M1) (xs:=ml) (by (repeat constructor)) (by omega) ?_
  rintro bm om rfl
  (repeat' (first|((with_reducible refine zF ?_);first|refine zE rfl rfl rfl ?_|refine zC rfl rfl rfl ?_|(refine zL rfl rfl rfl ?_;refine ⟨_,rfl,?_⟩)|refine zb rfl rfl rfl ?_|(refine zQ rfl rfl rfl rfl rfl (fun h=>?_) (fun h=>?_)<;>(dsimp only [cmpP] at h;(try (exfalso;omega))))|refine zY rfl rfl rfl rfl (fun _ _ q=>hD _ q.below) ?_|refine zY rfl rfl rfl rfl (fun _ _ q=>zEh _ _ _) ?_|refine zc rfl rfl rfl rfl ?_|refine zi rfl rfl rfl rfl (by omega) ?_|refine zFL rfl rfl rfl rfl (IntWalk.i64_in _ (by omega)) ?_|refine u_mul rfl rfl rfl rfl (IntWalk.i64_in _ (by omega)) ?_|refine zk rfl rfl rfl rfl rfl (by omega) ?_|(refine za rfl rfl rfl rfl rfl ?_;refine ⟨rfl,by first|decide|exact Nat.le_of_ble_eq_true rfl|(simp;omega),_,rfl,?_⟩)|(refine zh rfl rfl (fun b=>?_)))|(with_reducible first|refine zH ?_|refine zB ?_|refine zD ?_|refine zA ?_|refine zS ?_|refine zP ?_)|((with_reducible refine zK ?_ ?_);(· exact rfl))|((with_reducible refine zG ?_ ?_);(· exact rfl))))
  (refine zAV [] [] [] rfl (show ([]:List Nat).Nodup by decide) (fun _ h=>h) (by kernel_rfl) [[],[Y],[Y,Y],[Z,Y,Y],[Z,Z,Z,Y],[Y,Y,Y,Y,Y],[Y,Y,Y,Y,Y,Y],[Y,Y,Y,Y,Y,Y,Y],[Z,Y,Y,Y,Y,Y,Y,Y],[Z,Z,Z,Y,Y,Y,Y,Y,Y],[Z,Z,Z,Z,Z,Y,Y,Y,Y,Y],[Z,Z,Z,Z,Z,Z,Z,Z,Z,Z,Y],[Z,Z,Z,Z,Z,Z,Z,Z,Z,Z,Z,Z],[Z,Z,Z,Z,Z,Z,Z,Z,Z,Z,Z,Z,Z]] (by kernel_rfl) (by kernel_rfl) (by kernel_rfl) (by kernel_rfl) (by kernel_rfl) ?_)
  (repeat' (first|(((with_reducible refine zCC ?_ ?_);(· exact rfl);refine ⟨_,fun G=>(by (try simp (decide:=true) only [vis,see,fltT,zm,Nat.reduceAdd,Nat.reduceSub,if_true,if_false,List.set_cons_zero,List.set_cons_succ,List.set_nil,List.nil_append,List.cons_append]);rfl),?_⟩);first|refine zU _ (fun _=>zAO rfl rfl) (fun _=>rfl) rfl (by intro G G' h;simp (decide:=true) only [h]) ?_|refine zU _ (fun _=>zu rfl rfl (by exact rfl)) (fun _=>rfl) rfl (by intro G G' h;simp (decide:=true) only [h]) ?_|(refine zAC rfl ?_;refine zU _ (fun _=>zAE rfl rfl) (fun _=>rfl) rfl (by intro G G' h;simp (decide:=true) only [h]) ?_)|refine zU _ (fun _=>zBr rfl rfl) (fun _=>rfl) rfl (by intro G G' h;simp (decide:=true) only [h]) ?_|refine zB1 _ rfl (fun _=>rfl) rfl (fun _=>rfl) (fun _=>rfl) (fun _ _ _ q=>hch _ q.below) (by intro G G' h;simp (decide:=true) only [h]) ?_|refine zB1 _ rfl (fun _=>rfl) rfl (fun _=>rfl) (fun _=>rfl) (fun _ _ _ q=>hO _) (by intro G G' h;simp (decide:=true) only [h]) ?_|refine zU _ (fun _=>zIc rfl rfl rfl (IntWalk.i64_in _ (by omega))) (fun _=>rfl) rfl (by intro G G' h;simp (decide:=true) only [h]) ?_|refine zU _ (fun _=>e_mul rfl rfl rfl (IntWalk.i64_in _ (by omega))) (fun _=>rfl) rfl (by intro G G' h;simp (decide:=true) only [h]) ?_)|(with_reducible refine zKH ?_)))
  (intro G;simp only [regsT,zm,zAq,ini,List.nil_append,List.cons_append])
  (repeat' (first|((with_reducible refine zF ?_);first|refine zE rfl rfl rfl ?_|refine zi rfl rfl rfl rfl (by omega) ?_)|(with_reducible first|refine zB ?_|refine zD ?_|refine zA ?_|refine zg ?_)))
  refine zZ (ι:=Nat) (i+1) (by omega) (by omega) (by (try simp only [t3]);(repeat first|exact lK1|refine zI rfl ?_)) ?_
  simp only [t1,t2]
  (repeat constructor)
 obtain rfl:i=c.beds.length:=by omega
 have g1:=q1 c.beds.length (Nat.le_refl _)
 have g3:=q3 c.beds.length (Nat.le_refl _)
 have hM2:∀ W,Below w.heap.size w W→True:=fun _ _=>trivial
 (repeat' (first|((with_reducible refine zF ?_);first|refine zE rfl rfl rfl ?_|(refine zL rfl rfl rfl ?_;refine ⟨_,rfl,?_⟩)|refine zb rfl rfl rfl ?_|refine zAY rfl rfl rfl rfl ?_|(refine zQ rfl rfl rfl rfl rfl (fun h=>?_) (fun h=>?_)<;>(dsimp only [cmpP] at h;(try (exfalso;omega))))|(refine u_nesp rfl rfl rfl rfl (fun h=>?_) (fun h=>?_)<;>(try (exfalso;omega))))|(with_reducible first|refine zH ?_|refine zB ?_|refine zD ?_|refine zA ?_|refine zS ?_|refine zl ?_|refine zV ?_|refine zX ?_)|((with_reducible refine zG ?_ ?_);(· exact rfl))))
 by_cases he:zDv c.t ms=0
 rotate_left
 ·generalize zDv c.t ms=er at *
  (repeat' (first|((with_reducible refine zF ?_);first|refine zE rfl rfl rfl ?_|refine zC rfl rfl rfl ?_|(refine zQ rfl rfl rfl rfl rfl (fun h=>?_) (fun h=>?_)<;>(dsimp only [cmpP] at h;(try (exfalso;omega))))|refine zBt rfl rfl rfl rfl (fun _ _ q=>hNr _ q.below) (fun A' c'=>?_)|refine zc rfl rfl rfl rfl ?_|(refine za rfl rfl rfl rfl rfl ?_;refine ⟨rfl,by first|decide|exact Nat.le_of_ble_eq_true rfl|(simp;omega),_,rfl,?_⟩)|(refine zh rfl rfl (fun b=>?_)))|(with_reducible first|refine zH ?_|refine zB ?_|refine zD ?_|refine zA ?_|refine zW ?_|refine ze ?_)|((with_reducible refine zK ?_ ?_);(· exact rfl))))
  exact zR (by exact rTm rfl) () trivial rfl (fun _ h=>h.sub (by (repeat constructor)))
 have hW3:=hW2 he
 have hw9:=hwn he
 rw [he] at hNr
 clear hW2 hwn hev hek2 hna
 simp only at hW3
 generalize nT c.t ms=t' at *
 (repeat' (first|((with_reducible refine zF ?_);first|refine zE rfl rfl rfl ?_|refine zC rfl rfl rfl ?_|(refine zL rfl rfl rfl ?_;refine ⟨_,rfl,?_⟩)|refine zb rfl rfl rfl ?_|refine zAY rfl rfl rfl rfl ?_|(refine zQ rfl rfl rfl rfl rfl (fun h=>?_) (fun h=>?_)<;>(dsimp only [cmpP] at h;(try (exfalso;omega))))|refine zBt rfl rfl rfl rfl (fun _ _ q=>hNr _ q.below) (fun A' c'=>?_)|(refine zAW rfl rfl rfl rfl (fun _ _ q=>hT _ q.below) ?_;rintro ⟨⟨A3,m3⟩,⟨A6,m6⟩,A9,m9⟩ -;dsimp only [List.cons_append,List.nil_append])|refine zY rfl rfl rfl rfl (fun _ _ q=>hW3 _ _ _ _ _ _ _ _ _ ⟨(zBQ q.own (Below.refl _ _)),zDR q.own (by (repeat constructor)),zDR q.own (by (repeat constructor))⟩ ⟨_,hx2.trans (zIr _).symm,zLy q.own (by (repeat constructor)) (by (repeat constructor))⟩) ?_|refine zc rfl rfl rfl rfl ?_|(refine za rfl rfl rfl rfl rfl ?_;refine ⟨rfl,by first|decide|exact Nat.le_of_ble_eq_true rfl|(simp;omega),_,rfl,?_⟩)|(refine zh rfl rfl (fun b=>?_)))|(with_reducible first|refine zH ?_|refine zB ?_|refine zD ?_|refine zA ?_|refine zW ?_|refine zS ?_)|((with_reducible refine zG ?_ ?_);(· exact rfl))))
 all_goals exact zR (by exact rTm rfl) () trivial rfl (fun _ h=>h.sub (by (repeat constructor)))
end Go.Proofs.YtdigopgncfhiaaaGreatDoor.Two
