/- ZQ22 -/
import Derived.Test.YtcpdjamlhhfbhaaGreatZQ21
import Derived.Test.YtcpdjamlhhfbhaaGreatZQ11
import Derived.Test.YtcpdjamlhhfbhaaGreatZQ6
import Derived.Test.YtcpdjamlhhfbhaaGreatZQ4
set_option linter.unusedSimpArgs false
set_option linter.unusedVariables false
namespace Go.Proofs.YtcpdjamlhhfbhaaGreat.Two
variable {ro : Option Nat}
open Go.RowKit
set_option maxRecDepth 20000
set_option maxHeartbeats 8000000 in
theorem zH4 (scs:List ScM) (A:Option Addr) (c:Nat) (g:GrM) (total:Int) (w:World) (h:zCX w A scs) (hg:zDm w g) (hB:zC3 scs) (hG:GrF scs g) (ht:zBy g.added (zAx scs g) (zAb scs g).length total) :
  Ret Tryz.prog 18 [.agg #[.slice A scs.length c],vGr g,.int .i64 total] w (fun v:Value=>.tuple #[v,.int .i64 0]) (fun _=>[]) (fun v=>∃ (A1:Option Addr) (m1 c1:Nat) (A2:Option Addr) (m2 c2:Nat),v = .agg #[.slice A1 m1 c1,.slice A2 m2 c2]):=by
 have hA:=fun gA W (hW:Below w.heap.size w W) (q:zAB zB0 8 W gA [g])=>zFR scs A c g gA W (h.below hW) (hg.below hW) hB hG q
 have hT:=fun hh m W (hW:Below w.heap.size w W) (hH:zCW W A c scs hh m)=>zEj scs A c hh m g W (h.below hW) hH (hg.below hW) hB hG
 have hU:=fun hh m W (hW:Below w.heap.size w W) (hH:zCW W A c scs hh m)=>zGC scs A c hh m g W (h.below hW) hH (hg.below hW) hB hG
 have hCon:=fun (zs:List Sp) A1 c1 gt W (h1:zAB zo 2 W A1 zs) (h2:zs.length≤100000000000) (h3:∀ W',Below W.heap.size W W'→InC W' gt 0 [.int .i64 total])=>zIP zs A1 c1 41 #[.pointer (some ⟨gt,0,none⟩)] (fun s=>inB s.lo s.hi total) W h1 h2 (fun x W' _ hW'=>zHN x total gt W' (h3 W' hW'))
 have hul:=zEx (g:=g) hB
 have hyes:∀ zs:List Sp,(∀ n,zAn zs n↔zBy g.added (zAx scs g) (zAb scs g).length n)→(zs.any fun s=>inB s.lo s.hi total)=true:=fun zs hz=>by
  obtain ⟨s,hs,h1,h2⟩:=(hz total).2 ht
  exact List.any_eq_true.2 ⟨s,hs,zAu.2 ⟨h1,h2⟩⟩
 have hsF:=fun s (hs:s∈zAb scs g)=>zCd.1 (hB.ok s (zDo hs))
 have hadd:=zAu.1 hG.bare.added
 have hbd:=zGT hsF hG.len hadd (zAb scs g).length (Nat.le_refl _)
 have hlenz:∀ zs:List Sp,zBJ zs→(∀ n,zAn zs n↔zBy g.added (zAx scs g) (zAb scs g).length n)→zs.length≤100000000000:=fun zs hc hz=>by
  have h1:=hc.bd (B:=25000000) (fun n hn=>by have:=hbd n ((hz n).1 hn);omega)
  have:=zCU hc (B:=25000000) (by omega) (fun s hs=>⟨(h1 s hs).1,(h1 s hs).2.2⟩)
  omega
 have htot:=hbd total ht
 have hTr:=fun x (hx:x∈zAb scs g) W (hW:Below w.heap.size w W)=>zEi x g W (hsF x hx) ((h.tr x (zDo hx)).below hW) (hg.loads.below hW) hG.len (zE6 hG)
 have hSu:=fun x (hx:x∈zAb scs g) A1 c1 W h=>zGD (zC6 x g) A1 c1 W h (by have:=zDu (hsF x hx) (g:=g);omega) (fun y hy=>by have:=zDt (hsF x hx) (g:=g) hy;have:=hG.len;omega)
 have hTb:=fun x (hx:x∈zAb scs g) y (hy:y∈zC6 x g)=>zDt (hsF x hx) (g:=g) hy
 have hTl:=fun x (hx:x∈zAb scs g)=>zDu (hsF x hx) (g:=g)
 have hsm0:∀ t,zBO ((zAx scs g).drop (zAb scs g).length) t↔t=0:=fun t=>by rw [← zCK (scs:=scs) (g:=g)];exact zDv
 have hsmb:∀ k,k≤(zAb scs g).length→∀ t,zBO ((zAx scs g).drop k) t→0≤t∧t≤25000000:=fun k hk t ht=>by
  have:=zHE hsF hG.len ((zAb scs g).length - k) k (by omega) t ht
  omega
 have hPl:=fun x (hx:x∈zAb scs g) (k:Nat) (hk:k≤(zAb scs g).length) (a m:List Sp) A1 ca B1 cb W h1 h2 (hc:zBJ m) (hm:∀ t,zAn m t↔zBO ((zAx scs g).drop k) t) (h3:zA4 a ((zC6 x g).map zBe))=>zHR a m (zCZ x g) A1 B1 ca cb W h1 h2 hc (hc.bd fun n hn=>hsmb k hk n ((hm n).1 hn)) (zEr (hsF x hx) hG.len) (by unfold zCZ;rw [List.length_map];exact zDu (hsF x hx)) h3
 have hTb6:=fun x (hx:x∈zAb scs g) y (hy:y∈zC6 x g)=>(show -10≤y.gain∧y.gain≤10∧-100≤y.off∧y.off≤100∧0≤y.sum.lo∧y.sum.lo≤y.sum.hi∧y.sum.hi≤6000000 from by have:=hTb x hx y hy;have:=hG.len;omega)
 have hsmS:∀ k x,(zAb scs g)[k]?=some x→∀ t,zBO ((zAx scs g).drop k) t→∃ a b,zAn (zCZ x g) a∧zBO ((zAx scs g).drop (k+1)) b∧t=a+b:=fun k x hx t ht=>by
  have h1:=(zCi (by rw [zCK];exact (List.getElem?_eq_some_iff.1 hx).1)).1 ht
  rwa [zDA hx] at h1
 have hs0:zBO ((zAx scs g).drop 0) (total - g.added):=tot_sums.1 (by rw [zCK];exact ht)
 have hfT:∀ k,0≤((zCF scs scs.length k).getD sc0).step∧((zCF scs scs.length k).getD sc0).step≤500:=fun k=>by
  cases hk:zCF scs scs.length k with
  | none=>simp [sc0]
  | some s =>
   have hs:=(idTo_mem hk).1
   have:=(zCd.1 (hB.ok s hs)).step
   simp only [Option.getD_some];omega
 have hst:=fun j x (hx:(zAb scs g)[j]?=some x) m z hm hz=>zHs (scs:=scs) (g:=g) (j:=j) (x:=x) (z:=z) (m:=m) hx hm hz
 have hSM:∀ x,zCZ x g=(zC6 x g).map zBe:=fun _=>rfl
 simp only [hSM] at hPl hst hsmS
 obtain ⟨sm,hsm⟩:∃ sm:Nat→Int→Prop,∀ k,zBO ((zAx scs g).drop k)=sm k:=⟨fun k=>zBO ((zAx scs g).drop k),fun _=>rfl⟩
 obtain ⟨tl,htl⟩:∃ tl:ScM→List zBK,∀ s,zC6 s g=tl s:=⟨fun s=>zC6 s g,fun _=>rfl⟩
 simp only [hsm,htl] at *
 clear hsm htl hSM hsF hbd hTb
 generalize hus:zAb scs g=us at *
 obtain ⟨lA,loads,lc,ad,ba,ji,uA,run,uc,kA,str,kc,spd,stm⟩:=g
 unfold zF6 at hA
 unfold vGr at *
 simp only at *
 (refine ze (n:=215) Tryz.func18 rfl rfl rfl ?_)
 (repeat' (first|((with_reducible refine zV ?_);first|refine zO rfl rfl rfl ?_|refine zD rfl rfl rfl ?_|(refine zQ rfl rfl rfl ?_;refine ⟨_,rfl,?_⟩)|refine zS rfl rfl rfl ?_|(refine zd rfl rfl rfl rfl rfl (fun h=>?_) (fun h=>?_)<;>(dsimp only [cmpP] at h;(try (exfalso;omega))))|(refine zAU rfl rfl rfl rfl (fun _ _ q=>hA _ _ q.below (zAO (enc:=zB0) (by exact rfl) _ q.below q.own)) ?_;rintro ⟨bh,m⟩ -;dsimp only [List.cons_append,List.nil_append])|(refine zAU rfl rfl rfl rfl (fun _ _ q=>hT bh m _ q.below ⟨zBC q.own (Below.refl _ _) rfl,zGd q.own (by (repeat constructor))⟩) ?_;rintro ⟨⟨z1,z2⟩,zs⟩ ⟨hzc,hzm⟩;dsimp only [List.cons_append,List.nil_append];have hyz:=hyes zs hzm;have hlz:=hlenz zs hzc hzm)|refine zn rfl rfl rfl rfl (fun _ _ q=>(hyz ▸ hCon zs _ _ _ _ (zDD q.own (Below.refl _ _)) hlz (fun _ hW=>zBC q.own hW rfl))) ?_|(refine zIF (v:=.slice none 0 0) (n0:=us.length) rfl rfl rfl rfl rfl rfl rfl rfl rfl (by omega) (fun b=>?_))|(refine zIF (v:=.slice none 0 0) (n0:=us.length+1) rfl rfl rfl rfl rfl rfl rfl rfl rfl (by omega) (fun b=>?_))|refine zDM rfl rfl rfl rfl (fun _ _ q=>hU bh m _ q.below ⟨zBC q.own (Below.refl _ _) rfl,zGd q.own (by (repeat constructor))⟩) (fun A' c'=>?_)|refine zq rfl rfl rfl rfl ?_|refine zt rfl rfl rfl ?_|refine zb rfl rfl rfl rfl (by omega) ?_|refine zm rfl rfl rfl rfl (IntWalk.i64_in _ (by omega)) ?_|refine z7 rfl rfl rfl rfl (IntWalk.i64_in _ (by omega)) ?_|refine zK rfl rfl rfl rfl rfl (by omega) ?_|refine zL rfl rfl rfl rfl rfl (by first|decide|omega) ?_|refine zj rfl rfl rfl ?_|(refine zg rfl rfl rfl rfl rfl ?_;refine ⟨rfl,by first|decide|exact Nat.le_of_ble_eq_true rfl|(simp;omega),_,rfl,?_⟩)|(refine zh rfl rfl (fun b=>?_))|(refine zl rfl rfl rfl rfl (fun b=>?_))|(refine zy rfl rfl rfl ?_;refine ⟨_,rfl,?_⟩)|(refine zR rfl rfl rfl ?_;refine ⟨rfl,_,rfl,fun b=>?_⟩)|refine zx rfl rfl rfl ?_|refine zA5 rfl rfl rfl rfl ?_|refine zz rfl rfl rfl rfl ?_)|(with_reducible first|refine zW ?_|refine zC ?_|refine zU ?_|refine zB ?_|refine zX ?_|refine zT ?_|refine zF ?_|refine zf ?_|refine zP ?_|refine zZ ?_|refine zY ?_|refine za ?_|refine zG ?_|refine zJ ?_)|((with_reducible refine zE ?_ ?_);(· exact rfl))|((with_reducible refine zI ?_ ?_);(· exact rfl))|((with_reducible refine zH ?_ ?_);(· exact rfl))))
 rename_i bB bG bT bR bV bU g1 b11 g2 b12
 refine zIC (α:=zBK) (enc:=zAf) (k:=4) (g:=g1) (m:=us.length) (by (repeat constructor)) ?_
 refine zIC (α:=Sp) (enc:=zo) (k:=2) (g:=g2) (m:=us.length+1) (by (repeat constructor)) ?_
 obtain ⟨bz,hbz⟩:∃ y,y=b:=⟨_,rfl⟩
 subst hbz
 refine zDL (L:=List.replicate (us.length+1) (zCa:zBD Sp)) us.length (s:=(zCa:zBD Sp)) (by simp) (by (repeat constructor)) ?_
 refine zBx (fun _ h=>Own.blk_sl (enc:=zo) (xs:=[(⟨0,0⟩:Sp)]) (b:=bz) (by (repeat constructor)) h) ?_
 (repeat' (first|((with_reducible refine zV ?_);first|refine zO rfl rfl rfl ?_|refine zD rfl rfl rfl ?_|(refine zQ rfl rfl rfl ?_;refine ⟨_,rfl,?_⟩)|refine zS rfl rfl rfl ?_|(refine zd rfl rfl rfl rfl rfl (fun h=>?_) (fun h=>?_)<;>(dsimp only [cmpP] at h;(try (exfalso;omega))))|refine zK (I:=us.length) rfl rfl rfl rfl rfl (by omega) ?_|refine zEy (i:=us.length) (s:=(zCa:zBD Sp)) ⟨some ⟨bz,0,none⟩,[⟨0,0⟩],1⟩ rfl rfl rfl rfl rfl rfl (by (repeat constructor)) (by simp) ?_|refine zq rfl rfl rfl rfl ?_|refine zt rfl rfl rfl ?_|refine zb rfl rfl rfl rfl (by omega) ?_|refine zm rfl rfl rfl rfl (IntWalk.i64_in _ (by omega)) ?_|refine z7 rfl rfl rfl rfl (IntWalk.i64_in _ (by omega)) ?_|refine zK rfl rfl rfl rfl rfl (by omega) ?_|refine zL rfl rfl rfl rfl rfl (by first|decide|omega) ?_|refine zj rfl rfl rfl ?_|(refine zg rfl rfl rfl rfl rfl ?_;refine ⟨rfl,by first|decide|exact Nat.le_of_ble_eq_true rfl|(simp;omega),_,rfl,?_⟩)|(refine zh rfl rfl (fun b=>?_))|(refine zl rfl rfl rfl rfl (fun b=>?_))|(refine zy rfl rfl rfl ?_;refine ⟨_,rfl,?_⟩)|(refine zR rfl rfl rfl ?_;refine ⟨rfl,_,rfl,fun b=>?_⟩)|refine zx rfl rfl rfl ?_|refine zA5 rfl rfl rfl rfl ?_|refine zz rfl rfl rfl rfl ?_)|(with_reducible first|refine zW ?_|refine zC ?_|refine zU ?_|refine zB ?_|refine zX ?_|refine zT ?_|refine zF ?_|refine zf ?_|refine zP ?_|refine zZ ?_|refine zY ?_|refine za ?_|refine zG ?_|refine zJ ?_)|((with_reducible refine zE ?_ ?_);(· exact rfl))|((with_reducible refine zI ?_ ?_);(· exact rfl))|((with_reducible refine zH ?_ ?_);(· exact rfl))))
 refine zDK (re:=zCs zo 2) (L:=List.replicate (us.length+1) (zCa:zBD Sp)) us.length (s:=(zCa:zBD Sp)) ⟨some ⟨bz,0,none⟩,[⟨0,0⟩],1⟩ (by simp) (by (repeat constructor)) (by (repeat constructor)) (by (repeat constructor)) ?_
 obtain ⟨A9,hA9⟩:∃ y,y=A':=⟨_,rfl⟩
 obtain ⟨c10,hc10⟩:∃ y,y=c':=⟨_,rfl⟩
 subst hA9 hc10
 clear hA hT hU hCon hyes hlenz hyz hlz
 (repeat' (first|((with_reducible refine zV ?_);first|refine zO rfl rfl rfl ?_|refine zD rfl rfl rfl ?_|(refine zQ rfl rfl rfl ?_;refine ⟨_,rfl,?_⟩)|refine zS rfl rfl rfl ?_|(refine zd rfl rfl rfl rfl rfl (fun h=>?_) (fun h=>?_)<;>(dsimp only [cmpP] at h;(try (exfalso;omega))))|(refine zAU rfl rfl rfl rfl (fun _ _ q=>zH6 us A9 c10 _) ?_;rintro gB -;dsimp only [List.cons_append,List.nil_append])|refine zq rfl rfl rfl rfl ?_|refine zt rfl rfl rfl ?_|refine zb rfl rfl rfl rfl (by omega) ?_|refine zm rfl rfl rfl rfl (IntWalk.i64_in _ (by omega)) ?_|refine z7 rfl rfl rfl rfl (IntWalk.i64_in _ (by omega)) ?_|refine zK rfl rfl rfl rfl rfl (by omega) ?_|refine zL rfl rfl rfl rfl rfl (by first|decide|omega) ?_|refine zj rfl rfl rfl ?_|(refine zg rfl rfl rfl rfl rfl ?_;refine ⟨rfl,by first|decide|exact Nat.le_of_ble_eq_true rfl|(simp;omega),_,rfl,?_⟩)|(refine zh rfl rfl (fun b=>?_))|(refine zl rfl rfl rfl rfl (fun b=>?_))|(refine zy rfl rfl rfl ?_;refine ⟨_,rfl,?_⟩)|(refine zR rfl rfl rfl ?_;refine ⟨rfl,_,rfl,fun b=>?_⟩)|refine zx rfl rfl rfl ?_|refine zA5 rfl rfl rfl rfl ?_|refine zz rfl rfl rfl rfl ?_)|(with_reducible first|refine zW ?_|refine zC ?_|refine zU ?_|refine zB ?_|refine zX ?_|refine zT ?_|refine zF ?_|refine zf ?_|refine zP ?_|refine zZ ?_|refine zY ?_|refine za ?_|refine zG ?_|refine zJ ?_)|((with_reducible refine zE ?_ ?_);(· exact rfl))|((with_reducible refine zI ?_ ?_);(· exact rfl))|((with_reducible refine zH ?_ ?_);(· exact rfl))))
 refine zGP ?_
 refine U.sub (R':=[(63,.func (.func 75) #[] #[.pointer (some ⟨gB,0,none⟩)]),(4,.pointer (some ⟨bG,0,none⟩)),(5,.pointer (some ⟨bT,0,none⟩)),(6,.pointer (some ⟨bR,0,none⟩)),(8,.pointer (some ⟨bh,0,none⟩)),(10,.pointer (some ⟨bU,0,none⟩)),(11,.pointer (some ⟨b11,0,none⟩)),(12,.pointer (some ⟨b12,0,none⟩))]) (by (repeat first|exact lK1|refine zp rfl ?_)) (Out.all _) ?_
 refine zC4 (ι:=List (zBD zBK) × List (zBD Sp)) (α:=Nat × ScM) (gf:=75) (lb:=[.pointer (some ⟨gB,0,none⟩)]) (bs:=[]) (fun _=>[.blk gB [.slice A9 us.length c10],.sl zAW 7 A9 us]) zD1 (NBackC us) (zIA us) (fun ys st=>ys.length≤us.length∧zEn us tl sm (us.length - ys.length) st.1 st.2) (fun st=>[.zC1 zCC (zCs zAf 4) g1 st.1,.zC1 zCC (zCs zo 2) g2 st.2,.blk b12 [.slice (some ⟨g2,0,none⟩) (us.length+1) (us.length+1)],.blk b11 [.slice (some ⟨g1,0,none⟩) us.length us.length],.blk bU [.slice A9 us.length c10],.blk bG [.slice lA loads.length lc,.int .i64 ad,.int .i64 ba,.int .i64 ji,.slice uA run.length uc,.slice kA str.length kc,.int .i64 spd,.bool stm],.blk bT [.int .i64 total],.blk bR [.slice none 0 0,.slice none 0 0],.blk bh [.slice A scs.length c,.map (some m)],.fm m vI vSc (zCF scs scs.length)]) (List.replicate us.length (zCa:zBD zBK),(List.replicate (us.length+1) (zCa:zBD Sp)).set us.length ⟨some ⟨bz,0,none⟩,[⟨0,0⟩],1⟩) rfl (by (repeat constructor)) ⟨Nat.zero_le _,zEn.start hsm0⟩ (fun _=>rfl) (by decide) (zI4 us A9 c10 gB w (by omega)) ?_ ?_
 rotate_left
 ·rintro bd ys ⟨L1,L2⟩ hE ⟨hyl,hI⟩
  have hE:ys.length=us.length:=hE
  rw [hE,Nat.sub_self] at hI
  simp only [List.cons_append,List.nil_append]
  refine U.sub (R':=[(4,.pointer (some ⟨bG,0,none⟩)),(5,.pointer (some ⟨bT,0,none⟩)),(6,.pointer (some ⟨bR,0,none⟩)),(8,.pointer (some ⟨bh,0,none⟩)),(10,.pointer (some ⟨bU,0,none⟩)),(11,.pointer (some ⟨b11,0,none⟩)),(12,.pointer (some ⟨b12,0,none⟩))]) (H':=[.zC1 zCC (zCs zAf 4) g1 L1,.zC1 zCC (zCs zo 2) g2 L2,.blk b12 [.slice (some ⟨g2,0,none⟩) (us.length+1) (us.length+1)],.blk b11 [.slice (some ⟨g1,0,none⟩) us.length us.length],.blk bU [.slice A9 us.length c10],.sl zAW 7 A9 us,.blk bG [.slice lA loads.length lc,.int .i64 ad,.int .i64 ba,.int .i64 ji,.slice uA run.length uc,.slice kA str.length kc,.int .i64 spd,.bool stm],.blk bT [.int .i64 total],.blk bR [.slice none 0 0,.slice none 0 0],.blk bh [.slice A scs.length c,.map (some m)],.fm m vI vSc (zCF scs scs.length),.dfr [bd]]) (by (repeat first|exact lK1|refine zp rfl ?_)) (by (repeat constructor)) ?_
  repeat (first|with_reducible refine zY ?_|with_reducible refine zB ?_)
  refine truth_t2 ⟨lA,loads,lc,ad,ba,ji,uA,run,uc,kA,str,kc,spd,stm⟩ us tl sm L1 L2 A A9 scs.length c c10 bh m bG bT bR bU b11 b12 g1 g2 us.length (us.length+1) us.length (us.length+1) bd (zCF scs scs.length) total w hg.loads hG.len (zE6 hG) hadd (by omega) hfT hI hI.l1.symm hI.l2.symm hul hTb6 hTl hsmb hsmS hs0 _ rfl _ (fun TA tm tc b2 A2 m2 c2=>?_)
  show U w 215 (dL [b2,bd]) _ _ _
  exact zEq (by (repeat constructor)) (by (exact zAX.cons (by exact res1c rfl (by exact rfl)) (zAX.cons (by exact zBv.tmp rfl) zAX.nil))) (.agg #[.slice TA tm tc,.slice A2 m2 c2]) ⟨TA,tm,tc,A2,m2,c2,rfl⟩ rfl (fun _ h=>h.sub (by (repeat constructor)))
 rintro ly ys ⟨k,x⟩ ⟨L1,L2⟩ ⟨r1,r2,rfn,rtm,rps,ras,rbo,rde⟩ W HH ⟨hk,hx⟩ ⟨hyl,hI⟩ hr hrp hW
 simp only at hk hx hyl hI hr hrp
 subst hr hrp
 have hkl:k<us.length:=by omega
 rw [show us.length - ys.length=k+1 by omega] at hI
 have hxm:=List.mem_of_getElem? hx
 obtain ⟨q2,hq2,hq2c,hq2m⟩:=hI.later (k+1) (Nat.le_refl _) (by omega)
 obtain ⟨p1,hp1⟩:∃ p,L1[k]?=some p:=⟨_,List.getElem?_eq_getElem (by have:=hI.l1;omega)⟩
 obtain ⟨p2,hp2⟩:∃ p,L2[k]?=some p:=⟨_,List.getElem?_eq_getElem (by have:=hI.l2;omega)⟩
 have hL1:=hI.l1
 have hL2:=hI.l2
 have hstep:=fun (s1:zBD zBK) (s2:zBD Sp) h1 h2 h3=>hI.step hx (s1:=s1) (s2:=s2) h1 h2 h3
 have hstx:=fun z (hz:zDJ z ((tl x).map zBe) q2.xs)=>hst k x hx q2.xs z hq2m hz
 have hTrx:=hTr x hxm
 have hSux:=hSu x hxm
 have hPlx:=fun a A1 ca B1 cb W h1 h2 h3=>hPl x hxm (k+1) (by omega) a q2.xs A1 ca B1 cb W h1 h2 hq2c hq2m h3
 have htlx:=hTl x hxm
 unfold zCV at hTrx
 clear hst hTr hSu hPl
 generalize tl x=tx at *
 obtain ⟨xi,xst,⟨xg1,xg2⟩,⟨xo1,xo2⟩,xA,xt,xc⟩:=x
 unfold vSc at hTrx
 simp only at hTrx
 simp only [zD1,zEo,List.cons_append,List.nil_append]
 refine zAo (enc:=zAW) (xs:=us) (by (repeat constructor)) (by omega) (fun bA oA hAe=>?_)
 subst hAe
 have:zAZ us k ⟨xi,xst,⟨xg1,xg2⟩,⟨xo1,xo2⟩,xA,xt,xc⟩:=⟨hx⟩
 refine zDL k (s:=p1) hp1 (by (repeat constructor)) ?_
 (repeat' (first|((with_reducible refine zV ?_);first|refine zO rfl rfl rfl ?_|refine zD rfl rfl rfl ?_|(refine zQ rfl rfl rfl ?_;refine ⟨_,rfl,?_⟩)|refine zS rfl rfl rfl ?_|(refine zd rfl rfl rfl rfl rfl (fun h=>?_) (fun h=>?_)<;>(dsimp only [cmpP] at h;(try (exfalso;omega))))|refine zq rfl rfl rfl rfl ?_|refine zt rfl rfl rfl ?_|refine zb rfl rfl rfl rfl (by omega) ?_|refine zm rfl rfl rfl rfl (IntWalk.i64_in _ (by omega)) ?_|refine z7 rfl rfl rfl rfl (IntWalk.i64_in _ (by omega)) ?_|refine zK rfl rfl rfl rfl rfl (by omega) ?_|refine zL rfl rfl rfl rfl rfl (by first|decide|omega) ?_|refine zj rfl rfl rfl ?_|(refine zg rfl rfl rfl rfl rfl ?_;refine ⟨rfl,by first|decide|exact Nat.le_of_ble_eq_true rfl|(simp;omega),_,rfl,?_⟩)|(refine zh rfl rfl (fun b=>?_))|(refine zl rfl rfl rfl rfl (fun b=>?_))|(refine zy rfl rfl rfl ?_;refine ⟨_,rfl,?_⟩)|(refine zR rfl rfl rfl ?_;refine ⟨rfl,_,rfl,fun b=>?_⟩)|refine zx rfl rfl rfl ?_|refine zA5 rfl rfl rfl rfl ?_|refine zz rfl rfl rfl rfl ?_)|(with_reducible first|refine zW ?_|refine zC ?_|refine zU ?_|refine zB ?_|refine zX ?_|refine zT ?_|refine zF ?_|refine zf ?_|refine zP ?_|refine zZ ?_|refine zY ?_|refine za ?_|refine zG ?_|refine zJ ?_)|((with_reducible refine zE ?_ ?_);(· exact rfl))|((with_reducible refine zI ?_ ?_);(· exact rfl))|((with_reducible refine zH ?_ ?_);(· exact rfl))))
 refine zDs (by (repeat constructor)) rfl ?_
 (repeat' (first|((with_reducible refine zV ?_);first|refine zO rfl rfl rfl ?_|refine zD rfl rfl rfl ?_|(refine zQ rfl rfl rfl ?_;refine ⟨_,rfl,?_⟩)|refine zS rfl rfl rfl ?_|(refine zd rfl rfl rfl rfl rfl (fun h=>?_) (fun h=>?_)<;>(dsimp only [cmpP] at h;(try (exfalso;omega))))|refine zq rfl rfl rfl rfl ?_|refine zt rfl rfl rfl ?_|refine zb rfl rfl rfl rfl (by omega) ?_|refine zm rfl rfl rfl rfl (IntWalk.i64_in _ (by omega)) ?_|refine z7 rfl rfl rfl rfl (IntWalk.i64_in _ (by omega)) ?_|refine zK rfl rfl rfl rfl rfl (by omega) ?_|refine zL rfl rfl rfl rfl rfl (by first|decide|omega) ?_|refine zj rfl rfl rfl ?_|(refine zg rfl rfl rfl rfl rfl ?_;refine ⟨rfl,by first|decide|exact Nat.le_of_ble_eq_true rfl|(simp;omega),_,rfl,?_⟩)|(refine zh rfl rfl (fun b=>?_))|(refine zl rfl rfl rfl rfl (fun b=>?_))|(refine zy rfl rfl rfl ?_;refine ⟨_,rfl,?_⟩)|(refine zR rfl rfl rfl ?_;refine ⟨rfl,_,rfl,fun b=>?_⟩)|refine zx rfl rfl rfl ?_|refine zA5 rfl rfl rfl rfl ?_|refine zz rfl rfl rfl rfl ?_)|(with_reducible first|refine zW ?_|refine zC ?_|refine zU ?_|refine zB ?_|refine zX ?_|refine zT ?_|refine zF ?_|refine zf ?_|refine zP ?_|refine zZ ?_|refine zY ?_|refine za ?_|refine zG ?_|refine zJ ?_)|((with_reducible refine zE ?_ ?_);(· exact rfl))|((with_reducible refine zI ?_ ?_);(· exact rfl))|((with_reducible refine zH ?_ ?_);(· exact rfl))))
 (refine zA9 [] [] [] rfl (show ([]:List Nat).Nodup by decide) (fun _ h=>h) (by kernel_rfl) [[],[Y],[Y,Y],[Y,Y,Y],[Z,Z,Y,Y],[Z,Z,Z,Y,Y],[Y,Y,Y,Y,Y,Y],[Z,Z,Z,Z,Z,Y,Y],[Z,Z,Z,Z,Z,Z,Z,Z],[Z,Z,Z,Z,Z,Z,Z,Z,Z]] (by kernel_rfl) (by kernel_rfl) (by kernel_rfl) (by kernel_rfl) (by kernel_rfl) ?_)
 (repeat' (first|(((with_reducible refine zDU ?_ ?_);(· exact rfl);refine ⟨_,fun G=>(by (try simp (decide:=true) only [vis,see,fltT,zAV,Nat.reduceAdd,Nat.reduceSub,if_true,if_false,List.set_cons_zero,List.set_cons_succ,List.set_nil,List.nil_append,List.cons_append]);rfl),?_⟩);first|refine zw _ (fun _=>zAT rfl rfl) (fun _=>rfl) rfl (by intro G G' h;simp (decide:=true) only [h]) ?_|refine zw _ (fun _=>zAF rfl rfl (by exact rfl)) (fun _=>rfl) rfl (by intro G G' h;simp (decide:=true) only [h]) ?_|refine zw _ (fun _=>zu (I:=k) rfl rfl rfl rfl (by omega)) (fun _=>rfl) rfl (by exact fun _ _ _=>rfl) ?_|(refine zER (α:=Option Addr × Nat) rfl (fun _=>rfl) rfl (fun _=>rfl) (fun _=>rfl) (fun _ _ _ q=>hTrx _ q.below) ?_)|refine zw _ (fun _=>zu rfl rfl rfl rfl (by omega)) (fun _=>rfl) rfl (by intro G G' h;simp (decide:=true) only [h]) ?_|refine zw _ (fun _=>zAJ rfl rfl rfl rfl (by first|decide|omega)) (fun _=>rfl) rfl (by intro G G' h;simp (decide:=true) only [h]) ?_)|((with_reducible refine zBk ?_ ?_);(· exact rfl))|(with_reducible refine zCb ?_)))
 (intro G;simp only [regsT,zAV,zBY,ini,List.nil_append,List.cons_append])
 try simp only [Nat.reduceAdd]
 generalize (deC (Option Addr × Nat) (G 7).g)=Z1
 obtain ⟨Z1A,z1c⟩:=Z1
 simp only
 (repeat' (first|((with_reducible refine zV ?_);first|refine zO rfl rfl rfl ?_|refine zD rfl rfl rfl ?_|(refine zQ rfl rfl rfl ?_;refine ⟨_,rfl,?_⟩)|refine zS rfl rfl rfl ?_|(refine zd rfl rfl rfl rfl rfl (fun h=>?_) (fun h=>?_)<;>(dsimp only [cmpP] at h;(try (exfalso;omega))))|refine zEy (i:=k) (s:=p1) ⟨Z1A,tx,z1c⟩ rfl rfl rfl rfl rfl rfl (by (repeat constructor)) (by omega) ?_|refine zq rfl rfl rfl rfl ?_|refine zt rfl rfl rfl ?_|refine zb rfl rfl rfl rfl (by omega) ?_|refine zm rfl rfl rfl rfl (IntWalk.i64_in _ (by omega)) ?_|refine z7 rfl rfl rfl rfl (IntWalk.i64_in _ (by omega)) ?_|refine zK rfl rfl rfl rfl rfl (by omega) ?_|refine zL rfl rfl rfl rfl rfl (by first|decide|omega) ?_|refine zj rfl rfl rfl ?_|(refine zg rfl rfl rfl rfl rfl ?_;refine ⟨rfl,by first|decide|exact Nat.le_of_ble_eq_true rfl|(simp;omega),_,rfl,?_⟩)|(refine zh rfl rfl (fun b=>?_))|(refine zl rfl rfl rfl rfl (fun b=>?_))|(refine zy rfl rfl rfl ?_;refine ⟨_,rfl,?_⟩)|(refine zR rfl rfl rfl ?_;refine ⟨rfl,_,rfl,fun b=>?_⟩)|refine zx rfl rfl rfl ?_|refine zA5 rfl rfl rfl rfl ?_|refine zz rfl rfl rfl rfl ?_)|(with_reducible first|refine zW ?_|refine zC ?_|refine zU ?_|refine zB ?_|refine zX ?_|refine zT ?_|refine zF ?_|refine zf ?_|refine zP ?_|refine zZ ?_|refine zY ?_|refine za ?_|refine zG ?_|refine zJ ?_)|((with_reducible refine zE ?_ ?_);(· exact rfl))|((with_reducible refine zI ?_ ?_);(· exact rfl))|((with_reducible refine zH ?_ ?_);(· exact rfl))))
 refine zDL k (s:=p2) hp2 (by (repeat constructor)) ?_
 have:zAZ (L1.set k (⟨Z1A,tx,z1c⟩:zBD zBK)) k (⟨Z1A,tx,z1c⟩:zBD zBK):=⟨by rw [List.getElem?_set_self (by omega)]⟩
 have:zAZ (L2.set k p2) (k+1) q2:=⟨by rw [List.getElem?_set_ne (by omega)];exact hq2⟩
 (refine zA9 [] [] [] rfl (show ([]:List Nat).Nodup by decide) (fun _ h=>h) (by kernel_rfl) [[],[Y],[Y,Y],[Y,Y,Y],[Z,Z,Y,Y],[Z,Z,Z,Y,Y],[Z,Z,Z,Z,Y,Y],[Y,Y,Y,Y,Y,Y,Y],[Y,Y,Y,Y,Y,Y,Y,Y],[Z,Y,Y,Y,Y,Y,Y,Y,Y],[Z,Z,Z,Y,Y,Y,Y,Y,Y,Y],[Z,Z,Z,Z,Y,Y,Y,Y,Y,Y,Y],[Z,Z,Z,Z,Z,Z,Z,Z,Z,Z,Y,Y],[Z,Z,Z,Z,Z,Z,Z,Z,Z,Z,Z,Z,Z],[Z,Z,Z,Z,Z,Z,Z,Z,Z,Z,Z,Z,Z,Z]] (by kernel_rfl) (by kernel_rfl) (by kernel_rfl) (by kernel_rfl) (by kernel_rfl) ?_)
 (repeat' (first|(((with_reducible refine zDU ?_ ?_);(· exact rfl);refine ⟨_,fun G=>(by (try simp (decide:=true) only [vis,see,fltT,zAV,Nat.reduceAdd,Nat.reduceSub,if_true,if_false,List.set_cons_zero,List.set_cons_succ,List.set_nil,List.nil_append,List.cons_append]);rfl),?_⟩);first|refine zw _ (fun _=>zAT rfl rfl) (fun _=>rfl) rfl (by intro G G' h;simp (decide:=true) only [h]) ?_|refine zw _ (fun _=>zAF rfl rfl (by exact rfl)) (fun _=>rfl) rfl (by intro G G' h;simp (decide:=true) only [h]) ?_|refine zw _ (fun _=>zu (I:=k) rfl rfl rfl rfl (by omega)) (fun _=>rfl) rfl (by exact fun _ _ _=>rfl) ?_|refine zw _ (fun _=>zu (I:=k+1) rfl rfl rfl (by omega) (by omega)) (fun _=>rfl) rfl (by exact fun _ _ _=>rfl) ?_|(refine zER (α:=(Option Addr × Nat) × List Sp) rfl (fun _=>rfl) rfl (fun _=>rfl) (fun _=>rfl) (fun _ _ _ q=>hSux _ _ _ (zDD q.own (Below.refl _ _))) ?_)|(refine zER (α:=(Option Addr × Nat) × List Sp) rfl (fun _=>rfl) rfl (fun _=>rfl) (fun _=>rfl) (fun _ _ _ q=>hPlx _ _ _ _ _ _ (zDD q.own (Below.refl _ _)) (all_slOf q.own (by (repeat constructor)) hq2 (by omega)) (zHK q.own (by (repeat constructor)))) ?_)|refine zw _ (fun _=>zAl rfl rfl rfl (by omega)) (fun _=>rfl) rfl (by intro G G' h;simp (decide:=true) only [h]) ?_|refine zw _ (fun _=>zA8 rfl rfl rfl (IntWalk.i64_in _ (by omega))) (fun _=>rfl) rfl (by intro G G' h;simp (decide:=true) only [h]) ?_|refine zw _ (fun _=>zu rfl rfl rfl rfl (by omega)) (fun _=>rfl) rfl (by intro G G' h;simp (decide:=true) only [h]) ?_|refine zw _ (fun _=>zAJ rfl rfl rfl rfl (by first|decide|omega)) (fun _=>rfl) rfl (by intro G G' h;simp (decide:=true) only [h]) ?_)|((with_reducible refine zBk ?_ ?_);(· exact rfl))|(with_reducible refine zCb ?_)))
 (intro G;simp only [regsT,zAV,zBY,ini,List.nil_append,List.cons_append])
 try simp only [Nat.reduceAdd]
 generalize (deC ((Option Addr × Nat) × List Sp) (G 12).g)=Z
 obtain ⟨⟨ZA,zc⟩,zs⟩:=Z
 simp only
 refine zIH (by (repeat constructor)) fun hz=>?_
 (repeat' (first|((with_reducible refine zV ?_);first|refine zO rfl rfl rfl ?_|refine zD rfl rfl rfl ?_|(refine zQ rfl rfl rfl ?_;refine ⟨_,rfl,?_⟩)|refine zS rfl rfl rfl ?_|(refine zd rfl rfl rfl rfl rfl (fun h=>?_) (fun h=>?_)<;>(dsimp only [cmpP] at h;(try (exfalso;omega))))|refine zEy (i:=k) (s:=p2) ⟨ZA,zs,zc⟩ rfl rfl rfl rfl rfl rfl (by (repeat constructor)) (by omega) ?_|refine zq rfl rfl rfl rfl ?_|refine zt rfl rfl rfl ?_|refine zb rfl rfl rfl rfl (by omega) ?_|refine zm rfl rfl rfl rfl (IntWalk.i64_in _ (by omega)) ?_|refine z7 rfl rfl rfl rfl (IntWalk.i64_in _ (by omega)) ?_|refine zK rfl rfl rfl rfl rfl (by omega) ?_|refine zL rfl rfl rfl rfl rfl (by first|decide|omega) ?_|refine zj rfl rfl rfl ?_|(refine zg rfl rfl rfl rfl rfl ?_;refine ⟨rfl,by first|decide|exact Nat.le_of_ble_eq_true rfl|(simp;omega),_,rfl,?_⟩)|(refine zh rfl rfl (fun b=>?_))|(refine zl rfl rfl rfl rfl (fun b=>?_))|(refine zy rfl rfl rfl ?_;refine ⟨_,rfl,?_⟩)|(refine zR rfl rfl rfl ?_;refine ⟨rfl,_,rfl,fun b=>?_⟩)|refine zx rfl rfl rfl ?_|refine zA5 rfl rfl rfl rfl ?_|refine zz rfl rfl rfl rfl ?_)|(with_reducible first|refine zW ?_|refine zC ?_|refine zU ?_|refine zB ?_|refine zX ?_|refine zT ?_|refine zF ?_|refine zf ?_|refine zP ?_|refine zZ ?_|refine zY ?_|refine za ?_|refine zG ?_|refine zJ ?_)|((with_reducible refine zE ?_ ?_);(· exact rfl))|((with_reducible refine zI ?_ ?_);(· exact rfl))|((with_reducible refine zH ?_ ?_);(· exact rfl))))
 refine zDK (re:=zCs zAf 4) (L:=L1) k (s:=p1) ⟨Z1A,tx,z1c⟩ hp1 (by (repeat constructor)) (by (repeat constructor)) (by (repeat constructor)) ?_
 refine zDK (re:=zCs zo 2) (L:=L2) k (s:=p2) ⟨ZA,zs,zc⟩ hp2 (by (repeat constructor)) (by (repeat constructor)) (by (repeat constructor)) ?_
 exact zC5 none (.inl ⟨rfl,rfl⟩) rfl (by (repeat constructor)) (L1.set k ⟨Z1A,tx,z1c⟩,L2.set k ⟨ZA,zs,zc⟩) ⟨by simp only [List.length_append,List.length_cons,List.length_nil];omega,by simp only [List.length_append,List.length_cons,List.length_nil];rw [show us.length - (ys.length+(0+1))=k by omega];exact hstep _ _ rfl hz.canon (hstx zs hz)⟩ hW (fun _ h=>h.sub (by (repeat constructor)))
end Go.Proofs.YtcpdjamlhhfbhaaGreat.Two
namespace Go.Proofs.YtcpdjamlhhfbhaaGreat.Two
variable {ro : Option Nat}
open Go.RowKit
set_option maxRecDepth 20000
theorem zGy (a:List Sp) (A B:Option Addr) (c d:Nat) (w:World) (ha:zAB zo 2 w A a) (hb:zAB zo 2 w B a) (hl:a.length≤1000000):Gv Tryz.prog 35 [.slice A a.length c,.slice B a.length d] w (.bool true) :=
 ((zHi a a A B c d w ha hb hl hl).of (by simp)).gv
def t04 : List St:=[⟨1,⟨1000,1000⟩,⟨100,100⟩,⟨0,0⟩,0,0⟩]
def s04 : SlM:=⟨3,⟨50,50⟩,⟨0,0⟩,⟨0,0⟩,⟨60000,60000⟩,⟨0,0⟩⟩
theorem ev_h04 : zBL s04 t04 2=[⟨50,50⟩,⟨150,150⟩]:=by decide +kernel
theorem fit04 : FitT t04:=fun s hs=>by simp [t04] at hs;subst hs;decide
set_option maxHeartbeats 2000000 in
theorem zDI (w:World):Gv Tryz.prog 13 [] w (.bool true):=by
 have hH:=fun W A (hA:zAB zA3 9 W A t04)=>zDf s04 t04 A 1 W hA fit04 (by decide) (by decide +kernel) (by decide +kernel)
 rw [show t04.length+1=2 from rfl,ev_h04] at hH
 unfold Gv
 unfold vSl s04 at *
 simp only at hH
 (refine ze (n:=44) Tryz.func13 rfl rfl rfl ?_)
 (repeat' (first|((with_reducible refine zV ?_);first|refine zO rfl rfl rfl ?_|refine zD rfl rfl rfl ?_|(refine zAU rfl rfl rfl rfl (fun _ _ q=>zI1 _) ?_;rintro bp -;dsimp only [List.cons_append,List.nil_append])|refine zn rfl rfl rfl rfl (fun _ _ q=>zDO _ _ _) ?_|refine zq rfl rfl rfl rfl ?_|(refine zg rfl rfl rfl rfl rfl ?_;refine ⟨rfl,by first|decide|exact Nat.le_of_ble_eq_true rfl|(simp;omega),_,rfl,?_⟩)|(refine zh rfl rfl (fun b=>?_))|(refine zy rfl rfl rfl ?_;refine ⟨_,rfl,?_⟩)|(refine zR rfl rfl rfl ?_;refine ⟨rfl,_,rfl,fun b=>?_⟩))|(with_reducible first|refine zW ?_|refine zC ?_|refine zU ?_|refine zB ?_)))
 obtain ⟨b3,hb3⟩:∃ y,y=b:=⟨_,rfl⟩
 subst hb3
 obtain ⟨bT,hbT⟩:∃ y,y=b:=⟨_,rfl⟩
 subst hbT
 refine zBx (H':=[.blk b3 [.slice (some ⟨bT,0,none⟩) 1 1],.blk bT (zA3 ⟨1,⟨1000,1000⟩,⟨100,100⟩,⟨0,0⟩,0,0⟩),.blk bp [.int .i64 500,.int .i64 500]]) (fun _ h=>h) ?_
 (refine zA9 [] [] [] rfl (show ([]:List Nat).Nodup by decide) (fun _ h=>h) (by kernel_rfl) [[],[Y],[Z,Y],[Z,Z,Y],[Z,Z,Z,Z],[Z,Z,Z,Z,Z],[Z,Z,Z,Z,Z,Z],[Y,Z,Z,Z,Z,Z,Z],[Y,Z,Z,Z,Z,Z,Z,Z],[Z,Z,Z,Z,Z,Z,Z,Z,Z]] (by kernel_rfl) (by kernel_rfl) (by kernel_rfl) (by kernel_rfl) (by kernel_rfl) ?_)
 (repeat' (first|(((with_reducible refine zDU ?_ ?_);(· exact rfl);refine ⟨_,fun G=>(by (try simp (decide:=true) only [vis,see,fltT,zAV,Nat.reduceAdd,Nat.reduceSub,if_true,if_false,List.set_cons_zero,List.set_cons_succ,List.set_nil,List.nil_append,List.cons_append]);rfl),?_⟩);first|refine zw _ (fun _=>zAT rfl rfl) (fun _=>rfl) rfl (by intro G G' h;simp (decide:=true) only [h]) ?_|refine zw _ (fun _=>zAF rfl rfl (by exact rfl)) (fun _=>rfl) rfl (by intro G G' h;simp (decide:=true) only [h]) ?_|refine zw _ (fun _=>zAS rfl rfl) (fun _=>rfl) rfl (by intro G G' h;simp (decide:=true) only [h]) ?_|refine zCI _ rfl (fun _=>rfl) rfl (fun _=>rfl) (fun _=>rfl) (fun _ _ _ q=>zDO _ _ _) (by intro G G' h;simp (decide:=true) only [h]) ?_|refine c_newsl rfl (fun _=>rfl) rfl (fun _=>rfl) (fun _=>rfl) (fun _ _ _ q=>hH _ _ (zAO (enc:=zA3) (by exact rfl) _ q.below q.own)) ?_|refine zw _ (fun _=>zAM rfl rfl rfl) (fun _=>rfl) rfl (by intro G G' h;simp (decide:=true) only [h]) ?_|refine zw _ (fun _=>zAN rfl rfl (by exact rfl)) (fun _=>rfl) rfl (by intro G G' h;simp (decide:=true) only [h]) ?_)|(with_reducible refine zCb ?_)))
 (intro G;simp only [regsT,zAV,zBY,ini,List.nil_append,List.cons_append])
 (repeat' (first|((with_reducible refine zV ?_);first|refine zO rfl rfl rfl ?_|refine zD rfl rfl rfl ?_|refine zr rfl rfl rfl rfl ?_|(refine zd rfl rfl rfl rfl rfl (fun h=>?_) (fun h=>?_)<;>(dsimp only [cmpP] at h;(try (exfalso;omega))))|refine zn rfl rfl rfl rfl (fun _ _ q=>zDO _ _ _) ?_|refine zn rfl rfl rfl rfl (fun _ _ q=>zGy [⟨500,500⟩] _ _ _ _ _ (zAO (enc:=zo) (by exact rfl) _ q.below q.own) (zAO (enc:=zo) (by exact rfl) _ q.below q.own) (by decide)) ?_|refine zn rfl rfl rfl rfl (fun _ _ q=>zGy [⟨50,50⟩,⟨150,150⟩] _ _ _ _ _ (zDD q.own (Below.refl _ _)) (zGz (enc:=zo) [⟨50,50⟩,⟨150,150⟩] (by exact rfl) _ q.below q.own) (by decide)) ?_|(refine zR rfl rfl rfl ?_;refine ⟨rfl,_,rfl,fun b=>?_⟩))|(with_reducible first|refine zW ?_|refine zC ?_|refine zU ?_|refine zB ?_|refine zX ?_)))
 exact zk (by exact rTm rfl) () trivial rfl (fun _ h=>h.sub (by (repeat constructor)))
end Go.Proofs.YtcpdjamlhhfbhaaGreat.Two
