/- B12 -/
import Derived.Test.YtcpdjamlhhfbhaaDoorB9
import Derived.Test.YtcpdjamlhhfbhaaDoorB11
import Derived.Test.YtcpdjamlhhfbhaaDoorB10
set_option linter.unusedSimpArgs false
set_option linter.unusedVariables false
namespace Go.Proofs.YtcpdjamlhhfbhaaDoor
open Go.RowKit
set_option maxRecDepth 20000
set_option maxHeartbeats 4000000 in
theorem left_k2 (t:List St) (A:Option Addr) (cap:Nat) (kb:KB) (ms:List Me) (m:Nat) (w:World) (ht:zS zO 9 w A t) (hv:valid t=true) (hok:∀ x∈ms,zDb t.length x=true) (hkb:kb.ok ms.length) (hm:w.heap[m]?=some (.map (zh kb ms) kb.c)) (b4 b6 b8 g c':Nat) (c:Code) (hc:Tryd.f30.body.bind zBO=some c) (AG:Act→World→Prop) (Q:Exit→Act→World→Prop)
  (hag:fine2 t ms→U w 164 [] (zFC m b4 b6 b8 t.length 3) (zFD b4 b6 b8 g t.length c' (stg t ms 3)) AG)
  (hret:zAr t ms=false→∀ a W,Kn w 164 [] [(4,.pointer (some ⟨b4,0,none⟩)),(5,.bool false)] [.blk b4 [.slice none 0 0]] a W→Q .ret a W) :
  U w 164 [] (zFC m b4 b6 b8 t.length 2) (zFD b4 b6 b8 g t.length c' (stg t ms 2)) (c.wpI none Tryd.prog (Exit.then AG Q)):=by
 obtain rfl:_=c:=Option.some.inj ((rfl:Tryd.f30.body.bind zBO=some _).symm.trans hc)
 clear hc
 have ho:=zAi hv
 have hlen:=zAl hv
 have hmlt:m<w.heap.size:=(Array.getElem?_eq_some_iff.1 hm).1
 have hmap:∀ W,Below w.heap.size w W→W.heap[m]?=some (.map (zh kb ms) kb.c):=fun W h=>(h.block m hmlt).trans hm
 have bd1:∀ s∈t,-400000≤s.long.lo∧s.long.lo≤400000:=fun s hs=>by have:=ho s hs;have:=this.l0;have:=(ho s hs).l1;have:=(ho s hs).l2;omega
 have okS1:zC8 (longs t):=fun i=>by
  unfold zCF longs
  rw [List.getD_eq_getElem?_getD,List.getElem?_map]
  cases h:t[i]? with
  | none=>simp
  | some z =>
   have hz:=ho z (List.mem_of_getElem? h)
   have:=hz.l0;have:=hz.l1;have:=hz.l2
   simp only [Option.map_some,Option.getD_some];omega
 have ef:falls (stage1 t ms)=falls t:=by
  unfold falls stage1
  apply List.ext_getElem?
  intro j
  rw [List.getElem?_map,List.getElem?_map,zAe]
  cases t[j]? with
  | none=>rfl
  | some z=>by_cases h:j<t.length<;>simp [h,zA8]
 have bd2:∀ s∈stage1 t ms,-400000≤s.fall.lo∧s.fall.lo≤400000:=fun s hs=>by
  have h:s.fall∈falls (stage1 t ms):=List.mem_map.2 ⟨s,hs,rfl⟩
  rw [ef] at h
  obtain ⟨z,hz,e⟩:=List.mem_map.1 h
  rw [← e]
  have:=(ho z hz).f0;have:=(ho z hz).f1;have:=(ho z hz).f2;omega
 have okS2:zC8 (falls (stage1 t ms)):=fun i=>by
  rw [ef]
  unfold zCF falls
  rw [List.getD_eq_getElem?_getD,List.getElem?_map]
  cases h:t[i]? with
  | none=>simp
  | some z =>
   have hz:=ho z (List.mem_of_getElem? h)
   have:=hz.f0;have:=hz.f1;have:=hz.f2
   simp only [Option.map_some,Option.getD_some];omega
 have len2:(stage1 t ms).length=t.length:=zDZ
 have no2:¬ zBP 2 (falls (stage1 t ms)) ms (t.length+1)→zAr t ms=false:=fun h=>zFk h
 have yes2:zBP 2 (falls (stage1 t ms)) ms (t.length+1)→fine2 t ms:=fun h=>h
 have end2:zBF (zBI (dist 2 (falls (stage1 t ms)) ms (t.length+1))) (stage1 t ms) t.length=stg t ms (2+1):=rfl
 unfold zFC zFD
 rw [show stg t ms 2=stage1 t ms from rfl]
 clear ef
 generalize stage1 t ms=t2 at *
 ·skip
  (repeat' (first|((with_reducible refine zI ?_);first|refine zF rfl rfl rfl ?_|(refine zT rfl rfl rfl rfl rfl (fun h=>?_) (fun h=>?_)<;>(dsimp only [cmpP] at h;(try (exfalso;omega))))|(refine zV rfl rfl (fun b=>?_)))|(with_reducible first|refine zJ ?_|refine zC ?_|refine zG ?_|refine zA ?_|refine ze ?_|refine zb ?_)|((with_reducible refine zM ?_ ?_);(· exact rfl))))
  rw [zFY]
  obtain ⟨bm,hbm⟩:∃ x,x=b:=⟨b,rfl⟩
  subst hbm
  refine zAc (ι:=Nat × Mat) (fun j=>j.1≤t.length+1∧zC0 (t.length+1) j.1 0 j.2) (fun j=>[(1,.map (some m)),(4,.pointer (some ⟨b4,0,none⟩)),(6,.pointer (some ⟨b6,0,none⟩)),(7,.int .i64 ((t.length+1:Nat):Int)),(8,.pointer (some ⟨b8,0,none⟩)),(9,.int .i64 (2:Int)),(10,.pointer (some ⟨bm,0,none⟩)),(32,.int .i64 ((t.length+1:Nat):Int)),(33,.int .i64 (j.1:Int))]) (fun j=>[.blk bm (zk j.2),.blk b4 [.slice none 0 0],.blk b6 [.slice (some ⟨g,0,none⟩) t.length c'],.blk b8 [.nilFunc,.func (.func 62) #[] #[],.func (.func 63) #[] #[]],.arr zO 9 g (t2)]) (fun j=>t.length+1 - j.1) (0,fun _ _=>0) ⟨Nat.zero_le _,zEb _⟩ (by (repeat first|exact lK1|refine zW rfl ?_)) (by (repeat constructor)) ?_
  rintro ⟨i,M⟩ ⟨hi,hM⟩
  simp only at hi hM ⊢
  by_cases hlt:i<t.length+1
  ·(repeat' (first|((with_reducible refine zI ?_);first|refine zF rfl rfl rfl ?_|refine zD rfl rfl rfl ?_|(refine zT rfl rfl rfl rfl rfl (fun h=>?_) (fun h=>?_)<;>(dsimp only [cmpP] at h;(try (exfalso;omega)))))|(with_reducible first|refine zJ ?_|refine zC ?_|refine zG ?_|refine zA ?_|refine ze ?_|refine zb ?_)|((with_reducible refine zM ?_ ?_);(· exact rfl))))
   refine zAc (ι:=Nat × Mat) (fun j=>j.1≤t.length+1∧zC0 (t.length+1) i j.1 j.2) (fun j=>[(1,.map (some m)),(4,.pointer (some ⟨b4,0,none⟩)),(6,.pointer (some ⟨b6,0,none⟩)),(7,.int .i64 ((t.length+1:Nat):Int)),(8,.pointer (some ⟨b8,0,none⟩)),(9,.int .i64 (2:Int)),(10,.pointer (some ⟨bm,0,none⟩)),(32,.int .i64 ((t.length+1:Nat):Int)),(33,.int .i64 (i:Int)),(11,.int .i64 (i:Int)),(36,.int .i64 ((t.length+1:Nat):Int)),(37,.int .i64 (j.1:Int))]) (fun j=>[.blk bm (zk j.2),.blk b4 [.slice none 0 0],.blk b6 [.slice (some ⟨g,0,none⟩) t.length c'],.blk b8 [.nilFunc,.func (.func 62) #[] #[],.func (.func 63) #[] #[]],.arr zO 9 g (t2)]) (fun j=>t.length+1 - j.1) (0,M) ⟨Nat.zero_le _,hM⟩ (by (repeat first|exact lK1|refine zW rfl ?_)) (by (repeat constructor)) ?_
   clear hM M
   rintro ⟨k,M⟩ ⟨hk,hM⟩
   simp only at hk hM ⊢
   by_cases hlk:k<t.length+1
   ·have m3:zCr i k:=⟨by omega,by omega⟩
    (repeat' (first|((with_reducible refine zI ?_);first|refine zF rfl rfl rfl ?_|refine zD rfl rfl rfl ?_|(refine zT rfl rfl rfl rfl rfl (fun h=>?_) (fun h=>?_)<;>(dsimp only [cmpP] at h;(try (exfalso;omega))))|refine zBR rfl rfl rfl rfl rfl ?_|refine zAY rfl rfl rfl rfl (by omega) ?_|refine zEs rfl rfl rfl rfl rfl (by first|decide|omega) ?_)|(with_reducible first|refine zJ ?_|refine zC ?_|refine zG ?_|refine zA ?_|refine ze ?_|refine zb ?_|refine zAL ?_)|((with_reducible refine zM ?_ ?_);(· exact rfl))|((with_reducible refine zL ?_ ?_);(· exact rfl))))
    ·exact zm (k+1,zAv M i k far) ⟨by omega,zFq hM (by omega)⟩ (by simp only;omega) (by (repeat first|exact lK1|refine zW rfl ?_)) (by (repeat constructor))
    ·obtain rfl:i=k:=by omega
     exact zm (i+1,M) ⟨by omega,zFK hM⟩ (by simp only;omega) (by (repeat first|exact lK1|refine zW rfl ?_)) (by (repeat constructor))
   ·obtain rfl:k=t.length+1:=by omega
    (repeat' (first|((with_reducible refine zI ?_);first|refine zF rfl rfl rfl ?_|(refine zT rfl rfl rfl rfl rfl (fun h=>?_) (fun h=>?_)<;>(dsimp only [cmpP] at h;(try (exfalso;omega))))|refine zAY rfl rfl rfl rfl (by omega) ?_)|(with_reducible first|refine zJ ?_|refine zC ?_|refine zG ?_|refine zA ?_|refine zAd ?_|refine zAL ?_|refine zo ?_|refine zx ?_)|((with_reducible refine zL ?_ ?_);(· exact rfl))))
    exact zm (i+1,M) ⟨by omega,zFr hM⟩ (by simp only;omega) (by (repeat first|exact lK1|refine zW rfl ?_)) (by (repeat constructor))
  obtain rfl:i=t.length+1:=by omega
  (repeat' (first|((with_reducible refine zI ?_);first|refine zF rfl rfl rfl ?_|(refine zf rfl rfl rfl ?_;refine ⟨_,rfl,?_⟩)|refine zAQ rfl rfl rfl ?_|(refine zT rfl rfl rfl rfl rfl (fun h=>?_) (fun h=>?_)<;>(dsimp only [cmpP] at h;(try (exfalso;omega))))|refine zAx rfl rfl rfl ?_)|(with_reducible first|refine zJ ?_|refine zC ?_|refine zG ?_|refine zA ?_|refine zb ?_|refine zAd ?_|refine zo ?_|refine zx ?_)|((with_reducible refine zL ?_ ?_);(· exact rfl))))
  refine zAc (ι:=Nat × Mat) (fun j=>j.1≤t.length∧SpTo (t.length+1) (falls t2) j.1 j.2) (fun j=>[(1,.map (some m)),(4,.pointer (some ⟨b4,0,none⟩)),(6,.pointer (some ⟨b6,0,none⟩)),(7,.int .i64 ((t.length+1:Nat):Int)),(8,.pointer (some ⟨b8,0,none⟩)),(9,.int .i64 (2:Int)),(10,.pointer (some ⟨bm,0,none⟩)),(51,.int .i64 (t.length:Int)),(52,.int .i64 (j.1:Int))]) (fun j=>[.blk bm (zk j.2),.blk b4 [.slice none 0 0],.blk b6 [.slice (some ⟨g,0,none⟩) t.length c'],.blk b8 [.nilFunc,.func (.func 62) #[] #[],.func (.func 63) #[] #[]],.arr zO 9 g (t2)]) (fun j=>t.length - j.1) (0,M) ⟨Nat.zero_le _,zEw hM⟩ (by (repeat first|exact lK1|refine zW rfl ?_)) (by (repeat constructor)) ?_
  clear hM M hi hlt
  rintro ⟨i,M⟩ ⟨hi,hM⟩
  simp only at hi hM ⊢
  by_cases hlt:i<t.length
  ·have hz:(t2)[i]?=some ((t2)[i]'(by rw [len2];exact hlt)):=by simp
   have:zCG (t2) i ((t2)[i]'(by rw [len2];exact hlt)):=⟨hz⟩
   have hsp:zCF (falls t2) i=((t2)[i]'(by rw [len2];exact hlt)).fall:=by
    rw [zCF,List.getD_eq_getElem?_getD,falls,List.getElem?_map,hz];rfl
   have hbz:=bd2 _ (List.getElem_mem (by rw [len2];exact hlt:i<(t2).length))
   generalize (t2)[i]'(by rw [len2];exact hlt)=z at *
   have m1:zCr i (i+1):=⟨by omega,by omega⟩
   have m2:zCr (i+1) i:=⟨by omega,by omega⟩
   (repeat' (first|((with_reducible refine zI ?_);first|refine zF rfl rfl rfl ?_|refine zD rfl rfl rfl ?_|(refine zT rfl rfl rfl rfl rfl (fun h=>?_) (fun h=>?_)<;>(dsimp only [cmpP] at h;(try (exfalso;omega)))))|(with_reducible first|refine zJ ?_|refine zC ?_|refine zG ?_|refine zA ?_|refine ze ?_|refine zb ?_)|((with_reducible refine zM ?_ ?_);(· exact rfl))))
   (refine Two.zAU [] [] [] rfl (show ([]:List Nat).Nodup by decide) (fun _ h=>h) (by kernel_rfl) [[],[Z],[Z,Z],[Z,Z,Z],[Y,Y,Y,Y],[Z,Y,Y,Y,Y],[Y,Y,Y,Y,Y,Y],[Z,Z,Z,Y,Y,Y,Y],[Z,Z,Z,Z,Z,Z,Z,Z],[Z,Z,Z,Z,Z,Z,Z,Z,Z],[Z,Z,Z,Z,Z,Z,Z,Z,Z,Z],[Y,Y,Y,Y,Y,Y,Y,Y,Y,Y,Y],[Z,Z,Z,Z,Z,Z,Z,Z,Z,Z,Z,Z]] (by kernel_rfl) (by kernel_rfl) (by kernel_rfl) (by kernel_rfl) (by kernel_rfl) ?_)
   (repeat' (first|(((with_reducible refine Two.zB0 ?_ ?_);(· exact rfl);refine ⟨_,fun G=>(by (try simp (decide:=true) only [Two.vis,Two.see,fltT,zc,Nat.reduceAdd,Nat.reduceSub,if_true,if_false,List.set_cons_zero,List.set_cons_succ,List.set_nil,List.nil_append,List.cons_append]);rfl),?_⟩);first|refine Two.zK _ (fun _=>zA5 rfl rfl) (fun _=>rfl) rfl (by intro G G' h;simp (decide:=true) only [h]) ?_|refine Two.zK _ (fun _=>zAA rfl rfl (by exact rfl)) (fun _=>rfl) rfl (by intro G G' h;simp (decide:=true) only [h]) ?_|(refine Two.zAE rfl ?_;refine Two.zK _ (fun _=>zAb rfl rfl) (fun _=>rfl) rfl (by intro G G' h;simp (decide:=true) only [h]) ?_)|refine Two.zAB _ rfl (fun _=>rfl) rfl (fun _=>rfl) (fun _=>rfl) (fun _ _ _ q=>zFl _ _ _) (by intro G G' h;simp (decide:=true) only [h]) ?_|refine Two.zK _ (fun _=>zBU rfl rfl rfl rfl (by omega)) (fun _=>rfl) rfl (by intro G G' h;simp (decide:=true) only [h]) ?_|refine Two.zK _ (fun _=>zA6 rfl rfl rfl rfl (by first|decide|omega)) (fun _=>rfl) rfl (by intro G G' h;simp (decide:=true) only [h]) ?_|refine Two.zK _ (fun _=>zB9 rfl rfl) (fun _=>rfl) rfl (by intro G G' h;simp (decide:=true) only [h]) ?_|refine Two.zHf rfl (fun _=>rfl) rfl ?_)|((with_reducible refine Two.zBE ?_ ?_);(· exact rfl))))
   (intro G;simp only [regsT,zc,Two.zAR,Two.ini,List.nil_append,List.cons_append])
   (repeat' (first|((with_reducible refine zI ?_);first|(refine zQ rfl rfl rfl rfl rfl ?_;refine ⟨rfl,by first|decide|exact Nat.le_of_ble_eq_true rfl|(simp;omega),_,rfl,?_⟩))|(with_reducible first|refine zG ?_|refine zA ?_)))
   (refine zDj ⟨13,[.blk bm (zk M)],[.blk bm (zk (zAv M i (i+1) z.fall.hi))]⟩ (H0:=_) (fun _ h=>(h.take (by (repeat constructor)))) (by kernel_rfl) [[],[Y],[Z,Y],[Y,Y,Y],[Z,Y,Y,Y],[Y,Y,Y,Y,Y],[Y,Y,Y,Y,Y,Y],[Z,Y,Y,Y,Y,Y,Y],[Y,Y,Y,Y,Y,Y,Y,Y],[Z,Y,Y,Y,Y,Y,Y,Y,Y],[Z,Z,Y,Y,Y,Y,Y,Y,Y,Y],[Y,Y,Y,Y,Y,Y,Y,Y,Y,Y,Z],[Z,Y,Y,Y,Z,Z,Y,Y,Y,Z,Z,Z],[Z,Z,Y,Y,Y,Z,Z,Y,Y,Y,Z,Z,Z],[Y,Y,Y,Y,Y,Y,Y,Y,Y,Z,Z,Y,Y,Y],[Z,Z,Z,Z,Z,Z,Z,Z,Z,Z,Z,Z,Z,Z,Z],[Z,Z,Z,Z,Z,Z,Z,Z,Z,Z,Z,Z,Z,Z,Z,Z]] (by kernel_rfl) (by kernel_rfl) (by kernel_rfl) ?_)
   (repeat' (first|(((with_reducible refine zB0 ?_ ?_);(· exact rfl);refine ⟨_,fun G=>(by (try simp only [fltT,zc,List.nil_append,List.cons_append]);rfl),?_⟩);first|refine zK _ (fun _=>zA5 rfl rfl) (fun _=>rfl) rfl (by intro G G' h;simp (decide:=true) only [h]) ?_|refine zK _ (fun _=>zAA rfl rfl (by exact rfl)) (fun _=>rfl) rfl (by intro G G' h;simp (decide:=true) only [h]) ?_|(refine zAE rfl ?_;refine zK _ (fun _=>zAb rfl rfl) (fun _=>rfl) rfl (by intro G G' h;simp (decide:=true) only [h]) ?_)|refine zK _ (fun _=>zEN rfl rfl rfl (by omega)) (fun _=>rfl) rfl (by intro G G' h;simp (decide:=true) only [h]) ?_|refine zK _ (fun _=>zA6 rfl rfl rfl rfl (by first|decide|omega)) (fun _=>rfl) rfl (by intro G G' h;simp (decide:=true) only [h]) ?_|refine zK _ (fun _=>zFu rfl rfl (by rw [Int.zero_sub];exact IntWalk.i64_in _ (by omega))) (fun _=>rfl) rfl (by intro G G' h;simp (decide:=true) only [h]) ?_)|(refine zHe (cs:=zk M) (cs':=zk (zAv M i (i+1) z.fall.hi)) rfl (fun _=>rfl) rfl rfl rfl rfl (fun _=>rfl) (fun _=>rfl) rfl rfl (Nat.ble_eq_true_of_le (by simp [zk];omega)) (zDf m1.lt _) ?_)|((with_reducible refine zBE ?_ ?_);(· exact rfl))))
   (intro G;simp only [regsT,zc,Pend.zEp,List.nil_append,List.cons_append])
   simp (decide:=true) only [Pend.at_lt,List.nil_append,List.cons_append]
   (repeat' (first|((with_reducible refine zI ?_);first|refine zF rfl rfl rfl ?_|refine zBR rfl rfl rfl rfl rfl ?_|refine zAY rfl rfl rfl rfl (by omega) ?_)|(with_reducible first|refine zC ?_|refine zG ?_|refine zA ?_|refine zAL ?_)))
   refine zm (i+1,zAv (zAv M i (i+1) z.fall.hi) (i+1) i (-z.fall.lo)) ⟨by omega,?_⟩ (by simp only;omega) (by (repeat first|exact lK1|refine zW rfl ?_)) (by (repeat constructor))
   exact zGP hM (by rw [hsp]) (by rw [hsp])
  obtain rfl:i=t.length:=by omega
  have hA:=zGQ hM rfl
  clear hM hi hlt
  (repeat' (first|((with_reducible refine zI ?_);first|refine zF rfl rfl rfl ?_|(refine zT rfl rfl rfl rfl rfl (fun h=>?_) (fun h=>?_)<;>(dsimp only [cmpP] at h;(try (exfalso;omega))))|refine zGG rfl rfl rfl hmap ?_;intro r)|(with_reducible first|refine zJ ?_|refine zC ?_|refine zG ?_|refine zA ?_|refine zb ?_|refine zAd ?_|refine zo ?_|refine zx ?_)|((with_reducible refine zL ?_ ?_);(· exact rfl))))
  refine zAc (ι:=List Nat × Mat) (fun j=>j.1.Nodup∧(∀ i∈j.1,i<ms.length)∧zCE (t.length+1) j.2 (meas 2 (T0 (falls t2)) (gotten ms j.1))) (fun j=>[(1,.map (some m)),(4,.pointer (some ⟨b4,0,none⟩)),(6,.pointer (some ⟨b6,0,none⟩)),(7,.int .i64 ((t.length+1:Nat):Int)),(8,.pointer (some ⟨b8,0,none⟩)),(9,.int .i64 (2:Int)),(10,.pointer (some ⟨bm,0,none⟩)),(83,.pointer (some ⟨r,0,none⟩))]) (fun j=>[.it r m kb j.1,.blk bm (zk j.2),.blk b4 [.slice none 0 0],.blk b6 [.slice (some ⟨g,0,none⟩) t.length c'],.blk b8 [.nilFunc,.func (.func 62) #[] #[],.func (.func 63) #[] #[]],.arr zO 9 g (t2)]) (fun j=>ms.length - j.1.length) ([],M) ⟨List.nodup_nil,by simp,hA⟩ (by (repeat first|exact lK1|refine zW rfl ?_)) (by (repeat constructor)) ?_
  clear hA M
  rintro ⟨seen,M⟩ ⟨hnd,hsl,hA⟩
  simp only at hnd hsl hA ⊢
  (repeat' (first|((with_reducible refine zI ?_);first|refine zF rfl rfl rfl ?_|refine u_next rfl rfl rfl (by (repeat constructor)) hmap hkb hsl (fun hall=>?_) (fun i me hi hni=>?_)|refine zZ rfl rfl rfl rfl ?_)|(with_reducible first|refine zJ ?_|refine zC ?_|refine zG ?_|refine zA ?_|refine ze ?_|refine zb ?_|refine zAd ?_|refine zo ?_|refine zx ?_)|((with_reducible refine zM ?_ ?_);(· exact rfl))|((with_reducible refine zL ?_ ?_);(· exact rfl))))
  ·have hokm:∀ x∈ms,zCh (t.length+1) x:=fun x hx=>zB1 (hok x hx)
   have hsame:=zCg (s:=falls t2) hokm (zFH hall) 2
   have hdg:zCD (t.length+1) M:=fun a ha=>(hA a a ha ha).trans (zBg _ _ (zDN hokm) (zD2 _ _) a ha)
   have hbm:BdM (t.length+1) M:=fun i k hi hk=>by
    rw [hA i k hi hk];exact zF6 _ _ (zDN hokm) (T0_bd okS2 _) i k hi hk
   (repeat' (first|((with_reducible refine zI ?_);first|refine zF rfl rfl rfl ?_|refine zD rfl rfl rfl ?_|(refine zf rfl rfl rfl ?_;refine ⟨_,rfl,?_⟩)|refine zAQ rfl rfl rfl ?_|(refine zHR rfl rfl rfl rfl (by (repeat constructor)) (fun W hB=>zEx (t.length+1) M bm W hB (by omega) hdg hbm) ?_;rintro ⟨fl,D⟩ ⟨hy,hn⟩;cases fl)|refine zCR rfl rfl rfl ?_|refine zAx rfl rfl rfl ?_|(refine zQ rfl rfl rfl rfl rfl ?_;refine ⟨rfl,by first|decide|exact Nat.le_of_ble_eq_true rfl|(simp;omega),_,rfl,?_⟩)|(refine zAH rfl rfl rfl ?_;refine ⟨_,rfl,?_⟩))|(with_reducible first|refine zJ ?_|refine zC ?_|refine zG ?_|refine zA ?_|refine zg ?_|refine ze ?_|refine zq ?_|refine zb ?_|refine zD7 ?_)|((with_reducible refine zM ?_ ?_);(· exact rfl))|((with_reducible refine zL ?_ ?_);(· exact rfl))))
   ·have hnf:¬ zBP 2 (falls t2) ms (t.length+1):=fun hf=>hn rfl (zDt hA.symm (Nat.le_refl _) (hsame.1.2 hf))
    exact fun a W q=>hret (no2 hnf) a W (q.sub (by (repeat first|exact lK1|refine zW rfl ?_)) (by (repeat constructor)))
   ·obtain ⟨hf1,hD⟩:=hy rfl
    simp only at hD
    have hfi:zBP 2 (falls t2) ms (t.length+1):=hsame.1.1 (zDt hA (Nat.le_refl _) hf1)
    have hDE:zCE (t.length+1) D (dist 2 (falls t2) ms (t.length+1)):=fun a b ha hb=>by
     rw [hD a b ha hb]
     exact (zDr hA _ (Nat.le_refl _) a b ha hb).trans (hsame.2 (hsame.1.2 hfi) a b ha hb)
    have hDb:∀ a b,a<t.length+1→b<t.length+1→-8796093022208≤D a b∧D a b≤8796093022208:=fun a b ha hb=>by
     rw [hD a b ha hb];exact zEn hbm (by omega) (Nat.le_refl _) ha hb
    refine zAc (ι:=Nat) (fun i=>i≤t.length) (fun i=>[(1,.map (some m)),(4,.pointer (some ⟨b4,0,none⟩)),(6,.pointer (some ⟨b6,0,none⟩)),(7,.int .i64 ((t.length+1:Nat):Int)),(8,.pointer (some ⟨b8,0,none⟩)),(9,.int .i64 (2:Int)),(10,.pointer (some ⟨bm,0,none⟩)),(134,.int .i64 (t.length:Int)),(135,.int .i64 (i:Int))]) (fun i=>[.blk bm (zk D),.blk b4 [.slice none 0 0],.blk b6 [.slice (some ⟨g,0,none⟩) t.length c'],.blk b8 [.nilFunc,.func (.func 62) #[] #[],.func (.func 63) #[] #[]],.arr zO 9 g (zBF (zBI D) (t2) i)]) (fun i=>t.length - i) 0 (Nat.zero_le _) (by (repeat first|exact lK1|refine zW rfl ?_)) (by (try simp only [zEr]);(repeat constructor)) ?_
    intro i hi
    by_cases hlt:i<t.length
    ·have hz:(t2)[i]?=some ((t2)[i]'(by rw [len2];exact hlt)):=by simp
     generalize (t2)[i]'(by rw [len2];exact hlt)=z at hz
     have hz2:(zBF (zBI D) (t2) i)[i]?=some z:=by rw [zAe,hz];simp
     have:zCG (zBF (zBI D) (t2) i) i z:=⟨hz2⟩
     have m1:zCr i (i+1):=⟨by omega,by omega⟩
     have m2:zCr (i+1) i:=⟨by omega,by omega⟩
     have hb1:=hDb (i+1) i (by omega) (by omega)
     have hb2:=hDb i (i+1) (by omega) (by omega)
     (repeat' (first|((with_reducible refine zI ?_);first|refine zF rfl rfl rfl ?_|refine zD rfl rfl rfl ?_|(refine zT rfl rfl rfl rfl rfl (fun h=>?_) (fun h=>?_)<;>(dsimp only [cmpP] at h;(try (exfalso;omega)))))|(with_reducible first|refine zJ ?_|refine zC ?_|refine zG ?_|refine zA ?_|refine ze ?_|refine zb ?_)|((with_reducible refine zM ?_ ?_);(· exact rfl))))
     (refine Two.zAU [] [] [] rfl (show ([]:List Nat).Nodup by decide) (fun _ h=>h) (by kernel_rfl) [[],[Z],[Z,Z],[Z,Z,Z],[Y,Y,Y,Y],[Z,Y,Y,Y,Y],[Y,Y,Y,Y,Y,Y],[Z,Z,Z,Y,Y,Y,Y],[Z,Z,Z,Z,Z,Z,Z,Z],[Y,Y,Y,Y,Y,Y,Y,Y,Y],[Z,Y,Y,Y,Y,Y,Y,Y,Y,Y],[Y,Y,Y,Y,Y,Y,Y,Y,Y,Y,Y],[Y,Z,Z,Y,Y,Y,Y,Y,Y,Y,Y,Y],[Z,Z,Z,Z,Y,Y,Y,Y,Y,Y,Y,Y,Y],[Z,Z,Z,Z,Z,Y,Y,Y,Y,Y,Y,Y,Y,Y],[Z,Z,Z,Z,Z,Z,Y,Y,Y,Y,Y,Y,Y,Y,Y],[Y,Y,Y,Y,Y,Y,Y,Y,Y,Y,Y,Y,Y,Y,Y,Y],[Y,Y,Y,Y,Y,Y,Y,Y,Y,Y,Y,Y,Y,Y,Y,Y,Y],[Z,Y,Y,Y,Y,Y,Y,Y,Y,Y,Y,Y,Y,Y,Y,Y,Y,Y],[Y,Y,Z,Y,Y,Y,Y,Y,Y,Y,Y,Y,Y,Y,Y,Y,Y,Y,Y],[Z,Z,Z,Z,Y,Y,Y,Y,Y,Y,Y,Y,Y,Y,Y,Y,Y,Y,Y,Y],[Z,Z,Z,Z,Z,Y,Y,Y,Y,Y,Y,Y,Y,Y,Y,Y,Y,Y,Y,Y,Y],[Z,Z,Z,Z,Z,Z,Z,Z,Z,Z,Z,Z,Z,Y,Y,Y,Y,Y,Y,Y,Y,Y],[Z,Z,Z,Z,Z,Z,Z,Z,Z,Z,Z,Z,Z,Z,Z,Z,Z,Z,Z,Z,Z,Z,Z],[Z,Z,Z,Z,Z,Z,Z,Z,Z,Z,Z,Z,Z,Z,Z,Z,Z,Z,Z,Z,Z,Z,Z,Z]] (by kernel_rfl) (by kernel_rfl) (by kernel_rfl) (by kernel_rfl) (by kernel_rfl) ?_)
     (repeat' (first|(((with_reducible refine Two.zB0 ?_ ?_);(· exact rfl);refine ⟨_,fun G=>(by (try simp (decide:=true) only [Two.vis,Two.see,fltT,zc,Nat.reduceAdd,Nat.reduceSub,if_true,if_false,List.set_cons_zero,List.set_cons_succ,List.set_nil,List.nil_append,List.cons_append]);rfl),?_⟩);first|refine Two.zK _ (fun _=>zA5 rfl rfl) (fun _=>rfl) rfl (by intro G G' h;simp (decide:=true) only [h]) ?_|refine Two.zK _ (fun _=>zAA rfl rfl (by exact rfl)) (fun _=>rfl) rfl (by intro G G' h;simp (decide:=true) only [h]) ?_|(refine Two.zAE rfl ?_;refine Two.zK _ (fun _=>zAb rfl rfl) (fun _=>rfl) rfl (by intro G G' h;simp (decide:=true) only [h]) ?_)|refine Two.zAB _ rfl (fun _=>rfl) rfl (fun _=>rfl) (fun _=>rfl) (fun _ _ _ q=>zFl _ _ _) (by intro G G' h;simp (decide:=true) only [h]) ?_|refine Two.zK _ (fun _=>zEN rfl rfl rfl (by omega)) (fun _=>rfl) rfl (by intro G G' h;simp (decide:=true) only [h]) ?_|refine Two.zK _ (fun _=>zBU rfl rfl rfl rfl (by omega)) (fun _=>rfl) rfl (by intro G G' h;simp (decide:=true) only [h]) ?_|refine Two.zK _ (fun _=>zA6 rfl rfl rfl rfl (by first|decide|omega)) (fun _=>rfl) rfl (by intro G G' h;simp (decide:=true) only [h]) ?_|refine Two.zK _ (fun _=>zB9 rfl rfl) (fun _=>rfl) rfl (by intro G G' h;simp (decide:=true) only [h]) ?_|refine Two.zK _ (fun _=>zFu rfl rfl (by rw [Int.zero_sub];exact IntWalk.i64_in _ (by omega))) (fun _=>rfl) rfl (by intro G G' h;simp (decide:=true) only [h]) ?_|refine Two.zK _ (fun _=>zGq rfl rfl (by exact rfl)) (fun _=>rfl) rfl (by intro G G' h;simp (decide:=true) only [h]) ?_)|((with_reducible refine Two.zBE ?_ ?_);(· exact rfl))))
     (intro G;simp only [regsT,zc,Two.zAR,Two.ini,List.nil_append,List.cons_append])
     (repeat' (first|((with_reducible refine zI ?_);first|refine zF rfl rfl rfl ?_|refine zDi (zBI D i z) rfl rfl rfl rfl rfl rfl rfl rfl (by decide) ?_|refine zAY rfl rfl rfl rfl (by omega) ?_)|(with_reducible first|refine zC ?_|refine zG ?_|refine zA ?_|refine zAL ?_)))
     rw [zFZ hz rfl]
     exact zm (i+1) (by omega) (by omega) (by (repeat first|exact lK1|refine zW rfl ?_)) (by (repeat constructor))
    ·obtain rfl:i=t.length:=by omega
     have e:zBF (zBI D) (t2) t.length=stg t ms (2+1):=(zDF (F:=zBI) (fun j s hj=>by unfold zBI;rw [zDI hDE hj]) (by rw [len2]) _).trans end2
     rw [e]
     (repeat' (first|((with_reducible refine zI ?_);first|refine zF rfl rfl rfl ?_|refine zD rfl rfl rfl ?_|(refine zT rfl rfl rfl rfl rfl (fun h=>?_) (fun h=>?_)<;>(dsimp only [cmpP] at h;(try (exfalso;omega))))|refine zGI rfl rfl rfl rfl (IntWalk.i64_in _ (by omega)) ?_)|(with_reducible first|refine zJ ?_|refine zC ?_|refine zG ?_|refine zA ?_|refine zAd ?_|refine zAL ?_|refine zo ?_|refine zx ?_)|((with_reducible refine zL ?_ ?_);(· exact rfl))))
     exact U.sub (by (repeat first|exact lK1|refine zW rfl ?_)) (by (repeat constructor)) (hag (yes2 hfi))
  ·have hme:=hok me (List.mem_of_getElem? hi)
   have hme':=of_decide_eq_true hme
   have hN:=zE7 hnd hni
   have hS:∀ x∈seen++[i],x<ms.length:=fun x hx=>by
    rcases List.mem_append.1 hx with h|h
    ·exact hsl x h
    ·simp at h;subst h;exact (List.getElem?_eq_some_iff.1 hi).1
   have hL:=zDH ms.length _ hN hS
   simp only [List.length_append,List.length_singleton] at hL
   have hmu:ms.length - (seen++[i]).length<ms.length - seen.length:=by simp only [List.length_append,List.length_singleton];omega
   have hG:=zEa (seen:=seen) hi
   have hP:=zFc (kind:=2) (zB1 hme) hA
   rw [← zFi,← hG] at hP
   obtain ⟨kd,fr,to_,vl⟩:=me
   simp only at hme'
   obtain ⟨F,rfl⟩:∃ F:Nat,fr=F:=⟨fr.toNat,by omega⟩
   obtain ⟨Zt,rfl⟩:∃ Zt:Nat,to_=Zt:=⟨to_.toNat,by omega⟩
   have hk1:1≤(Me.mk kd F Zt vl).kind∧(Me.mk kd F Zt vl).kind≤2:=⟨hme'.1,hme'.2.1⟩
   have hv1:0≤(Me.mk kd F Zt vl).value.lo∧(Me.mk kd F Zt vl).value.lo≤360000:=⟨hme'.2.2.2.2.2.2.2.1,by simp only;omega⟩
   have m1:zCr F Zt:=⟨by omega,by omega⟩
   have m2:zCr Zt F:=⟨by omega,by omega⟩
   (repeat' (first|((with_reducible refine zI ?_);first|refine zF rfl rfl rfl ?_|(refine zf rfl rfl rfl ?_;refine ⟨_,rfl,?_⟩)|refine zAQ rfl rfl rfl ?_|(refine zT rfl rfl rfl rfl rfl (fun h=>?_) (fun h=>?_)<;>(dsimp only [cmpP] at h;(try (exfalso;omega))))|refine zHO rfl rfl rfl (by (repeat constructor)) hmap hkb hi ?_|refine zZ rfl rfl rfl rfl ?_|(refine zQ rfl rfl rfl rfl rfl ?_;refine ⟨rfl,by first|decide|exact Nat.le_of_ble_eq_true rfl|(simp;omega),_,rfl,?_⟩)|(refine zV rfl rfl (fun b=>?_))|refine zD8 rfl rfl rfl (IntWalk.i64_in _ (by omega)) ?_)|(with_reducible first|refine zJ ?_|refine zC ?_|refine zG ?_|refine zA ?_|refine ze ?_|refine zAL ?_)|((with_reducible refine zM ?_ ?_);(· exact rfl))|((with_reducible refine zL ?_ ?_);(· exact rfl))))
   ·(refine Two.zAU [] [] [] rfl (show ([]:List Nat).Nodup by decide) (fun _ h=>h) (by kernel_rfl) [[],[Z],[Y,Y],[Z,Y,Y],[Y,Y,Y,Y],[Z,Y,Y,Y,Y],[Y,Y,Y,Y,Y,Y],[Z,Y,Y,Y,Y,Y,Y],[Y,Y,Z,Z,Y,Y,Y,Y],[Z,Z,Z,Z,Z,Y,Y,Y,Y],[Z,Z,Z,Z,Z,Z,Y,Y,Y,Y],[Y,Y,Y,Y,Y,Y,Y,Y,Y,Y,Y],[Z,Y,Y,Y,Y,Y,Y,Y,Y,Y,Y,Y],[Z,Z,Y,Y,Y,Y,Y,Y,Y,Y,Y,Y,Y],[Z,Z,Z,Z,Z,Z,Z,Z,Z,Z,Y,Y,Y,Y],[Y,Y,Y,Y,Y,Y,Y,Y,Y,Y,Y,Y,Y,Z,Z],[Z,Z,Z,Z,Z,Z,Z,Z,Z,Z,Z,Z,Z,Z,Z,Z],[Z,Z,Z,Z,Z,Z,Z,Z,Z,Z,Z,Z,Z,Z,Z,Z,Z]] (by kernel_rfl) (by kernel_rfl) (by kernel_rfl) (by kernel_rfl) (by kernel_rfl) ?_)
    (repeat' (first|(((with_reducible refine Two.zB0 ?_ ?_);(· exact rfl);refine ⟨_,fun G=>(by (try simp (decide:=true) only [Two.vis,Two.see,fltT,zc,Nat.reduceAdd,Nat.reduceSub,if_true,if_false,List.set_cons_zero,List.set_cons_succ,List.set_nil,List.nil_append,List.cons_append]);rfl),?_⟩);first|refine Two.zK _ (fun _=>zAA rfl rfl (by exact rfl)) (fun _=>rfl) rfl (by intro G G' h;simp (decide:=true) only [h]) ?_|(refine Two.zAE rfl ?_;refine Two.zK _ (fun _=>zAb rfl rfl) (fun _=>rfl) rfl (by intro G G' h;simp (decide:=true) only [h]) ?_)|refine Two.zK _ (fun _=>zA6 rfl rfl rfl rfl (by first|decide|omega)) (fun _=>rfl) rfl (by intro G G' h;simp (decide:=true) only [h]) ?_|refine Two.zK _ (fun _=>e_min rfl rfl rfl) (fun _=>rfl) rfl (by intro G G' h;simp (decide:=true) only [h]) ?_)|((with_reducible refine Two.zBE ?_ ?_);(· exact rfl))))
    (intro G;simp only [regsT,zc,Two.zAR,Two.ini,List.nil_append,List.cons_append])
    (repeat' (first|((with_reducible refine zI ?_);first|refine zBR rfl rfl rfl rfl rfl ?_)|(with_reducible first|refine zG ?_|refine zA ?_)))
    (refine Two.zAU [] [] [] rfl (show ([]:List Nat).Nodup by decide) (fun _ h=>h) (by kernel_rfl) [[],[Z],[Y,Y],[Z,Y,Y],[Y,Y,Y,Y],[Z,Y,Y,Y,Y],[Y,Y,Y,Y,Y,Y],[Z,Y,Y,Y,Y,Y,Y],[Y,Y,Z,Z,Y,Y,Y,Y],[Z,Z,Z,Z,Z,Y,Y,Y,Y],[Z,Z,Z,Z,Z,Z,Y,Y,Y,Y],[Y,Y,Y,Y,Y,Y,Y,Y,Y,Y,Y],[Z,Y,Y,Y,Y,Y,Y,Y,Y,Y,Y,Y],[Z,Z,Y,Y,Y,Y,Y,Y,Y,Y,Y,Y,Y],[Z,Z,Z,Y,Y,Y,Y,Y,Y,Y,Y,Y,Y,Y],[Z,Z,Z,Z,Z,Z,Z,Z,Z,Z,Z,Y,Y,Y,Y],[Y,Y,Y,Y,Y,Y,Y,Y,Y,Y,Y,Y,Y,Y,Z,Z],[Z,Z,Z,Z,Z,Z,Z,Z,Z,Z,Z,Z,Z,Z,Z,Z,Z],[Z,Z,Z,Z,Z,Z,Z,Z,Z,Z,Z,Z,Z,Z,Z,Z,Z,Z]] (by kernel_rfl) (by kernel_rfl) (by kernel_rfl) (by kernel_rfl) (by kernel_rfl) ?_)
    (repeat' (first|(((with_reducible refine Two.zB0 ?_ ?_);(· exact rfl);refine ⟨_,fun G=>(by (try simp (decide:=true) only [Two.vis,Two.see,fltT,zc,Nat.reduceAdd,Nat.reduceSub,if_true,if_false,List.set_cons_zero,List.set_cons_succ,List.set_nil,List.nil_append,List.cons_append]);rfl),?_⟩);first|refine Two.zK _ (fun _=>zAA rfl rfl (by exact rfl)) (fun _=>rfl) rfl (by intro G G' h;simp (decide:=true) only [h]) ?_|(refine Two.zAE rfl ?_;refine Two.zK _ (fun _=>zAb rfl rfl) (fun _=>rfl) rfl (by intro G G' h;simp (decide:=true) only [h]) ?_)|refine Two.zK _ (fun _=>zA6 rfl rfl rfl rfl (by first|decide|omega)) (fun _=>rfl) rfl (by intro G G' h;simp (decide:=true) only [h]) ?_|refine Two.zK _ (fun _=>zFu rfl rfl (by rw [Int.zero_sub];exact IntWalk.i64_in _ (by omega))) (fun _=>rfl) rfl (by intro G G' h;simp (decide:=true) only [h]) ?_|refine Two.zK _ (fun _=>e_min rfl rfl rfl) (fun _=>rfl) rfl (by intro G G' h;simp (decide:=true) only [h]) ?_)|((with_reducible refine Two.zBE ?_ ?_);(· exact rfl))))
    (intro G;simp only [regsT,zc,Two.zAR,Two.ini,List.nil_append,List.cons_append])
    (repeat' (first|((with_reducible refine zI ?_);first|refine zBR rfl rfl rfl rfl rfl ?_)|(with_reducible first|refine zG ?_|refine zA ?_|refine zAL ?_)))
    refine zm (seen++[i],_) ⟨hN,hS,?_⟩ hmu (by (repeat first|exact lK1|refine zW rfl ?_)) (by (repeat constructor))
    have e:zBD 2 M ⟨kd,F,Zt,vl⟩=zAv (zAv M F Zt (min (M F Zt) vl.hi)) Zt F (min (zAv M F Zt (min (M F Zt) vl.hi) Zt F) (-vl.lo)):=by
     unfold zBD;rw [if_pos (by first|exact h|omega)];rfl
    rw [e] at hP
    exact hP
   ·refine zm (seen++[i],M) ⟨hN,hS,?_⟩ hmu (by (repeat first|exact lK1|refine zW rfl ?_)) (by (repeat constructor))
    have e:zBD 2 M ⟨kd,F,Zt,vl⟩=M:=by
     unfold zBD;rw [if_neg (by first|exact h|omega)]
    rw [e] at hP
    exact hP
end Go.Proofs.YtcpdjamlhhfbhaaDoor
namespace Go.Proofs.YtcpdjamlhhfbhaaDoor
open Go.RowKit
set_option maxRecDepth 20000
set_option maxHeartbeats 4000000 in
theorem zFB (t:List St) (A:Option Addr) (cap:Nat) (kb:KB) (ms:List Me) (m:Nat) (w:World) (ht:zS zO 9 w A t) (hv:valid t=true) (hok:∀ x∈ms,zDb t.length x=true) (hkb:kb.ok ms.length) (hm:w.heap[m]?=some (.map (zh kb ms) kb.c)) :
  zAh zO 9 (zA3 t ms) (fun v=>.tuple #[.agg #[v],.bool (zAr t ms)]) Tryd.prog 30 [.agg #[.slice A t.length cap],.map (some m)] w:=by
 unfold zAh
 have ho:=zAi hv
 have hlen:=zAl hv
 (refine zH (n:=164) Tryd.func30 rfl rfl rfl ?_)
 (repeat' (first|((with_reducible refine zI ?_);first|refine zD rfl rfl rfl ?_|(refine zf rfl rfl rfl ?_;refine ⟨_,rfl,?_⟩)|refine zAQ rfl rfl rfl ?_|(refine zBJ rfl rfl rfl rfl (fun _ _ q=>zIB t A cap _ (ht.below q.below) (by omega) (by omega)) ?_;rintro ⟨A',c'⟩ -;dsimp only [List.cons_append,List.nil_append];refine zHl (Take.here _ _) (by omega) ?_;rintro g rfl)|refine zN rfl rfl rfl rfl (fun _ _ q=>zH1 _) ?_|refine zAY rfl rfl rfl rfl (by omega) ?_|refine zAx rfl rfl rfl ?_|(refine zQ rfl rfl rfl rfl rfl ?_;refine ⟨rfl,by first|decide|exact Nat.le_of_ble_eq_true rfl|(simp;omega),_,rfl,?_⟩)|(refine zV rfl rfl (fun b=>?_))|(refine zAD rfl rfl rfl rfl (fun b=>?_))|(refine zAH rfl rfl rfl ?_;refine ⟨_,rfl,?_⟩))|(with_reducible first|refine zJ ?_|refine zC ?_|refine zG ?_|refine zA ?_|refine zb ?_)))
 rename_i b2 b4 b6
 obtain ⟨b8,hb8⟩:∃ x,x=b:=⟨b,rfl⟩
 subst hb8
 refine zAc (ι:=Nat) (fun K=>K=1∨K=2∧fine1 t ms∨K=3∧fine1 t ms∧fine2 t ms) (fun K=>zFC m b4 b6 b8 t.length K) (fun K=>zFD b4 b6 b8 g t.length c' (stg t ms K)) (fun K=>3 - K) 1 (.inl rfl) (by (repeat first|exact lK1|refine zW rfl ?_)) (by (repeat constructor)) ?_
 rintro K (rfl | ⟨rfl,h1⟩ | ⟨rfl,h1,h2⟩)
 ·exact left_k1 t A cap kb ms m w ht hv hok hkb hm b4 b6 b8 g c' _ rfl _ _ (fun hfi a W q=>⟨2,.inr (.inl ⟨rfl,hfi⟩),by decide,q⟩) (fun e1 a W q=>(zP (by (exact zY.cons (by exact res1c rfl (by exact rfl)) (zY.cons (by exact zAW.tmp rfl) zY.nil))) (none,0) trivial (by rw [e1,show zA3 t ms=[] by simp [zA3,e1]];rfl) (fun _ h=>by rw [show zA3 t ms=[] by simp [zA3,e1]];exact zBK h):U w 164 [] _ _ (zEe Tryd.prog Tryd.f30 _ .ret)) a W q)
 ·exact left_k2 t A cap kb ms m w ht hv hok hkb hm b4 b6 b8 g c' _ rfl _ _ (fun hfi a W q=>⟨3,.inr (.inr ⟨rfl,h1,hfi⟩),by decide,q⟩) (fun e1 a W q=>(zP (by (exact zY.cons (by exact res1c rfl (by exact rfl)) (zY.cons (by exact zAW.tmp rfl) zY.nil))) (none,0) trivial (by rw [e1,show zA3 t ms=[] by simp [zA3,e1]];rfl) (fun _ h=>by rw [show zA3 t ms=[] by simp [zA3,e1]];exact zBK h):U w 164 [] _ _ (zEe Tryd.prog Tryd.f30 _ .ret)) a W q)
 ·have e1:zAr t ms=true:=zDM h1 h2
  have e2:zA3 t ms=stage2 t ms:=by simp [zA3,e1]
  rw [e1,e2,show stg t ms 3=stage2 t ms from rfl]
  (repeat' (first|((with_reducible refine zI ?_);first|refine zF rfl rfl rfl ?_|refine zD rfl rfl rfl ?_|(refine zf rfl rfl rfl ?_;refine ⟨_,rfl,?_⟩)|(refine zT rfl rfl rfl rfl rfl (fun h=>?_) (fun h=>?_)<;>(dsimp only [cmpP] at h;(try (exfalso;omega))))|(refine zQ rfl rfl rfl rfl rfl ?_;refine ⟨rfl,by first|decide|exact Nat.le_of_ble_eq_true rfl|(simp;omega),_,rfl,?_⟩))|(with_reducible first|refine zJ ?_|refine zC ?_|refine zG ?_|refine zA ?_|refine zg ?_|refine zAd ?_|refine zo ?_|refine zx ?_)|((with_reducible refine zL ?_ ?_);(· exact rfl))))
  simp only [zG1]
  exact zP (by (exact zY.cons (by exact res1c rfl (by exact rfl)) (zY.cons (by exact zAW.tmp rfl) zY.nil))) (some ⟨g,0,none⟩,c') trivial rfl (fun _ h=>(h.zDg (by (repeat constructor))).sub (by (repeat constructor)))
end Go.Proofs.YtcpdjamlhhfbhaaDoor
namespace Go.Proofs.YtcpdjamlhhfbhaaDoor
open Go.RowKit
set_option maxRecDepth 20000
theorem zE9 {base m c:Nat} {es:Array MapEntry} {H H':List Ent} {w:World} (ho:Own base w H) (ht:Take H (.map m es c) H'):w.heap[m]?=some (.map es c):=ho.here _ ht.mem
set_option maxHeartbeats 1000000 in
theorem zCi (t:List St) (A:Option Addr) (cap:Nat) (l:List Me) (B:Option Addr) (c:Nat) (w:World) (ht:zS zO 9 w A t) (hs:zS zAt 5 w B l) (hB:∀ b o,B=some ⟨b,o,none⟩→b<w.heap.size) (hf:zCb t) (hfm:zGy l) (hl:t.length≤1000) (hll:l.length≤1000) :
  zAh zO 9 (nT t l) (fun v=>.tuple #[.agg #[v],.int .i64 (zBT t l)]) Tryd.prog 16 [.agg #[.slice A t.length cap],.slice B l.length c] w:=by
 unfold zAh
 cases hv:valid t
 ·have e1:zBT t l=10:=by simp [zBT,hv]
  rw [nT_no (by rw [e1];decide),e1]
  (refine zH (n:=32) Tryd.func16 rfl rfl rfl ?_)
  (repeat' (first|((with_reducible refine zI ?_);first|refine zF rfl rfl rfl ?_|refine zD rfl rfl rfl ?_|(refine zf rfl rfl rfl ?_;refine ⟨_,rfl,?_⟩)|(refine zT rfl rfl rfl rfl rfl (fun h=>?_) (fun h=>?_)<;>(dsimp only [cmpP] at h;(try (exfalso;omega))))|refine zN rfl rfl rfl rfl (fun _ _ q=>zEY t A cap l B c _ (ht.below q.below) (hs.below q.below) hf hfm hl hll hv) ?_|refine zZ rfl rfl rfl rfl ?_|(refine zQ rfl rfl rfl rfl rfl ?_;refine ⟨rfl,by first|decide|exact Nat.le_of_ble_eq_true rfl|(simp;omega),_,rfl,?_⟩)|(refine zV rfl rfl (fun b=>?_))|(refine zAD rfl rfl rfl rfl (fun b=>?_))|(refine zAH rfl rfl rfl ?_;refine ⟨_,rfl,?_⟩))|(with_reducible first|refine zJ ?_|refine zC ?_|refine zG ?_|refine zA ?_|refine zg ?_|refine zq ?_)|((with_reducible refine zM ?_ ?_);(· exact rfl))))
  exact zP (by (exact zY.cons (by exact res1c rfl (by exact rfl)) (zY.cons (by exact zAW.tmp rfl) zY.nil))) (none,0) trivial rfl (fun _ h=>zBK h)
 cases hm:zB4 t.length l
 ·have e1:zBT t l=11:=by simp [zBT,hv,hm]
  rw [nT_no (by rw [e1];decide),e1]
  (refine zH (n:=32) Tryd.func16 rfl rfl rfl ?_)
  (repeat' (first|((with_reducible refine zI ?_);first|refine zF rfl rfl rfl ?_|refine zD rfl rfl rfl ?_|(refine zf rfl rfl rfl ?_;refine ⟨_,rfl,?_⟩)|(refine zT rfl rfl rfl rfl rfl (fun h=>?_) (fun h=>?_)<;>(dsimp only [cmpP] at h;(try (exfalso;omega))))|refine zN rfl rfl rfl rfl (fun _ _ q=>zDo t A cap l B c _ (ht.below q.below) (hs.below q.below) hf hfm hl hll hv hm) ?_|refine zZ rfl rfl rfl rfl ?_|(refine zQ rfl rfl rfl rfl rfl ?_;refine ⟨rfl,by first|decide|exact Nat.le_of_ble_eq_true rfl|(simp;omega),_,rfl,?_⟩)|(refine zV rfl rfl (fun b=>?_))|(refine zAD rfl rfl rfl rfl (fun b=>?_))|(refine zAH rfl rfl rfl ?_;refine ⟨_,rfl,?_⟩))|(with_reducible first|refine zJ ?_|refine zC ?_|refine zG ?_|refine zA ?_|refine zg ?_|refine zq ?_)|((with_reducible refine zM ?_ ?_);(· exact rfl))))
  exact zP (by (exact zY.cons (by exact res1c rfl (by exact rfl)) (zY.cons (by exact zAW.tmp rfl) zY.nil))) (none,0) trivial rfl (fun _ h=>zBK h)
 obtain ⟨s1,s2⟩:=zBB hv hm
 have h3:=fun W m hW (h:W.heap[m]?=some (.map (zh (KB.id l.length) l) l.length))=>zFB t A cap (KB.id l.length) l m W (ht.below hW) hv (zB3 hm).1 (KB.id_ok _) h
 cases hb:rnB t l
 ·have e1:zBT t l=8:=by simp [zBT,hv,hm,hb]
  have e2:rnT t l=[]:=by simp [rnT,hb]
  rw [nT_no (by rw [e1];decide),e1]
  simp only [s1,s2,hb,e2] at h3
  (refine zH (n:=32) Tryd.func16 rfl rfl rfl ?_)
  (repeat' (first|((with_reducible refine zI ?_);first|refine zF rfl rfl rfl ?_|refine zD rfl rfl rfl ?_|(refine zf rfl rfl rfl ?_;refine ⟨_,rfl,?_⟩)|(refine zT rfl rfl rfl rfl rfl (fun h=>?_) (fun h=>?_)<;>(dsimp only [cmpP] at h;(try (exfalso;omega))))|(refine zBJ rfl rfl rfl rfl (fun _ _ q=>zBx t A cap l B c _ (ht.below q.below) (hs.below q.below) (fun b o e=>Nat.lt_of_lt_of_le (hB b o e) q.below.size) hf hfm hl hll hv hm) ?_;rintro mm -;dsimp only [List.cons_append,List.nil_append])|refine zz rfl rfl rfl rfl (fun _ _ q=>h3 _ _ q.below (zE9 q.own (by (repeat constructor)))) (fun A' c'=>?_)|refine zZ rfl rfl rfl rfl ?_|refine zCR rfl rfl rfl ?_|(refine zQ rfl rfl rfl rfl rfl ?_;refine ⟨rfl,by first|decide|exact Nat.le_of_ble_eq_true rfl|(simp;omega),_,rfl,?_⟩)|(refine zV rfl rfl (fun b=>?_))|(refine zAD rfl rfl rfl rfl (fun b=>?_))|(refine zAH rfl rfl rfl ?_;refine ⟨_,rfl,?_⟩))|(with_reducible first|refine zJ ?_|refine zC ?_|refine zG ?_|refine zA ?_|refine zg ?_|refine ze ?_|refine zq ?_)|((with_reducible refine zM ?_ ?_);(· exact rfl))|((with_reducible refine zL ?_ ?_);(· exact rfl))))
  exact zP (by (exact zY.cons (by exact res1c rfl (by exact rfl)) (zY.cons (by exact zAW.tmp rfl) zY.nil))) (none,0) trivial rfl (fun _ h=>zBK h)
 ·have e1:zBT t l=0:=by simp [zBT,hv,hm,hb]
  rw [zHD hv hm,e1]
  simp only [s1,s2,hb] at h3
  (refine zH (n:=32) Tryd.func16 rfl rfl rfl ?_)
  (repeat' (first|((with_reducible refine zI ?_);first|refine zF rfl rfl rfl ?_|refine zD rfl rfl rfl ?_|(refine zf rfl rfl rfl ?_;refine ⟨_,rfl,?_⟩)|(refine zT rfl rfl rfl rfl rfl (fun h=>?_) (fun h=>?_)<;>(dsimp only [cmpP] at h;(try (exfalso;omega))))|(refine zBJ rfl rfl rfl rfl (fun _ _ q=>zBx t A cap l B c _ (ht.below q.below) (hs.below q.below) (fun b o e=>Nat.lt_of_lt_of_le (hB b o e) q.below.size) hf hfm hl hll hv hm) ?_;rintro mm -;dsimp only [List.cons_append,List.nil_append])|refine zz rfl rfl rfl rfl (fun _ _ q=>h3 _ _ q.below (zE9 q.own (by (repeat constructor)))) (fun A' c'=>?_)|refine zZ rfl rfl rfl rfl ?_|refine zCR rfl rfl rfl ?_|(refine zQ rfl rfl rfl rfl rfl ?_;refine ⟨rfl,by first|decide|exact Nat.le_of_ble_eq_true rfl|(simp;omega),_,rfl,?_⟩)|(refine zV rfl rfl (fun b=>?_))|(refine zAD rfl rfl rfl rfl (fun b=>?_)))|(with_reducible first|refine zJ ?_|refine zC ?_|refine zG ?_|refine zA ?_|refine zg ?_|refine ze ?_)|((with_reducible refine zL ?_ ?_);(· exact rfl))))
  exact zP (by (exact zY.cons (by exact res1c rfl (by exact rfl)) (zY.cons (by exact zAW.tmp rfl) zY.nil))) (A',c') trivial rfl (fun _ h=>h.sub (by (repeat constructor)))
end Go.Proofs.YtcpdjamlhhfbhaaDoor
namespace Go.Proofs.YtcpdjamlhhfbhaaDoor
open Go.RowKit
set_option maxRecDepth 20000
theorem nT_run : nT zX [zAI]=runL∧zBT zX [zAI]=0:=by
 obtain ⟨h1,h2⟩:=zBB zAf zDp
 obtain ⟨h3,h4⟩:=zGe
 rw [zHD zAf zDp,← h2,h4]
 refine ⟨rfl,?_⟩
 unfold zBT
 rw [zAf,zDp,← h1,h3];rfl
set_option maxHeartbeats 1000000 in
theorem zHF (B:Option Addr) (w:World) (hB:zS zAt 5 w B [zAI]):Gv Tryd.prog 8 [vSp ⟨4050,4100⟩,vSp ⟨2150,2200⟩,.slice B 1 1] w (.bool true):=by
 unfold Gv vSp
 have hbl:∀ b o,B=some ⟨b,o,none⟩→b<w.heap.size:=fun b o e=>by
  obtain ⟨b',o',h1,h2,_⟩:=hB 0 zAI rfl
  rw [h1] at e;cases e;exact h2
 have h1:=fun W A cap (hA:zS zO 9 W A zX) (hW:Below w.heap.size w W)=>zCi zX A cap [zAI] B 1 W hA (hB.below hW) (fun b o e=>Nat.lt_of_lt_of_le (hbl b o e) hW.size) zAa (by intro m hm;simp at hm;subst hm;decide) (by decide) (by decide)
 rw [nT_run.1,nT_run.2] at h1
 (refine zH (n:=34) Tryd.func8 rfl rfl rfl ?_)
 (repeat' (first|((with_reducible refine zI ?_);first|refine zF rfl rfl rfl ?_|refine zD rfl rfl rfl ?_|(refine zBJ rfl rfl rfl rfl (fun _ _ q=>zCK _) ?_;rintro gr -;dsimp only [List.cons_append,List.nil_append])|refine zz rfl rfl rfl rfl (fun _ _ q=>h1 _ _ _ (zFQ q.own (by (repeat constructor))) q.below) (fun A' c'=>?_)|refine zZ rfl rfl rfl rfl ?_|(refine zQ rfl rfl rfl rfl rfl ?_;refine ⟨rfl,by first|decide|exact Nat.le_of_ble_eq_true rfl|(simp;omega),_,rfl,?_⟩)|(refine zV rfl rfl (fun b=>?_))|(refine zAD rfl rfl rfl rfl (fun b=>?_)))|(with_reducible first|refine zJ ?_|refine zC ?_|refine zG ?_|refine zA ?_)))
 have g0:zCG zX 0 ⟨3,⟨4000,4100⟩,⟨400,420⟩,⟨0,0⟩,0,0⟩:=⟨rfl⟩
 have g1:zCG (zX.set 0 ⟨3,⟨4050,4100⟩,⟨400,420⟩,⟨0,0⟩,0,0⟩) 1 ⟨5,⟨2000,2200⟩,⟨150,160⟩,⟨1500,1600⟩,1,0⟩:=⟨rfl⟩
 (refine zDj ⟨8,[.arr zO 9 gr zX],[.arr zO 9 gr (zX.set 0 ⟨3,⟨4050,4100⟩,⟨400,420⟩,⟨0,0⟩,0,0⟩)]⟩ (H0:=_) (fun _ h=>(h.take (by (repeat constructor)))) (by kernel_rfl) [[],[Z],[Y,Y],[Z,Y,Y],[Y,Y,Y,Y],[Y,Y,Y,Y,Y],[Y,Z,Y,Y,Z,Z],[Z,Y,Z,Y,Y,Z,Z],[Z,Z,Y,Z,Y,Y,Z,Z],[Z,Z,Z,Z,Z,Z,Z,Z,Z],[Z,Z,Z,Z,Z,Z,Z,Z,Z,Z],[Z,Z,Z,Z,Z,Z,Z,Z,Z,Z,Z]] (by kernel_rfl) (by kernel_rfl) (by kernel_rfl) ?_)
 (repeat' (first|(((with_reducible refine zB0 ?_ ?_);(· exact rfl);refine ⟨_,fun G=>(by (try simp only [fltT,zc,List.nil_append,List.cons_append]);rfl),?_⟩);first|refine zK _ (fun _=>zAA rfl rfl (by exact rfl)) (fun _=>rfl) rfl (by intro G G' h;simp (decide:=true) only [h]) ?_|(refine zAE rfl ?_;refine zK _ (fun _=>zAb rfl rfl) (fun _=>rfl) rfl (by intro G G' h;simp (decide:=true) only [h]) ?_)|refine zK _ (fun _=>zBU (I:=0) rfl rfl rfl rfl (by decide)) (fun _=>rfl) rfl (by exact fun _ _ _=>rfl) ?_|refine zK _ (fun _=>zBU (I:=1) rfl rfl rfl rfl (by decide)) (fun _=>rfl) rfl (by exact fun _ _ _=>rfl) ?_)|(refine zGt (enc:=zO) (i:=0) (j:=1) (z:=⟨3,⟨4000,4100⟩,⟨400,420⟩,⟨0,0⟩,0,0⟩) ⟨3,⟨4050,4100⟩,⟨400,420⟩,⟨0,0⟩,0,0⟩ rfl (fun _=>rfl) rfl rfl rfl rfl (fun _=>rfl) (fun _=>rfl) rfl rfl rfl (by decide) ?_)|((with_reducible refine zBE ?_ ?_);(· exact rfl))))
 (intro G;simp only [regsT,zc,Pend.zEp,List.nil_append,List.cons_append])
 simp (decide:=true) only [Pend.at_lt,List.nil_append,List.cons_append]
 (repeat' (first|((with_reducible refine zI ?_);first|refine zF rfl rfl rfl ?_|(refine zf rfl rfl rfl ?_;refine ⟨_,rfl,?_⟩)|(refine zT rfl rfl rfl rfl rfl (fun h=>?_) (fun h=>?_)<;>(dsimp only [cmpP] at h;(try (exfalso;omega))))|refine zDi (enc:=zO) (z:=⟨5,⟨2000,2200⟩,⟨150,160⟩,⟨1500,1600⟩,1,0⟩) ⟨5,⟨2150,2200⟩,⟨150,160⟩,⟨1500,1600⟩,1,0⟩ rfl rfl rfl rfl rfl rfl rfl rfl (by decide) ?_)|(with_reducible first|refine zJ ?_|refine zC ?_|refine zG ?_|refine zA ?_)))
 (repeat' (first|((with_reducible refine zI ?_);first|refine zD rfl rfl rfl ?_|refine zBS rfl rfl rfl rfl ?_|refine zN rfl rfl rfl rfl (fun _ _ q=>zGM runL _ _ _ _ _ (zAp q.own (Below.refl _ _)) (zFQ q.own (by (repeat constructor))) (by decide)) ?_)|(with_reducible first|refine zG ?_|refine zA ?_|refine zg ?_)))
 all_goals exact zP (by exact rTm rfl) () trivial rfl (fun _ h=>h.sub (by (repeat constructor)))
end Go.Proofs.YtcpdjamlhhfbhaaDoor
namespace Go.Proofs.YtcpdjamlhhfbhaaDoor
open Go.RowKit
set_option maxRecDepth 20000
set_option maxHeartbeats 2000000 in
theorem pickSt (l:List St) (A:Option Addr) (cap:Nat) (kf:FuncId) [zR Tryd.prog kf] (cs:Array Value) (p:Nat→St→Bool) (w:World) (hk:zS zO 9 w A l) (hl:l.length≤100000)
  (hp:∀ (i:Nat) x W,l[i]?=some x→Below w.heap.size w W→Gv Tryd.prog kf ([.int .i64 (i:Int),vSt x]++cs.toList) W (.bool (p i x))) :
  zAh encI 1 (picks p l) (fun v=>v) Tryd.prog 42 [.slice A l.length cap,.func (.func kf) #[] cs] w:=by
 unfold zAh
 (refine zH (n:=25) Tryd.func42 rfl rfl rfl ?_)
 (repeat' (first|((with_reducible refine zI ?_);first|refine zF rfl rfl rfl ?_|refine zD rfl rfl rfl ?_|refine zAx rfl rfl rfl ?_)|(with_reducible first|refine zJ ?_|refine zC ?_|refine zG ?_|refine zA ?_|refine zb ?_)))
 refine zCQ encI 1 3 ?_
 refine zAc (ι:=Nat × Value) (fun i=>i.1≤l.length) (fun i=>[(1,.func (.func kf) #[] cs),(5,i.2),(8,.slice A l.length cap),(9,.int .i64 (l.length:Int)),(10,.int .i64 (i.1:Int))]) (fun i=>[.row encI 1 3 i.2 (z0 p l i.1)]) (fun i=>l.length - i.1) (0,.slice none 0 0) (Nat.zero_le _) (by (repeat first|exact lK1|refine zW rfl ?_)) (by (repeat constructor)) ?_
 rintro ⟨i,v⟩ hi
 simp only at hi ⊢
 have hpl:=zBN p l i
 by_cases hlt:i<l.length
 ·have hx:l[i]?=some l[i]:=by simp [hlt]
  obtain ⟨b,o,rfl,hblt,hc⟩:=hk.at_ hlt
  have:InS w b o zO 9 l:=⟨hk⟩
  have:zCG l i l[i]:=⟨hx⟩
  have hso:zCe p l i=p i l[i]:=by simp [zCe,hlt]
  (repeat' (first|((with_reducible refine zI ?_);first|refine zF rfl rfl rfl ?_|refine zD rfl rfl rfl ?_|(refine zf rfl rfl rfl ?_;refine ⟨_,rfl,?_⟩)|(refine zT rfl rfl rfl rfl rfl (fun h=>?_) (fun h=>?_)<;>(dsimp only [cmpP] at h;(try (exfalso;omega))))|(refine zBj rfl rfl rfl rfl (fun _ _ q=>hp i _ _ hx q.below) (fun h=>?_) (fun h=>?_)<;>(try (exfalso;omega)))|(refine zBk (enc:=encI) [_] rfl rfl rfl (by (repeat constructor)) rfl rfl (zAu (by exact rfl)) (by refine ⟨?_,by decide⟩;(try simp only [List.length_append,List.length_cons,List.length_nil]);omega) (fun A' c'=>?_))|refine zAY rfl rfl rfl rfl (by omega) ?_|refine zBv rfl rfl rfl rfl rfl (by omega) ?_|(refine zQ rfl rfl rfl rfl rfl ?_;refine ⟨rfl,by first|decide|exact Nat.le_of_ble_eq_true rfl|(simp;omega),_,rfl,?_⟩)|(refine zV rfl rfl (fun b=>?_))|(refine zi rfl rfl rfl ?_;refine ⟨rfl,_,rfl,fun b=>?_⟩))|(with_reducible first|refine zJ ?_|refine zC ?_|refine zG ?_|refine zA ?_|refine ze ?_|refine zb ?_|refine zAL ?_)|((with_reducible refine zM ?_ ?_);(· exact rfl))|((with_reducible refine zL ?_ ?_);(· exact rfl))))
  ·refine zm (i+1,.slice A' (z0 p l i++[(i:Int)]).length c') (by simp only;omega) (by simp only;omega) (by (repeat first|exact lK1|refine zW rfl ?_)) ?_
   rw [zAq (hso.trans h)]
   (repeat constructor)
  ·refine zm (i+1,v) (by simp only;omega) (by simp only;omega) (by (repeat first|exact lK1|refine zW rfl ?_)) ?_
   rw [zA2 (hso.trans h)]
   (repeat constructor)
 ·obtain rfl:i=l.length:=by omega
  (repeat' (first|((with_reducible refine zI ?_);first|refine zF rfl rfl rfl ?_|refine zD rfl rfl rfl ?_|(refine zT rfl rfl rfl rfl rfl (fun h=>?_) (fun h=>?_)<;>(dsimp only [cmpP] at h;(try (exfalso;omega)))))|(with_reducible first|refine zJ ?_|refine zC ?_|refine zG ?_|refine zA ?_|refine zg ?_|refine zAd ?_|refine zo ?_|refine zx ?_)|((with_reducible refine zL ?_ ?_);(· exact rfl))))
  refine zBa (enc:=encI) (by (repeat constructor)) ?_
  rintro A' c' rfl
  exact zP (by exact rTm rfl) (A',c') trivial rfl (fun _ h=>(h.zEF (by (repeat constructor))).sub (by (repeat constructor)))
theorem mul_bd {a b A B:Int} (h1:0≤a) (h2:a≤A) (h3:0≤b) (h4:b≤B):0≤a * b∧a * b≤A * B :=
 ⟨Int.mul_nonneg h1 h3,Int.mul_le_mul h2 h4 h3 (Int.le_trans h1 h2)⟩
def lessP (s:St) (i k:Nat) (o:St):Bool:=decide (k≠i) && decide (s.fall.hi * o.long.hi<o.fall.lo * s.long.lo)
def zF3 (t:List St) (i:Nat) (s:St):Bool:=decide ((picks (lessP s i) t).length=0)
def zD9 (t:List St):List Int:=if valid t then picks (zF3 t) t else []
set_option maxHeartbeats 1000000 in
theorem zGN (k i:Nat) (o s:St) (b1 b2:Nat) (w:World) (ho:zDB o) (hs:zDB s) (h1:InC w b1 0 [.int .i64 (i:Int)]) (h2:InC w b2 0 (zO s)) :
  Gv Tryd.prog 44 [.int .i64 (k:Int),vSt o,.pointer (some ⟨b1,0,none⟩),.pointer (some ⟨b2,0,none⟩)] w (.bool (lessP s i k o)):=by
 unfold Gv vSt
 obtain ⟨z1,z2,z3,z4,z5,z6,z7,z8⟩:=ho
 obtain ⟨y1,y2,y3,y4,y5,y6,y7,y8⟩:=hs
 have m1:=mul_bd (a:=o.fall.lo) (b:=s.long.lo) (A:=5000) (B:=30000) (by omega) (by omega) (by omega) (by omega)
 have m2:=mul_bd (a:=s.fall.hi) (b:=o.long.hi) (A:=5000) (B:=30000) (by omega) (by omega) (by omega) (by omega)
 (refine zH (n:=27) Tryd.func44 rfl rfl rfl ?_)
 (repeat' (first|((with_reducible refine zI ?_);first|refine zF rfl rfl rfl ?_|refine zD rfl rfl rfl ?_|(refine zf rfl rfl rfl ?_;refine ⟨_,rfl,?_⟩)|refine zAQ rfl rfl rfl ?_|refine zBS rfl rfl rfl rfl ?_|refine zBu rfl rfl rfl ?_|(refine zT rfl rfl rfl rfl rfl (fun h=>?_) (fun h=>?_)<;>(dsimp only [cmpP] at h;(try (exfalso;omega))))|refine u_mul rfl rfl rfl rfl (IntWalk.i64_in _ (by omega)) ?_|(refine zAD rfl rfl rfl rfl (fun b=>?_)))|(with_reducible first|refine zJ ?_|refine zC ?_|refine zG ?_|refine zA ?_|refine zg ?_)))
 all_goals exact zP (by exact rTm rfl) () trivial (by simp [resV,lessP];omega) (fun _ h=>h.sub (by (repeat constructor)))
set_option maxHeartbeats 1000000 in
theorem zG0 (t:List St) (A:Option Addr) (cap:Nat) (i:Nat) (s:St) (b:Nat) (w:World) (ht:zS zO 9 w A t) (ho:∀ s∈t,zDB s) (hs:zDB s) (hl:t.length≤1000) (h1:InC w b 0 [.slice A t.length cap]) :
  Gv Tryd.prog 43 [.int .i64 (i:Int),vSt s,.pointer (some ⟨b,0,none⟩)] w (.bool (zF3 t i s)):=by
 unfold Gv vSt
 (refine zH (n:=12) Tryd.func43 rfl rfl rfl ?_)
 (repeat' (first|((with_reducible refine zI ?_);first|refine zD rfl rfl rfl ?_|(refine zf rfl rfl rfl ?_;refine ⟨_,rfl,?_⟩)|refine zAQ rfl rfl rfl ?_|(refine zT rfl rfl rfl rfl rfl (fun h=>?_) (fun h=>?_)<;>(dsimp only [cmpP] at h;(try (exfalso;omega))))|refine zz rfl rfl rfl rfl (fun _ _ q=>(pickSt t _ _ _ _ (lessP s i) _ (ht.below q.below) (by omega) (fun k o W hx hW=>zGN k i o s _ _ W (ho o (List.mem_of_getElem? hx)) hs (zBW q.own hW) (zBW q.own hW)))) (fun A' c'=>?_)|refine zAx rfl rfl rfl ?_|(refine zAD rfl rfl rfl rfl (fun b=>?_))|refine zA0 rfl rfl rfl rfl ?_)|(with_reducible first|refine zJ ?_|refine zC ?_|refine zG ?_|refine zA ?_|refine zg ?_)))
 all_goals exact zP (by exact rTm rfl) () trivial (by first|exact congrArg Value.bool (decide_eq_true (by omega))|exact congrArg Value.bool (decide_eq_false (by omega))) (fun _ h=>h.sub (by (repeat constructor)))
set_option maxHeartbeats 1000000 in
theorem zF2 (t:List St) (A:Option Addr) (cap:Nat) (w:World) (ht:zS zO 9 w A t) (hf:zCb t) (hl:t.length≤1000) :
  zAh encI 1 (zD9 t) (fun v=>.tuple #[v,.int .i64 (zBY t)]) Tryd.prog 21 [vT A t.length cap] w:=by
 unfold zAh vT
 have h1:=fun W (h:Below w.heap.size w W)=>zDy t A cap W (ht.below h) hf (by omega)
 (refine zH (n:=14) Tryd.func21 rfl rfl rfl ?_)
 cases hv:valid t
 ·have e1:zD9 t=[]:=by simp [zD9,hv]
  rw [zBz hv] at h1
  rw [e1,zBz hv]
  (repeat' (first|((with_reducible refine zI ?_);first|refine zF rfl rfl rfl ?_|refine zD rfl rfl rfl ?_|(refine zf rfl rfl rfl ?_;refine ⟨_,rfl,?_⟩)|(refine zT rfl rfl rfl rfl rfl (fun h=>?_) (fun h=>?_)<;>(dsimp only [cmpP] at h;(try (exfalso;omega))))|refine zN rfl rfl rfl rfl (fun _ _ q=>h1 _ q.below) ?_|(refine zAD rfl rfl rfl rfl (fun b=>?_)))|(with_reducible first|refine zJ ?_|refine zC ?_|refine zG ?_|refine zA ?_|refine zg ?_|refine zq ?_)|((with_reducible refine zM ?_ ?_);(· exact rfl))))
  exact zP (by (exact zY.cons (by exact zAW.tmp rfl) (zY.cons (by exact zAW.tmp rfl) zY.nil))) (none,0) trivial rfl (fun _ h=>zBK h)
 ·have e1:zD9 t=picks (zF3 t) t:=by simp [zD9,hv]
  rw [zBG hv] at h1
  rw [e1,zBG hv]
  have ho:=zAi hv
  (repeat' (first|((with_reducible refine zI ?_);first|refine zF rfl rfl rfl ?_|refine zD rfl rfl rfl ?_|(refine zf rfl rfl rfl ?_;refine ⟨_,rfl,?_⟩)|refine zAQ rfl rfl rfl ?_|(refine zT rfl rfl rfl rfl rfl (fun h=>?_) (fun h=>?_)<;>(dsimp only [cmpP] at h;(try (exfalso;omega))))|refine zN rfl rfl rfl rfl (fun _ _ q=>h1 _ q.below) ?_|refine zz rfl rfl rfl rfl (fun _ _ q=>(pickSt t _ _ _ _ (zF3 t) _ (ht.below q.below) (by omega) (fun k o W hx hW=>zG0 t A cap k o _ W ((ht.below q.below).below hW) ho (ho o (List.mem_of_getElem? hx)) hl (zBW q.own hW)))) (fun A' c'=>?_)|(refine zAD rfl rfl rfl rfl (fun b=>?_))|refine zA0 rfl rfl rfl rfl ?_)|(with_reducible first|refine zJ ?_|refine zC ?_|refine zG ?_|refine zA ?_|refine zg ?_|refine ze ?_)|((with_reducible refine zL ?_ ?_);(· exact rfl))))
  exact zP (by (exact zY.cons (by exact zAW.tmp rfl) (zY.cons (by exact zAW.tmp rfl) zY.nil))) (_,_) trivial rfl (fun _ h=>h.sub (by (repeat constructor)))
end Go.Proofs.YtcpdjamlhhfbhaaDoor
