/- H31 -/
import Derived.Test.YtdigopgncfhiaaaGreatDoorH28
import Derived.Test.YtdigopgncfhiaaaGreatDoorH30
import Derived.Test.YtdigopgncfhiaaaGreatDoorH29
set_option linter.unusedSimpArgs false
set_option linter.unusedVariables false
namespace Go.Proofs.YtdigopgncfhiaaaGreatDoor
open Go.RowKit
set_option maxRecDepth 20000
set_option maxHeartbeats 4000000 in
theorem left_k2 (t:List St) (A:Option Addr) (cap:Nat) (kb:KB) (ms:List Me) (m:Nat) (w:World) (ht:zp zAK 9 w A t) (hv:valid t=true) (hok:∀ x∈ms,zHK t.length x=true) (hkb:kb.ok ms.length) (hm:w.heap[m]?=some (.map (zAv kb ms) kb.c)) (b4 b6 b8 g c':Nat) (c:Code) (hc:Tryz.f96.body.bind zCm=some c) (AG:Act→World→Prop) (Q:Exit→Act→World→Prop)
  (hag:fine2 t ms→U w 164 [] (zJs m b4 b6 b8 t.length 3) (zJt b4 b6 b8 g t.length c' (stg t ms 3)) AG)
  (hret:zDX t ms=false→∀ a W,Kn w 164 [] [(4,.pointer (some ⟨b4,0,none⟩)),(5,.bool false)] [.blk b4 [.slice none 0 0]] a W→Q .ret a W) :
  U w 164 [] (zJs m b4 b6 b8 t.length 2) (zJt b4 b6 b8 g t.length c' (stg t ms 2)) (c.wpI none Tryz.prog (Exit.then AG Q)):=by
 obtain rfl:_=c:=Option.some.inj ((rfl:Tryz.f96.body.bind zCm=some _).symm.trans hc)
 clear hc
 have ho:=zCE hv
 have hlen:=zCN hv
 have hmlt:m<w.heap.size:=(Array.getElem?_eq_some_iff.1 hm).1
 have hmap:∀ W,Below w.heap.size w W→W.heap[m]?=some (.map (zAv kb ms) kb.c):=fun W h=>(h.block m hmlt).trans hm
 have bd1:∀ s∈t,-400000≤s.long.lo∧s.long.lo≤400000:=fun s hs=>by have:=ho s hs;have:=this.l0;have:=(ho s hs).l1;have:=(ho s hs).l2;omega
 have okS1:zFi (longs t):=fun i=>by
  unfold zCA longs
  rw [List.getD_eq_getElem?_getD,List.getElem?_map]
  cases h:t[i]? with
  | none=>simp
  | some z =>
   have hz:=ho z (List.mem_of_getElem? h)
   have:=hz.l0;have:=hz.l1;have:=hz.l2
   simp only [Option.map_some,Option.getD_some];omega
 have ef:falls (stage1 t ms)=falls t:=by
  unfold falls stage1
  apply List.ext_getElem?
  intro j
  rw [List.getElem?_map,List.getElem?_map,zBP]
  cases t[j]? with
  | none=>rfl
  | some z=>by_cases h:j<t.length<;>simp [h,zCc]
 have bd2:∀ s∈stage1 t ms,-400000≤s.fall.lo∧s.fall.lo≤400000:=fun s hs=>by
  have h:s.fall∈falls (stage1 t ms):=List.mem_map.2 ⟨s,hs,rfl⟩
  rw [ef] at h
  obtain ⟨z,hz,e⟩:=List.mem_map.1 h
  rw [← e]
  have:=(ho z hz).f0;have:=(ho z hz).f1;have:=(ho z hz).f2;omega
 have okS2:zFi (falls (stage1 t ms)):=fun i=>by
  rw [ef]
  unfold zCA falls
  rw [List.getD_eq_getElem?_getD,List.getElem?_map]
  cases h:t[i]? with
  | none=>simp
  | some z =>
   have hz:=ho z (List.mem_of_getElem? h)
   have:=hz.f0;have:=hz.f1;have:=hz.f2
   simp only [Option.map_some,Option.getD_some];omega
 have len2:(stage1 t ms).length=t.length:=zJG
 have no2:¬ zBS 2 (falls (stage1 t ms)) ms (t.length+1)→zDX t ms=false:=fun h=>zQY h
 have yes2:zBS 2 (falls (stage1 t ms)) ms (t.length+1)→fine2 t ms:=fun h=>h
 have end2:zCY (zCw (dist 2 (falls (stage1 t ms)) ms (t.length+1))) (stage1 t ms) t.length=stg t ms (2+1):=rfl
 unfold zJs zJt
 rw [show stg t ms 2=stage1 t ms from rfl]
 clear ef
 generalize stage1 t ms=t2 at *
 ·skip
  (repeat' (first|((with_reducible refine zF ?_);first|refine zE rfl rfl rfl ?_|(refine zQ rfl rfl rfl rfl rfl (fun h=>?_) (fun h=>?_)<;>(dsimp only [cmpP] at h;(try (exfalso;omega))))|(refine zh rfl rfl (fun b=>?_)))|(with_reducible first|refine zH ?_|refine zB ?_|refine zD ?_|refine zA ?_|refine zS ?_|refine zP ?_)|((with_reducible refine zK ?_ ?_);(· exact rfl))))
  rw [zKg]
  obtain ⟨bm,hbm⟩:∃ x,x=b:=⟨b,rfl⟩
  subst hbm
  refine zCF (ι:=Nat × Mat) (fun j=>j.1≤t.length+1∧zFS (t.length+1) j.1 0 j.2) (fun j=>[(1,.map (some m)),(4,.pointer (some ⟨b4,0,none⟩)),(6,.pointer (some ⟨b6,0,none⟩)),(7,.int .i64 ((t.length+1:Nat):Int)),(8,.pointer (some ⟨b8,0,none⟩)),(9,.int .i64 (2:Int)),(10,.pointer (some ⟨bm,0,none⟩)),(32,.int .i64 ((t.length+1:Nat):Int)),(33,.int .i64 (j.1:Int))]) (fun j=>[.blk bm (zAU j.2),.blk b4 [.slice none 0 0],.blk b6 [.slice (some ⟨g,0,none⟩) t.length c'],.blk b8 [.nilFunc,.func (.func 143) #[] #[],.func (.func 144) #[] #[]],.arr zAK 9 g (t2)]) (fun j=>t.length+1 - j.1) (0,fun _ _=>0) ⟨Nat.zero_le _,zIa _⟩ (by (repeat first|exact lK1|refine zI rfl ?_)) (by (repeat constructor)) ?_
  rintro ⟨i,M⟩ ⟨hi,hM⟩
  simp only at hi hM ⊢
  by_cases hlt:i<t.length+1
  ·(repeat' (first|((with_reducible refine zF ?_);first|refine zE rfl rfl rfl ?_|refine zC rfl rfl rfl ?_|(refine zQ rfl rfl rfl rfl rfl (fun h=>?_) (fun h=>?_)<;>(dsimp only [cmpP] at h;(try (exfalso;omega)))))|(with_reducible first|refine zH ?_|refine zB ?_|refine zD ?_|refine zA ?_|refine zS ?_|refine zP ?_)|((with_reducible refine zK ?_ ?_);(· exact rfl))))
   refine zCF (ι:=Nat × Mat) (fun j=>j.1≤t.length+1∧zFS (t.length+1) i j.1 j.2) (fun j=>[(1,.map (some m)),(4,.pointer (some ⟨b4,0,none⟩)),(6,.pointer (some ⟨b6,0,none⟩)),(7,.int .i64 ((t.length+1:Nat):Int)),(8,.pointer (some ⟨b8,0,none⟩)),(9,.int .i64 (2:Int)),(10,.pointer (some ⟨bm,0,none⟩)),(32,.int .i64 ((t.length+1:Nat):Int)),(33,.int .i64 (i:Int)),(11,.int .i64 (i:Int)),(36,.int .i64 ((t.length+1:Nat):Int)),(37,.int .i64 (j.1:Int))]) (fun j=>[.blk bm (zAU j.2),.blk b4 [.slice none 0 0],.blk b6 [.slice (some ⟨g,0,none⟩) t.length c'],.blk b8 [.nilFunc,.func (.func 143) #[] #[],.func (.func 144) #[] #[]],.arr zAK 9 g (t2)]) (fun j=>t.length+1 - j.1) (0,M) ⟨Nat.zero_le _,hM⟩ (by (repeat first|exact lK1|refine zI rfl ?_)) (by (repeat constructor)) ?_
   clear hM M
   rintro ⟨k,M⟩ ⟨hk,hM⟩
   simp only at hk hM ⊢
   by_cases hlk:k<t.length+1
   ·have m3:zFK i k:=⟨by omega,by omega⟩
    (repeat' (first|((with_reducible refine zF ?_);first|refine zE rfl rfl rfl ?_|refine zC rfl rfl rfl ?_|(refine zQ rfl rfl rfl rfl rfl (fun h=>?_) (fun h=>?_)<;>(dsimp only [cmpP] at h;(try (exfalso;omega))))|refine zCr rfl rfl rfl rfl rfl ?_|refine zi rfl rfl rfl rfl (by omega) ?_|refine zG2 rfl rfl rfl rfl rfl (by first|decide|omega) ?_)|(with_reducible first|refine zH ?_|refine zB ?_|refine zD ?_|refine zA ?_|refine zS ?_|refine zP ?_|refine zg ?_)|((with_reducible refine zK ?_ ?_);(· exact rfl))|((with_reducible refine zG ?_ ?_);(· exact rfl))))
    ·exact zZ (k+1,zBu M i k far) ⟨by omega,zLU hM (by omega)⟩ (by simp only;omega) (by (repeat first|exact lK1|refine zI rfl ?_)) (by (repeat constructor))
    ·obtain rfl:i=k:=by omega
     exact zZ (i+1,M) ⟨by omega,zJ6 hM⟩ (by simp only;omega) (by (repeat first|exact lK1|refine zI rfl ?_)) (by (repeat constructor))
   ·obtain rfl:k=t.length+1:=by omega
    (repeat' (first|((with_reducible refine zF ?_);first|refine zE rfl rfl rfl ?_|(refine zQ rfl rfl rfl rfl rfl (fun h=>?_) (fun h=>?_)<;>(dsimp only [cmpP] at h;(try (exfalso;omega))))|refine zi rfl rfl rfl rfl (by omega) ?_)|(with_reducible first|refine zH ?_|refine zB ?_|refine zD ?_|refine zA ?_|refine zl ?_|refine zg ?_|refine zV ?_|refine zX ?_)|((with_reducible refine zG ?_ ?_);(· exact rfl))))
    exact zZ (i+1,M) ⟨by omega,zLV hM⟩ (by simp only;omega) (by (repeat first|exact lK1|refine zI rfl ?_)) (by (repeat constructor))
  obtain rfl:i=t.length+1:=by omega
  (repeat' (first|((with_reducible refine zF ?_);first|refine zE rfl rfl rfl ?_|(refine zL rfl rfl rfl ?_;refine ⟨_,rfl,?_⟩)|refine zb rfl rfl rfl ?_|(refine zQ rfl rfl rfl rfl rfl (fun h=>?_) (fun h=>?_)<;>(dsimp only [cmpP] at h;(try (exfalso;omega))))|refine zq rfl rfl rfl ?_)|(with_reducible first|refine zH ?_|refine zB ?_|refine zD ?_|refine zA ?_|refine zP ?_|refine zl ?_|refine zV ?_|refine zX ?_)|((with_reducible refine zG ?_ ?_);(· exact rfl))))
  refine zCF (ι:=Nat × Mat) (fun j=>j.1≤t.length∧SpTo (t.length+1) (falls t2) j.1 j.2) (fun j=>[(1,.map (some m)),(4,.pointer (some ⟨b4,0,none⟩)),(6,.pointer (some ⟨b6,0,none⟩)),(7,.int .i64 ((t.length+1:Nat):Int)),(8,.pointer (some ⟨b8,0,none⟩)),(9,.int .i64 (2:Int)),(10,.pointer (some ⟨bm,0,none⟩)),(51,.int .i64 (t.length:Int)),(52,.int .i64 (j.1:Int))]) (fun j=>[.blk bm (zAU j.2),.blk b4 [.slice none 0 0],.blk b6 [.slice (some ⟨g,0,none⟩) t.length c'],.blk b8 [.nilFunc,.func (.func 143) #[] #[],.func (.func 144) #[] #[]],.arr zAK 9 g (t2)]) (fun j=>t.length - j.1) (0,M) ⟨Nat.zero_le _,zJI hM⟩ (by (repeat first|exact lK1|refine zI rfl ?_)) (by (repeat constructor)) ?_
  clear hM M hi hlt
  rintro ⟨i,M⟩ ⟨hi,hM⟩
  simp only at hi hM ⊢
  by_cases hlt:i<t.length
  ·have hz:(t2)[i]?=some ((t2)[i]'(by rw [len2];exact hlt)):=by simp
   have:zAQ (t2) i ((t2)[i]'(by rw [len2];exact hlt)):=⟨hz⟩
   have hsp:zCA (falls t2) i=((t2)[i]'(by rw [len2];exact hlt)).fall:=by
    rw [zCA,List.getD_eq_getElem?_getD,falls,List.getElem?_map,hz];rfl
   have hbz:=bd2 _ (List.getElem_mem (by rw [len2];exact hlt:i<(t2).length))
   generalize (t2)[i]'(by rw [len2];exact hlt)=z at *
   have m1:zFK i (i+1):=⟨by omega,by omega⟩
   have m2:zFK (i+1) i:=⟨by omega,by omega⟩
   (repeat' (first|((with_reducible refine zF ?_);first|refine zE rfl rfl rfl ?_|refine zC rfl rfl rfl ?_|(refine zQ rfl rfl rfl rfl rfl (fun h=>?_) (fun h=>?_)<;>(dsimp only [cmpP] at h;(try (exfalso;omega)))))|(with_reducible first|refine zH ?_|refine zB ?_|refine zD ?_|refine zA ?_|refine zS ?_|refine zP ?_)|((with_reducible refine zK ?_ ?_);(· exact rfl))))
   (refine Two.zAV [] [] [] rfl (show ([]:List Nat).Nodup by decide) (fun _ h=>h) (by kernel_rfl) [[],[Z],[Z,Z],[Z,Z,Z],[Y,Y,Y,Y],[Z,Y,Y,Y,Y],[Y,Y,Y,Y,Y,Y],[Z,Z,Z,Y,Y,Y,Y],[Z,Z,Z,Z,Z,Z,Z,Z],[Z,Z,Z,Z,Z,Z,Z,Z,Z],[Z,Z,Z,Z,Z,Z,Z,Z,Z,Z],[Y,Y,Y,Y,Y,Y,Y,Y,Y,Y,Y],[Z,Z,Z,Z,Z,Z,Z,Z,Z,Z,Z,Z]] (by kernel_rfl) (by kernel_rfl) (by kernel_rfl) (by kernel_rfl) (by kernel_rfl) ?_)
   (repeat' (first|(((with_reducible refine Two.zCC ?_ ?_);(· exact rfl);refine ⟨_,fun G=>(by (try simp (decide:=true) only [Two.vis,Two.see,fltT,zm,Nat.reduceAdd,Nat.reduceSub,if_true,if_false,List.set_cons_zero,List.set_cons_succ,List.set_nil,List.nil_append,List.cons_append]);rfl),?_⟩);first|refine Two.zU _ (fun _=>zAO rfl rfl) (fun _=>rfl) rfl (by intro G G' h;simp (decide:=true) only [h]) ?_|refine Two.zU _ (fun _=>zu rfl rfl (by exact rfl)) (fun _=>rfl) rfl (by intro G G' h;simp (decide:=true) only [h]) ?_|(refine Two.zAC rfl ?_;refine Two.zU _ (fun _=>zAE rfl rfl) (fun _=>rfl) rfl (by intro G G' h;simp (decide:=true) only [h]) ?_)|refine Two.zB1 _ rfl (fun _=>rfl) rfl (fun _=>rfl) (fun _=>rfl) (fun _ _ _ q=>zLG _ _ _) (by intro G G' h;simp (decide:=true) only [h]) ?_|refine Two.zU _ (fun _=>zAl rfl rfl rfl rfl (by omega)) (fun _=>rfl) rfl (by intro G G' h;simp (decide:=true) only [h]) ?_|refine Two.zU _ (fun _=>zCK rfl rfl rfl rfl (by first|decide|omega)) (fun _=>rfl) rfl (by intro G G' h;simp (decide:=true) only [h]) ?_|refine Two.zU _ (fun _=>zAJ rfl rfl) (fun _=>rfl) rfl (by intro G G' h;simp (decide:=true) only [h]) ?_|refine Two.zGR rfl (fun _=>rfl) rfl ?_)|((with_reducible refine Two.zA8 ?_ ?_);(· exact rfl))))
   (intro G;simp only [regsT,zm,Two.zAq,Two.ini,List.nil_append,List.cons_append])
   (repeat' (first|((with_reducible refine zF ?_);first|(refine za rfl rfl rfl rfl rfl ?_;refine ⟨rfl,by first|decide|exact Nat.le_of_ble_eq_true rfl|(simp;omega),_,rfl,?_⟩))|(with_reducible first|refine zD ?_|refine zA ?_)))
   (refine zMZ ⟨13,[.blk bm (zAU M)],[.blk bm (zAU (zBu M i (i+1) z.fall.hi))]⟩ (H0:=_) (fun _ h=>(h.take (by (repeat constructor)))) (by kernel_rfl) [[],[Y],[Z,Y],[Y,Y,Y],[Z,Y,Y,Y],[Y,Y,Y,Y,Y],[Y,Y,Y,Y,Y,Y],[Z,Y,Y,Y,Y,Y,Y],[Y,Y,Y,Y,Y,Y,Y,Y],[Z,Y,Y,Y,Y,Y,Y,Y,Y],[Z,Z,Y,Y,Y,Y,Y,Y,Y,Y],[Y,Y,Y,Y,Y,Y,Y,Y,Y,Y,Z],[Z,Y,Y,Y,Z,Z,Y,Y,Y,Z,Z,Z],[Z,Z,Y,Y,Y,Z,Z,Y,Y,Y,Z,Z,Z],[Y,Y,Y,Y,Y,Y,Y,Y,Y,Z,Z,Y,Y,Y],[Z,Z,Z,Z,Z,Z,Z,Z,Z,Z,Z,Z,Z,Z,Z],[Z,Z,Z,Z,Z,Z,Z,Z,Z,Z,Z,Z,Z,Z,Z,Z]] (by kernel_rfl) (by kernel_rfl) (by kernel_rfl) ?_)
   (repeat' (first|(((with_reducible refine zCC ?_ ?_);(· exact rfl);refine ⟨_,fun G=>(by (try simp only [fltT,zm,List.nil_append,List.cons_append]);rfl),?_⟩);first|refine zU _ (fun _=>zAO rfl rfl) (fun _=>rfl) rfl (by intro G G' h;simp (decide:=true) only [h]) ?_|refine zU _ (fun _=>zu rfl rfl (by exact rfl)) (fun _=>rfl) rfl (by intro G G' h;simp (decide:=true) only [h]) ?_|(refine zAC rfl ?_;refine zU _ (fun _=>zAE rfl rfl) (fun _=>rfl) rfl (by intro G G' h;simp (decide:=true) only [h]) ?_)|refine zU _ (fun _=>zGu rfl rfl rfl (by omega)) (fun _=>rfl) rfl (by intro G G' h;simp (decide:=true) only [h]) ?_|refine zU _ (fun _=>zCK rfl rfl rfl rfl (by first|decide|omega)) (fun _=>rfl) rfl (by intro G G' h;simp (decide:=true) only [h]) ?_|refine zU _ (fun _=>zLX rfl rfl (by rw [Int.zero_sub];exact IntWalk.i64_in _ (by omega))) (fun _=>rfl) rfl (by intro G G' h;simp (decide:=true) only [h]) ?_)|(refine zPi (cs:=zAU M) (cs':=zAU (zBu M i (i+1) z.fall.hi)) rfl (fun _=>rfl) rfl rfl rfl rfl (fun _=>rfl) (fun _=>rfl) rfl rfl (Nat.ble_eq_true_of_le (by simp [zAU];omega)) (zGy m1.lt _) ?_)|((with_reducible refine zA8 ?_ ?_);(· exact rfl))))
   (intro G;simp only [regsT,zm,Pend.zPl,List.nil_append,List.cons_append])
   simp (decide:=true) only [Pend.at_lt,List.nil_append,List.cons_append]
   (repeat' (first|((with_reducible refine zF ?_);first|refine zE rfl rfl rfl ?_|refine zCr rfl rfl rfl rfl rfl ?_|refine zi rfl rfl rfl rfl (by omega) ?_)|(with_reducible first|refine zB ?_|refine zD ?_|refine zA ?_|refine zg ?_)))
   refine zZ (i+1,zBu (zBu M i (i+1) z.fall.hi) (i+1) i (-z.fall.lo)) ⟨by omega,?_⟩ (by simp only;omega) (by (repeat first|exact lK1|refine zI rfl ?_)) (by (repeat constructor))
   exact zMh hM (by rw [hsp]) (by rw [hsp])
  obtain rfl:i=t.length:=by omega
  have hA:=zMi hM rfl
  clear hM hi hlt
  (repeat' (first|((with_reducible refine zF ?_);first|refine zE rfl rfl rfl ?_|(refine zQ rfl rfl rfl rfl rfl (fun h=>?_) (fun h=>?_)<;>(dsimp only [cmpP] at h;(try (exfalso;omega))))|refine zMY rfl rfl rfl hmap ?_;intro r)|(with_reducible first|refine zH ?_|refine zB ?_|refine zD ?_|refine zA ?_|refine zP ?_|refine zl ?_|refine zV ?_|refine zX ?_)|((with_reducible refine zG ?_ ?_);(· exact rfl))))
  refine zCF (ι:=List Nat × Mat) (fun j=>j.1.Nodup∧(∀ i∈j.1,i<ms.length)∧zD8 (t.length+1) j.2 (meas 2 (T0 (falls t2)) (gotten ms j.1))) (fun j=>[(1,.map (some m)),(4,.pointer (some ⟨b4,0,none⟩)),(6,.pointer (some ⟨b6,0,none⟩)),(7,.int .i64 ((t.length+1:Nat):Int)),(8,.pointer (some ⟨b8,0,none⟩)),(9,.int .i64 (2:Int)),(10,.pointer (some ⟨bm,0,none⟩)),(83,.pointer (some ⟨r,0,none⟩))]) (fun j=>[.it r m kb j.1,.blk bm (zAU j.2),.blk b4 [.slice none 0 0],.blk b6 [.slice (some ⟨g,0,none⟩) t.length c'],.blk b8 [.nilFunc,.func (.func 143) #[] #[],.func (.func 144) #[] #[]],.arr zAK 9 g (t2)]) (fun j=>ms.length - j.1.length) ([],M) ⟨List.nodup_nil,by simp,hA⟩ (by (repeat first|exact lK1|refine zI rfl ?_)) (by (repeat constructor)) ?_
  clear hA M
  rintro ⟨seen,M⟩ ⟨hnd,hsl,hA⟩
  simp only at hnd hsl hA ⊢
  (repeat' (first|((with_reducible refine zF ?_);first|refine zE rfl rfl rfl ?_|refine u_next rfl rfl rfl (by (repeat constructor)) hmap hkb hsl (fun hall=>?_) (fun i me hi hni=>?_)|refine zc rfl rfl rfl rfl ?_)|(with_reducible first|refine zH ?_|refine zB ?_|refine zD ?_|refine zA ?_|refine zS ?_|refine zP ?_|refine zl ?_|refine zV ?_|refine zX ?_)|((with_reducible refine zK ?_ ?_);(· exact rfl))|((with_reducible refine zG ?_ ?_);(· exact rfl))))
  ·have hokm:∀ x∈ms,zCn (t.length+1) x:=fun x hx=>zDi (hok x hx)
   have hsame:=zJd (s:=falls t2) hokm (zJ3 hall) 2
   have hdg:zDe (t.length+1) M:=fun a ha=>(hA a a ha ha).trans (zB6 _ _ (zGO hokm) (zEQ _ _) a ha)
   have hbm:BdM (t.length+1) M:=fun i k hi hk=>by
    rw [hA i k hi hk];exact zL5 _ _ (zGO hokm) (T0_bd okS2 _) i k hi hk
   (repeat' (first|((with_reducible refine zF ?_);first|refine zE rfl rfl rfl ?_|refine zC rfl rfl rfl ?_|(refine zL rfl rfl rfl ?_;refine ⟨_,rfl,?_⟩)|refine zb rfl rfl rfl ?_|(refine zPF rfl rfl rfl rfl (by (repeat constructor)) (fun W hB=>zJM (t.length+1) M bm W hB (by omega) hdg hbm) ?_;rintro ⟨fl,D⟩ ⟨hy,hn⟩;cases fl)|refine zAd rfl rfl rfl ?_|refine zq rfl rfl rfl ?_|(refine za rfl rfl rfl rfl rfl ?_;refine ⟨rfl,by first|decide|exact Nat.le_of_ble_eq_true rfl|(simp;omega),_,rfl,?_⟩)|(refine zAo rfl rfl rfl ?_;refine ⟨_,rfl,?_⟩))|(with_reducible first|refine zH ?_|refine zB ?_|refine zD ?_|refine zA ?_|refine zW ?_|refine zS ?_|refine ze ?_|refine zP ?_|refine zBb ?_)|((with_reducible refine zK ?_ ?_);(· exact rfl))|((with_reducible refine zG ?_ ?_);(· exact rfl))))
   ·have hnf:¬ zBS 2 (falls t2) ms (t.length+1):=fun hf=>hn rfl (zHR hA.symm (Nat.le_refl _) (hsame.1.2 hf))
    exact fun a W q=>hret (no2 hnf) a W (q.sub (by (repeat first|exact lK1|refine zI rfl ?_)) (by (repeat constructor)))
   ·obtain ⟨hf1,hD⟩:=hy rfl
    simp only at hD
    have hfi:zBS 2 (falls t2) ms (t.length+1):=hsame.1.1 (zHR hA (Nat.le_refl _) hf1)
    have hDE:zD8 (t.length+1) D (dist 2 (falls t2) ms (t.length+1)):=fun a b ha hb=>by
     rw [hD a b ha hb]
     exact (zHP hA _ (Nat.le_refl _) a b ha hb).trans (hsame.2 (hsame.1.2 hfi) a b ha hb)
    have hDb:∀ a b,a<t.length+1→b<t.length+1→-8796093022208≤D a b∧D a b≤8796093022208:=fun a b ha hb=>by
     rw [hD a b ha hb];exact zIx hbm (by omega) (Nat.le_refl _) ha hb
    refine zCF (ι:=Nat) (fun i=>i≤t.length) (fun i=>[(1,.map (some m)),(4,.pointer (some ⟨b4,0,none⟩)),(6,.pointer (some ⟨b6,0,none⟩)),(7,.int .i64 ((t.length+1:Nat):Int)),(8,.pointer (some ⟨b8,0,none⟩)),(9,.int .i64 (2:Int)),(10,.pointer (some ⟨bm,0,none⟩)),(134,.int .i64 (t.length:Int)),(135,.int .i64 (i:Int))]) (fun i=>[.blk bm (zAU D),.blk b4 [.slice none 0 0],.blk b6 [.slice (some ⟨g,0,none⟩) t.length c'],.blk b8 [.nilFunc,.func (.func 143) #[] #[],.func (.func 144) #[] #[]],.arr zAK 9 g (zCY (zCw D) (t2) i)]) (fun i=>t.length - i) 0 (Nat.zero_le _) (by (repeat first|exact lK1|refine zI rfl ?_)) (by (try simp only [zI7]);(repeat constructor)) ?_
    intro i hi
    by_cases hlt:i<t.length
    ·have hz:(t2)[i]?=some ((t2)[i]'(by rw [len2];exact hlt)):=by simp
     generalize (t2)[i]'(by rw [len2];exact hlt)=z at hz
     have hz2:(zCY (zCw D) (t2) i)[i]?=some z:=by rw [zBP,hz];simp
     have:zAQ (zCY (zCw D) (t2) i) i z:=⟨hz2⟩
     have m1:zFK i (i+1):=⟨by omega,by omega⟩
     have m2:zFK (i+1) i:=⟨by omega,by omega⟩
     have hb1:=hDb (i+1) i (by omega) (by omega)
     have hb2:=hDb i (i+1) (by omega) (by omega)
     (repeat' (first|((with_reducible refine zF ?_);first|refine zE rfl rfl rfl ?_|refine zC rfl rfl rfl ?_|(refine zQ rfl rfl rfl rfl rfl (fun h=>?_) (fun h=>?_)<;>(dsimp only [cmpP] at h;(try (exfalso;omega)))))|(with_reducible first|refine zH ?_|refine zB ?_|refine zD ?_|refine zA ?_|refine zS ?_|refine zP ?_)|((with_reducible refine zK ?_ ?_);(· exact rfl))))
     (refine Two.zAV [] [] [] rfl (show ([]:List Nat).Nodup by decide) (fun _ h=>h) (by kernel_rfl) [[],[Z],[Z,Z],[Z,Z,Z],[Y,Y,Y,Y],[Z,Y,Y,Y,Y],[Y,Y,Y,Y,Y,Y],[Z,Z,Z,Y,Y,Y,Y],[Z,Z,Z,Z,Z,Z,Z,Z],[Y,Y,Y,Y,Y,Y,Y,Y,Y],[Z,Y,Y,Y,Y,Y,Y,Y,Y,Y],[Y,Y,Y,Y,Y,Y,Y,Y,Y,Y,Y],[Y,Z,Z,Y,Y,Y,Y,Y,Y,Y,Y,Y],[Z,Z,Z,Z,Y,Y,Y,Y,Y,Y,Y,Y,Y],[Z,Z,Z,Z,Z,Y,Y,Y,Y,Y,Y,Y,Y,Y],[Z,Z,Z,Z,Z,Z,Y,Y,Y,Y,Y,Y,Y,Y,Y],[Y,Y,Y,Y,Y,Y,Y,Y,Y,Y,Y,Y,Y,Y,Y,Y],[Y,Y,Y,Y,Y,Y,Y,Y,Y,Y,Y,Y,Y,Y,Y,Y,Y],[Z,Y,Y,Y,Y,Y,Y,Y,Y,Y,Y,Y,Y,Y,Y,Y,Y,Y],[Y,Y,Z,Y,Y,Y,Y,Y,Y,Y,Y,Y,Y,Y,Y,Y,Y,Y,Y],[Z,Z,Z,Z,Y,Y,Y,Y,Y,Y,Y,Y,Y,Y,Y,Y,Y,Y,Y,Y],[Z,Z,Z,Z,Z,Y,Y,Y,Y,Y,Y,Y,Y,Y,Y,Y,Y,Y,Y,Y,Y],[Z,Z,Z,Z,Z,Z,Z,Z,Z,Z,Z,Z,Z,Y,Y,Y,Y,Y,Y,Y,Y,Y],[Z,Z,Z,Z,Z,Z,Z,Z,Z,Z,Z,Z,Z,Z,Z,Z,Z,Z,Z,Z,Z,Z,Z],[Z,Z,Z,Z,Z,Z,Z,Z,Z,Z,Z,Z,Z,Z,Z,Z,Z,Z,Z,Z,Z,Z,Z,Z]] (by kernel_rfl) (by kernel_rfl) (by kernel_rfl) (by kernel_rfl) (by kernel_rfl) ?_)
     (repeat' (first|(((with_reducible refine Two.zCC ?_ ?_);(· exact rfl);refine ⟨_,fun G=>(by (try simp (decide:=true) only [Two.vis,Two.see,fltT,zm,Nat.reduceAdd,Nat.reduceSub,if_true,if_false,List.set_cons_zero,List.set_cons_succ,List.set_nil,List.nil_append,List.cons_append]);rfl),?_⟩);first|refine Two.zU _ (fun _=>zAO rfl rfl) (fun _=>rfl) rfl (by intro G G' h;simp (decide:=true) only [h]) ?_|refine Two.zU _ (fun _=>zu rfl rfl (by exact rfl)) (fun _=>rfl) rfl (by intro G G' h;simp (decide:=true) only [h]) ?_|(refine Two.zAC rfl ?_;refine Two.zU _ (fun _=>zAE rfl rfl) (fun _=>rfl) rfl (by intro G G' h;simp (decide:=true) only [h]) ?_)|refine Two.zB1 _ rfl (fun _=>rfl) rfl (fun _=>rfl) (fun _=>rfl) (fun _ _ _ q=>zLG _ _ _) (by intro G G' h;simp (decide:=true) only [h]) ?_|refine Two.zU _ (fun _=>zGu rfl rfl rfl (by omega)) (fun _=>rfl) rfl (by intro G G' h;simp (decide:=true) only [h]) ?_|refine Two.zU _ (fun _=>zAl rfl rfl rfl rfl (by omega)) (fun _=>rfl) rfl (by intro G G' h;simp (decide:=true) only [h]) ?_|refine Two.zU _ (fun _=>zCK rfl rfl rfl rfl (by first|decide|omega)) (fun _=>rfl) rfl (by intro G G' h;simp (decide:=true) only [h]) ?_|refine Two.zU _ (fun _=>zAJ rfl rfl) (fun _=>rfl) rfl (by intro G G' h;simp (decide:=true) only [h]) ?_|refine Two.zU _ (fun _=>zLX rfl rfl (by rw [Int.zero_sub];exact IntWalk.i64_in _ (by omega))) (fun _=>rfl) rfl (by intro G G' h;simp (decide:=true) only [h]) ?_|refine Two.zU _ (fun _=>zDN rfl rfl (by exact rfl)) (fun _=>rfl) rfl (by intro G G' h;simp (decide:=true) only [h]) ?_)|((with_reducible refine Two.zA8 ?_ ?_);(· exact rfl))))
     (intro G;simp only [regsT,zm,Two.zAq,Two.ini,List.nil_append,List.cons_append])
     (repeat' (first|((with_reducible refine zF ?_);first|refine zE rfl rfl rfl ?_|refine zFV (zCw D i z) rfl rfl rfl rfl rfl rfl rfl rfl (by decide) ?_|refine zi rfl rfl rfl rfl (by omega) ?_)|(with_reducible first|refine zB ?_|refine zD ?_|refine zA ?_|refine zg ?_)))
     rw [zKi hz rfl]
     exact zZ (i+1) (by omega) (by omega) (by (repeat first|exact lK1|refine zI rfl ?_)) (by (repeat constructor))
    ·obtain rfl:i=t.length:=by omega
     have e:zCY (zCw D) (t2) t.length=stg t ms (2+1):=(zKj (F:=zCw) (fun j s hj=>by unfold zCw;rw [zGB hDE hj]) (by rw [len2]) _).trans end2
     rw [e]
     (repeat' (first|((with_reducible refine zF ?_);first|refine zE rfl rfl rfl ?_|refine zC rfl rfl rfl ?_|(refine zQ rfl rfl rfl rfl rfl (fun h=>?_) (fun h=>?_)<;>(dsimp only [cmpP] at h;(try (exfalso;omega))))|refine zFL rfl rfl rfl rfl (IntWalk.i64_in _ (by omega)) ?_)|(with_reducible first|refine zH ?_|refine zB ?_|refine zD ?_|refine zA ?_|refine zl ?_|refine zg ?_|refine zV ?_|refine zX ?_)|((with_reducible refine zG ?_ ?_);(· exact rfl))))
     exact U.sub (by (repeat first|exact lK1|refine zI rfl ?_)) (by (repeat constructor)) (hag (yes2 hfi))
  ·have hme:=hok me (List.mem_of_getElem? hi)
   have hme':=of_decide_eq_true hme
   have hN:=zJh hnd hni
   have hS:∀ x∈seen++[i],x<ms.length:=fun x hx=>by
    rcases List.mem_append.1 hx with h|h
    ·exact hsl x h
    ·simp at h;subst h;exact (List.getElem?_eq_some_iff.1 hi).1
   have hL:=zH0 ms.length _ hN hS
   simp only [List.length_append,List.length_singleton] at hL
   have hmu:ms.length - (seen++[i]).length<ms.length - seen.length:=by simp only [List.length_append,List.length_singleton];omega
   have hG:=zIZ (seen:=seen) hi
   have hP:=zKw (kind:=2) (zDi hme) hA
   rw [← zK6,← hG] at hP
   obtain ⟨kd,fr,to_,vl⟩:=me
   simp only at hme'
   obtain ⟨F,rfl⟩:∃ F:Nat,fr=F:=⟨fr.toNat,by omega⟩
   obtain ⟨Zt,rfl⟩:∃ Zt:Nat,to_=Zt:=⟨to_.toNat,by omega⟩
   have hk1:1≤(Me.mk kd F Zt vl).kind∧(Me.mk kd F Zt vl).kind≤2:=⟨hme'.1,hme'.2.1⟩
   have hv1:0≤(Me.mk kd F Zt vl).value.lo∧(Me.mk kd F Zt vl).value.lo≤360000:=⟨hme'.2.2.2.2.2.2.2.1,by simp only;omega⟩
   have m1:zFK F Zt:=⟨by omega,by omega⟩
   have m2:zFK Zt F:=⟨by omega,by omega⟩
   (repeat' (first|((with_reducible refine zF ?_);first|refine zE rfl rfl rfl ?_|(refine zL rfl rfl rfl ?_;refine ⟨_,rfl,?_⟩)|refine zb rfl rfl rfl ?_|(refine zQ rfl rfl rfl rfl rfl (fun h=>?_) (fun h=>?_)<;>(dsimp only [cmpP] at h;(try (exfalso;omega))))|refine zPC rfl rfl rfl (by (repeat constructor)) hmap hkb hi ?_|refine zc rfl rfl rfl rfl ?_|(refine za rfl rfl rfl rfl rfl ?_;refine ⟨rfl,by first|decide|exact Nat.le_of_ble_eq_true rfl|(simp;omega),_,rfl,?_⟩)|(refine zh rfl rfl (fun b=>?_))|refine zF2 rfl rfl rfl (IntWalk.i64_in _ (by omega)) ?_)|(with_reducible first|refine zH ?_|refine zB ?_|refine zD ?_|refine zA ?_|refine zS ?_|refine zg ?_)|((with_reducible refine zK ?_ ?_);(· exact rfl))|((with_reducible refine zG ?_ ?_);(· exact rfl))))
   ·(refine Two.zAV [] [] [] rfl (show ([]:List Nat).Nodup by decide) (fun _ h=>h) (by kernel_rfl) [[],[Z],[Y,Y],[Z,Y,Y],[Y,Y,Y,Y],[Z,Y,Y,Y,Y],[Y,Y,Y,Y,Y,Y],[Z,Y,Y,Y,Y,Y,Y],[Y,Y,Z,Z,Y,Y,Y,Y],[Z,Z,Z,Z,Z,Y,Y,Y,Y],[Z,Z,Z,Z,Z,Z,Y,Y,Y,Y],[Y,Y,Y,Y,Y,Y,Y,Y,Y,Y,Y],[Z,Y,Y,Y,Y,Y,Y,Y,Y,Y,Y,Y],[Z,Z,Y,Y,Y,Y,Y,Y,Y,Y,Y,Y,Y],[Z,Z,Z,Z,Z,Z,Z,Z,Z,Z,Y,Y,Y,Y],[Y,Y,Y,Y,Y,Y,Y,Y,Y,Y,Y,Y,Y,Z,Z],[Z,Z,Z,Z,Z,Z,Z,Z,Z,Z,Z,Z,Z,Z,Z,Z],[Z,Z,Z,Z,Z,Z,Z,Z,Z,Z,Z,Z,Z,Z,Z,Z,Z]] (by kernel_rfl) (by kernel_rfl) (by kernel_rfl) (by kernel_rfl) (by kernel_rfl) ?_)
    (repeat' (first|(((with_reducible refine Two.zCC ?_ ?_);(· exact rfl);refine ⟨_,fun G=>(by (try simp (decide:=true) only [Two.vis,Two.see,fltT,zm,Nat.reduceAdd,Nat.reduceSub,if_true,if_false,List.set_cons_zero,List.set_cons_succ,List.set_nil,List.nil_append,List.cons_append]);rfl),?_⟩);first|refine Two.zU _ (fun _=>zu rfl rfl (by exact rfl)) (fun _=>rfl) rfl (by intro G G' h;simp (decide:=true) only [h]) ?_|(refine Two.zAC rfl ?_;refine Two.zU _ (fun _=>zAE rfl rfl) (fun _=>rfl) rfl (by intro G G' h;simp (decide:=true) only [h]) ?_)|refine Two.zU _ (fun _=>zCK rfl rfl rfl rfl (by first|decide|omega)) (fun _=>rfl) rfl (by intro G G' h;simp (decide:=true) only [h]) ?_|refine Two.zU _ (fun _=>zNl rfl rfl rfl) (fun _=>rfl) rfl (by intro G G' h;simp (decide:=true) only [h]) ?_)|((with_reducible refine Two.zA8 ?_ ?_);(· exact rfl))))
    (intro G;simp only [regsT,zm,Two.zAq,Two.ini,List.nil_append,List.cons_append])
    (repeat' (first|((with_reducible refine zF ?_);first|refine zCr rfl rfl rfl rfl rfl ?_)|(with_reducible first|refine zD ?_|refine zA ?_)))
    (refine Two.zAV [] [] [] rfl (show ([]:List Nat).Nodup by decide) (fun _ h=>h) (by kernel_rfl) [[],[Z],[Y,Y],[Z,Y,Y],[Y,Y,Y,Y],[Z,Y,Y,Y,Y],[Y,Y,Y,Y,Y,Y],[Z,Y,Y,Y,Y,Y,Y],[Y,Y,Z,Z,Y,Y,Y,Y],[Z,Z,Z,Z,Z,Y,Y,Y,Y],[Z,Z,Z,Z,Z,Z,Y,Y,Y,Y],[Y,Y,Y,Y,Y,Y,Y,Y,Y,Y,Y],[Z,Y,Y,Y,Y,Y,Y,Y,Y,Y,Y,Y],[Z,Z,Y,Y,Y,Y,Y,Y,Y,Y,Y,Y,Y],[Z,Z,Z,Y,Y,Y,Y,Y,Y,Y,Y,Y,Y,Y],[Z,Z,Z,Z,Z,Z,Z,Z,Z,Z,Z,Y,Y,Y,Y],[Y,Y,Y,Y,Y,Y,Y,Y,Y,Y,Y,Y,Y,Y,Z,Z],[Z,Z,Z,Z,Z,Z,Z,Z,Z,Z,Z,Z,Z,Z,Z,Z,Z],[Z,Z,Z,Z,Z,Z,Z,Z,Z,Z,Z,Z,Z,Z,Z,Z,Z,Z]] (by kernel_rfl) (by kernel_rfl) (by kernel_rfl) (by kernel_rfl) (by kernel_rfl) ?_)
    (repeat' (first|(((with_reducible refine Two.zCC ?_ ?_);(· exact rfl);refine ⟨_,fun G=>(by (try simp (decide:=true) only [Two.vis,Two.see,fltT,zm,Nat.reduceAdd,Nat.reduceSub,if_true,if_false,List.set_cons_zero,List.set_cons_succ,List.set_nil,List.nil_append,List.cons_append]);rfl),?_⟩);first|refine Two.zU _ (fun _=>zu rfl rfl (by exact rfl)) (fun _=>rfl) rfl (by intro G G' h;simp (decide:=true) only [h]) ?_|(refine Two.zAC rfl ?_;refine Two.zU _ (fun _=>zAE rfl rfl) (fun _=>rfl) rfl (by intro G G' h;simp (decide:=true) only [h]) ?_)|refine Two.zU _ (fun _=>zCK rfl rfl rfl rfl (by first|decide|omega)) (fun _=>rfl) rfl (by intro G G' h;simp (decide:=true) only [h]) ?_|refine Two.zU _ (fun _=>zLX rfl rfl (by rw [Int.zero_sub];exact IntWalk.i64_in _ (by omega))) (fun _=>rfl) rfl (by intro G G' h;simp (decide:=true) only [h]) ?_|refine Two.zU _ (fun _=>zNl rfl rfl rfl) (fun _=>rfl) rfl (by intro G G' h;simp (decide:=true) only [h]) ?_)|((with_reducible refine Two.zA8 ?_ ?_);(· exact rfl))))
    (intro G;simp only [regsT,zm,Two.zAq,Two.ini,List.nil_append,List.cons_append])
    (repeat' (first|((with_reducible refine zF ?_);first|refine zCr rfl rfl rfl rfl rfl ?_)|(with_reducible first|refine zD ?_|refine zA ?_|refine zg ?_)))
    refine zZ (seen++[i],_) ⟨hN,hS,?_⟩ hmu (by (repeat first|exact lK1|refine zI rfl ?_)) (by (repeat constructor))
    have e:zCU 2 M ⟨kd,F,Zt,vl⟩=zBu (zBu M F Zt (min (M F Zt) vl.hi)) Zt F (min (zBu M F Zt (min (M F Zt) vl.hi) Zt F) (-vl.lo)):=by
     unfold zCU;rw [if_pos (by first|exact h|omega)];rfl
    rw [e] at hP
    exact hP
   ·refine zZ (seen++[i],M) ⟨hN,hS,?_⟩ hmu (by (repeat first|exact lK1|refine zI rfl ?_)) (by (repeat constructor))
    have e:zCU 2 M ⟨kd,F,Zt,vl⟩=M:=by
     unfold zCU;rw [if_neg (by first|exact h|omega)]
    rw [e] at hP
    exact hP
end Go.Proofs.YtdigopgncfhiaaaGreatDoor
namespace Go.Proofs.YtdigopgncfhiaaaGreatDoor
open Go.RowKit
set_option maxRecDepth 20000
set_option maxHeartbeats 4000000 in
theorem left_any (t:List St) (A:Option Addr) (cap:Nat) (kb:KB) (ms:List Me) (m:Nat) (w:World) (ht:zp zAK 9 w A t) (hv:valid t=true) (hok:∀ x∈ms,zHK t.length x=true) (hkb:kb.ok ms.length) (hm:w.heap[m]?=some (.map (zAv kb ms) kb.c)) :
  zB4 zAK 9 (zEM t ms) (fun v=>.tuple #[.agg #[v],.bool (zDX t ms)]) Tryz.prog 96 [.agg #[.slice A t.length cap],.map (some m)] w:=by
 unfold zB4
 have ho:=zCE hv
 have hlen:=zCN hv
 (refine zJ (n:=164) Tryz.func96 rfl rfl rfl ?_)
 (repeat' (first|((with_reducible refine zF ?_);first|refine zC rfl rfl rfl ?_|(refine zL rfl rfl rfl ?_;refine ⟨_,rfl,?_⟩)|refine zb rfl rfl rfl ?_|(refine zAW rfl rfl rfl rfl (fun _ _ q=>zQ9 t A cap _ (ht.below q.below) (by omega) (by omega)) ?_;rintro ⟨A',c'⟩ -;dsimp only [List.cons_append,List.nil_append];refine zHk (Take.here _ _) (by omega) ?_;rintro g rfl)|refine zY rfl rfl rfl rfl (fun _ _ q=>zQa _) ?_|refine zi rfl rfl rfl rfl (by omega) ?_|refine zq rfl rfl rfl ?_|(refine za rfl rfl rfl rfl rfl ?_;refine ⟨rfl,by first|decide|exact Nat.le_of_ble_eq_true rfl|(simp;omega),_,rfl,?_⟩)|(refine zh rfl rfl (fun b=>?_))|(refine zy rfl rfl rfl rfl (fun b=>?_))|(refine zAo rfl rfl rfl ?_;refine ⟨_,rfl,?_⟩))|(with_reducible first|refine zH ?_|refine zB ?_|refine zD ?_|refine zA ?_|refine zP ?_)))
 rename_i b2 b4 b6
 obtain ⟨b8,hb8⟩:∃ x,x=b:=⟨b,rfl⟩
 subst hb8
 refine zCF (ι:=Nat) (fun K=>K=1∨K=2∧fine1 t ms∨K=3∧fine1 t ms∧fine2 t ms) (fun K=>zJs m b4 b6 b8 t.length K) (fun K=>zJt b4 b6 b8 g t.length c' (stg t ms K)) (fun K=>3 - K) 1 (.inl rfl) (by (repeat first|exact lK1|refine zI rfl ?_)) (by (repeat constructor)) ?_
 rintro K (rfl | ⟨rfl,h1⟩ | ⟨rfl,h1,h2⟩)
 ·exact left_k1 t A cap kb ms m w ht hv hok hkb hm b4 b6 b8 g c' _ rfl _ _ (fun hfi a W q=>⟨2,.inr (.inl ⟨rfl,hfi⟩),by decide,q⟩) (fun e1 a W q=>(zR (by (exact zf.cons (by exact res1c rfl (by exact rfl)) (zf.cons (by exact zAL.tmp rfl) zf.nil))) (none,0) trivial (by rw [e1,show zEM t ms=[] by simp [zEM,e1]];rfl) (fun _ h=>by rw [show zEM t ms=[] by simp [zEM,e1]];exact zDl h):U w 164 [] _ _ (zD3 Tryz.prog Tryz.f96 _ .ret)) a W q)
 ·exact left_k2 t A cap kb ms m w ht hv hok hkb hm b4 b6 b8 g c' _ rfl _ _ (fun hfi a W q=>⟨3,.inr (.inr ⟨rfl,h1,hfi⟩),by decide,q⟩) (fun e1 a W q=>(zR (by (exact zf.cons (by exact res1c rfl (by exact rfl)) (zf.cons (by exact zAL.tmp rfl) zf.nil))) (none,0) trivial (by rw [e1,show zEM t ms=[] by simp [zEM,e1]];rfl) (fun _ h=>by rw [show zEM t ms=[] by simp [zEM,e1]];exact zDl h):U w 164 [] _ _ (zD3 Tryz.prog Tryz.f96 _ .ret)) a W q)
 ·have e1:zDX t ms=true:=zQX h1 h2
  have e2:zEM t ms=stage2 t ms:=by simp [zEM,e1]
  rw [e1,e2,show stg t ms 3=stage2 t ms from rfl]
  (repeat' (first|((with_reducible refine zF ?_);first|refine zE rfl rfl rfl ?_|refine zC rfl rfl rfl ?_|(refine zL rfl rfl rfl ?_;refine ⟨_,rfl,?_⟩)|(refine zQ rfl rfl rfl rfl rfl (fun h=>?_) (fun h=>?_)<;>(dsimp only [cmpP] at h;(try (exfalso;omega))))|(refine za rfl rfl rfl rfl rfl ?_;refine ⟨rfl,by first|decide|exact Nat.le_of_ble_eq_true rfl|(simp;omega),_,rfl,?_⟩))|(with_reducible first|refine zH ?_|refine zB ?_|refine zD ?_|refine zA ?_|refine zW ?_|refine zl ?_|refine zV ?_|refine zX ?_)|((with_reducible refine zG ?_ ?_);(· exact rfl))))
  simp only [zN9]
  exact zR (by (exact zf.cons (by exact res1c rfl (by exact rfl)) (zf.cons (by exact zAL.tmp rfl) zf.nil))) (some ⟨g,0,none⟩,c') trivial rfl (fun _ h=>(h.zMS (by (repeat constructor))).sub (by (repeat constructor)))
end Go.Proofs.YtdigopgncfhiaaaGreatDoor
namespace Go.Proofs.YtdigopgncfhiaaaGreatDoor
open Go.RowKit
set_option maxRecDepth 20000
theorem map_of {base m c:Nat} {es:Array MapEntry} {H H':List Ent} {w:World} (ho:Own base w H) (ht:Take H (.map m es c) H'):w.heap[m]?=some (.map es c):=ho.here _ ht.mem
set_option maxHeartbeats 1000000 in
theorem zOV (t:List St) (A:Option Addr) (cap:Nat) (l:List Me) (B:Option Addr) (c:Nat) (w:World) (ht:zp zAK 9 w A t) (hs:zp zC3 5 w B l) (hB:∀ b o,B=some ⟨b,o,none⟩→b<w.heap.size) (hf:zEY t) (hfm:zN3 l) (hl:t.length≤1000) (hll:l.length≤1000) :
  zB4 zAK 9 (nT t l) (fun v=>.tuple #[.agg #[v],.int .i64 (zDv t l)]) Tryz.prog 52 [.agg #[.slice A t.length cap],.slice B l.length c] w:=by
 unfold zB4
 cases hv:valid t
 ·have e1:zDv t l=10:=by simp [zDv,hv]
  rw [zNE (by rw [e1];decide),e1]
  (refine zJ (n:=32) Tryz.func52 rfl rfl rfl ?_)
  (repeat' (first|((with_reducible refine zF ?_);first|refine zE rfl rfl rfl ?_|refine zC rfl rfl rfl ?_|(refine zL rfl rfl rfl ?_;refine ⟨_,rfl,?_⟩)|(refine zQ rfl rfl rfl rfl rfl (fun h=>?_) (fun h=>?_)<;>(dsimp only [cmpP] at h;(try (exfalso;omega))))|refine zY rfl rfl rfl rfl (fun _ _ q=>zNI t A cap l B c _ (ht.below q.below) (hs.below q.below) hf hfm hl hll hv) ?_|refine zc rfl rfl rfl rfl ?_|(refine za rfl rfl rfl rfl rfl ?_;refine ⟨rfl,by first|decide|exact Nat.le_of_ble_eq_true rfl|(simp;omega),_,rfl,?_⟩)|(refine zh rfl rfl (fun b=>?_))|(refine zy rfl rfl rfl rfl (fun b=>?_))|(refine zAo rfl rfl rfl ?_;refine ⟨_,rfl,?_⟩))|(with_reducible first|refine zH ?_|refine zB ?_|refine zD ?_|refine zA ?_|refine zW ?_|refine ze ?_)|((with_reducible refine zK ?_ ?_);(· exact rfl))))
  exact zR (by (exact zf.cons (by exact res1c rfl (by exact rfl)) (zf.cons (by exact zAL.tmp rfl) zf.nil))) (none,0) trivial rfl (fun _ h=>zDl h)
 cases hm:zD6 t.length l
 ·have e1:zDv t l=11:=by simp [zDv,hv,hm]
  rw [zNE (by rw [e1];decide),e1]
  (refine zJ (n:=32) Tryz.func52 rfl rfl rfl ?_)
  (repeat' (first|((with_reducible refine zF ?_);first|refine zE rfl rfl rfl ?_|refine zC rfl rfl rfl ?_|(refine zL rfl rfl rfl ?_;refine ⟨_,rfl,?_⟩)|(refine zQ rfl rfl rfl rfl rfl (fun h=>?_) (fun h=>?_)<;>(dsimp only [cmpP] at h;(try (exfalso;omega))))|refine zY rfl rfl rfl rfl (fun _ _ q=>zL4 t A cap l B c _ (ht.below q.below) (hs.below q.below) hf hfm hl hll hv hm) ?_|refine zc rfl rfl rfl rfl ?_|(refine za rfl rfl rfl rfl rfl ?_;refine ⟨rfl,by first|decide|exact Nat.le_of_ble_eq_true rfl|(simp;omega),_,rfl,?_⟩)|(refine zh rfl rfl (fun b=>?_))|(refine zy rfl rfl rfl rfl (fun b=>?_))|(refine zAo rfl rfl rfl ?_;refine ⟨_,rfl,?_⟩))|(with_reducible first|refine zH ?_|refine zB ?_|refine zD ?_|refine zA ?_|refine zW ?_|refine ze ?_)|((with_reducible refine zK ?_ ?_);(· exact rfl))))
  exact zR (by (exact zf.cons (by exact res1c rfl (by exact rfl)) (zf.cons (by exact zAL.tmp rfl) zf.nil))) (none,0) trivial rfl (fun _ h=>zDl h)
 obtain ⟨s1,s2⟩:=zGI hv hm
 have h3:=fun W m hW (h:W.heap[m]?=some (.map (zAv (KB.id l.length) l) l.length))=>left_any t A cap (KB.id l.length) l m W (ht.below hW) hv (zJn hm).1 (KB.id_ok _) h
 cases hb:rnB t l
 ·have e1:zDv t l=8:=by simp [zDv,hv,hm,hb]
  have e2:rnT t l=[]:=by simp [rnT,hb]
  rw [zNE (by rw [e1];decide),e1]
  simp only [s1,s2,hb,e2] at h3
  (refine zJ (n:=32) Tryz.func52 rfl rfl rfl ?_)
  (repeat' (first|((with_reducible refine zF ?_);first|refine zE rfl rfl rfl ?_|refine zC rfl rfl rfl ?_|(refine zL rfl rfl rfl ?_;refine ⟨_,rfl,?_⟩)|(refine zQ rfl rfl rfl rfl rfl (fun h=>?_) (fun h=>?_)<;>(dsimp only [cmpP] at h;(try (exfalso;omega))))|(refine zAW rfl rfl rfl rfl (fun _ _ q=>zHJ t A cap l B c _ (ht.below q.below) (hs.below q.below) (fun b o e=>Nat.lt_of_lt_of_le (hB b o e) q.below.size) hf hfm hl hll hv hm) ?_;rintro mm -;dsimp only [List.cons_append,List.nil_append])|refine zBt rfl rfl rfl rfl (fun _ _ q=>h3 _ _ q.below (map_of q.own (by (repeat constructor)))) (fun A' c'=>?_)|refine zc rfl rfl rfl rfl ?_|refine zAd rfl rfl rfl ?_|(refine za rfl rfl rfl rfl rfl ?_;refine ⟨rfl,by first|decide|exact Nat.le_of_ble_eq_true rfl|(simp;omega),_,rfl,?_⟩)|(refine zh rfl rfl (fun b=>?_))|(refine zy rfl rfl rfl rfl (fun b=>?_))|(refine zAo rfl rfl rfl ?_;refine ⟨_,rfl,?_⟩))|(with_reducible first|refine zH ?_|refine zB ?_|refine zD ?_|refine zA ?_|refine zW ?_|refine zS ?_|refine ze ?_)|((with_reducible refine zK ?_ ?_);(· exact rfl))|((with_reducible refine zG ?_ ?_);(· exact rfl))))
  exact zR (by (exact zf.cons (by exact res1c rfl (by exact rfl)) (zf.cons (by exact zAL.tmp rfl) zf.nil))) (none,0) trivial rfl (fun _ h=>zDl h)
 ·have e1:zDv t l=0:=by simp [zDv,hv,hm,hb]
  rw [nT_yes hv hm,e1]
  simp only [s1,s2,hb] at h3
  (refine zJ (n:=32) Tryz.func52 rfl rfl rfl ?_)
  (repeat' (first|((with_reducible refine zF ?_);first|refine zE rfl rfl rfl ?_|refine zC rfl rfl rfl ?_|(refine zL rfl rfl rfl ?_;refine ⟨_,rfl,?_⟩)|(refine zQ rfl rfl rfl rfl rfl (fun h=>?_) (fun h=>?_)<;>(dsimp only [cmpP] at h;(try (exfalso;omega))))|(refine zAW rfl rfl rfl rfl (fun _ _ q=>zHJ t A cap l B c _ (ht.below q.below) (hs.below q.below) (fun b o e=>Nat.lt_of_lt_of_le (hB b o e) q.below.size) hf hfm hl hll hv hm) ?_;rintro mm -;dsimp only [List.cons_append,List.nil_append])|refine zBt rfl rfl rfl rfl (fun _ _ q=>h3 _ _ q.below (map_of q.own (by (repeat constructor)))) (fun A' c'=>?_)|refine zc rfl rfl rfl rfl ?_|refine zAd rfl rfl rfl ?_|(refine za rfl rfl rfl rfl rfl ?_;refine ⟨rfl,by first|decide|exact Nat.le_of_ble_eq_true rfl|(simp;omega),_,rfl,?_⟩)|(refine zh rfl rfl (fun b=>?_))|(refine zy rfl rfl rfl rfl (fun b=>?_)))|(with_reducible first|refine zH ?_|refine zB ?_|refine zD ?_|refine zA ?_|refine zW ?_|refine zS ?_)|((with_reducible refine zG ?_ ?_);(· exact rfl))))
  exact zR (by (exact zf.cons (by exact res1c rfl (by exact rfl)) (zf.cons (by exact zAL.tmp rfl) zf.nil))) (A',c') trivial rfl (fun _ h=>h.sub (by (repeat constructor)))
end Go.Proofs.YtdigopgncfhiaaaGreatDoor
