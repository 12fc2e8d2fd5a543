/- F24 -/
import Derived.Test.YtdigopgncfhiaaaGreatDoorF23
import Derived.Test.YtdigopgncfhiaaaGreatDoorF12
import Derived.Test.YtdigopgncfhiaaaGreatDoorF16
import Derived.Test.YtdigopgncfhiaaaGreatDoorF9
import Derived.Test.YtdigopgncfhiaaaGreatDoorF13
set_option linter.unusedSimpArgs false
set_option linter.unusedVariables false
namespace Go.Proofs.YtdigopgncfhiaaaGreatDoor
open Go.RowKit
set_option maxRecDepth 20000
set_option maxHeartbeats 8000000 in
theorem zMJ (c:Cov) (A:Option Addr) (ca:Nat) (B:Option Addr) (cb:Nat) (C:Option Addr) (cc:Nat) (w:World) (h:zAe w c A B C) (hs:Small c) (hG:InC w 0 0 zCP) :
  zCB encI 1 (zEn c).2.1 (fun v=>.tuple #[.int .i64 (zEn c).1,v,.int .i64 (zEn c).2.2]) Tryz.prog 32 [zAH c A ca B cb C cc] w:=by
 have h4:=hs.b;have h5:=hs.h
 refine Ret.newsl ?_
 by_cases h0:zAm c=0
 ·have hf:=zBu h0
  have hh1:=hf.hours
  rw [zAC] at hh1
  have h1:=fun W (hb:Below w.heap.size w W)=>zCu c A ca B cb C cc W (h.below hb) hs h0
  have h2:=fun W (hb:Below w.heap.size w W) g (hr:InC W g 0 (zM c A ca B cb C cc))=>Two.zEv c A ca B cb C cc g W hr (hG.below hb) (h.below hb) hs hf
  have ok0:=zE5 hf hs (zKI hf)
  have hX:zEn c=shortF c c.hours.length 0:=by unfold zEn;rw [if_pos h0]
  rw [hX]
  have hhl:(zBM c).length=c.hours.length:=by simp [zBM]
  unfold zAH at h1 ⊢
  unfold zM at h1 h2 ⊢
  (refine zJ (n:=72) Tryz.func32 rfl rfl rfl ?_)
  (repeat' (first|((with_reducible refine zF ?_);first|refine zE rfl rfl rfl ?_|refine zC rfl rfl rfl ?_|(refine zK rfl rfl rfl ?_;refine ⟨_,rfl,?_⟩)|refine za rfl rfl rfl ?_|(refine zQ rfl rfl rfl rfl rfl (fun h=>?_) (fun h=>?_)<;>(dsimp only [cmpP] at h;(try (exfalso;omega))))|(refine zAQ rfl rfl rfl rfl (fun _ _ q=>h1 _ q.below) ?_;rintro g -;dsimp only [List.cons_append,List.nil_append])|(refine zAQ rfl rfl rfl rfl (fun _ _ q=>h2 _ q.below g (zA5 q.own (Below.refl _ _) rfl)) ?_;rintro ⟨⟨gn,L⟩,⟨gm,M⟩,gh⟩ ⟨hL,hM⟩;dsimp only [List.cons_append,List.nil_append])|refine zc rfl rfl rfl rfl ?_|refine zo rfl rfl rfl ?_|(refine zb rfl rfl rfl rfl rfl ?_;refine ⟨rfl,by first|decide|exact Nat.le_of_ble_eq_true rfl|(simp;omega),_,rfl,?_⟩)|(refine zj rfl rfl (fun b=>?_))|(refine zu rfl rfl rfl rfl (fun b=>?_)))|(with_reducible first|refine zH ?_|refine zB ?_|refine zD ?_|refine zA ?_|refine zT ?_|refine zP ?_)|((with_reducible refine zG ?_ ?_);(· exact rfl))))
  simp only at hL hM
  have hro:zDm L M (zBM c):=zI8 ok0 hL hM (by omega) (by omega)
  have hLl:L.length=c.beds.length:=by have:=congrArg List.length hL;rw [zCg] at this;simpa using this
  have hMl:M.length=c.beds.length:=by have:=congrArg List.length hM;simpa [zFl] using this
  have hLr:∀ s∈L,s.xs.length=c.hours.length:=fun s hs=>zFj _ (by rw [← hL];exact List.mem_map_of_mem hs)
  have hMr:∀ s∈M,s.xs.length=c.hours.length:=fun s hs=>ok0.mr _ (by show _∈zFl c;rw [← hM];exact List.mem_map_of_mem hs)
  rename_i b1
  obtain ⟨b6,hb6⟩:∃ x,x=b:=⟨_,rfl⟩
  subst hb6
  refine zw (ι:=Nat) [1,6,26] rfl (fun y=>y≤c.hours.length∧shortF c c.hours.length 0=shortF c (c.hours.length - y) y) (fun y=>[(27,.int .i64 (y:Int))]) (fun y=>[.zA0 zp (rowOf encI 1 3) gn L,.zA0 zp (rowOf zAo 1 4) gm M,.row encI 1 3 (.slice (some ⟨gh,0,none⟩) c.hours.length c.hours.length) (zBM c),.blk b1 (zM c A ca B cb C cc),.blk b6 (zA2 (some ⟨gn,0,none⟩) c.beds.length c.beds.length (some ⟨gm,0,none⟩) c.beds.length c.beds.length (some ⟨gh,0,none⟩) c.hours.length c.hours.length)]) (fun y=>c.hours.length - y) 0 ⟨Nat.zero_le _,rfl⟩ (by (repeat first|exact lK1|refine zL rfl ?_)) (by (repeat constructor)) ?_
  rintro y ⟨hy,hF⟩
  simp only [zAt,zM,zA2,List.cons_append,List.nil_append]
  by_cases hyl:y<c.hours.length
  ·have hp:2 ^ y≤2 ^ 12:=Nat.pow_le_pow_right (by omega) (by omega)
   have hsh:=fun W (a1:zCX encI 1 W (some ⟨gn,0,none⟩) L) (a2:zCX zAo 1 W (some ⟨gm,0,none⟩) M) (a3:zq encI 1 W (some ⟨gh,0,none⟩) (zBM c)) m (hm:m<1000000)=>zL9 L (some ⟨gn,0,none⟩) c.beds.length M (some ⟨gm,0,none⟩) c.beds.length (zBM c) (some ⟨gh,0,none⟩) c.hours.length y m W a1 a2 a3 hro hm (fun s hs=>by rw [hLr s hs];exact hyl) (fun s hs=>by rw [hMr s hs];exact hyl) (by omega)
   rw [hL,hM,hLl,hMl,hhl] at hsh
   have hsB:∀ m,decide (0<zHs (zAk c) (zFl c) (zBM c) y m)=zGc c y m:=fun _=>rfl
   simp only [hsB] at hsh
   unfold zA2 at hsh
   generalize hP:2 ^ y=N at hp
   (repeat' (first|((with_reducible refine zF ?_);first|refine zE rfl rfl rfl ?_|refine zC rfl rfl rfl ?_|(refine zQ rfl rfl rfl rfl rfl (fun h=>?_) (fun h=>?_)<;>(dsimp only [cmpP] at h;(try (exfalso;omega))))|refine zAL rfl (e_shl1 rfl rfl rfl (by omega)) ?_)|(with_reducible first|refine zH ?_|refine zB ?_|refine zD ?_|refine zA ?_|refine zT ?_|refine zP ?_)|((with_reducible refine zI ?_ ?_);(· exact rfl))))
   refine zDr (α:=zx Int) zp 1 38 ?_
   refine u_allNil (rowOf encI 1 3) ?_
   refine zw (ι:=Nat × Option Addr × Nat × List (zx Int)) [1,6,7,26,27,31] rfl (fun p=>p.1≤N∧p.2.2.2.map (·.xs)=zDD c y p.1) (fun p=>[(32,.int .i64 (p.1:Int)),(8,.slice p.2.1 p.2.2.2.length p.2.2.1)]) (fun p=>[.row zp 1 38 (.slice p.2.1 p.2.2.2.length p.2.2.1) p.2.2.2,.all (p.2.2.2.map (rowOf encI 1 3)),.zA0 zp (rowOf encI 1 3) gn L,.zA0 zp (rowOf zAo 1 4) gm M,.row encI 1 3 (.slice (some ⟨gh,0,none⟩) c.hours.length c.hours.length) (zBM c),.blk b1 (zM c A ca B cb C cc),.blk b6 (zA2 (some ⟨gn,0,none⟩) c.beds.length c.beds.length (some ⟨gm,0,none⟩) c.beds.length c.beds.length (some ⟨gh,0,none⟩) c.hours.length c.hours.length)]) (fun p=>N - p.1) (0,none,0,[]) ⟨Nat.zero_le _,rfl⟩ (by (repeat first|exact lK1|refine zL rfl ?_)) (by (repeat constructor)) ?_
   rintro ⟨k,A1,c1,S⟩ ⟨hk,hS⟩
   simp only at hk hS
   simp only [zAt,zM,zA2,List.cons_append,List.nil_append]
   have hSl:S.length≤k:=by have:=congrArg List.length hS;have:=zNW c y k;simp at *;omega
   have hSr:∀ s∈S,s.xs.length≤12:=fun s hs=>by
    have h9:s.xs∈zDD c y k:=by rw [← hS];exact List.mem_map_of_mem hs
    obtain ⟨m,_,e⟩:=List.mem_map.1 h9
    rw [← e]
    have:=zKZ m y
    omega
   by_cases hkl:k<N
   ·have hs1:=fun W a1 a2 a3=>hsh W a1 a2 a3 k (by omega)
    cases hz:zGc c y k with
    | false =>
     rw [hz] at hs1
     (repeat' (first|((with_reducible refine zF ?_);first|refine zE rfl rfl rfl ?_|refine zC rfl rfl rfl ?_|(refine zK rfl rfl rfl ?_;refine ⟨_,rfl,?_⟩)|(refine zQ rfl rfl rfl rfl rfl (fun h=>?_) (fun h=>?_)<;>(dsimp only [cmpP] at h;(try (exfalso;omega))))|refine zV rfl rfl rfl rfl (fun _ _ q=>hs1 _ (zCG q.own (by (repeat constructor))) (zCG q.own (by (repeat constructor))) (zDj q.own (by (repeat constructor)))) ?_|refine zAN rfl rfl rfl ?_|refine zh rfl rfl rfl rfl (by omega) ?_)|(with_reducible first|refine zH ?_|refine zB ?_|refine zD ?_|refine zA ?_|refine zT ?_|refine zP ?_|refine zk ?_|refine zR ?_|refine zW ?_)|((with_reducible refine zI ?_ ?_);(· exact rfl))))
     exact zf (ι:=Nat × Option Addr × Nat × List (zx Int)) (k+1,A1,c1,S) (by exact ⟨by simp only;omega,by simp only;rw [setsX_no hz];exact hS⟩) (by simp only;omega) (by (repeat first|exact lK1|refine zL rfl ?_)) (by (repeat constructor))
    | true =>
     rw [hz] at hs1
     (repeat' (first|((with_reducible refine zF ?_);first|refine zE rfl rfl rfl ?_|refine zC rfl rfl rfl ?_|(refine zK rfl rfl rfl ?_;refine ⟨_,rfl,?_⟩)|(refine zQ rfl rfl rfl rfl rfl (fun h=>?_) (fun h=>?_)<;>(dsimp only [cmpP] at h;(try (exfalso;omega))))|refine zV rfl rfl rfl rfl (fun _ _ q=>hs1 _ (zCG q.own (by (repeat constructor))) (zCG q.own (by (repeat constructor))) (zDj q.own (by (repeat constructor)))) ?_|(refine zAQ rfl rfl rfl rfl (fun _ _ q=>ones_any _ _) ?_;rintro m0 hm0;dsimp only [List.cons_append,List.nil_append])|refine zIx rfl rfl rfl (fun _=>?_)|refine zNJ encI rfl rfl rfl rfl rfl rfl rfl rfl (by omega) (fun gl=>?_)|refine zAN rfl rfl rfl ?_)|(with_reducible first|refine zH ?_|refine zB ?_|refine zD ?_|refine zA ?_|refine zT ?_|refine zP ?_)|((with_reducible refine zI ?_ ?_);(· exact rfl))|((with_reducible refine zG ?_ ?_);(· exact rfl))))
     refine zw (ι:=Nat × Option Addr × Nat) [1,6,7,8,9,26,27,31,32,44] rfl (fun p=>p.1≤y) (fun p=>[(45,.int .i64 (p.1:Int)),(10,.slice p.2.1 (zF4 k p.1).length p.2.2)]) (fun p=>[.row encI 1 3 (.slice p.2.1 (zF4 k p.1).length p.2.2) (zF4 k p.1),.row zp 1 38 (.slice A1 S.length c1) S,.all (S.map (rowOf encI 1 3)),.zA0 zp (rowOf encI 1 3) gn L,.zA0 zp (rowOf zAo 1 4) gm M,.row encI 1 3 (.slice (some ⟨gh,0,none⟩) c.hours.length c.hours.length) (zBM c),.blk b1 (zM c A ca B cb C cc),.blk b6 (zA2 (some ⟨gn,0,none⟩) c.beds.length c.beds.length (some ⟨gm,0,none⟩) c.beds.length c.beds.length (some ⟨gh,0,none⟩) c.hours.length c.hours.length)]) (fun p=>y - p.1) (0,some ⟨gl,0,none⟩,m0) (Nat.zero_le _) (by (repeat first|exact lK1|refine zL rfl ?_)) (by (repeat constructor)) ?_
     rintro ⟨j,A2,c2⟩ hj
     simp only at hj
     simp only [zAt,zM,zA2,List.cons_append,List.nil_append]
     have hsl:=zKZ k j
     by_cases hjl:j<y
     ·have hle:k >>> j≤k:=Nat.shiftRight_le k j
      have hb1:=zKL (m:=k) (h:=j)
      cases hbit:k.testBit j with
      | true =>
       have h9:(k >>> j) % 2=1:=by rw [hbit] at hb1;exact of_decide_eq_true hb1.symm
       have e1:=setL_yes hbit
       (repeat' (first|((with_reducible refine zF ?_);first|refine zE rfl rfl rfl ?_|refine zC rfl rfl rfl ?_|(refine zQ rfl rfl rfl rfl rfl (fun h=>?_) (fun h=>?_)<;>(dsimp only [cmpP] at h;(try (exfalso;omega))))|refine zAL rfl (e_shr rfl rfl rfl (by omega)) ?_|refine zAL rfl (zKE rfl rfl rfl (by omega)) ?_|(refine zAn (enc:=encI) [_] rfl rfl rfl (by (repeat constructor)) rfl rfl (zAY (by exact rfl)) (by refine ⟨?_,by decide⟩;(try simp only [List.length_append,List.length_cons,List.length_nil]);omega) (fun A' c'=>?_))|refine zh rfl rfl rfl rfl (by omega) ?_|(refine zY rfl rfl rfl ?_;refine ⟨rfl,_,rfl,fun b=>?_⟩))|(with_reducible first|refine zH ?_|refine zB ?_|refine zD ?_|refine zA ?_|refine zT ?_|refine zP ?_|refine zg ?_)|((with_reducible refine zI ?_ ?_);(· exact rfl))))
       refine zf (ι:=Nat × Option Addr × Nat) (j+1,A',c') (by simp only;omega) (by simp only;omega) (by simp only [e1];(repeat first|exact lK1|refine zL rfl ?_)) ?_
       simp only [e1]
       (repeat constructor)
      | false =>
       have h9:(k >>> j) % 2=0:=by
        rw [hbit] at hb1
        exact (Nat.mod_two_eq_zero_or_one (k >>> j)).resolve_right (of_decide_eq_false hb1.symm)
       have e1:=setL_no hbit
       (repeat' (first|((with_reducible refine zF ?_);first|refine zE rfl rfl rfl ?_|refine zC rfl rfl rfl ?_|(refine zQ rfl rfl rfl rfl rfl (fun h=>?_) (fun h=>?_)<;>(dsimp only [cmpP] at h;(try (exfalso;omega))))|refine zAL rfl (e_shr rfl rfl rfl (by omega)) ?_|refine zAL rfl (zKE rfl rfl rfl (by omega)) ?_|refine zh rfl rfl rfl rfl (by omega) ?_)|(with_reducible first|refine zH ?_|refine zB ?_|refine zD ?_|refine zA ?_|refine zT ?_|refine zP ?_|refine zg ?_)|((with_reducible refine zI ?_ ?_);(· exact rfl))|((with_reducible refine zG ?_ ?_);(· exact rfl))))
       refine zf (ι:=Nat × Option Addr × Nat) (j+1,A2,c2) (by simp only;omega) (by simp only;omega) (by simp only [e1];(repeat first|exact lK1|refine zL rfl ?_)) ?_
       simp only [e1]
       (repeat constructor)
     ·obtain rfl:j=y:=by omega
      generalize hSL:zF4 k j=sl at *
      (repeat' (first|((with_reducible refine zF ?_);first|refine zE rfl rfl rfl ?_|refine zC rfl rfl rfl ?_|(refine zQ rfl rfl rfl rfl rfl (fun h=>?_) (fun h=>?_)<;>(dsimp only [cmpP] at h;(try (exfalso;omega))))|(refine zAn (enc:=zp) [(⟨A2,sl,c2⟩:zx Int)] rfl rfl rfl (by (repeat constructor)) rfl rfl (zAY (by exact rfl)) (by refine ⟨?_,by decide⟩;(try simp only [List.length_append,List.length_cons,List.length_nil]);omega) (fun A' c'=>?_))|refine zh rfl rfl rfl rfl (by omega) ?_|(refine zY rfl rfl rfl ?_;refine ⟨rfl,_,rfl,fun b=>?_⟩))|(with_reducible first|refine zH ?_|refine zB ?_|refine zD ?_|refine zA ?_|refine zk ?_|refine zg ?_|refine zR ?_|refine zW ?_)|((with_reducible refine zG ?_ ?_);(· exact rfl))))
      refine zNL (f:=rowOf encI 1 3) (L:=S) (s:=⟨A2,sl,c2⟩) (by (repeat constructor)) (by (repeat constructor)) ?_
      refine zf (ι:=Nat × Option Addr × Nat × List (zx Int)) (k+1,A',c',S++[⟨A2,sl,c2⟩]) (by
       refine ⟨by simp only;omega,?_⟩
       simp only
       rw [zNV hz,List.map_append,hS,hSL]
       rfl) (by simp only;omega) (by (repeat first|exact lK1|refine zL rfl ?_)) (by (repeat constructor))
   ·obtain rfl:k=N:=by omega
    by_cases hpos:0<S.length
    ·have hmn:minX (zDD c y (2 ^ y))=some (minS S).xs:=by rw [hP,← hS];exact minS_xs hpos
     have hF2:shortF c c.hours.length 0=((y:Int),(minS S).xs,0):=by
      rw [hF,show c.hours.length - y=(c.hours.length - y - 1)+1 by omega];exact zKX hmn
     rw [hF2]
     have hfi:=fun W aT=>zJW S A1 c1 W aT (by omega) (fun s hs=>by have:=hSr s hs;omega)
     rw [decide_eq_true hpos] at hfi
     (repeat' (first|((with_reducible refine zF ?_);first|refine zE rfl rfl rfl ?_|refine zC rfl rfl rfl ?_|(refine zQ rfl rfl rfl rfl rfl (fun h=>?_) (fun h=>?_)<;>(dsimp only [cmpP] at h;(try (exfalso;omega))))|refine zV rfl rfl rfl rfl (fun _ _ q=>hfi _ (zKU q.own (by (repeat constructor)) (by (repeat constructor)))) ?_|refine zc rfl rfl rfl rfl ?_)|(with_reducible first|refine zH ?_|refine zB ?_|refine zD ?_|refine zA ?_|refine zX ?_|refine zZ ?_|refine zk ?_|refine zAP ?_|refine zR ?_|refine zW ?_)|((with_reducible refine zI ?_ ?_);(· exact rfl))|((with_reducible refine zG ?_ ?_);(· exact rfl))))
     exact zS (by (exact zi.cons (by exact zAR.tmp rfl) (zi.cons (by exact zAR.tmp rfl) (zi.cons (by exact zAR.tmp rfl) zi.nil)))) ((minS S).A,(minS S).c) trivial rfl (fun _ h=>((zKu (f:=rowOf encI 1 3) (minS_in hpos) (by (repeat constructor)) h).zER (xs:=(minS S).xs) (by (repeat constructor))).sub (by (repeat constructor)))
    ·obtain rfl:S=[]:=List.eq_nil_of_length_eq_zero (by omega)
     have hmn:minX (zDD c y (2 ^ y))=none:=by rw [hP,← hS];rfl
     have hF2:shortF c (c.hours.length - y) y=shortF c (c.hours.length - (y+1)) (y+1):=by
      rw [show c.hours.length - y=(c.hours.length - (y+1))+1 by omega];exact zKY hmn
     have hfi:=fun W aT=>zJW [] A1 c1 W aT (by simp) (fun s hs=>by cases hs)
     rw [show minS []=zAs from rfl] at hfi
     (repeat' (first|((with_reducible refine zF ?_);first|refine zE rfl rfl rfl ?_|refine zC rfl rfl rfl ?_|(refine zQ rfl rfl rfl rfl rfl (fun h=>?_) (fun h=>?_)<;>(dsimp only [cmpP] at h;(try (exfalso;omega))))|refine zV rfl rfl rfl rfl (fun _ _ q=>hfi _ (zKU (L:=[]) q.own (by (repeat constructor)) (by (repeat constructor)))) ?_|refine zc rfl rfl rfl rfl ?_|refine zh rfl rfl rfl rfl (by omega) ?_)|(with_reducible first|refine zH ?_|refine zB ?_|refine zD ?_|refine zA ?_|refine zT ?_|refine zk ?_|refine zg ?_|refine zR ?_|refine zW ?_)|((with_reducible refine zG ?_ ?_);(· exact rfl))))
     exact zf (ι:=Nat) (y+1) (by exact ⟨by omega,by rw [hF,hF2]⟩) (by omega) (by (repeat first|exact lK1|refine zL rfl ?_)) (by (repeat constructor))
  ·obtain rfl:y=c.hours.length:=by omega
   have hF2:shortF c c.hours.length 0=(0,[],6):=by rw [hF,Nat.sub_self];rfl
   rw [hF2]
   (repeat' (first|((with_reducible refine zF ?_);first|refine zC rfl rfl rfl ?_|(refine zQ rfl rfl rfl rfl rfl (fun h=>?_) (fun h=>?_)<;>(dsimp only [cmpP] at h;(try (exfalso;omega)))))|(with_reducible first|refine zH ?_|refine zB ?_|refine zD ?_|refine zA ?_|refine zX ?_|refine zk ?_|refine zR ?_|refine zW ?_)|((with_reducible refine zG ?_ ?_);(· exact rfl))))
   exact zS (by (exact zi.cons (by exact zAR.tmp rfl) (zi.cons (by exact zAR.tmp rfl) (zi.cons (by exact zAR.tmp rfl) zi.nil)))) (none,0) trivial rfl (fun _ h=>zDi h)
 ·have h1:=fun W (hb:Below w.heap.size w W)=>zEw c A ca B cb C cc W (h.below hb) hs h0
  have hX:zEn c=(0,[],zAm c):=by unfold zEn;rw [if_neg h0]
  rw [hX]
  unfold zAH at h1 ⊢
  generalize zAm c=e at *
  unfold zM at h1 ⊢
  (refine zJ (n:=72) Tryz.func32 rfl rfl rfl ?_)
  (repeat' (first|((with_reducible refine zF ?_);first|refine zE rfl rfl rfl ?_|refine zC rfl rfl rfl ?_|(refine zK rfl rfl rfl ?_;refine ⟨_,rfl,?_⟩)|(refine zQ rfl rfl rfl rfl rfl (fun h=>?_) (fun h=>?_)<;>(dsimp only [cmpP] at h;(try (exfalso;omega))))|refine zV rfl rfl rfl rfl (fun _ _ q=>h1 _ q.below) ?_|refine zc rfl rfl rfl rfl ?_|(refine zu rfl rfl rfl rfl (fun b=>?_)))|(with_reducible first|refine zH ?_|refine zB ?_|refine zD ?_|refine zA ?_|refine zX ?_|refine zZ ?_)|((with_reducible refine zI ?_ ?_);(· exact rfl))))
  exact zS (by (exact zi.cons (by exact zAR.tmp rfl) (zi.cons (by exact zAR.tmp rfl) (zi.cons (by exact zAR.tmp rfl) zi.nil)))) (none,0) trivial rfl (fun _ h=>zDi h)
end Go.Proofs.YtdigopgncfhiaaaGreatDoor
namespace Go.Proofs.YtdigopgncfhiaaaGreatDoor
open Go.RowKit
set_option maxRecDepth 20000
def zJi (L F:List (zx Int)) (q k:Nat):Prop:=F.length=L.length∧∀ (i:Nat) (s:zx Int),i<k→L[i]?=some s→∃ f:zx Int,F[i]?=some f∧f.xs=s.xs.take q∧∀ W,zq encI 1 W s.A s.xs→zq encI 1 W f.A f.xs
theorem zJi.zero {L:List (zx Int)} {q:Nat}:zJi L (List.replicate L.length zAs) q 0:=⟨by simp,fun i s h=>absurd h (by omega)⟩
theorem zJi.at_ {L F:List (zx Int)} {q i:Nat} {f:zx Int} (h:zJi L F q L.length) (hf:F[i]?=some f):∃ s,L[i]?=some s∧f.xs=s.xs.take q∧∀ W,zq encI 1 W s.A s.xs→zq encI 1 W f.A f.xs:=by
 have hi:i<L.length:=by rw [← h.1];exact (List.getElem?_eq_some_iff.1 hf).1
 obtain ⟨g,hg,h2⟩:=h.2 i L[i] hi (List.getElem?_eq_getElem hi)
 rw [hf] at hg;cases hg
 exact ⟨L[i],List.getElem?_eq_getElem hi,h2⟩
theorem zJi.xs {L F:List (zx Int)} {q:Nat} (h:zJi L F q L.length):F.map (·.xs)=(L.map (·.xs)).map fun r=>r.take q:=by
 refine List.ext_getElem? fun i=>?_
 rw [List.getElem?_map,List.getElem?_map,List.getElem?_map]
 cases hf:F[i]? with
 | none =>
  have:L[i]?=none:=List.getElem?_eq_none (by rw [← h.1];exact List.getElem?_eq_none_iff.1 hf)
  rw [this];rfl
 | some f =>
  obtain ⟨s,hs,e,_⟩:=h.at_ hf
  rw [hs];simp [e]
end Go.Proofs.YtdigopgncfhiaaaGreatDoor
namespace Go.Proofs.YtdigopgncfhiaaaGreatDoor
open Go.RowKit
set_option maxRecDepth 20000
theorem Ret.conv {α β:Type} {P:Program} {f:FuncId} {args:List Value} {w:World} {V:α→Value} {E:α→List Ent} {p:α→Prop} {V':β→Value} {E':β→List Ent} {p':β→Prop} (h:Ret P f args w V E p) (hc:∀ x,p x→∃ y,p' y∧V x=V' y∧∀ w',Own w.heap.size w' (E x)→Own w.heap.size w' (E' y)):Ret P f args w V' E' p':=by
 refine Ret.of (Calls.mono h.calls fun e w' q=>?_)
 obtain ⟨x,hp,he,hb,hE⟩:=q
 obtain ⟨y,hp',hV,hO⟩:=hc x hp
 exact ⟨y,hp',by rw [he,hV],hb,hO w' hE⟩
def zx.sli (s:zx Int):Sli:=⟨s.A,s.xs,s.c⟩
theorem sli_xs (L:List (zx Int)):(L.map zx.sli).map Sli.xs=L.map (·.xs):=by rw [List.map_map];rfl
theorem zKr {g e base:Nat} {L:List (zx Int)} {w:World} {H:List Ent} (h:Own base w (.zA0 zp (rowOf encI 1 e) g L::H)):Own base w [.sl zBF 1 (some ⟨g,0,none⟩) (L.map zx.sli),.rows (L.map zx.sli)]:=by
 have h1:Own base w ((.arr zp 1 g L::L.map (rowOf encI 1 e))++H):=zBI.2 h
 have ht:=zCG h (Take.here _ _)
 have hr:∀ s∈L.map zx.sli,∃ z∈L,s=z.sli:=fun s hs=>by
  obtain ⟨z,hz,rfl⟩:=List.mem_map.1 hs
  exact ⟨z,hz,rfl⟩
 have hrow:∀ z∈L,rowOf encI 1 e z∈((.arr zp 1 g L::L.map (rowOf encI 1 e))++H):=fun z hz=>by
  simp only [List.cons_append,List.mem_cons,List.mem_append,List.mem_map]
  exact .inr (.inl ⟨z,hz,rfl⟩)
 have hS:∀ (z:zx Int) (b o:Nat),z.A=some ⟨b,o,none⟩→(rowOf encI 1 e z).S b:=fun z b o hA=>by
  show (Value.slice z.A z.xs.length z.c).ownBlock=some b
  rw [hA];rfl
 refine ⟨fun f hf=>?_,fun f hf b hb=>?_,?_⟩
 ·simp only [List.mem_cons,List.not_mem_nil,or_false] at hf
  rcases hf with rfl|rfl
  ·intro i x hx
   rw [List.getElem?_map] at hx
   cases hl:L[i]? with
   | none=>rw [hl] at hx;cases hx
   | some y =>
    rw [hl] at hx
    simp at hx
    subst hx
    exact ht.p i y hl
  ·intro s hs
   obtain ⟨z,hz,rfl⟩:=hr s hs
   exact ht.rows z hz
 ·simp only [List.mem_cons,List.not_mem_nil,or_false] at hf
  rcases hf with rfl|rfl
  ·obtain ⟨o,ho⟩:=hb
   cases ho
   exact h1.foot (.arr zp 1 g L) (by simp) g rfl
  ·obtain ⟨s,hs,o,ho⟩:=hb
   obtain ⟨z,hz,rfl⟩:=hr s hs
   exact h1.foot _ (hrow z hz) b (hS z b o ho)
 ·refine List.Pairwise.cons (fun f hf b hb hb'=>?_) (List.Pairwise.cons (fun f hf=>by cases hf) List.Pairwise.nil)
  simp only [List.mem_singleton] at hf
  subst hf
  obtain ⟨o,ho⟩:=hb
  cases ho
  obtain ⟨s,hs,o,ho⟩:=hb'
  obtain ⟨z,hz,rfl⟩:=hr s hs
  have h2:=List.pairwise_cons.1 h1.apart
  exact h2.1 (rowOf encI 1 e z) (List.mem_append.2 (.inl (List.mem_map.2 ⟨z,hz,rfl⟩))) g rfl (hS z g o ho)
theorem zG9 {base:Nat} {w:World}:Own base w [.sl zBF 1 none [],.rows []]:=by
 refine ⟨fun f hf=>?_,fun f hf b hb=>?_,?_⟩
 ·simp only [List.mem_cons,List.not_mem_nil,or_false] at hf
  rcases hf with rfl|rfl
  ·intro i x hx;cases hx
  ·intro s hs;cases hs
 ·simp only [List.mem_cons,List.not_mem_nil,or_false] at hf
  rcases hf with rfl|rfl
  ·obtain ⟨o,ho⟩:=hb;cases ho
  ·obtain ⟨s,hs,_⟩:=hb;cases hs
 ·exact List.Pairwise.cons (fun f hf b hb hb'=>by obtain ⟨o,ho⟩:=hb;cases ho) (List.Pairwise.cons (fun f hf=>by cases hf) List.Pairwise.nil)
theorem zNZ {c:Cov} (h:zAm c≠0):zDX c=([],zAm c):=by unfold zDX;rw [if_neg h]
theorem zLu {c:Cov} (h:zAm c=0) (h2:zGx (zAk c) (zFl c) (zBM c)=false):zDX c=([],8):=by unfold zDX;rw [if_pos h,h2];rfl
theorem zKm {c:Cov} (h:zAm c=0) (h2:zGx (zAk c) (zFl c) (zBM c)=true):zDX c=((zCj c.beds.length c.hours.length (zBH c)).out,0):=by unfold zDX;rw [if_pos h,h2];rfl
theorem zNw (c:Cov) (A:Option Addr) (ca:Nat) (B:Option Addr) (cb:Nat) (C:Option Addr) (cc:Nat) (w:World) (h:zAe w c A B C) (hs:Small c) (hG:InC w 0 0 zCP) :
  Ret Tryz.prog 25 [zAH c A ca B cb C cc] w (fun p:(Option Addr × Nat) × List Sli=>.tuple #[.slice p.1.1 p.2.length p.1.2,.int .i64 (zDX c).2]) (fun p=>[.sl zBF 1 p.1.1 p.2,.rows p.2]) (fun p=>p.2.map Sli.xs=(zDX c).1):=by
 by_cases h0:zAm c=0
 ·cases hc:zGx (zAk c) (zFl c) (zBM c) with
  | true =>
   have hl:(zDX c).1.length=c.hours.length:=by
    have hf:=zBu h0
    rw [zKm h0 hc]
    exact (zIK (zE5 hf hs (zKI hf)) c.hours.length (Nat.le_refl _)).ol
   refine (Two.zNr c A ca B cb C cc w h hs hG h0 hc).conv fun p hp=>⟨((some ⟨p.1,0,none⟩,c.hours.length),p.2.map zx.sli),by simp only;rw [sli_xs];exact hp,?_,fun w'=>zKr⟩
   have:p.2.length=c.hours.length:=by have:=congrArg List.length hp;rw [hl] at this;simpa using this
   simp only [List.length_map,this]
   rw [zKm h0 hc]
  | false =>
   have h1:=zMA c A ca B cb C cc w h hs hG h0 hc
   unfold Gv at h1
   rw [zLu h0 hc]
   exact h1.conv fun _ _=>⟨((none,0),[]),rfl,rfl,fun w' _=>zG9⟩
 ·have h1:=zNq c A ca B cb C cc w h hs h0
  unfold Gv at h1
  rw [zNZ h0]
  exact h1.conv fun _ _=>⟨((none,0),[]),rfl,rfl,fun w' _=>zG9⟩
end Go.Proofs.YtdigopgncfhiaaaGreatDoor
namespace Go.Proofs.YtdigopgncfhiaaaGreatDoor
variable {ro : Option Nat}
open Go.RowKit
set_option maxRecDepth 20000
def runE : List St:=[⟨3,⟨4000,4100⟩,⟨400,420⟩,⟨0,0⟩,0,0⟩,⟨5,⟨2000,2200⟩,⟨150,160⟩,⟨1500,1600⟩,1,0⟩,⟨8,⟨3000,3000⟩,⟨300,330⟩,⟨0,0⟩,0,0⟩]
def zBU (crew:Int):Cov:=⟨runE,[⟨⟨300,310⟩,1⟩,⟨⟨290,300⟩,2⟩,⟨⟨300,300⟩,0⟩],[⟨⟨2,3⟩,10,2,true⟩,⟨⟨4,5⟩,0,crew,true⟩,⟨⟨1,2⟩,12,2,false⟩],⟨1,2⟩,⟨20,25⟩,3,260,200⟩
def zFL : List (List Int):=[[0,1],[1,2],[]]
theorem zFF (a b:Int) (w:World):Gv Tryz.prog 36 [.int .i64 a,.int .i64 b] w (.agg #[.int .i64 a,.int .i64 b]):=by
 unfold Gv
 (refine zJ (n:=8) Tryz.func36 rfl rfl rfl ?_)
 (repeat' (first|((with_reducible refine zF ?_);first|refine zE rfl rfl rfl ?_|(refine zb rfl rfl rfl rfl rfl ?_;refine ⟨rfl,by first|decide|exact Nat.le_of_ble_eq_true rfl|(simp;omega),_,rfl,?_⟩)|(refine zj rfl rfl (fun b=>?_))|(refine zAl rfl rfl rfl ?_;refine ⟨_,rfl,?_⟩))|(with_reducible first|refine zH ?_|refine zB ?_|refine zD ?_|refine zA ?_|refine zX ?_)))
 exact zS (by (exact zi.cons (by exact res1c rfl (by exact rfl)) zi.nil)) () trivial rfl (fun _ h=>h.sub (by (repeat constructor)))
theorem irun_any (w:World):Ret Tryz.prog 89 [] w (fun g:Nat=>.agg #[.slice (some ⟨g,0,none⟩) 3 3]) (fun g=>[.sl zAS 9 (some ⟨g,0,none⟩) runE]) (fun _=>True):=by
 (refine zJ (n:=13) Tryz.func89 rfl rfl rfl ?_)
 (repeat' (first|((with_reducible refine zF ?_);first|refine zV rfl rfl rfl rfl (fun _ _ q=>zFF _ _ _) ?_|(refine zb rfl rfl rfl rfl rfl ?_;refine ⟨rfl,by first|decide|exact Nat.le_of_ble_eq_true rfl|(simp;omega),_,rfl,?_⟩)|(refine zj rfl rfl (fun b=>?_))|(refine zAl rfl rfl rfl ?_;refine ⟨_,rfl,?_⟩)|(refine zY rfl rfl rfl ?_;refine ⟨rfl,_,rfl,fun b=>?_⟩))|(with_reducible first|refine zH ?_|refine zB ?_|refine zD ?_|refine zA ?_|refine zX ?_)))
 exact zS (by (exact zi.cons (by exact res1c rfl (by exact rfl)) zi.nil)) b trivial rfl (fun _ h=>(Own.zGz (enc:=zAS) (xs:=runE) (b:=b) (by (repeat constructor)) h).sub (by (repeat constructor)))
theorem zNc {α:Type} (enc:α→List Value) (k:Nat) {base:Nat} {w:World} {H:List Ent} (h:Own base w H):Own base w (.sl enc k none ([]:List α)::H):=by
 refine ⟨fun e he=>?_,fun e he b hb=>?_,List.pairwise_cons.2 ⟨fun e _ b hb=>(by obtain ⟨o,ho⟩:=hb;cases ho),h.apart⟩⟩
 ·rcases List.mem_cons.1 he with rfl|he
  ·intro i x hx;cases hx
  ·exact h.here e he
 ·rcases List.mem_cons.1 he with rfl|he
  ·obtain ⟨o,ho⟩:=hb;cases ho
  ·exact h.foot e he b hb
def Ent.zDu (g n:Nat) (A:Option Addr) (xss:List (List Int)):Ent :=
 ⟨fun b=>g≤b∧b<g+n,fun w=>∃ pl:List Sli,pl.map Sli.xs=xss∧zBG w A pl∧(∀ s∈pl,∀ b o,s.A=some ⟨b,o,none⟩→g≤b∧b<g+n)∧∀ b o,A=some ⟨b,o,none⟩→g≤b∧b<g+n,
  fun w w' hs h ⟨pl,h1,h2,h3,h4⟩=>⟨pl,h1,⟨(Ent.sl zBF 1 A pl).loc w w' hs (fun b hb=>by obtain ⟨o,ho⟩:=hb;exact h b (h4 b o ho)) h2.p,(Ent.rows pl).loc w w' hs (fun b hb=>by obtain ⟨s,hs,o,ho⟩:=hb;exact h b (h3 s hs b o ho)) h2.rows⟩,h3,h4⟩⟩
theorem zJE {w w':World} {A:Option Addr} {pl:List Sli} {xss:List (List Int)} (hx:pl.map Sli.xs=xss) (hs:w.heap.size≤w'.heap.size) (h:Own w.heap.size w' [.sl zBF 1 A pl,.rows pl]):Own w.heap.size w' [.zDu w.heap.size (w'.heap.size - w.heap.size) A xss]:=by
 refine ⟨fun e he=>?_,fun e he b hb=>?_,List.pairwise_singleton _ _⟩
 ·simp only [List.mem_singleton] at he
  subst he
  refine ⟨pl,hx,⟨h.here (.sl zBF 1 A pl) (by simp),h.here (.rows pl) (by simp)⟩,fun s hs b o ho=>?_,fun b o ho=>?_⟩
  ·have:=h.foot (.rows pl) (by simp) b ⟨s,hs,o,ho⟩;omega
  ·have:=h.foot (.sl zBF 1 A pl) (by simp) b ⟨o,ho⟩;omega
 ·simp only [List.mem_singleton] at he
  subst he
  obtain ⟨h1,h2⟩:=hb
  omega
theorem Ret.zDu {P:Program} {f:FuncId} {args:List Value} {w:World} {V:Value→Value} {xss:List (List Int)} (h:Ret P f args w (fun p:(Option Addr × Nat) × List Sli=>V (.slice p.1.1 p.2.length p.1.2)) (fun p=>[.sl zBF 1 p.1.1 p.2,.rows p.2]) (fun p=>p.2.map Sli.xs=xss)) :
  Ret P f args w (fun z:Nat × Nat × Option Addr × Nat=>V (.slice z.2.2.1 xss.length z.2.2.2)) (fun z=>[.zDu z.1 z.2.1 z.2.2.1 xss]) (fun _=>True):=by
 refine Ret.of (Calls.mono h.calls fun e w' q=>?_)
 obtain ⟨x,hp,he,hb,hE⟩:=q
 refine ⟨(w.heap.size,w'.heap.size - w.heap.size,x.1.1,x.1.2),trivial,?_,hb,zJE hp hb.size hE⟩
 have:x.2.length=xss.length:=by rw [← hp,List.length_map]
 rw [he];simp only [this]
theorem zJ5 (w:World):Ret Tryz.prog 45 [] w (fun z:Nat × Nat × Option Addr=>.slice z.2.2 3 3) (fun z=>[.zDu z.1 z.2.1 z.2.2 zFL]) (fun _=>True):=by
 have h1:Ret Tryz.prog 45 [] w (fun p:Option Addr × List Sli=>.slice p.1 3 3) (fun p=>[.sl zBF 1 p.1 p.2,.rows p.2]) (fun p=>p.2.map Sli.xs=zFL):=by
  (refine zJ (n:=4) Tryz.func45 rfl rfl rfl ?_)
  (repeat' (first|((with_reducible refine zF ?_);first|refine zC rfl rfl rfl ?_|(refine zY rfl rfl rfl ?_;refine ⟨rfl,_,rfl,fun b=>?_⟩))|(with_reducible first|refine zH ?_|refine zB ?_|refine zD ?_|refine zA ?_|refine zX ?_)))
  rename_i b1 b2
  exact zS (by exact rTm rfl) (some ⟨b,0,none⟩,[⟨some ⟨b1,0,none⟩,[0,1],2⟩,⟨some ⟨b2,0,none⟩,[1,2],2⟩,⟨none,[],0⟩]) rfl rfl (fun w' h=>by
   have h2:=Own.zGz (enc:=zBF) (k:=1) (b:=b) (xs:=[⟨some ⟨b1,0,none⟩,[0,1],2⟩,⟨some ⟨b2,0,none⟩,[1,2],2⟩,⟨none,[],0⟩]) (by (repeat constructor)) h
   have h3:=Own.zGz (enc:=encI) (k:=1) (b:=b1) (xs:=[0,1]) (by (repeat constructor)) h2
   have h4:=(Own.rows_nil h3).sub (H':=[.sl encI 1 (some ⟨b1,0,none⟩) [0,1],.rows [],.sl zBF 1 (some ⟨b,0,none⟩) [⟨some ⟨b1,0,none⟩,[0,1],2⟩,⟨some ⟨b2,0,none⟩,[1,2],2⟩,⟨none,[],0⟩],.blk b2 [.int .i64 1,.int .i64 2]]) (by (repeat constructor))
   have h5:=Own.zHv (c:=2) h4
   have h6:=(Own.zGz (enc:=encI) (k:=1) (b:=b2) (xs:=[1,2]) (by (repeat constructor)) h5)
   have h7:=Own.zHv (c:=2) (h6.sub (H':=[.sl encI 1 (some ⟨b2,0,none⟩) [1,2],.rows _,.sl zBF 1 (some ⟨b,0,none⟩) [⟨some ⟨b1,0,none⟩,[0,1],2⟩,⟨some ⟨b2,0,none⟩,[1,2],2⟩,⟨none,[],0⟩]]) (by (repeat constructor)))
   have h8:=Own.zHv (c:=0) (zNc encI 1 h7)
   exact h8.sub (by (repeat constructor)))
 refine Ret.of (Calls.mono h1.calls fun e w' q=>?_)
 obtain ⟨x,hp,he,hb,hE⟩:=q
 exact ⟨(w.heap.size,w'.heap.size - w.heap.size,x.1),trivial,he,hb,zJE hp hb.size hE⟩
def zB5 (xss:List (List Int)):List Sli:=xss.map fun x=>⟨none,x,0⟩
theorem zMo (xss:List (List Int)):(zB5 xss).map Sli.xs=xss:=by simp [zB5,List.map_map,Function.comp_def]
theorem zCt {g n:Nat} {A:Option Addr} {xss:List (List Int)} {base:Nat} {w:World} {H H':List Ent} (h:Own base w H) (ht:Take H (.zDu g n A xss) H'):∃ pl:List Sli,pl.map Sli.xs=(zB5 xss).map Sli.xs∧zBG w A pl:=by
 obtain ⟨pl,h1,h2,_,_⟩:=h.here _ ht.mem
 exact ⟨pl,by rw [h1,zMo],h2⟩
theorem zCb {pl:List Sli} {xss:List (List Int)} (h:pl.map Sli.xs=(zB5 xss).map Sli.xs):pl.length=xss.length:=by
 have:=congrArg List.length h
 simpa [zB5] using this
theorem zE0 {pl:List Sli} {xss:List (List Int)} {k:Nat} (h:pl.map Sli.xs=(zB5 xss).map Sli.xs) (hr:∀ r∈xss,r.length≤k):∀ s∈pl,s.xs.length≤k:=fun s hs=>by
 rw [zMo] at h
 exact hr _ (by rw [← h];exact List.mem_map_of_mem hs)
end Go.Proofs.YtdigopgncfhiaaaGreatDoor
namespace Go.Proofs.YtdigopgncfhiaaaGreatDoor
variable {ro : Option Nat}
open Go.RowKit
set_option maxRecDepth 20000
def FitW (ch:List Int):Prop:=∀ x∈ch,0≤x∧x≤4294967295
def chW (ch:List Int) (i:Nat):Int:=ch.getD (i % ch.length) 0
instance encI_u : zBw encU 1:=⟨fun _=>rfl,fun x=>by simp [encU,Value.oneCell']⟩
theorem chW_in {ch:List Int} (h:FitW ch) (i:Nat):0≤chW ch i∧chW ch i≤4294967295:=by
 unfold chW
 rw [List.getD_eq_getElem?_getD]
 cases hg:ch[i % ch.length]? with
 | none=>simp
 | some x=>exact h x (List.mem_of_getElem? hg)
theorem zLB (ch:List Int) (C:Option Addr) (cc:Nat) (x:Int) (i:Nat) (w:World) (hk:zq encU 1 w C ch) (hf:FitW ch) (hx:x=i):Gv Tryz.prog 35 [.slice C ch.length cc,.int .i64 x] w (.int .i64 (chW ch i)):=by
 subst hx
 unfold Gv
 by_cases h0:ch.length=0
 ·obtain rfl:=List.eq_nil_of_length_eq_zero h0
  (refine zJ (n:=16) Tryz.func35 rfl rfl rfl ?_)
  (repeat' (first|((with_reducible refine zF ?_);first|refine zE rfl rfl rfl ?_|refine zC rfl rfl rfl ?_|(refine zQ rfl rfl rfl rfl rfl (fun h=>?_) (fun h=>?_)<;>(dsimp only [cmpP] at h;(try (exfalso;omega))))|refine zo rfl rfl rfl ?_)|(with_reducible first|refine zH ?_|refine zB ?_|refine zD ?_|refine zA ?_|refine zX ?_|refine zZ ?_)|((with_reducible refine zI ?_ ?_);(· exact rfl))))
  exact zS (by exact rTm rfl) () trivial rfl (fun _ h=>h.sub (by (repeat constructor)))
 ·obtain ⟨I,hI⟩:∃ I,I=i % ch.length:=⟨_,rfl⟩
  have hlt:I<ch.length:=by rw [hI];exact Nat.mod_lt i (by omega)
  have hI2:(i:Int) % (ch.length:Int)=(I:Int):=by rw [hI];exact (Int.natCast_emod _ _).symm
  obtain ⟨b,o,rfl,_⟩:=hk.at_ hlt
  have:InS w b o encU 1 ch:=⟨hk⟩
  have hg:zAT ch I ch[I]:=⟨by simp [hlt]⟩
  have hb:=hf _ (List.getElem_mem hlt)
  have e:chW ch i=ch[I]:=by simp [chW,← hI,hlt]
  rw [e]
  generalize ch[I]=z at *
  (refine zJ (n:=16) Tryz.func35 rfl rfl rfl ?_)
  (repeat' (first|((with_reducible refine zF ?_);first|refine zE rfl rfl rfl ?_|refine zC rfl rfl rfl ?_|(refine zK rfl rfl rfl ?_;refine ⟨_,rfl,?_⟩)|(refine zQ rfl rfl rfl rfl rfl (fun h=>?_) (fun h=>?_)<;>(dsimp only [cmpP] at h;(try (exfalso;omega))))|refine zl (I:=I) rfl rfl rfl rfl hI2 hlt ?_|refine zo rfl rfl rfl ?_|refine zNK rfl rfl rfl (IntWalk.i64_in _ (by omega)) ?_|refine u_rem rfl rfl rfl rfl (by omega) (by omega) ?_)|(with_reducible first|refine zH ?_|refine zB ?_|refine zD ?_|refine zA ?_|refine zX ?_|refine zT ?_)|((with_reducible refine zG ?_ ?_);(· exact rfl))))
  exact zS (by exact rTm rfl) () trivial rfl (fun _ h=>h.sub (by (repeat constructor)))
def drawnR (ch:List Int) (f h:Nat) (u:Hour):Nat→List Int
 | 0=>[]
 | i+1=>if u.cold && (decide (((drawnR ch f h u i).length:Int)<u.crew) && decide (0<chW ch (f+13 * h+i) % 3)) then drawnR ch f h u i++[(i:Int)] else drawnR ch f h u i
def zBg (c:Cov) (ch:List Int) (f:Nat):List (List Int):=(List.range c.hours.length).map fun h=>drawnR ch f h (c.hours.getD h default) c.beds.length
theorem zBZ {c:Cov} {ch:List Int} {f:Nat}:(zBg c ch f).length=c.hours.length:=by simp [zBg]
theorem zFr {ch:List Int} {f h:Nat} {u:Hour}:∀ i,(drawnR ch f h u i).length≤i
 | 0=>by simp [drawnR]
 | i+1=>by
  have:=zFr (ch:=ch) (f:=f) (h:=h) (u:=u) i
  unfold drawnR;split
  ·simp;omega
  ·omega
theorem zMW {c:Cov} {ch:List Int} {f:Nat}:∀ r∈zBg c ch f,r.length≤c.beds.length:=fun r hr=>by
 obtain ⟨h,_,rfl⟩:=List.mem_map.1 hr
 exact zFr _
def zDN (c:Cov) (ch:List Int) (f h:Nat):List (List Int):=(zBg c ch f).take h++List.replicate (c.hours.length - h) []
theorem zLS {c:Cov} {ch:List Int} {f:Nat}:zDN c ch f 0=List.replicate c.hours.length []:=by simp [zDN]
theorem zMV {c:Cov} {ch:List Int} {f:Nat}:zDN c ch f c.hours.length=zBg c ch f:=by
 simp [zDN,List.take_of_length_le,zBZ]
theorem zN9 {c:Cov} {ch:List Int} {f h:Nat} (hh:h<c.hours.length):(zDN c ch f h)[h]?=some []:=by
 unfold zDN
 rw [List.getElem?_append_right (by simp [zBZ];omega),List.length_take,zBZ,Nat.min_eq_left (by omega),Nat.sub_self,List.getElem?_replicate,if_pos (by omega)]
theorem zMU {c:Cov} {ch:List Int} {f h:Nat} (hh:h<c.hours.length):(zDN c ch f h).set h (drawnR ch f h (c.hours.getD h default) c.beds.length)=zDN c ch f (h+1):=by
 unfold zDN
 rw [List.set_append_right _ _ (by simp [zBZ];omega),List.length_take,zBZ,Nat.min_eq_left (by omega),Nat.sub_self]
 rw [show c.hours.length - h=(c.hours.length - (h+1))+1 by omega,List.replicate_succ,List.set_cons_zero,List.take_add_one]
 have e:(zBg c ch f)[h]?=some (drawnR ch f h (c.hours.getD h default) c.beds.length):=by
  unfold zBg
  rw [List.getElem?_map,List.getElem?_range hh];rfl
 rw [e]
 simp
set_option maxHeartbeats 8000000 in
theorem zME (c:Cov) (A:Option Addr) (ca:Nat) (B:Option Addr) (cb:Nat) (C:Option Addr) (cc:Nat) (ch:List Int) (D:Option Addr) (cd f:Nat) (w:World) (hc:zAe w c A B C) (hs:Small c) (hD:zq encU 1 w D ch) (hf:FitW ch) (hff:f≤1000) :
  Ret Tryz.prog 17 [zAH c A ca B cb C cc,.slice D ch.length cd,.int .i64 (f:Int)] w (fun p:Nat × List (zx Int)=>.slice (some ⟨p.1,0,none⟩) c.hours.length c.hours.length) (fun p=>[.zA0 zp (rowOf encI 1 3) p.1 p.2]) (fun p=>p.2.map (·.xs)=zBg c ch f):=by
 have h4:=hs.b;have h5:=hs.h
 have hh:=hc.h
 have hCh:=fun W (hW:Below w.heap.size w W) x i (hx:x=((i:Nat):Int))=>zLB ch D cd x i W (hD.below hW) hf hx
 unfold zAH zM
 (refine zJ (n:=71) Tryz.func17 rfl rfl rfl ?_)
 (repeat' (first|((with_reducible refine zF ?_);first|refine zE rfl rfl rfl ?_|refine zC rfl rfl rfl ?_|(refine zK rfl rfl rfl ?_;refine ⟨_,rfl,?_⟩)|refine za rfl rfl rfl ?_|refine zJm rfl rfl rfl rfl rfl rfl rfl rfl rfl (by omega) (fun go=>?_)|refine zo rfl rfl rfl ?_|(refine zu rfl rfl rfl rfl (fun b=>?_)))|(with_reducible first|refine zH ?_|refine zB ?_|refine zD ?_|refine zA ?_|refine zP ?_)))
 obtain ⟨b1,hb1⟩:∃ b1,b1=b:=⟨_,rfl⟩
 subst hb1
 refine zHd (enc:=encI) (k:=1) (e:=3) (Take.here _ _) ?_
 refine zw (ι:=Nat × List (zx Int)) [1,2,3,7,16] rfl (fun p=>p.1≤c.hours.length∧p.2.map (·.xs)=zDN c ch f p.1) (fun p=>[(17,.int .i64 (p.1:Int))]) (fun p=>[.zA0 zp (rowOf encI 1 3) go p.2,.blk b1 (zM c A ca B cb C cc)]) (fun p=>c.hours.length - p.1) (0,List.replicate c.hours.length zAs) ⟨Nat.zero_le _,by simp [zLS,zAs]⟩ (by (repeat first|exact lK1|refine zL rfl ?_)) (by (repeat constructor)) ?_
 rintro ⟨y,L⟩ ⟨hy,hL⟩
 simp only at hy hL
 simp only [zAt,zM,List.cons_append,List.nil_append]
 by_cases hyl:y<c.hours.length
 ·obtain ⟨u,hu⟩:∃ u,c.hours[y]?=some u:=⟨_,List.getElem?_eq_getElem hyl⟩
  obtain ⟨bc,oc,rfl,_,_⟩:=hh.at_ hyl
  have:InS w bc oc zr 5 c.hours:=⟨hh⟩
  have:zAT c.hours y u:=⟨hu⟩
  have hLl:L.length=c.hours.length:=by have:=congrArg List.length hL;simp [zDN,zBZ] at this;omega
  obtain ⟨s0,hs0⟩:∃ s,L[y]?=some s:=⟨_,List.getElem?_eq_getElem (by omega)⟩
  have hx0:s0.xs=[]:=by
   have h1:=zN9 (c:=c) (ch:=ch) (f:=f) hyl
   rw [← hL,List.getElem?_map,hs0] at h1
   exact Option.some.inj h1
  (repeat' (first|((with_reducible refine zF ?_);first|refine zE rfl rfl rfl ?_|refine zC rfl rfl rfl ?_|(refine zK rfl rfl rfl ?_;refine ⟨_,rfl,?_⟩)|refine za rfl rfl rfl ?_|(refine zQ rfl rfl rfl rfl rfl (fun h=>?_) (fun h=>?_)<;>(dsimp only [cmpP] at h;(try (exfalso;omega))))|refine zo rfl rfl rfl ?_)|(with_reducible first|refine zH ?_|refine zB ?_|refine zD ?_|refine zA ?_|refine zT ?_|refine zP ?_)|((with_reducible refine zI ?_ ?_);(· exact rfl))))
  refine zCK y hs0 (by (repeat constructor)) ?_
  refine zw (ι:=Nat × zx Int) [1,2,3,7,8,16,17,22] rfl (fun p=>p.1≤c.beds.length∧p.2.xs=drawnR ch f y u p.1) (fun p=>[(23,.int .i64 (p.1:Int))]) (fun p=>[.arr zp 1 go (L.set y p.2),rowOf encI 1 3 p.2,.all ((L.eraseIdx y).map (rowOf encI 1 3)),.blk b1 (zM c A ca B cb (some ⟨bc,oc,none⟩) cc)]) (fun p=>c.beds.length - p.1) (0,s0) ⟨Nat.zero_le _,by rw [hx0];rfl⟩ (by (repeat first|exact lK1|refine zL rfl ?_)) (by (repeat constructor)) ?_
  rintro ⟨i,sA,sx,sc⟩ ⟨hi,hsx⟩
  simp only at hi hsx
  simp only [zAt,zM,rowOf,List.cons_append,List.nil_append]
  by_cases hil:i<c.beds.length
  ·have hl:=zFr (ch:=ch) (f:=f) (h:=y) (u:=u) i
   have:zAT (L.set y ⟨sA,sx,sc⟩) y ⟨sA,sx,sc⟩:=⟨List.getElem?_set_self (by omega)⟩
   have e1:drawnR ch f y u (i+1)=if u.cold && (decide ((sx.length:Int)<u.crew) && decide (0<chW ch (f+13 * y+i) % 3)) then sx++[(i:Int)] else sx:=by rw [hsx];rfl
   rw [← hsx] at hl
   have hc1:=chW_in hf (f+13 * y+i)
   have hc2:=fun W (hW:Below w.heap.size w W)=>hCh W hW ((f:Int)+13 * (y:Int)+(i:Int)) (f+13 * y+i) (by omega)
   generalize chW ch (f+13 * y+i)=z at *
   obtain ⟨um,ur,uc,ud⟩:=u
   simp only at e1
   (repeat' (first|((with_reducible refine zF ?_);first|refine zE rfl rfl rfl ?_|refine zC rfl rfl rfl ?_|(refine zQ rfl rfl rfl rfl rfl (fun h=>?_) (fun h=>?_)<;>(dsimp only [cmpP] at h;(try (exfalso;omega)))))|(with_reducible first|refine zH ?_|refine zB ?_|refine zD ?_|refine zA ?_|refine zT ?_|refine zP ?_)|((with_reducible refine zI ?_ ?_);(· exact rfl))))
   cases ud with
   | false =>
    simp only [Bool.false_and,Bool.false_eq_true,if_false] at e1
    (refine zBP (by kernel_rfl) (by kernel_rfl) (by kernel_rfl) ?_)
    (repeat' (first|((with_reducible refine zBr ?_);first|refine zn (zAi rfl rfl) rfl ?_|refine zn (zAG rfl rfl (by exact rfl)) rfl ?_|refine zn (zAU rfl rfl) rfl ?_|refine zn (zDM rfl rfl rfl) rfl ?_|refine zBj rfl rfl rfl ?_|refine zn (zAr (I:=y) rfl rfl rfl (by omega) (by first|omega|(dsimp only;omega))) rfl ?_)|(with_reducible refine zCZ ?_)))
    (repeat' (first|((with_reducible refine zF ?_);first|refine zE rfl rfl rfl ?_|refine zh rfl rfl rfl rfl (by omega) ?_)|(with_reducible first|refine zB ?_|refine zD ?_|refine zA ?_|refine zT ?_|refine zg ?_)|((with_reducible refine zG ?_ ?_);(· exact rfl))))
    exact zf (ι:=Nat × zx Int) (i+1,⟨sA,sx,sc⟩) (by exact ⟨by simp only;omega,e1.symm⟩) (by simp only;omega) (by (repeat first|exact lK1|refine zL rfl ?_)) (by (repeat constructor))
   | true =>
    simp only [Bool.true_and] at e1
    (refine zBP (by kernel_rfl) (by kernel_rfl) (by kernel_rfl) ?_)
    (repeat' (first|((with_reducible refine zBr ?_);first|refine zn (zAi rfl rfl) rfl ?_|refine zn (zAG rfl rfl (by exact rfl)) rfl ?_|refine zn (zAU rfl rfl) rfl ?_|refine zn (zDM rfl rfl rfl) rfl ?_|refine zBj rfl rfl rfl ?_|(refine zFQ rfl rfl rfl rfl rfl (fun h=>?_) (fun h=>?_)<;>(dsimp only [cmpP] at h;(try (exfalso;omega))))|refine zn (zAr (I:=y) rfl rfl rfl (by omega) (by first|omega|(dsimp only;omega))) rfl ?_|refine zEU rfl rfl rfl rfl (fun _ _ q=>hc2 _ q.below) ?_|refine zn (zLR rfl rfl rfl (IntWalk.i64_in _ (by omega))) rfl ?_|refine zn (e_mul rfl rfl rfl (IntWalk.i64_in _ (by omega))) rfl ?_|refine zn (zD8 rfl rfl) rfl ?_|refine zn (e_rem rfl rfl rfl (by omega) (by omega)) rfl ?_)|(with_reducible refine zCZ ?_)))
    ·rw [if_pos (by simp only [Bool.and_eq_true,decide_eq_true_eq];omega)] at e1
     (repeat' (first|((with_reducible refine zF ?_);first|refine zE rfl rfl rfl ?_|(refine zK rfl rfl rfl ?_;refine ⟨_,rfl,?_⟩)|(refine zAn (enc:=encI) [_] rfl rfl rfl (by (repeat constructor)) rfl rfl (zAY (by exact rfl)) (by refine ⟨?_,by decide⟩;(try simp only [List.length_append,List.length_cons,List.length_nil]);omega) (fun A' c'=>?_))|refine zCS (hd:=zp) (i:=y) (s:=⟨sA,sx,sc⟩) ⟨A',sx++[(i:Int)],c'⟩ rfl rfl rfl rfl rfl rfl (by (repeat constructor)) (by omega) ?_|refine zh rfl rfl rfl rfl (by omega) ?_|refine zl rfl rfl rfl rfl rfl (by omega) ?_|(refine zY rfl rfl rfl ?_;refine ⟨rfl,_,rfl,fun b=>?_⟩))|(with_reducible first|refine zB ?_|refine zD ?_|refine zA ?_|refine zg ?_)|((with_reducible refine zI ?_ ?_);(· exact rfl))))
     exact zf (ι:=Nat × zx Int) (i+1,⟨A',sx++[(i:Int)],c'⟩) (by exact ⟨by simp only;omega,e1.symm⟩) (by simp only;omega) (by (repeat first|exact lK1|refine zL rfl ?_)) (by (repeat constructor))
    ·rw [if_neg (by simp only [Bool.and_eq_true,decide_eq_true_eq];omega)] at e1
     (repeat' (first|((with_reducible refine zF ?_);first|refine zE rfl rfl rfl ?_|refine zh rfl rfl rfl rfl (by omega) ?_)|(with_reducible first|refine zB ?_|refine zD ?_|refine zA ?_|refine zT ?_|refine zg ?_)|((with_reducible refine zG ?_ ?_);(· exact rfl))))
     exact zf (ι:=Nat × zx Int) (i+1,⟨sA,sx,sc⟩) (by exact ⟨by simp only;omega,e1.symm⟩) (by simp only;omega) (by (repeat first|exact lK1|refine zL rfl ?_)) (by (repeat constructor))
    ·rw [if_neg (by simp only [Bool.and_eq_true,decide_eq_true_eq];omega)] at e1
     (repeat' (first|((with_reducible refine zF ?_);first|refine zE rfl rfl rfl ?_|refine zh rfl rfl rfl rfl (by omega) ?_)|(with_reducible first|refine zB ?_|refine zD ?_|refine zA ?_|refine zT ?_|refine zg ?_)|((with_reducible refine zG ?_ ?_);(· exact rfl))))
     exact zf (ι:=Nat × zx Int) (i+1,⟨sA,sx,sc⟩) (by exact ⟨by simp only;omega,e1.symm⟩) (by simp only;omega) (by (repeat first|exact lK1|refine zL rfl ?_)) (by (repeat constructor))
  ·obtain rfl:i=c.beds.length:=by omega
   (repeat' (first|((with_reducible refine zF ?_);first|refine zE rfl rfl rfl ?_|(refine zQ rfl rfl rfl rfl rfl (fun h=>?_) (fun h=>?_)<;>(dsimp only [cmpP] at h;(try (exfalso;omega))))|refine zh rfl rfl rfl rfl (by omega) ?_)|(with_reducible first|refine zH ?_|refine zB ?_|refine zD ?_|refine zA ?_|refine zk ?_|refine zg ?_|refine zR ?_|refine zW ?_)|((with_reducible refine zG ?_ ?_);(· exact rfl))))
   refine zCJ y (re:=rowOf encI 1 3) ⟨sA,sx,sc⟩ hs0 (by (repeat constructor)) (by (repeat constructor)) (by (repeat constructor)) ?_
   refine zf (ι:=Nat × List (zx Int)) (y+1,L.set y ⟨sA,sx,sc⟩) ⟨by simp only;omega,?_⟩ (by simp only;omega) (by (repeat first|exact lK1|refine zL rfl ?_)) (by (repeat constructor))
   simp only
   rw [List.map_set,hL,hsx,← zMU hyl,zBB hu]
 ·obtain rfl:y=c.hours.length:=by omega
  (repeat' (first|((with_reducible refine zF ?_);first|refine zE rfl rfl rfl ?_|refine zC rfl rfl rfl ?_|(refine zQ rfl rfl rfl rfl rfl (fun h=>?_) (fun h=>?_)<;>(dsimp only [cmpP] at h;(try (exfalso;omega)))))|(with_reducible first|refine zH ?_|refine zB ?_|refine zD ?_|refine zA ?_|refine zX ?_|refine zk ?_|refine zR ?_|refine zW ?_)|((with_reducible refine zG ?_ ?_);(· exact rfl))))
  exact zS (by exact rTm rfl) (go,L) (by rw [hL,zMV]) rfl (fun _ h=>h.sub (by (repeat constructor)))
theorem zMF (c:Cov) (A:Option Addr) (ca:Nat) (B:Option Addr) (cb:Nat) (C:Option Addr) (cc:Nat) (ch:List Int) (D:Option Addr) (cd f:Nat) (w:World) (hc:zAe w c A B C) (hs:Small c) (hD:zq encU 1 w D ch) (hf:FitW ch) (hff:f≤1000) :
  Ret Tryz.prog 17 [zAH c A ca B cb C cc,.slice D ch.length cd,.int .i64 (f:Int)] w (fun z:Nat × Nat × Option Addr × Nat=>.slice z.2.2.1 c.hours.length z.2.2.2) (fun z=>[.zDu z.1 z.2.1 z.2.2.1 (zBg c ch f)]) (fun _=>True):=by
 have h1:Ret Tryz.prog 17 [zAH c A ca B cb C cc,.slice D ch.length cd,.int .i64 (f:Int)] w (fun p:(Option Addr × Nat) × List Sli=>.slice p.1.1 p.2.length p.1.2) (fun p=>[.sl zBF 1 p.1.1 p.2,.rows p.2]) (fun p=>p.2.map Sli.xs=zBg c ch f):=by
  refine (zME c A ca B cb C cc ch D cd f w hc hs hD hf hff).conv fun p hp=>⟨((some ⟨p.1,0,none⟩,c.hours.length),p.2.map zx.sli),by simp only;rw [sli_xs];exact hp,?_,fun w'=>zKr⟩
  have:p.2.length=c.hours.length:=by have:=congrArg List.length hp;rw [zBZ] at this;simpa using this
  simp only [List.length_map,this]
 have h2:=Ret.zDu (V:=fun v=>v) h1
 simp only [zBZ] at h2
 exact h2
theorem zJa {ch:List Int} {f h:Nat} {u:Hour} (hu:0≤u.crew):∀ i,((drawnR ch f h u i).length:Int)≤u.crew∧(drawnR ch f h u i=[]∨u.cold=true)∧(∀ x∈drawnR ch f h u i,0≤x∧x<i)∧(drawnR ch f h u i).Pairwise (· < ·)
 | 0=>by simp [drawnR,hu]
 | i+1=>by
  obtain ⟨h1,h2,h3,h4⟩:=zJa (ch:=ch) (f:=f) (h:=h) (u:=u) hu i
  unfold drawnR
  split
  ·rename_i hc
   simp only [Bool.and_eq_true,decide_eq_true_eq] at hc
   refine ⟨by simp;omega,.inr hc.1,fun x hx=>?_,?_⟩
   ·rcases List.mem_append.1 hx with hx|hx
    ·have:=h3 x hx;omega
    ·simp only [List.mem_singleton] at hx;subst hx;omega
   ·rw [List.pairwise_append]
    refine ⟨h4,List.pairwise_singleton _ _,fun x hx y hy=>?_⟩
    simp only [List.mem_singleton] at hy;subst hy
    exact (h3 x hx).2
  ·exact ⟨h1,h2,fun x hx=>by have:=h3 x hx;omega,h4⟩
theorem drawn_ok {c:Cov} {ch:List Int} {f:Nat} (hf:zDo c):zBY c (zB5 (zBg c ch f))=true:=by
 refine zBK.2 ⟨by simp [zB5,zBZ],fun i u s hu hs=>?_⟩
 have hi:=(List.getElem?_eq_some_iff.1 hu).1
 have e:s.xs=drawnR ch f i u c.beds.length:=by
  unfold zB5 zBg at hs
  rw [List.map_map,List.getElem?_map,List.getElem?_range hi] at hs
  simp only [Option.map_some,Function.comp_apply,Option.some.injEq] at hs
  rw [← hs,zBB hu]
 have hcr:=hf.hour u (List.mem_of_getElem? hu)
 simp only [zCH,Bool.and_eq_true,zAC] at hcr
 obtain ⟨h1,h2,h3,h4⟩:=zJa (ch:=ch) (f:=f) (h:=i) (u:=u) (by omega) c.beds.length
 unfold zEp
 rw [e]
 simp only [Bool.and_eq_true,Bool.or_eq_true,decide_eq_true_eq,List.all_eq_true,zAC]
 refine ⟨⟨⟨h1,?_⟩,fun x hx=>by have:=h3 x hx;omega⟩,zFe.2 fun k hk=>?_⟩
 ·rcases h2 with h2|h2
  ·exact .inl (by rw [h2];rfl)
  ·exact .inr h2
 ·rw [Flow.zAZ (by omega),Flow.zAZ hk]
  exact List.pairwise_iff_getElem.1 h4 k (k+1) (by omega) hk (by omega)
end Go.Proofs.YtdigopgncfhiaaaGreatDoor
namespace Go.Proofs.YtdigopgncfhiaaaGreatDoor
open Go.ChangeShapes Go.WideShapes Go.ChangeAt Go.RowKit
section
variable {H : Type} {enc:TypeId × Value→H} {w:World} {held:Bool}
set_option maxRecDepth 20000 in
theorem zIl {base:Nat} {r:Reach} {v:Value} {dd:DataW H} {p:List MemPlace} (hv:Value.okWide Tryz.prog w r base 31 v) (h:DataW.Trod enc Tryz.prog w 0 (fun _=>true) held 31 v dd p) :
  ∃ (A:Option Addr) (l:List Int) (c:Nat),v = .slice A l.length c∧zq encU 1 w A l∧FitW l∧l.length≤c∧c≤maxLen:=by
 obtain ⟨a,len,cap,rfl⟩:=okWide_slice Tryz.underlying31 hv
 obtain ⟨fuel,hf⟩:=h
 obtain ⟨A,l,c,e0,hs,hfit,h1,h2⟩:=zEr (en:=encU) (k:=1) (ok:=fun x=>0≤x∧x≤4294967295) Tryz.underlying31 (by kernel_rfl) (by omega) (fun _=>rfl) (fun _ _ _ h=>rd_u32 Tryz.underlying80 h) hf
 simp [Value.cells] at e0
 obtain ⟨e1,e2,e3⟩:=e0
 exact ⟨A,l,c,by rw [e1,e2,e3],hs,hfit,h1,h2⟩
end
theorem zOA (os:Os) (args:Array Value):laidMetH Tryz.prog [("kreisel/ice.limits",Rows.laid_kreisel_ice_limits)] ((World.doorLaid Tryz.prog 600 os).forCall (fun _ _=>0) ⟨#[],args,[]⟩).memory :=
 laidMetH_of_parts3 (fuel:=8) (laidMet_of_run' 8 (by kernel_rfl) (by kernel_rfl)) (by kernel_rfl) (by kernel_rfl)
end Go.Proofs.YtdigopgncfhiaaaGreatDoor
namespace Go.Proofs.YtdigopgncfhiaaaGreatDoor
open Go.ChangeShapes Go.WideShapes Go.ChangeAt Go.RowKit
section
variable {H : Type} {enc:TypeId × Value→H} {w:World} {held:Bool}
set_option maxRecDepth 20000 in
theorem zNf {base:Nat} {r:Reach} {v:Value} {dd:DataW H} {p:List MemPlace} (hv:Value.okWide Tryz.prog w r base 73 v) (h:DataW.Trod enc Tryz.prog w 0 (fun _=>true) held 73 v dd p):∃ s:Bed,v=zHc s:=by
 obtain ⟨cs,rfl,_⟩:=okWide_struct Tryz.underlying73 hv
 obtain ⟨fuel,hf⟩:=h
 obtain ⟨s,e,_⟩:=rd_bed hf
 refine ⟨s,?_⟩
 obtain ⟨l⟩:=cs
 simp [Value.cells] at e
 rw [e];rfl
end
end Go.Proofs.YtdigopgncfhiaaaGreatDoor
