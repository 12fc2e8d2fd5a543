/- F28 -/
import Derived.Test.YtdigopgncfhiaaaGreatDoorF27
import Derived.Test.YtdigopgncfhiaaaGreatDoorF25
import Derived.Test.YtdigopgncfhiaaaGreatDoorF23
set_option linter.unusedSimpArgs false
set_option linter.unusedVariables false
namespace Go.Proofs.YtdigopgncfhiaaaGreatDoor.Two
variable {ro : Option Nat}
open Go.RowKit
set_option maxRecDepth 20000
set_option maxHeartbeats 8000000 in
theorem zIo (c:Cov) (A:Option Addr) (ca:Nat) (B:Option Addr) (cb:Nat) (C:Option Addr) (cc:Nat) (t2:List St) (TA:Option Addr) (tc:Nat) (z:Bed) (ch:List Int) (D:Option Addr) (cd:Nat) (w:World) (hc:zAe w c A B C) (hfit:zEe c.t) (ht2:zq zAS 9 w TA t2) (hft:zEe t2) (hD:zq encU 1 w D ch) (hfu:FitW ch) (hG:InC w 0 0 zCP) :
  Gv Tryz.prog 13 [zAH c A ca B cb C cc,.agg #[.slice TA t2.length tc],zHc z,.slice D ch.length cd] w (.bool true):=by
 have hAl:=fun W (hW:Below w.heap.size w W)=>zMM W (hG.below hW)
 have hR:=fun W (hW:Below w.heap.size w W)=>zII c A ca B cb C cc W (hc.below hW) hfit
 have hGr:=fun W=>great_n TA t2.length tc W
 cases hr:zFg c
 ·rw [hr] at hR
  unfold zAH zM at hR ⊢
  unfold Gv zHc
  (refine zJ (n:=157) Tryz.func13 rfl rfl rfl ?_)
  (repeat' (first|((with_reducible refine zF ?_);first|refine zE rfl rfl rfl ?_|refine zC rfl rfl rfl ?_|(refine zK rfl rfl rfl ?_;refine ⟨_,rfl,?_⟩)|refine za rfl rfl rfl ?_|refine zAB rfl rfl rfl rfl ?_|refine zd rfl rfl rfl ?_|refine zAA rfl rfl ?_|(refine zQ rfl rfl rfl rfl rfl (fun h=>?_) (fun h=>?_)<;>(dsimp only [cmpP] at h;(try (exfalso;omega))))|refine zV rfl rfl rfl rfl (fun _ _ q=>hAl _ q.below) ?_|refine zV rfl rfl rfl rfl (fun _ _ q=>hR _ q.below) ?_|refine zc rfl rfl rfl rfl ?_|refine zAN rfl rfl rfl ?_|refine zh rfl rfl rfl rfl (by omega) ?_|refine zBd rfl rfl rfl rfl (IntWalk.i64_in _ (by omega)) ?_|refine zo rfl rfl rfl ?_|(refine zb rfl rfl rfl rfl rfl ?_;refine ⟨rfl,by first|decide|exact Nat.le_of_ble_eq_true rfl|(simp;omega),_,rfl,?_⟩)|(refine zj rfl rfl (fun b=>?_))|(refine zu rfl rfl rfl rfl (fun b=>?_))|(refine zY rfl rfl rfl ?_;refine ⟨rfl,_,rfl,fun b=>?_⟩))|(with_reducible first|refine zH ?_|refine zB ?_|refine zD ?_|refine zA ?_|refine zX ?_|refine zT ?_|refine zZ ?_|refine zB7 ?_|refine zP ?_|refine zk ?_|refine zg ?_|refine zAP ?_|refine zR ?_|refine zW ?_)|((with_reducible refine zAE ?_ ?_);(· exact rfl))|((with_reducible refine zI ?_ ?_);(· exact rfl))|((with_reducible refine zG ?_ ?_);(· exact rfl))))
  all_goals exact zS (by exact rTm rfl) () trivial rfl (fun _ h=>h.sub (by (repeat constructor)))
 rw [hr] at hR
 have hs:=zF6 hr hfit
 have h0:=(zFf.1 hr).2
 have hf:=zBu h0
 have hv:=errI_val h0
 have h4:=hs.b;have h5:=hs.h;have h6:=hs.t
 have hb:=hc.b;have hh:=hc.h
 have hh1:=hf.hours
 rw [zAC] at hh1
 have hb0:=zIV h0
 have hbt:=hf.beds
 by_cases hg:20<t2.length
 ·rw [decide_eq_true hg] at hGr
  unfold zAH zM at hR ⊢
  unfold Gv zHc
  (refine zJ (n:=157) Tryz.func13 rfl rfl rfl ?_)
  (repeat' (first|((with_reducible refine zF ?_);first|refine zE rfl rfl rfl ?_|refine zC rfl rfl rfl ?_|(refine zK rfl rfl rfl ?_;refine ⟨_,rfl,?_⟩)|refine za rfl rfl rfl ?_|refine zAB rfl rfl rfl rfl ?_|refine zd rfl rfl rfl ?_|refine zAA rfl rfl ?_|(refine zQ rfl rfl rfl rfl rfl (fun h=>?_) (fun h=>?_)<;>(dsimp only [cmpP] at h;(try (exfalso;omega))))|refine zV rfl rfl rfl rfl (fun _ _ q=>hAl _ q.below) ?_|refine zV rfl rfl rfl rfl (fun _ _ q=>hR _ q.below) ?_|refine zV rfl rfl rfl rfl (fun _ _ q=>hGr _) ?_|refine zc rfl rfl rfl rfl ?_|refine zAN rfl rfl rfl ?_|refine zh rfl rfl rfl rfl (by omega) ?_|refine zBd rfl rfl rfl rfl (IntWalk.i64_in _ (by omega)) ?_|refine zo rfl rfl rfl ?_|(refine zb rfl rfl rfl rfl rfl ?_;refine ⟨rfl,by first|decide|exact Nat.le_of_ble_eq_true rfl|(simp;omega),_,rfl,?_⟩)|(refine zj rfl rfl (fun b=>?_))|(refine zu rfl rfl rfl rfl (fun b=>?_))|(refine zY rfl rfl rfl ?_;refine ⟨rfl,_,rfl,fun b=>?_⟩))|(with_reducible first|refine zH ?_|refine zB ?_|refine zD ?_|refine zA ?_|refine zX ?_|refine zT ?_|refine zZ ?_|refine zB7 ?_|refine zP ?_|refine zk ?_|refine zg ?_|refine zAP ?_|refine zR ?_|refine zW ?_)|((with_reducible refine zAE ?_ ?_);(· exact rfl))|((with_reducible refine zI ?_ ?_);(· exact rfl))|((with_reducible refine zG ?_ ?_);(· exact rfl))))
  all_goals exact zS (by exact rTm rfl) () trivial rfl (fun _ h=>h.sub (by (repeat constructor)))
 rw [decide_eq_false hg] at hGr
 have hCk:=fun W (hW:Below w.heap.size w W)=>zKh t2 TA tc W (ht2.below hW) hft (by omega)
 cases hv2:valid t2
 ·rw [zGI hv2] at hCk
  unfold zAH zM at hR ⊢
  unfold Gv zHc
  (refine zJ (n:=157) Tryz.func13 rfl rfl rfl ?_)
  (repeat' (first|((with_reducible refine zF ?_);first|refine zE rfl rfl rfl ?_|refine zC rfl rfl rfl ?_|(refine zK rfl rfl rfl ?_;refine ⟨_,rfl,?_⟩)|refine za rfl rfl rfl ?_|refine zAB rfl rfl rfl rfl ?_|refine zd rfl rfl rfl ?_|refine zAA rfl rfl ?_|(refine zQ rfl rfl rfl rfl rfl (fun h=>?_) (fun h=>?_)<;>(dsimp only [cmpP] at h;(try (exfalso;omega))))|refine zV rfl rfl rfl rfl (fun _ _ q=>hAl _ q.below) ?_|refine zV rfl rfl rfl rfl (fun _ _ q=>hR _ q.below) ?_|refine zV rfl rfl rfl rfl (fun _ _ q=>hGr _) ?_|refine zV rfl rfl rfl rfl (fun _ _ q=>hCk _ q.below) ?_|refine zc rfl rfl rfl rfl ?_|refine zAN rfl rfl rfl ?_|refine zh rfl rfl rfl rfl (by omega) ?_|refine zBd rfl rfl rfl rfl (IntWalk.i64_in _ (by omega)) ?_|refine zo rfl rfl rfl ?_|(refine zb rfl rfl rfl rfl rfl ?_;refine ⟨rfl,by first|decide|exact Nat.le_of_ble_eq_true rfl|(simp;omega),_,rfl,?_⟩)|(refine zj rfl rfl (fun b=>?_))|(refine zu rfl rfl rfl rfl (fun b=>?_))|(refine zY rfl rfl rfl ?_;refine ⟨rfl,_,rfl,fun b=>?_⟩))|(with_reducible first|refine zH ?_|refine zB ?_|refine zD ?_|refine zA ?_|refine zX ?_|refine zT ?_|refine zZ ?_|refine zB7 ?_|refine zP ?_|refine zk ?_|refine zg ?_|refine zAP ?_|refine zR ?_|refine zW ?_)|((with_reducible refine zAE ?_ ?_);(· exact rfl))|((with_reducible refine zI ?_ ?_);(· exact rfl))|((with_reducible refine zG ?_ ?_);(· exact rfl))))
  all_goals exact zS (by exact rTm rfl) () trivial rfl (fun _ h=>h.sub (by (repeat constructor)))
 rw [zDK hv2] at hCk
 have hJ:=fun W (hW:Below w.heap.size w W)=>join_any c.t t2 A TA ca tc W (hc.below hW).t (ht2.below hW) hfit hft (by omega)
 by_cases hj:zEi c.t t2=0
 rotate_left
 ·have hj2:zEi c.t t2=9∨zEi c.t t2=8:=by
   unfold zEi at hj ⊢
   rw [hv,hv2] at hj ⊢
   simp only [Bool.and_self,if_true] at hj ⊢
   split
   ·exact .inl rfl
   ·next h=>rw [if_neg h] at hj;split at hj<;>simp_all
  generalize zDd c.t t2=J at *
  generalize zEi c.t t2=e at *
  unfold zAH zM at hR ⊢
  unfold Gv zHc
  (refine zJ (n:=157) Tryz.func13 rfl rfl rfl ?_)
  (repeat' (first|((with_reducible refine zF ?_);first|refine zE rfl rfl rfl ?_|refine zC rfl rfl rfl ?_|(refine zK rfl rfl rfl ?_;refine ⟨_,rfl,?_⟩)|refine za rfl rfl rfl ?_|refine zAB rfl rfl rfl rfl ?_|refine zd rfl rfl rfl ?_|refine zAA rfl rfl ?_|(refine zQ rfl rfl rfl rfl rfl (fun h=>?_) (fun h=>?_)<;>(dsimp only [cmpP] at h;(try (exfalso;omega))))|refine zV rfl rfl rfl rfl (fun _ _ q=>hAl _ q.below) ?_|refine zV rfl rfl rfl rfl (fun _ _ q=>hR _ q.below) ?_|refine zV rfl rfl rfl rfl (fun _ _ q=>hGr _) ?_|refine zV rfl rfl rfl rfl (fun _ _ q=>hCk _ q.below) ?_|refine zBt rfl rfl rfl rfl (fun _ _ q=>hJ _ q.below) (fun A' c'=>?_)|refine zc rfl rfl rfl rfl ?_|refine zAN rfl rfl rfl ?_|refine zh rfl rfl rfl rfl (by omega) ?_|refine zBd rfl rfl rfl rfl (IntWalk.i64_in _ (by omega)) ?_|refine zo rfl rfl rfl ?_|(refine zb rfl rfl rfl rfl rfl ?_;refine ⟨rfl,by first|decide|exact Nat.le_of_ble_eq_true rfl|(simp;omega),_,rfl,?_⟩)|(refine zj rfl rfl (fun b=>?_))|(refine zu rfl rfl rfl rfl (fun b=>?_))|(refine zY rfl rfl rfl ?_;refine ⟨rfl,_,rfl,fun b=>?_⟩))|(with_reducible first|refine zH ?_|refine zB ?_|refine zD ?_|refine zA ?_|refine zX ?_|refine zT ?_|refine zZ ?_|refine zB7 ?_|refine zP ?_|refine zk ?_|refine zg ?_|refine zAP ?_|refine zR ?_|refine zW ?_)|((with_reducible refine zAE ?_ ?_);(· exact rfl))|((with_reducible refine zI ?_ ?_);(· exact rfl))|((with_reducible refine zG ?_ ?_);(· exact rfl))))
  all_goals exact zS (by exact rTm rfl) () trivial rfl (fun _ h=>h.sub (by (repeat constructor)))
 have hjt:zDd c.t t2=c.t++t2:=by
  unfold zEi at hj
  unfold zDd
  rw [hv,hv2] at hj ⊢
  simp only [Bool.and_self,if_true] at hj ⊢
  split
  ·next h=>rw [if_pos h] at hj;cases hj
  ·next h =>
   rw [if_neg h] at hj
   split
   ·rfl
   ·next h2=>rw [if_neg h2] at hj;cases hj
 rw [hj,hjt] at hJ
 have hfj:zEe (c.t++t2):=fun s hs=>(List.mem_append.1 hs).elim (hfit s) (hft s)
 have hT:=fun W (hW:Below w.heap.size w W)=>zNM c A ca B cb C cc W (hc.below hW) (by omega) (by omega) (by omega)
 generalize hjj:c.t++t2=tj at *
 unfold zAH zM at hR hT
 unfold Gv zAH zM zHc
 (refine zJ (n:=157) Tryz.func13 rfl rfl rfl ?_)
 (repeat' (first|((with_reducible refine zF ?_);first|refine zE rfl rfl rfl ?_|refine zC rfl rfl rfl ?_|(refine zK rfl rfl rfl ?_;refine ⟨_,rfl,?_⟩)|refine za rfl rfl rfl ?_|refine zAB rfl rfl rfl rfl ?_|refine zd rfl rfl rfl ?_|refine zAA rfl rfl ?_|(refine zQ rfl rfl rfl rfl rfl (fun h=>?_) (fun h=>?_)<;>(dsimp only [cmpP] at h;(try (exfalso;omega))))|refine zV rfl rfl rfl rfl (fun _ _ q=>hAl _ q.below) ?_|refine zV rfl rfl rfl rfl (fun _ _ q=>hR _ q.below) ?_|refine zV rfl rfl rfl rfl (fun _ _ q=>hGr _) ?_|refine zV rfl rfl rfl rfl (fun _ _ q=>hCk _ q.below) ?_|refine zBt rfl rfl rfl rfl (fun _ _ q=>hJ _ q.below) (fun A' c'=>?_)|(refine zAQ rfl rfl rfl rfl (fun _ _ q=>hT _ q.below) ?_;rintro ⟨⟨A3,m3⟩,⟨A6,m6⟩,A9,m9⟩ -;dsimp only [List.cons_append,List.nil_append])|refine zc rfl rfl rfl rfl ?_|refine zAN rfl rfl rfl ?_|refine zh rfl rfl rfl rfl (by omega) ?_|refine zBd rfl rfl rfl rfl (IntWalk.i64_in _ (by omega)) ?_|refine zo rfl rfl rfl ?_|(refine zb rfl rfl rfl rfl rfl ?_;refine ⟨rfl,by first|decide|exact Nat.le_of_ble_eq_true rfl|(simp;omega),_,rfl,?_⟩)|(refine zj rfl rfl (fun b=>?_))|(refine zu rfl rfl rfl rfl (fun b=>?_))|(refine zY rfl rfl rfl ?_;refine ⟨rfl,_,rfl,fun b=>?_⟩))|(with_reducible first|refine zH ?_|refine zB ?_|refine zD ?_|refine zA ?_|refine zX ?_|refine zT ?_|refine zZ ?_|refine zB7 ?_|refine zP ?_|refine zk ?_|refine zg ?_|refine zAP ?_|refine zR ?_|refine zW ?_)|((with_reducible refine zAE ?_ ?_);(· exact rfl))|((with_reducible refine zI ?_ ?_);(· exact rfl))|((with_reducible refine zG ?_ ?_);(· exact rfl))))
 obtain ⟨JA,hJA⟩:∃ x,x=A':=⟨_,rfl⟩
 subst hJA
 obtain ⟨jc,hjc⟩:∃ x,x=c':=⟨_,rfl⟩
 subst hjc
 obtain ⟨b12,hb12⟩:∃ x,x=b:=⟨_,rfl⟩
 subst hb12
 obtain ⟨b10,hb10⟩:∃ x,x=b:=⟨_,rfl⟩
 subst hb10
 obtain ⟨b6,hb6⟩:∃ x,x=b:=⟨_,rfl⟩
 subst hb6
 obtain ⟨b5,hb5⟩:∃ x,x=b:=⟨_,rfl⟩
 subst hb5
 obtain ⟨b3,hb3⟩:∃ x,x=b:=⟨_,rfl⟩
 subst hb3
 have hb9:c.t.length+t2.length≤12:=by
  have:=hj
  unfold zEi at this
  rw [hv,hv2] at this
  simp only [Bool.and_self,if_true] at this
  split at this
  ·cases this
  ·omega
 have htl:tj.length=c.t.length+t2.length:=by rw [← hjj,List.length_append]
 refine zDs (enc:=zr) (xs:=c.hours) (by (repeat constructor)) (by omega) ?_
 rintro gh rfl
 have hr0:c.beds++List.replicate 0 z=c.beds:=List.append_nil _
 refine zw (ι:=Nat × Value) [3,4,6,9,12,64] rfl (fun p=>p.1≤t2.length) (fun p=>[(65,.int .i64 (p.1:Int))]) (fun p=>[.row zAK 3 73 p.2 (c.beds++List.replicate p.1 z),.sl zAS 9 JA tj,.arr zr 5 gh c.hours,.blk b12 [.slice JA tj.length jc,p.2,.slice (some ⟨gh,0,none⟩) c.hours.length m9,.int .i64 c.wear.lo,.int .i64 c.wear.hi,.int .i64 c.layer.lo,.int .i64 c.layer.hi,.int .i64 c.rate,.int .i64 c.limit,.int .i64 c.base],.blk b6 (zAK z),.blk b3 (zM c A ca B cb C cc)]) (fun p=>t2.length - p.1) (0,.slice A6 c.beds.length m6) (Nat.zero_le _) (by (repeat first|exact lK1|refine zL rfl ?_)) (by simp only [hr0];(repeat constructor)) ?_
 rintro ⟨j,v⟩ hi
 simp only at hi
 simp only [zAt,zM,List.cons_append,List.nil_append]
 by_cases hil:j<t2.length
 ·have e1:c.beds++List.replicate j z++[z]=c.beds++List.replicate (j+1) z:=by rw [List.replicate_succ',List.append_assoc]
  have l1:(c.beds++List.replicate j z).length=c.beds.length+j:=by simp
  generalize c.beds++List.replicate j z=BL at *
  (repeat' (first|((with_reducible refine zF ?_);first|refine zE rfl rfl rfl ?_|refine zC rfl rfl rfl ?_|(refine zK rfl rfl rfl ?_;refine ⟨_,rfl,?_⟩)|refine za rfl rfl rfl ?_|refine zAB rfl rfl rfl rfl ?_|refine zd rfl rfl rfl ?_|refine zAA rfl rfl ?_|(refine zQ rfl rfl rfl rfl rfl (fun h=>?_) (fun h=>?_)<;>(dsimp only [cmpP] at h;(try (exfalso;omega))))|(refine zAn (enc:=zAK) [_] rfl rfl rfl (by (repeat constructor)) rfl rfl (zAY (by exact rfl)) (by refine ⟨?_,by decide⟩;(try simp only [List.length_append,List.length_cons,List.length_nil]);omega) (fun A' c'=>?_))|refine zc rfl rfl rfl rfl ?_|refine zAN rfl rfl rfl ?_|refine zh rfl rfl rfl rfl (by omega) ?_|refine zBd rfl rfl rfl rfl (IntWalk.i64_in _ (by omega)) ?_|refine zo rfl rfl rfl ?_|(refine zb rfl rfl rfl rfl rfl ?_;refine ⟨rfl,by first|decide|exact Nat.le_of_ble_eq_true rfl|(simp;omega),_,rfl,?_⟩)|(refine zj rfl rfl (fun b=>?_))|(refine zu rfl rfl rfl rfl (fun b=>?_))|(refine zY rfl rfl rfl ?_;refine ⟨rfl,_,rfl,fun b=>?_⟩))|(with_reducible first|refine zH ?_|refine zB ?_|refine zD ?_|refine zA ?_|refine zX ?_|refine zT ?_|refine zZ ?_|refine zB7 ?_|refine zP ?_|refine zk ?_|refine zg ?_|refine zAP ?_|refine zR ?_|refine zW ?_)|((with_reducible refine zAE ?_ ?_);(· exact rfl))|((with_reducible refine zI ?_ ?_);(· exact rfl))|((with_reducible refine zG ?_ ?_);(· exact rfl))))
  refine zf (ι:=Nat × Value) (j+1,.slice A' (BL++[z]).length c') (by simp only;omega) (by simp only;omega) (by (repeat first|exact lK1|refine zL rfl ?_)) ?_
  simp only [← e1]
  (repeat constructor)
 obtain rfl:j=t2.length:=by omega
 obtain ⟨d,hd⟩:∃ d,zIU c tj z t2.length=d:=⟨_,rfl⟩
 have dt:d.t=tj:=by rw [← hd];rfl
 have db:d.beds=c.beds++List.replicate t2.length z:=by rw [← hd];rfl
 have dh:d.hours=c.hours:=by rw [← hd];rfl
 have dw:d.wear=c.wear:=by rw [← hd];rfl
 have dy:d.layer=c.layer:=by rw [← hd];rfl
 have dr:d.rate=c.rate:=by rw [← hd];rfl
 have dm:d.limit=c.limit:=by rw [← hd];rfl
 have dx:d.base=c.base:=by rw [← hd];rfl
 have dl:d.beds.length=c.beds.length+t2.length:=by rw [db];simp
 rw [← db]
 refine zEL (xs:=d.beds) (enc:=zAK) (by (repeat constructor)) ?_
 rintro BA bc rfl
 refine zDs (enc:=zAK) (xs:=d.beds) (by (repeat constructor)) (by omega) ?_
 rintro gb rfl
 have hCd:∀ W,zq zAS 9 W JA tj→zq zAK 3 W (some ⟨gb,0,none⟩) d.beds→zq zr 5 W (some ⟨gh,0,none⟩) c.hours→zAe W d JA (some ⟨gb,0,none⟩) (some ⟨gh,0,none⟩):=fun W h1 h2 h3=>⟨by rw [dt];exact h1,h2,by rw [dh];exact h3⟩
 have hRd:=fun W hC=>zII d JA jc (some ⟨gb,0,none⟩) bc (some ⟨gh,0,none⟩) m9 W hC (by rw [dt];exact hfj)
 simp only [zAH,zM,dt,dh,dw,dy,dr,dm,dx] at hRd
 cases hr2:zFg d
 ·rw [hr2] at hRd
  (repeat' (first|((with_reducible refine zF ?_);first|refine zE rfl rfl rfl ?_|refine zC rfl rfl rfl ?_|(refine zK rfl rfl rfl ?_;refine ⟨_,rfl,?_⟩)|refine za rfl rfl rfl ?_|refine zAB rfl rfl rfl rfl ?_|refine zd rfl rfl rfl ?_|refine zAA rfl rfl ?_|(refine zQ rfl rfl rfl rfl rfl (fun h=>?_) (fun h=>?_)<;>(dsimp only [cmpP] at h;(try (exfalso;omega))))|refine zV rfl rfl rfl rfl (fun _ _ q=>hRd _ (hCd _ (zAv q.own (Below.refl _ _)) (zEd (q.own.here (.arr zAK 3 gb d.beds) (Take.mem (by (repeat constructor))))) (zEd (q.own.here (.arr zr 5 gh c.hours) (Take.mem (by (repeat constructor))))))) ?_|refine zc rfl rfl rfl rfl ?_|refine zAN rfl rfl rfl ?_|refine zh rfl rfl rfl rfl (by omega) ?_|refine zBd rfl rfl rfl rfl (IntWalk.i64_in _ (by omega)) ?_|refine zo rfl rfl rfl ?_|(refine zb rfl rfl rfl rfl rfl ?_;refine ⟨rfl,by first|decide|exact Nat.le_of_ble_eq_true rfl|(simp;omega),_,rfl,?_⟩)|(refine zj rfl rfl (fun b=>?_))|(refine zu rfl rfl rfl rfl (fun b=>?_))|(refine zY rfl rfl rfl ?_;refine ⟨rfl,_,rfl,fun b=>?_⟩))|(with_reducible first|refine zH ?_|refine zB ?_|refine zD ?_|refine zA ?_|refine zX ?_|refine zT ?_|refine zZ ?_|refine zB7 ?_|refine zP ?_|refine zk ?_|refine zg ?_|refine zAP ?_|refine zR ?_|refine zW ?_)|((with_reducible refine zAE ?_ ?_);(· exact rfl))|((with_reducible refine zI ?_ ?_);(· exact rfl))|((with_reducible refine zG ?_ ?_);(· exact rfl))))
  exact zS (by exact rTm rfl) () trivial rfl (fun _ h=>h.sub (by (repeat constructor)))
 rw [hr2] at hRd
 have hds:=zF6 hr2 (by rw [dt];exact hfj)
 have hd0:=(zFf.1 hr2).2
 have hyo:=drawn_ok (ch:=ch) (f:=0) hf
 have hyl:(zBg c ch 0).length=c.hours.length:=zBZ
 have hyr:∀ r∈zBg c ch 0,r.length≤20:=fun r hr=>Nat.le_trans (zMW r hr) h4
 have hek:=zM2 h0 hyo
 have hek2:zBs d (zB5 (zBg c ch 0))=0:=zM2 hd0 (by rw [← hd];exact bes_plan hyo)
 have hDr:=fun W (hW:Below w.heap.size w W)=>zMF c A ca B cb C cc ch D cd 0 W (hc.below hW) hs (hD.below hW) hfu (by omega)
 have hNc:=fun W (hW:Below w.heap.size w W)=>zJQ c A ca B cb C cc W (hc.below hW) hs (hG.below hW)
 have hNd:=fun W (hW:Below w.heap.size w W) hC=>zNx d JA jc (some ⟨gb,0,none⟩) bc (some ⟨gh,0,none⟩) m9 W hC hds (hG.below hW) hd0
 have n1:zJG c=((zAk c).map Flow.zBl,0):=by unfold zJG;rw [if_pos h0]
 have n3:((zAk d).map Flow.zBl).take c.beds.length=(zAk c).map Flow.zBl:=by rw [← List.map_take,← hd,zOG]
 have n4:((zAk c).map Flow.zBl).length=c.beds.length:=by rw [List.length_map,zCg]
 have n5:((zAk d).map Flow.zBl).length=d.beds.length:=by rw [List.length_map,zCg]
 rw [n1] at hNc
 simp only at hNc
 generalize (zAk c).map Flow.zBl=x at *
 generalize (zAk d).map Flow.zBl=y at *
 have hTk:=fun W (hW:Below w.heap.size w W) P cp hp (i k:Nat) (hi:i<c.beds.length) (hk:k≤c.hours.length)=>by
  have:=zJ9 c A ca B cb C cc (zBg c ch 0) P cp W (hc.below hW) hs hp (by omega) hyr (i:Int) (k:Int)
  rw [zIz hek hi hk] at this
  exact this
 have hTd:=fun W P cp hC hp (i k:Nat) (hi:i<c.beds.length) (hk:k≤c.hours.length)=>by
  have:=zJ9 d JA jc (some ⟨gb,0,none⟩) bc (some ⟨gh,0,none⟩) m9 (zBg c ch 0) P cp W hC hds hp (by omega) hyr (i:Int) (k:Int)
  rw [zIz hek2 (by rw [dl];omega) (by rw [dh];exact hk),← hd,bes_bed hi,zJe,hd] at this
  exact this
 rw [hyl] at hTk hTd
 unfold vSp at hTk hTd
 simp only [zAH,zM,dt,dh,dw,dy,dr,dm,dx] at hDr hNc hNd hTk hTd
 (repeat' (first|((with_reducible refine zF ?_);first|refine zE rfl rfl rfl ?_|refine zC rfl rfl rfl ?_|(refine zK rfl rfl rfl ?_;refine ⟨_,rfl,?_⟩)|refine za rfl rfl rfl ?_|refine zAB rfl rfl rfl rfl ?_|refine zd rfl rfl rfl ?_|refine zAA rfl rfl ?_|(refine zQ rfl rfl rfl rfl rfl (fun h=>?_) (fun h=>?_)<;>(dsimp only [cmpP] at h;(try (exfalso;omega))))|refine zV rfl rfl rfl rfl (fun _ _ q=>hRd _ (hCd _ (zAv q.own (Below.refl _ _)) (zEd (q.own.here (.arr zAK 3 gb d.beds) (Take.mem (by (repeat constructor))))) (zEd (q.own.here (.arr zr 5 gh c.hours) (Take.mem (by (repeat constructor))))))) ?_|(refine zAQ rfl rfl rfl rfl (fun _ _ q=>hDr _ q.below) ?_;rintro ⟨pg,pn,P,cp⟩ -;dsimp only [List.cons_append,List.nil_append])|refine zBt rfl rfl rfl rfl (fun _ _ q=>hNc _ q.below) (fun A' c'=>?_)|refine zc rfl rfl rfl rfl ?_|refine zAN rfl rfl rfl ?_|refine zh rfl rfl rfl rfl (by omega) ?_|refine zBd rfl rfl rfl rfl (IntWalk.i64_in _ (by omega)) ?_|refine zo rfl rfl rfl ?_|(refine zb rfl rfl rfl rfl rfl ?_;refine ⟨rfl,by first|decide|exact Nat.le_of_ble_eq_true rfl|(simp;omega),_,rfl,?_⟩)|(refine zj rfl rfl (fun b=>?_))|(refine zu rfl rfl rfl rfl (fun b=>?_))|(refine zY rfl rfl rfl ?_;refine ⟨rfl,_,rfl,fun b=>?_⟩))|(with_reducible first|refine zH ?_|refine zB ?_|refine zD ?_|refine zA ?_|refine zX ?_|refine zT ?_|refine zZ ?_|refine zB7 ?_|refine zP ?_|refine zk ?_|refine zg ?_|refine zAP ?_|refine zR ?_|refine zW ?_)|((with_reducible refine zAE ?_ ?_);(· exact rfl))|((with_reducible refine zI ?_ ?_);(· exact rfl))|((with_reducible refine zG ?_ ?_);(· exact rfl))))
 obtain ⟨XA,hXA⟩:∃ x,x=A':=⟨_,rfl⟩
 subst hXA
 obtain ⟨xc,hxc⟩:∃ x,x=c':=⟨_,rfl⟩
 subst hxc
 have hSm:=fun W Y cy (h1:zq encI 1 W Y y) h2=>zJx x Y cy XA xc W (by have h3:=h1.take c.beds.length;rw [n3] at h3;exact h3) h2 (by omega)
 (repeat' (first|((with_reducible refine zF ?_);first|refine zE rfl rfl rfl ?_|refine zC rfl rfl rfl ?_|(refine zK rfl rfl rfl ?_;refine ⟨_,rfl,?_⟩)|refine za rfl rfl rfl ?_|refine zAB rfl rfl rfl rfl ?_|refine zd rfl rfl rfl ?_|refine zAA rfl rfl ?_|(refine zQ rfl rfl rfl rfl rfl (fun h=>?_) (fun h=>?_)<;>(dsimp only [cmpP] at h;(try (exfalso;omega))))|(refine zAQ rfl rfl rfl rfl (fun _ _ q=>hNd _ q.below (hCd _ (zAv q.own (Below.refl _ _)) (zEd (q.own.here (.arr zAK 3 gb d.beds) (Take.mem (by (repeat constructor))))) (zEd (q.own.here (.arr zr 5 gh c.hours) (Take.mem (by (repeat constructor))))))) ?_;rintro ⟨YA,yc⟩ -;dsimp only [List.cons_append,List.nil_append])|refine zc rfl rfl rfl rfl ?_|refine zAN rfl rfl rfl ?_|refine zh rfl rfl rfl rfl (by omega) ?_|refine zBd rfl rfl rfl rfl (IntWalk.i64_in _ (by omega)) ?_|refine zo rfl rfl rfl ?_|(refine zb rfl rfl rfl rfl rfl ?_;refine ⟨rfl,by first|decide|exact Nat.le_of_ble_eq_true rfl|(simp;omega),_,rfl,?_⟩)|(refine zj rfl rfl (fun b=>?_))|(refine zu rfl rfl rfl rfl (fun b=>?_))|(refine zY rfl rfl rfl ?_;refine ⟨rfl,_,rfl,fun b=>?_⟩))|(with_reducible first|refine zH ?_|refine zB ?_|refine zD ?_|refine zA ?_|refine zX ?_|refine zT ?_|refine zZ ?_|refine zB7 ?_|refine zP ?_|refine zk ?_|refine zg ?_|refine zAP ?_|refine zR ?_|refine zW ?_)|((with_reducible refine zAE ?_ ?_);(· exact rfl))|((with_reducible refine zI ?_ ?_);(· exact rfl))|((with_reducible refine zG ?_ ?_);(· exact rfl))))
 refine u_fact (e:=.row encI 1 3 (.slice YA y.length yc) y) (by (repeat constructor)) (p:=y.length≤yc) (fun w hp=>row_cap hp) fun hyc=>?_
 refine zDs (enc:=encI) (xs:=y) (by (repeat constructor)) (by omega) ?_
 rintro gy rfl
 (repeat' (first|((with_reducible refine zF ?_);first|refine zE rfl rfl rfl ?_|refine zC rfl rfl rfl ?_|(refine zK rfl rfl rfl ?_;refine ⟨_,rfl,?_⟩)|refine za rfl rfl rfl ?_|refine zAB rfl rfl rfl rfl ?_|refine zd rfl rfl rfl ?_|refine zAA rfl rfl ?_|(refine zQ rfl rfl rfl rfl rfl (fun h=>?_) (fun h=>?_)<;>(dsimp only [cmpP] at h;(try (exfalso;omega))))|refine zAL rfl (e_prefix x.length rfl rfl rfl rfl (by omega)) ?_|refine zV rfl rfl rfl rfl (fun _ _ q=>hSm _ _ _ (zEd (q.own.here (.arr encI 1 gy y) (Take.mem (by (repeat constructor))))) (zAv q.own (Below.refl _ _))) ?_|refine zc rfl rfl rfl rfl ?_|refine zAN rfl rfl rfl ?_|refine zh rfl rfl rfl rfl (by omega) ?_|refine zBd rfl rfl rfl rfl (IntWalk.i64_in _ (by omega)) ?_|refine zo rfl rfl rfl ?_|(refine zb rfl rfl rfl rfl rfl ?_;refine ⟨rfl,by first|decide|exact Nat.le_of_ble_eq_true rfl|(simp;omega),_,rfl,?_⟩)|(refine zj rfl rfl (fun b=>?_))|(refine zu rfl rfl rfl rfl (fun b=>?_))|(refine zY rfl rfl rfl ?_;refine ⟨rfl,_,rfl,fun b=>?_⟩))|(with_reducible first|refine zH ?_|refine zB ?_|refine zD ?_|refine zA ?_|refine zX ?_|refine zT ?_|refine zZ ?_|refine zB7 ?_|refine zP ?_|refine zk ?_|refine zg ?_|refine zAP ?_|refine zR ?_|refine zW ?_)|((with_reducible refine zAE ?_ ?_);(· exact rfl))|((with_reducible refine zI ?_ ?_);(· exact rfl))|((with_reducible refine zG ?_ ?_);(· exact rfl))))
 refine zw (ι:=Nat) [4,9,12,13,116] rfl (fun i=>i≤c.beds.length) (fun i=>[(117,.int .i64 (i:Int))]) (fun _=>[.zDu pg pn P (zBg c ch 0),.arr zAK 3 gb d.beds,.sl zAS 9 JA tj,.arr zr 5 gh c.hours,.blk b12 [.slice JA tj.length jc,.slice (some ⟨gb,0,none⟩) d.beds.length bc,.slice (some ⟨gh,0,none⟩) c.hours.length m9,.int .i64 c.wear.lo,.int .i64 c.wear.hi,.int .i64 c.layer.lo,.int .i64 c.layer.hi,.int .i64 c.rate,.int .i64 c.limit,.int .i64 c.base],.blk b3 [.slice A c.t.length ca,.slice B c.beds.length cb,.slice C c.hours.length cc,.int .i64 c.wear.lo,.int .i64 c.wear.hi,.int .i64 c.layer.lo,.int .i64 c.layer.hi,.int .i64 c.rate,.int .i64 c.limit,.int .i64 c.base]]) (fun i=>c.beds.length - i) 0 (Nat.zero_le _) (by (repeat first|exact lK1|refine zL rfl ?_)) (by (repeat constructor)) ?_
 rintro i hi
 simp only [zAt,List.cons_append,List.nil_append]
 by_cases hil:i<c.beds.length
 ·(repeat' (first|((with_reducible refine zF ?_);first|refine zE rfl rfl rfl ?_|refine zC rfl rfl rfl ?_|(refine zK rfl rfl rfl ?_;refine ⟨_,rfl,?_⟩)|refine za rfl rfl rfl ?_|refine zAB rfl rfl rfl rfl ?_|refine zd rfl rfl rfl ?_|refine zAA rfl rfl ?_|(refine zQ rfl rfl rfl rfl rfl (fun h=>?_) (fun h=>?_)<;>(dsimp only [cmpP] at h;(try (exfalso;omega))))|refine zc rfl rfl rfl rfl ?_|refine zAN rfl rfl rfl ?_|refine zh rfl rfl rfl rfl (by omega) ?_|refine zBd rfl rfl rfl rfl (IntWalk.i64_in _ (by omega)) ?_|refine zo rfl rfl rfl ?_|(refine zb rfl rfl rfl rfl rfl ?_;refine ⟨rfl,by first|decide|exact Nat.le_of_ble_eq_true rfl|(simp;omega),_,rfl,?_⟩)|(refine zj rfl rfl (fun b=>?_))|(refine zu rfl rfl rfl rfl (fun b=>?_))|(refine zY rfl rfl rfl ?_;refine ⟨rfl,_,rfl,fun b=>?_⟩))|(with_reducible first|refine zH ?_|refine zB ?_|refine zD ?_|refine zA ?_|refine zX ?_|refine zT ?_|refine zZ ?_|refine zB7 ?_|refine zP ?_|refine zk ?_|refine zg ?_|refine zAP ?_|refine zR ?_|refine zW ?_)|((with_reducible refine zAE ?_ ?_);(· exact rfl))|((with_reducible refine zI ?_ ?_);(· exact rfl))|((with_reducible refine zG ?_ ?_);(· exact rfl))))
  refine zw (ι:=Nat) [4,9,12,13,116,117,18,123] rfl (fun k=>k≤c.hours.length+1) (fun k=>[(124,.int .i64 (k:Int))]) (fun _=>[.zDu pg pn P (zBg c ch 0),.arr zAK 3 gb d.beds,.sl zAS 9 JA tj,.arr zr 5 gh c.hours,.blk b12 [.slice JA tj.length jc,.slice (some ⟨gb,0,none⟩) d.beds.length bc,.slice (some ⟨gh,0,none⟩) c.hours.length m9,.int .i64 c.wear.lo,.int .i64 c.wear.hi,.int .i64 c.layer.lo,.int .i64 c.layer.hi,.int .i64 c.rate,.int .i64 c.limit,.int .i64 c.base],.blk b3 [.slice A c.t.length ca,.slice B c.beds.length cb,.slice C c.hours.length cc,.int .i64 c.wear.lo,.int .i64 c.wear.hi,.int .i64 c.layer.lo,.int .i64 c.layer.hi,.int .i64 c.rate,.int .i64 c.limit,.int .i64 c.base]]) (fun k=>c.hours.length+1 - k) 0 (Nat.zero_le _) (by (repeat first|exact lK1|refine zL rfl ?_)) (by (repeat constructor)) ?_
  rintro k hk
  simp only [zAt,List.cons_append,List.nil_append]
  by_cases hkl:k<c.hours.length+1
  ·have q1:=fun W hW P cp hp=>hTk W hW P cp hp i k hil (by omega)
   have q2:=fun W P cp hC hp=>hTd W P cp hC hp i k hil (by omega)
   generalize thickN c (zB5 (zBg c ch 0)) (c.beds.getD i default) (i:Int) k=tk at *
   obtain ⟨tl,th⟩:=tk
   simp only at q1 q2
   (repeat' (first|((with_reducible refine zF ?_);first|refine zE rfl rfl rfl ?_|refine zC rfl rfl rfl ?_|(refine zK rfl rfl rfl ?_;refine ⟨_,rfl,?_⟩)|refine za rfl rfl rfl ?_|refine zAB rfl rfl rfl rfl ?_|refine zd rfl rfl rfl ?_|refine zAA rfl rfl ?_|(refine zQ rfl rfl rfl rfl rfl (fun h=>?_) (fun h=>?_)<;>(dsimp only [cmpP] at h;(try (exfalso;omega))))|refine zV rfl rfl rfl rfl (fun _ _ q=>q1 _ q.below _ _ (zCt q.own (by (repeat constructor)))) ?_|refine zV rfl rfl rfl rfl (fun _ _ q=>q2 _ _ _ (hCd _ (zAv q.own (Below.refl _ _)) (zEd (q.own.here (.arr zAK 3 gb d.beds) (Take.mem (by (repeat constructor))))) (zEd (q.own.here (.arr zr 5 gh c.hours) (Take.mem (by (repeat constructor)))))) (zCt q.own (by (repeat constructor)))) ?_|refine zAL rfl (e_neSp rfl rfl rfl) ?_|refine zc rfl rfl rfl rfl ?_|refine zAN rfl rfl rfl ?_|refine zh rfl rfl rfl rfl (by omega) ?_|refine zBd rfl rfl rfl rfl (IntWalk.i64_in _ (by omega)) ?_|refine zo rfl rfl rfl ?_|(refine zb rfl rfl rfl rfl rfl ?_;refine ⟨rfl,by first|decide|exact Nat.le_of_ble_eq_true rfl|(simp;omega),_,rfl,?_⟩)|(refine zj rfl rfl (fun b=>?_))|(refine zu rfl rfl rfl rfl (fun b=>?_))|(refine zY rfl rfl rfl ?_;refine ⟨rfl,_,rfl,fun b=>?_⟩))|(with_reducible first|refine zH ?_|refine zB ?_|refine zD ?_|refine zA ?_|refine zX ?_|refine zT ?_|refine zZ ?_|refine zB7 ?_|refine zP ?_|refine zk ?_|refine zg ?_|refine zAP ?_|refine zR ?_|refine zW ?_)|((with_reducible refine zAE ?_ ?_);(· exact rfl))|((with_reducible refine zI ?_ ?_);(· exact rfl))|((with_reducible refine zG ?_ ?_);(· exact rfl))))
   exact zf (ι:=Nat) (k+1) (by omega) (by omega) (by (repeat first|exact lK1|refine zL rfl ?_)) (by (repeat constructor))
  ·obtain rfl:k=c.hours.length+1:=by omega
   (repeat' (first|((with_reducible refine zF ?_);first|refine zE rfl rfl rfl ?_|refine zC rfl rfl rfl ?_|(refine zK rfl rfl rfl ?_;refine ⟨_,rfl,?_⟩)|refine za rfl rfl rfl ?_|refine zAB rfl rfl rfl rfl ?_|refine zd rfl rfl rfl ?_|refine zAA rfl rfl ?_|(refine zQ rfl rfl rfl rfl rfl (fun h=>?_) (fun h=>?_)<;>(dsimp only [cmpP] at h;(try (exfalso;omega))))|refine zc rfl rfl rfl rfl ?_|refine zAN rfl rfl rfl ?_|refine zh rfl rfl rfl rfl (by omega) ?_|refine zBd rfl rfl rfl rfl (IntWalk.i64_in _ (by omega)) ?_|refine zo rfl rfl rfl ?_|(refine zb rfl rfl rfl rfl rfl ?_;refine ⟨rfl,by first|decide|exact Nat.le_of_ble_eq_true rfl|(simp;omega),_,rfl,?_⟩)|(refine zj rfl rfl (fun b=>?_))|(refine zu rfl rfl rfl rfl (fun b=>?_))|(refine zY rfl rfl rfl ?_;refine ⟨rfl,_,rfl,fun b=>?_⟩))|(with_reducible first|refine zH ?_|refine zB ?_|refine zD ?_|refine zA ?_|refine zX ?_|refine zT ?_|refine zZ ?_|refine zB7 ?_|refine zP ?_|refine zk ?_|refine zg ?_|refine zAP ?_|refine zR ?_|refine zW ?_)|((with_reducible refine zAE ?_ ?_);(· exact rfl))|((with_reducible refine zI ?_ ?_);(· exact rfl))|((with_reducible refine zG ?_ ?_);(· exact rfl))))
   exact zf (ι:=Nat) (i+1) (by omega) (by omega) (by (repeat first|exact lK1|refine zL rfl ?_)) (by (repeat constructor))
 ·obtain rfl:i=c.beds.length:=by omega
  (repeat' (first|((with_reducible refine zF ?_);first|refine zE rfl rfl rfl ?_|refine zC rfl rfl rfl ?_|(refine zK rfl rfl rfl ?_;refine ⟨_,rfl,?_⟩)|refine za rfl rfl rfl ?_|refine zAB rfl rfl rfl rfl ?_|refine zd rfl rfl rfl ?_|refine zAA rfl rfl ?_|(refine zQ rfl rfl rfl rfl rfl (fun h=>?_) (fun h=>?_)<;>(dsimp only [cmpP] at h;(try (exfalso;omega))))|refine zc rfl rfl rfl rfl ?_|refine zAN rfl rfl rfl ?_|refine zh rfl rfl rfl rfl (by omega) ?_|refine zBd rfl rfl rfl rfl (IntWalk.i64_in _ (by omega)) ?_|refine zo rfl rfl rfl ?_|(refine zb rfl rfl rfl rfl rfl ?_;refine ⟨rfl,by first|decide|exact Nat.le_of_ble_eq_true rfl|(simp;omega),_,rfl,?_⟩)|(refine zj rfl rfl (fun b=>?_))|(refine zu rfl rfl rfl rfl (fun b=>?_))|(refine zY rfl rfl rfl ?_;refine ⟨rfl,_,rfl,fun b=>?_⟩))|(with_reducible first|refine zH ?_|refine zB ?_|refine zD ?_|refine zA ?_|refine zX ?_|refine zT ?_|refine zZ ?_|refine zB7 ?_|refine zP ?_|refine zk ?_|refine zg ?_|refine zAP ?_|refine zR ?_|refine zW ?_)|((with_reducible refine zAE ?_ ?_);(· exact rfl))|((with_reducible refine zI ?_ ?_);(· exact rfl))|((with_reducible refine zG ?_ ?_);(· exact rfl))))
  exact zS (by exact rTm rfl) () trivial rfl (fun _ h=>h.sub (by (repeat constructor)))
end Go.Proofs.YtdigopgncfhiaaaGreatDoor.Two
