/- B36 -/
import Derived.Test.YtdigopgncfhiaaaGreatDoorB12
import Derived.Test.YtdigopgncfhiaaaGreatDoorB18
import Derived.Test.YtdigopgncfhiaaaGreatDoorB1
import Derived.Test.YtdigopgncfhiaaaGreatDoorB10
import Derived.Test.YtdigopgncfhiaaaGreatDoorB8
import Derived.Test.YtdigopgncfhiaaaGreatDoorB31
import Derived.Test.YtdigopgncfhiaaaGreatDoorB25
import Derived.Test.YtdigopgncfhiaaaGreatDoorB32
set_option linter.unusedSimpArgs false
set_option linter.unusedVariables false
namespace Go.Proofs.YtdigopgncfhiaaaGreatDoor.Two
variable {ro : Option Nat}
open Go.RowKit
set_option maxRecDepth 20000
set_option maxHeartbeats 8000000 in
theorem zN1 (c:Cov) (A:Option Addr) (ca:Nat) (B:Option Addr) (cb:Nat) (C:Option Addr) (cc:Nat) (ch:List Int) (D:Option Addr) (cd:Nat) (w:World) (hc:zAl w c A B C) (hfit:zFc c.t) (hD:zAB zHx 1 w D ch) (hfu:zKn ch) (hG:InC w 0 0 zCS) :
  Gv Tryz.prog 7 [zAQ c A ca B cb C cc,.slice D ch.length cd] w (.bool true):=by
 have hAl:=fun W (hW:Below w.heap.size w W)=>zDh W (hG.below hW)
 have hR:=fun W (hW:Below w.heap.size w W)=>zDg c A ca B cb C cc W (hc.below hW) hfit
 cases hr:zDc c
 ·rw [hr] at hR
  unfold zAQ zH at hR ⊢
  unfold Gv
  (refine zM (n:=234) Tryz.func7 rfl rfl rfl ?_)
  (repeat' (first|((with_reducible refine zG ?_);first|refine zE rfl rfl rfl rfl rfl ?_|refine zC rfl rfl rfl rfl rfl ?_|(refine zK rfl rfl rfl rfl rfl ?_;refine ⟨_,rfl,?_⟩)|refine zV rfl rfl rfl rfl rfl rfl (fun _ _ q=>hAl _ q.below) ?_|refine zV rfl rfl rfl rfl rfl rfl (fun _ _ q=>hR _ q.below) ?_|refine zAf rfl rfl rfl rfl rfl ?_|(refine zAI rfl rfl rfl rfl rfl rfl (fun b=>?_)))|(with_reducible first|refine zI ?_|refine zB ?_|refine zD ?_|refine zA ?_|refine za ?_|refine zP ?_|refine zb ?_)|((with_reducible refine zJ ?_ ?_);(· exact rfl))|((with_reducible refine zF ?_ ?_);(· exact rfl))))
  all_goals exact zU zRZ () trivial rfl (fun _ _=>Own.nil _ _)
 rw [hr] at hR
 have hs:=zCq hr hfit
 have h0:=(zC5.1 hr).2
 have hf:=zAy h0
 have h4:=hs.b;have h5:=hs.h;have h6:=hs.t
 have hh1:=hf.hours
 rw [zx] at hh1
 have hbp:=zGP h0
 have hT:=fun W (hW:Below w.heap.size w W)=>zQJ c A ca B cb C cc W (hc.below hW) zRU zRU zRU
 have hCh:=fun W (hW:Below w.heap.size w W) x i (hx:x=((i:Nat):Int))=>zGJ ch D cd x i W (hD.below hW) hfu hx
 have hci:=fun i=>zPN hfu i
 unfold zAQ at hR hT
 unfold zH at hR hT
 unfold Gv zAQ zH
 (refine zM (n:=234) Tryz.func7 rfl rfl rfl ?_)
 (repeat' (first|((with_reducible refine zG ?_);first|refine zE rfl rfl rfl rfl rfl ?_|refine zC rfl rfl rfl rfl rfl ?_|(refine zK rfl rfl rfl rfl rfl ?_;refine ⟨_,rfl,?_⟩)|refine zd rfl rfl rfl rfl rfl ?_|refine zV rfl rfl rfl rfl rfl rfl (fun _ _ q=>hAl _ q.below) ?_|refine zV rfl rfl rfl rfl rfl rfl (fun _ _ q=>hR _ q.below) ?_|(refine zAV rfl rfl rfl rfl rfl rfl (fun _ _ q=>hT _ q.below) ?_;rintro ⟨⟨A3,m3⟩,⟨A6,m6⟩,A9,m9⟩ -;dsimp only [List.cons_append,List.nil_append])|refine zAf rfl rfl rfl rfl rfl ?_|refine zp rfl rfl rfl rfl rfl ?_|(refine zf rfl rfl rfl rfl rfl ?_;refine And.intro rfl (And.intro zRY ⟨_,rfl,?_⟩))|(refine zr rfl rfl rfl rfl (fun b=>?_))|(refine zAI rfl rfl rfl rfl rfl rfl (fun b=>?_)))|(with_reducible first|refine zI ?_|refine zB ?_|refine zD ?_|refine zA ?_|refine zP ?_|refine zN ?_)|((with_reducible refine zF ?_ ?_);(· exact rfl))))
 rename_i b1
 obtain ⟨b6,hb6⟩:∃ x,x=b:=⟨_,rfl⟩
 subst hb6
 refine zE2 (enc:=zw) (xs:=c.hours) zRT zRU ?_
 rintro gh rfl
 refine zE2 (enc:=zAX) (xs:=c.beds) zRT zRU ?_
 rintro gb rfl
 have hup:=fun k (u:Hour) (hu:c.hours[k]?=some u)=>zM5 (f:=zE9 ch) hu
 have huz:=zK5 (f:=zE9 ch) (l:=c.hours)
 have hug:=fun k (u:Hour) (hu:c.hours[k]?=some u)=>zM7 (f:=zE9 ch) hu
 have hul:=fun k=>zCb (f:=zE9 ch) (l:=c.hours) (k:=k)
 refine zq (ι:=Nat) [1,2,5,6,37] rfl (fun i=>i≤c.hours.length) (fun i=>[(38,.int .i64 (i:Int))]) (fun i=>[.arr zw 5 gh (zEt (zE9 ch) c.hours i),.arr zAX 3 gb c.beds,.sl zBE 9 A3 c.t,.blk b6 (zH c A3 m3 (some ⟨gb,0,none⟩) m6 (some ⟨gh,0,none⟩) m9),.blk b1 (zH c A ca B cb C cc)]) (fun i=>c.hours.length - i) 0 (Nat.zero_le _) zRS (by rw [huz];(repeat (first|exact oK1 _|(refine oK2 zRT ?_)))) ?_
 rintro i hi
 simp only [zAn,zH,List.cons_append,List.nil_append]
 by_cases hil:i<c.hours.length
 ·obtain ⟨u,hu⟩:∃ u,c.hours[i]?=some u:=⟨_,List.getElem?_eq_getElem hil⟩
  have hu1:=hug i u hu
  have hu2:=hup i u hu
  have hu3:=hul i
  have hou:=hf.hour u (List.mem_of_getElem? hu)
  simp only [zBR,Bool.and_eq_true,zx] at hou
  generalize zEt (zE9 ch) c.hours i=L at *
  have:zAP L i u:=⟨hu1⟩
  obtain ⟨um,ur,uc,ud⟩:=u
  simp only at hou
  have e1:=hci (3 * i);have e2:=hci (3 * i+1);have e3:=hci (3 * i+2)
  have c1:=fun W hW=>hCh W hW (3 * (i:Int)) (3 * i) zRU
  have c2:=fun W hW=>hCh W hW (3 * (i:Int)+1) (3 * i+1) zRU
  have c3:=fun W hW=>hCh W hW (3 * (i:Int)+2) (3 * i+2) zRU
  simp only [zE9] at hu2
  generalize chW ch (3 * i)=x1 at *
  generalize chW ch (3 * i+1)=x2 at *
  generalize chW ch (3 * i+2)=x3 at *
  have g1:∀ z,zAP (L.set i z) i z:=fun z=>⟨List.getElem?_set_self zRU⟩
  have m1:=zC6 (x:=x1) (n:=2) zRU
  have m2:=zC6 (x:=x2) (n:=3) zRU
  have m4:=zC6 (x:=x3) (n:=ur+1) zRU
  obtain ⟨cr,hcr⟩:∃ cr,cr=min 12 (uc+x1 % 2):=⟨_,rfl⟩
  obtain ⟨cd2,hcd⟩:∃ cd2,cd2=(ud || decide (x2 % 3=0)):=⟨_,rfl⟩
  rw [← hcr,← hcd] at hu2
  have i1:=g1 ⟨um,ur,cr,ud⟩
  have i2:=g1 ⟨um,ur,cr,cd2⟩
  (repeat' (first|((with_reducible refine zG ?_);first|refine zE rfl rfl rfl rfl rfl ?_|refine zC rfl rfl rfl rfl rfl ?_|(refine zK rfl rfl rfl rfl rfl ?_;refine ⟨_,rfl,?_⟩)|refine zd rfl rfl rfl rfl rfl ?_|(refine zQ rfl rfl rfl rfl rfl rfl rfl (fun h=>?_) (fun h=>?_)<;>(dsimp only [cmpP] at h;(try (exfalso;omega))))|refine ze (I:=i) rfl rfl rfl rfl rfl rfl rfl zRU ?_)|(with_reducible first|refine zI ?_|refine zB ?_|refine zD ?_|refine zA ?_|refine zP ?_|refine zN ?_)|((with_reducible refine zJ ?_ ?_);(· exact rfl))))
  (refine zAc [] [] [] rfl (show ([]:List Nat).Nodup by decide) (fun _ h=>h) zRW [[],[O0],[I0,O0],[I0,I0,O0],[I0,I0,I0,O0],[O0,O0,O0,O0,O0],[O0,O0,O0,O0,O0,O0],[I0,O0,O0,O0,O0,O0,O0],[I0,I0,I0,O0,O0,O0,O0,O0],[I0,I0,I0,I0,O0,O0,O0,O0,O0],[I0,I0,I0,I0,I0,I0,I0,I0,I0,O0],[I0,I0,I0,I0,I0,I0,I0,I0,I0,I0,O0],[I0,I0,I0,I0,I0,I0,I0,I0,I0,I0,I0,I0],[I0,I0,I0,I0,I0,I0,I0,I0,I0,I0,I0,I0,I0],[I0,I0,I0,I0,I0,I0,I0,I0,I0,I0,I0,I0,I0,I0]] zRW zRW zRW zRW zRW ?_)
  (repeat' (first|(((with_reducible refine zCT ?_ ?_);(· exact rfl);refine ⟨_,fun G=>zRX,?_⟩);first|refine zX _ (fun _=>zAM rfl rfl) (fun _=>rfl) rfl zRR ?_|refine zX _ (fun _=>zy rfl rfl zRe) (fun _=>rfl) rfl zRR ?_|(refine zAU rfl ?_;refine zX _ (fun _=>zAJ rfl rfl) (fun _=>rfl) rfl zRR ?_)|refine zBM _ rfl (fun _=>rfl) rfl (fun _=>rfl) (fun _=>rfl) (fun _ _ _ q=>c1 _ q.below) zRR ?_|refine zX _ (fun _=>zDS rfl rfl rfl (IntWalk.i64_in _ (by (try dsimp only);omega))) (fun _=>rfl) rfl zRm ?_|refine zX _ (fun _=>zGM rfl rfl rfl (IntWalk.i64_in _ zRU)) (fun _=>rfl) rfl zRR ?_|refine zX _ (fun _=>zAY rfl rfl) (fun _=>rfl) rfl zRR ?_|refine zX _ (fun _=>zI3 rfl rfl rfl zRU zRU) (fun _=>rfl) rfl zRR ?_|refine zX _ (fun _=>e_min rfl rfl rfl) (fun _=>rfl) rfl zRR ?_)|((with_reducible refine zBU ?_ ?_);(· exact rfl))))
  intro G
  simp only [regsT,List.nil_append,List.cons_append]
  refine zB6 (H':=[.arr zw 5 gh L,.arr zAX 3 gb c.beds,.sl zBE 9 A3 c.t,.blk b6 (zH c A3 m3 (some ⟨gb,0,none⟩) m6 (some ⟨gh,0,none⟩) m9),.blk b1 (zH c A ca B cb C cc)]) (fun _ h=>h) ?_
  unfold zH
  refine zB5 (enc:=zw) (k:=5) (i:=i) (j:=3) (z:=⟨um,ur,uc,ud⟩) ⟨um,ur,min 12 (uc+x1 % 2),ud⟩ rfl rfl rfl rfl rfl rfl rfl rfl zRs ?_
  rw [← hcr]
  have e9:cd2=(ud || decide (x2 % 3=0)):=hcd
  have fin:∀ (b0:Bool),b0=cd2→(L.set i ⟨um,ur,cr,b0⟩)=L.set i ⟨um,ur,cr,cd2⟩:=fun b0 h9=>by rw [h9]
  cases ud
  ·simp only [Bool.false_or] at e9
   have i3:=g1 ⟨um,ur,cr,true⟩
   have i4:=g1 ⟨um,ur,cr,false⟩
   (repeat' (first|((with_reducible refine zG ?_);first|refine zE rfl rfl rfl rfl rfl ?_|(refine zK rfl rfl rfl rfl rfl ?_;refine ⟨_,rfl,?_⟩)|refine zd rfl rfl rfl rfl rfl ?_|refine zAg rfl rfl rfl rfl rfl rfl ?_|(refine zQ rfl rfl rfl rfl rfl rfl rfl (fun h=>?_) (fun h=>?_)<;>(dsimp only [cmpP] at h;(try (exfalso;omega))))|refine zV rfl rfl rfl rfl rfl rfl (fun _ _ q=>c2 _ q.below) ?_|refine zB5 (enc:=zw) (k:=5) (i:=i) (j:=4) (z:=⟨um,ur,cr,false⟩) ⟨um,ur,cr,true⟩ rfl rfl rfl rfl rfl rfl rfl rfl zRs ?_|refine zB5 (enc:=zw) (k:=5) (i:=i) (j:=4) (z:=⟨um,ur,cr,false⟩) ⟨um,ur,cr,false⟩ rfl rfl rfl rfl rfl rfl rfl rfl zRs ?_|refine zCX rfl rfl rfl rfl rfl rfl (IntWalk.i64_in _ zRU) ?_|refine zK8 rfl rfl rfl rfl rfl rfl (IntWalk.i64_in _ zRU) ?_|refine zBI rfl rfl rfl rfl rfl ?_|refine u_rem rfl rfl rfl rfl rfl rfl zRU zRU ?_)|(with_reducible first|refine zI ?_|refine zB ?_|refine zD ?_|refine zA ?_)))
   ·rw [List.set_set,fin true (by rw [e9];simpa using h)]
    (refine zAc [] [] [] rfl (show ([]:List Nat).Nodup by decide) (fun _ h=>h) zRW [[],[I0],[I0,I0],[I0,I0,I0],[O0,O0,O0,O0],[O0,O0,O0,O0,O0],[I0,O0,O0,O0,O0,O0],[I0,I0,O0,O0,O0,O0,O0],[I0,I0,I0,I0,O0,O0,O0,O0],[O0,O0,O0,O0,O0,O0,O0,O0,O0],[I0,O0,O0,O0,O0,O0,O0,O0,O0,O0],[I0,I0,O0,O0,O0,O0,O0,O0,O0,O0,O0],[I0,I0,I0,O0,O0,O0,O0,O0,O0,O0,O0,O0],[I0,I0,I0,I0,O0,O0,O0,O0,O0,O0,O0,O0,O0],[I0,I0,I0,I0,I0,I0,I0,I0,I0,I0,O0,O0,O0,O0],[I0,I0,I0,I0,I0,I0,I0,I0,I0,I0,I0,I0,I0,I0,I0],[I0,I0,I0,I0,I0,I0,I0,I0,I0,I0,I0,I0,I0,I0,I0,I0],[I0,I0,I0,I0,I0,I0,I0,I0,I0,I0,I0,I0,I0,I0,I0,I0,I0],[I0,I0,I0,I0,I0,I0,I0,I0,I0,I0,I0,I0,I0,I0,I0,I0,I0,I0]] zRW zRW zRW zRW zRW ?_)
    (repeat' (first|(((with_reducible refine zCT ?_ ?_);(· exact rfl);refine ⟨_,fun G=>zRX,?_⟩);first|refine zX _ (fun _=>zAM rfl rfl) (fun _=>rfl) rfl zRR ?_|refine zX _ (fun _=>zy rfl rfl zRe) (fun _=>rfl) rfl zRR ?_|(refine zAU rfl ?_;refine zX _ (fun _=>zAJ rfl rfl) (fun _=>rfl) rfl zRR ?_)|refine zBM _ rfl (fun _=>rfl) rfl (fun _=>rfl) (fun _=>rfl) (fun _ _ _ q=>c3 _ q.below) zRR ?_|refine zX _ (fun _=>zDS rfl rfl rfl (IntWalk.i64_in _ (by (try dsimp only);omega))) (fun _=>rfl) rfl zRm ?_|refine zX _ (fun _=>zFS rfl rfl rfl (IntWalk.i64_in _ (by (try dsimp only);omega))) (fun _=>rfl) rfl zRm ?_|refine zX _ (fun _=>zI3 rfl rfl rfl (by (try dsimp only);omega) (by (try dsimp only);omega)) (fun _=>rfl) rfl zRm ?_|refine zX _ (fun _=>zGM rfl rfl rfl (IntWalk.i64_in _ zRU)) (fun _=>rfl) rfl zRR ?_|refine zX _ (fun _=>zAY rfl rfl) (fun _=>rfl) rfl zRR ?_)|((with_reducible refine zBU ?_ ?_);(· exact rfl))))
    intro G
    simp only [regsT,List.nil_append,List.cons_append]
    refine zB6 (H':=[.arr zw 5 gh (L.set i ⟨um,ur,cr,cd2⟩),.arr zAX 3 gb c.beds,.sl zBE 9 A3 c.t,.blk b6 (zH c A3 m3 (some ⟨gb,0,none⟩) m6 (some ⟨gh,0,none⟩) m9),.blk b1 (zH c A ca B cb C cc)]) (fun _ h=>h) ?_
    unfold zH
    refine zB5 (enc:=zw) (k:=5) (i:=i) (j:=2) (z:=⟨um,ur,cr,cd2⟩) ⟨um,ur - x3 % (ur+1),cr,cd2⟩ rfl rfl rfl rfl rfl rfl rfl rfl zRs ?_
    rw [List.set_set,hu2]
    (repeat' (first|((with_reducible refine zG ?_);first|refine zE rfl rfl rfl rfl rfl ?_|refine zg rfl rfl rfl rfl rfl rfl zRU ?_)|(with_reducible first|refine zB ?_|refine zD ?_|refine zA ?_|refine zi ?_)))
    exact zc (ι:=Nat) (i+1) zRU zRU zRS zRQ
   ·rw [List.set_set,fin false (by rw [e9];simpa using h)]
    (refine zAc [] [] [] rfl (show ([]:List Nat).Nodup by decide) (fun _ h=>h) zRW [[],[I0],[I0,I0],[I0,I0,I0],[O0,O0,O0,O0],[O0,O0,O0,O0,O0],[I0,O0,O0,O0,O0,O0],[I0,I0,O0,O0,O0,O0,O0],[I0,I0,I0,I0,O0,O0,O0,O0],[O0,O0,O0,O0,O0,O0,O0,O0,O0],[I0,O0,O0,O0,O0,O0,O0,O0,O0,O0],[I0,I0,O0,O0,O0,O0,O0,O0,O0,O0,O0],[I0,I0,I0,O0,O0,O0,O0,O0,O0,O0,O0,O0],[I0,I0,I0,I0,O0,O0,O0,O0,O0,O0,O0,O0,O0],[I0,I0,I0,I0,I0,I0,I0,I0,I0,I0,O0,O0,O0,O0],[I0,I0,I0,I0,I0,I0,I0,I0,I0,I0,I0,I0,I0,I0,I0],[I0,I0,I0,I0,I0,I0,I0,I0,I0,I0,I0,I0,I0,I0,I0,I0],[I0,I0,I0,I0,I0,I0,I0,I0,I0,I0,I0,I0,I0,I0,I0,I0,I0],[I0,I0,I0,I0,I0,I0,I0,I0,I0,I0,I0,I0,I0,I0,I0,I0,I0,I0]] zRW zRW zRW zRW zRW ?_)
    (repeat' (first|(((with_reducible refine zCT ?_ ?_);(· exact rfl);refine ⟨_,fun G=>zRX,?_⟩);first|refine zX _ (fun _=>zAM rfl rfl) (fun _=>rfl) rfl zRR ?_|refine zX _ (fun _=>zy rfl rfl zRe) (fun _=>rfl) rfl zRR ?_|(refine zAU rfl ?_;refine zX _ (fun _=>zAJ rfl rfl) (fun _=>rfl) rfl zRR ?_)|refine zBM _ rfl (fun _=>rfl) rfl (fun _=>rfl) (fun _=>rfl) (fun _ _ _ q=>c3 _ q.below) zRR ?_|refine zX _ (fun _=>zDS rfl rfl rfl (IntWalk.i64_in _ (by (try dsimp only);omega))) (fun _=>rfl) rfl zRm ?_|refine zX _ (fun _=>zFS rfl rfl rfl (IntWalk.i64_in _ (by (try dsimp only);omega))) (fun _=>rfl) rfl zRm ?_|refine zX _ (fun _=>zI3 rfl rfl rfl (by (try dsimp only);omega) (by (try dsimp only);omega)) (fun _=>rfl) rfl zRm ?_|refine zX _ (fun _=>zGM rfl rfl rfl (IntWalk.i64_in _ zRU)) (fun _=>rfl) rfl zRR ?_|refine zX _ (fun _=>zAY rfl rfl) (fun _=>rfl) rfl zRR ?_)|((with_reducible refine zBU ?_ ?_);(· exact rfl))))
    intro G
    simp only [regsT,List.nil_append,List.cons_append]
    refine zB6 (H':=[.arr zw 5 gh (L.set i ⟨um,ur,cr,cd2⟩),.arr zAX 3 gb c.beds,.sl zBE 9 A3 c.t,.blk b6 (zH c A3 m3 (some ⟨gb,0,none⟩) m6 (some ⟨gh,0,none⟩) m9),.blk b1 (zH c A ca B cb C cc)]) (fun _ h=>h) ?_
    unfold zH
    refine zB5 (enc:=zw) (k:=5) (i:=i) (j:=2) (z:=⟨um,ur,cr,cd2⟩) ⟨um,ur - x3 % (ur+1),cr,cd2⟩ rfl rfl rfl rfl rfl rfl rfl rfl zRs ?_
    rw [List.set_set,hu2]
    (repeat' (first|((with_reducible refine zG ?_);first|refine zE rfl rfl rfl rfl rfl ?_|refine zg rfl rfl rfl rfl rfl rfl zRU ?_)|(with_reducible first|refine zB ?_|refine zD ?_|refine zA ?_|refine zi ?_)))
    exact zc (ι:=Nat) (i+1) zRU zRU zRS zRQ
  ·simp only [Bool.true_or] at e9
   have i3:=g1 ⟨um,ur,cr,true⟩
   (repeat' (first|((with_reducible refine zG ?_);first|refine zE rfl rfl rfl rfl rfl ?_|(refine zK rfl rfl rfl rfl rfl ?_;refine ⟨_,rfl,?_⟩)|refine zd rfl rfl rfl rfl rfl ?_|refine zAg rfl rfl rfl rfl rfl rfl ?_|refine zAN rfl rfl rfl ?_|refine zB5 (enc:=zw) (k:=5) (i:=i) (j:=4) (z:=⟨um,ur,cr,true⟩) ⟨um,ur,cr,true⟩ rfl rfl rfl rfl rfl rfl rfl rfl zRs ?_|refine zBI rfl rfl rfl rfl rfl ?_)|(with_reducible first|refine zI ?_|refine zB ?_|refine zD ?_|refine zA ?_)))
   rw [List.set_set,fin true e9.symm]
   (refine zAc [] [] [] rfl (show ([]:List Nat).Nodup by decide) (fun _ h=>h) zRW [[],[I0],[I0,I0],[I0,I0,I0],[O0,O0,O0,O0],[O0,O0,O0,O0,O0],[I0,O0,O0,O0,O0,O0],[I0,I0,O0,O0,O0,O0,O0],[I0,I0,I0,I0,O0,O0,O0,O0],[O0,O0,O0,O0,O0,O0,O0,O0,O0],[I0,O0,O0,O0,O0,O0,O0,O0,O0,O0],[I0,I0,O0,O0,O0,O0,O0,O0,O0,O0,O0],[I0,I0,I0,O0,O0,O0,O0,O0,O0,O0,O0,O0],[I0,I0,I0,I0,O0,O0,O0,O0,O0,O0,O0,O0,O0],[I0,I0,I0,I0,I0,I0,I0,I0,I0,I0,O0,O0,O0,O0],[I0,I0,I0,I0,I0,I0,I0,I0,I0,I0,I0,I0,I0,I0,I0],[I0,I0,I0,I0,I0,I0,I0,I0,I0,I0,I0,I0,I0,I0,I0,I0],[I0,I0,I0,I0,I0,I0,I0,I0,I0,I0,I0,I0,I0,I0,I0,I0,I0],[I0,I0,I0,I0,I0,I0,I0,I0,I0,I0,I0,I0,I0,I0,I0,I0,I0,I0]] zRW zRW zRW zRW zRW ?_)
   (repeat' (first|(((with_reducible refine zCT ?_ ?_);(· exact rfl);refine ⟨_,fun G=>zRX,?_⟩);first|refine zX _ (fun _=>zAM rfl rfl) (fun _=>rfl) rfl zRR ?_|refine zX _ (fun _=>zy rfl rfl zRe) (fun _=>rfl) rfl zRR ?_|(refine zAU rfl ?_;refine zX _ (fun _=>zAJ rfl rfl) (fun _=>rfl) rfl zRR ?_)|refine zBM _ rfl (fun _=>rfl) rfl (fun _=>rfl) (fun _=>rfl) (fun _ _ _ q=>c3 _ q.below) zRR ?_|refine zX _ (fun _=>zDS rfl rfl rfl (IntWalk.i64_in _ (by (try dsimp only);omega))) (fun _=>rfl) rfl zRm ?_|refine zX _ (fun _=>zFS rfl rfl rfl (IntWalk.i64_in _ (by (try dsimp only);omega))) (fun _=>rfl) rfl zRm ?_|refine zX _ (fun _=>zI3 rfl rfl rfl (by (try dsimp only);omega) (by (try dsimp only);omega)) (fun _=>rfl) rfl zRm ?_|refine zX _ (fun _=>zGM rfl rfl rfl (IntWalk.i64_in _ zRU)) (fun _=>rfl) rfl zRR ?_|refine zX _ (fun _=>zAY rfl rfl) (fun _=>rfl) rfl zRR ?_)|((with_reducible refine zBU ?_ ?_);(· exact rfl))))
   intro G
   simp only [regsT,List.nil_append,List.cons_append]
   refine zB6 (H':=[.arr zw 5 gh (L.set i ⟨um,ur,cr,cd2⟩),.arr zAX 3 gb c.beds,.sl zBE 9 A3 c.t,.blk b6 (zH c A3 m3 (some ⟨gb,0,none⟩) m6 (some ⟨gh,0,none⟩) m9),.blk b1 (zH c A ca B cb C cc)]) (fun _ h=>h) ?_
   unfold zH
   refine zB5 (enc:=zw) (k:=5) (i:=i) (j:=2) (z:=⟨um,ur,cr,cd2⟩) ⟨um,ur - x3 % (ur+1),cr,cd2⟩ rfl rfl rfl rfl rfl rfl rfl rfl zRs ?_
   rw [List.set_set,hu2]
   (repeat' (first|((with_reducible refine zG ?_);first|refine zE rfl rfl rfl rfl rfl ?_|refine zg rfl rfl rfl rfl rfl rfl zRU ?_)|(with_reducible first|refine zB ?_|refine zD ?_|refine zA ?_|refine zi ?_)))
   exact zc (ι:=Nat) (i+1) zRU zRU zRS zRQ
 obtain rfl:i=c.hours.length:=by omega
 have ehs:zEt (zE9 ch) c.hours c.hours.length=(zBq c ch).hours:=rfl
 have ebs:zEt (zGB ch) c.beds c.beds.length=(zBq c ch).beds:=rfl
 have lhs:(zBq c ch).hours.length=c.hours.length:=zCb
 have lbs:(zBq c ch).beds.length=c.beds.length:=zCb
 rw [ehs]
 clear hup huz hug hul
 have hup:=fun k (z:Bed) (hz:c.beds[k]?=some z)=>zM5 (f:=zGB ch) hz
 have huz:=zK5 (f:=zGB ch) (l:=c.beds)
 have hug:=fun k (z:Bed) (hz:c.beds[k]?=some z)=>zM7 (f:=zGB ch) hz
 have hul:=fun k=>zCb (f:=zGB ch) (l:=c.beds) (k:=k)
 generalize ehq:(zBq c ch).hours=hq at *
 (repeat' (first|((with_reducible refine zG ?_);first|refine zE rfl rfl rfl rfl rfl ?_|(refine zK rfl rfl rfl rfl rfl ?_;refine ⟨_,rfl,?_⟩)|refine zd rfl rfl rfl rfl rfl ?_|(refine zQ rfl rfl rfl rfl rfl rfl rfl (fun h=>?_) (fun h=>?_)<;>(dsimp only [cmpP] at h;(try (exfalso;omega))))|refine zp rfl rfl rfl rfl rfl ?_)|(with_reducible first|refine zI ?_|refine zB ?_|refine zD ?_|refine zA ?_|refine zN ?_|refine zk ?_|refine zR ?_|refine zY ?_)|((with_reducible refine zF ?_ ?_);(· exact rfl))))
 refine zq (ι:=Nat) [1,2,5,6,96] rfl (fun i=>i≤c.beds.length) (fun i=>[(97,.int .i64 (i:Int))]) (fun i=>[.arr zAX 3 gb (zEt (zGB ch) c.beds i),.arr zw 5 gh hq,.sl zBE 9 A3 c.t,.blk b6 (zH c A3 m3 (some ⟨gb,0,none⟩) m6 (some ⟨gh,0,none⟩) m9),.blk b1 (zH c A ca B cb C cc)]) (fun i=>c.beds.length - i) 0 (Nat.zero_le _) zRS (by rw [huz];(repeat (first|exact oK1 _|(refine oK2 zRT ?_)))) ?_
 rintro i hi
 simp only [zAn,zH,List.cons_append,List.nil_append]
 by_cases hil:i<c.beds.length
 ·obtain ⟨z,hz⟩:∃ z,c.beds[i]?=some z:=⟨_,List.getElem?_eq_getElem hil⟩
  have hu1:=hug i z hz
  have hu2:=hup i z hz
  have hu3:=hul i
  have hoz:=hf.bed z (List.mem_of_getElem? hz)
  simp only [zCm,Bool.and_eq_true,zAE,zx] at hoz
  generalize zEt (zGB ch) c.beds i=L at *
  have:zAP L i z:=⟨hu1⟩
  obtain ⟨⟨zl,zh⟩,zs⟩:=z
  simp only at hoz
  have e1:=hci (30+2 * i);have e2:=hci (31+2 * i)
  have c1:=fun W hW=>hCh W hW (30+2 * (i:Int)) (30+2 * i) zRU
  have c2:=fun W hW=>hCh W hW (31+2 * (i:Int)) (31+2 * i) zRU
  simp only [zGB] at hu2
  generalize chW ch (30+2 * i)=x1 at *
  generalize chW ch (31+2 * i)=x2 at *
  have g1:∀ z,zAP (L.set i z) i z:=fun z=>⟨List.getElem?_set_self zRU⟩
  have m1:=zC6 (x:=x1) (n:=zs+1) zRU
  have m2:=zC6 (x:=x2) (n:=40) zRU
  obtain ⟨sn,hsn⟩:∃ sn,sn=zs - x1 % (zs+1):=⟨_,rfl⟩
  obtain ⟨pl,hpl⟩:∃ pl,pl=min 2000 (zl+x2 % 40):=⟨_,rfl⟩
  obtain ⟨ph,hph⟩:∃ ph,ph=min 2000 (zh+x2 % 40):=⟨_,rfl⟩
  rw [← hsn,← hpl,← hph] at hu2
  have i1:=g1 ⟨⟨zl,zh⟩,sn⟩
  (repeat' (first|((with_reducible refine zG ?_);first|refine zE rfl rfl rfl rfl rfl ?_|refine zC rfl rfl rfl rfl rfl ?_|(refine zK rfl rfl rfl rfl rfl ?_;refine ⟨_,rfl,?_⟩)|refine zd rfl rfl rfl rfl rfl ?_|(refine zQ rfl rfl rfl rfl rfl rfl rfl (fun h=>?_) (fun h=>?_)<;>(dsimp only [cmpP] at h;(try (exfalso;omega))))|refine ze (I:=i) rfl rfl rfl rfl rfl rfl rfl zRU ?_)|(with_reducible first|refine zI ?_|refine zB ?_|refine zD ?_|refine zA ?_|refine zP ?_|refine zN ?_)|((with_reducible refine zJ ?_ ?_);(· exact rfl))))
  (refine zAc [] [] [] rfl (show ([]:List Nat).Nodup by decide) (fun _ h=>h) zRW [[],[I0],[I0,I0],[I0,I0,I0],[O0,O0,O0,O0],[O0,O0,O0,O0,O0],[I0,O0,O0,O0,O0,O0],[I0,I0,O0,O0,O0,O0,O0],[I0,I0,I0,I0,O0,O0,O0,O0],[O0,O0,O0,O0,O0,O0,O0,O0,O0],[I0,O0,O0,O0,O0,O0,O0,O0,O0,O0],[I0,I0,O0,O0,O0,O0,O0,O0,O0,O0,O0],[I0,I0,I0,O0,O0,O0,O0,O0,O0,O0,O0,O0],[I0,I0,I0,I0,O0,O0,O0,O0,O0,O0,O0,O0,O0],[I0,I0,I0,I0,I0,I0,I0,I0,I0,I0,O0,O0,O0,O0],[I0,I0,I0,I0,I0,I0,I0,I0,I0,I0,I0,I0,I0,I0,I0],[I0,I0,I0,I0,I0,I0,I0,I0,I0,I0,I0,I0,I0,I0,I0,I0],[I0,I0,I0,I0,I0,I0,I0,I0,I0,I0,I0,I0,I0,I0,I0,I0,I0],[I0,I0,I0,I0,I0,I0,I0,I0,I0,I0,I0,I0,I0,I0,I0,I0,I0,I0]] zRW zRW zRW zRW zRW ?_)
  (repeat' (first|(((with_reducible refine zCT ?_ ?_);(· exact rfl);refine ⟨_,fun G=>zRX,?_⟩);first|refine zX _ (fun _=>zAM rfl rfl) (fun _=>rfl) rfl zRR ?_|refine zX _ (fun _=>zy rfl rfl zRe) (fun _=>rfl) rfl zRR ?_|(refine zAU rfl ?_;refine zX _ (fun _=>zAJ rfl rfl) (fun _=>rfl) rfl zRR ?_)|refine zBM _ rfl (fun _=>rfl) rfl (fun _=>rfl) (fun _=>rfl) (fun _ _ _ q=>c1 _ q.below) zRR ?_|refine zX _ (fun _=>zDS rfl rfl rfl (IntWalk.i64_in _ (by (try dsimp only);omega))) (fun _=>rfl) rfl zRm ?_|refine zX _ (fun _=>zFS rfl rfl rfl (IntWalk.i64_in _ (by (try dsimp only);omega))) (fun _=>rfl) rfl zRm ?_|refine zX _ (fun _=>zI3 rfl rfl rfl (by (try dsimp only);omega) (by (try dsimp only);omega)) (fun _=>rfl) rfl zRm ?_|refine zX _ (fun _=>zGM rfl rfl rfl (IntWalk.i64_in _ zRU)) (fun _=>rfl) rfl zRR ?_|refine zX _ (fun _=>zAY rfl rfl) (fun _=>rfl) rfl zRR ?_)|((with_reducible refine zBU ?_ ?_);(· exact rfl))))
  intro G
  simp only [regsT,List.nil_append,List.cons_append]
  refine zB6 (H':=[.arr zAX 3 gb L,.arr zw 5 gh hq,.sl zBE 9 A3 c.t,.blk b6 (zH c A3 m3 (some ⟨gb,0,none⟩) m6 (some ⟨gh,0,none⟩) m9),.blk b1 (zH c A ca B cb C cc)]) (fun _ h=>h) ?_
  unfold zH
  refine zB5 (enc:=zAX) (k:=3) (i:=i) (j:=2) (z:=⟨⟨zl,zh⟩,zs⟩) ⟨⟨zl,zh⟩,zs - x1 % (zs+1)⟩ rfl rfl rfl rfl rfl rfl rfl rfl zRs ?_
  rw [← hsn]
  (repeat' (first|((with_reducible refine zG ?_);first|refine zE rfl rfl rfl rfl rfl ?_|refine zC rfl rfl rfl rfl rfl ?_|refine zV rfl rfl rfl rfl rfl rfl (fun _ _ q=>c2 _ q.below) ?_|refine zCX rfl rfl rfl rfl rfl rfl (IntWalk.i64_in _ zRU) ?_|refine zK8 rfl rfl rfl rfl rfl rfl (IntWalk.i64_in _ zRU) ?_|refine u_rem rfl rfl rfl rfl rfl rfl zRU zRU ?_)|(with_reducible first|refine zI ?_|refine zB ?_|refine zD ?_|refine zA ?_)))
  (refine zAc [] [] [] rfl (show ([]:List Nat).Nodup by decide) (fun _ h=>h) zRW [[],[O0],[I0,O0],[I0,I0,O0],[I0,I0,I0,O0],[I0,I0,I0,I0,O0],[O0,O0,O0,O0,O0,O0],[I0,I0,I0,I0,I0,I0,O0],[I0,I0,I0,I0,I0,I0,I0,O0],[O0,O0,O0,O0,O0,O0,O0,O0,O0],[I0,O0,O0,O0,O0,O0,O0,O0,O0,O0],[I0,I0,O0,O0,O0,O0,O0,O0,O0,O0,O0],[I0,I0,I0,O0,O0,O0,O0,O0,O0,O0,O0,O0],[I0,I0,I0,I0,O0,O0,O0,O0,O0,O0,O0,O0,O0],[O0,O0,O0,O0,O0,O0,O0,O0,O0,O0,O0,O0,O0,O0],[I0,I0,I0,I0,I0,I0,O0,O0,O0,O0,O0,O0,O0,O0,O0],[I0,I0,I0,I0,I0,I0,I0,O0,O0,O0,O0,O0,O0,O0,O0,O0],[I0,I0,I0,I0,I0,I0,I0,I0,I0,I0,I0,I0,I0,I0,I0,I0,O0],[I0,I0,I0,I0,I0,I0,I0,I0,I0,I0,I0,I0,I0,I0,I0,I0,I0,I0],[I0,I0,I0,I0,I0,I0,I0,I0,I0,I0,I0,I0,I0,I0,I0,I0,I0,I0,I0],[I0,I0,I0,I0,I0,I0,I0,I0,I0,I0,I0,I0,I0,I0,I0,I0,I0,I0,I0,I0]] zRW zRW zRW zRW zRW ?_)
  (repeat' (first|(((with_reducible refine zCT ?_ ?_);(· exact rfl);refine ⟨_,fun G=>zRX,?_⟩);first|refine zX _ (fun _=>zAM rfl rfl) (fun _=>rfl) rfl zRR ?_|refine zX _ (fun _=>zy rfl rfl zRe) (fun _=>rfl) rfl zRR ?_|(refine zAU rfl ?_;refine zX _ (fun _=>zAJ rfl rfl) (fun _=>rfl) rfl zRR ?_)|refine zBM _ rfl (fun _=>rfl) rfl (fun _=>rfl) (fun _=>rfl) (fun _ _ _ q=>zDf _ _ _) zRR ?_|refine zX _ (fun _=>zDS rfl rfl rfl (IntWalk.i64_in _ (by (try dsimp only);omega))) (fun _=>rfl) rfl zRm ?_|refine zX _ (fun _=>zAY rfl rfl) (fun _=>rfl) rfl zRR ?_|refine zX _ (fun _=>e_min rfl rfl rfl) (fun _=>rfl) rfl zRR ?_)|((with_reducible refine zBU ?_ ?_);(· exact rfl))))
  intro G
  simp only [regsT,List.nil_append,List.cons_append]
  refine zB6 (H':=[.arr zAX 3 gb (L.set i ⟨⟨zl,zh⟩,sn⟩),.arr zw 5 gh hq,.sl zBE 9 A3 c.t,.blk b6 (zH c A3 m3 (some ⟨gb,0,none⟩) m6 (some ⟨gh,0,none⟩) m9),.blk b1 (zH c A ca B cb C cc)]) (fun _ h=>h) ?_
  unfold zH
  refine zB5 (enc:=zAX) (k:=3) (i:=i) (j:=0) (z:=⟨⟨zl,zh⟩,sn⟩) ⟨⟨min 2000 (zl+x2 % 40),min 2000 (zh+x2 % 40)⟩,sn⟩ rfl rfl rfl rfl rfl rfl rfl rfl zRs ?_
  rw [List.set_set,← hpl,← hph,hu2]
  (repeat' (first|((with_reducible refine zG ?_);first|refine zE rfl rfl rfl rfl rfl ?_|refine zg rfl rfl rfl rfl rfl rfl zRU ?_)|(with_reducible first|refine zB ?_|refine zD ?_|refine zA ?_|refine zi ?_)))
  exact zc (ι:=Nat) (i+1) zRU zRU zRS zRQ
 obtain rfl:i=c.beds.length:=by omega
 rw [ebs]
 subst ehq
 clear hup huz hug hul hCh hci hT
 have hd0:=more_err (ch:=ch) h0
 have hds:=zOr (ch:=ch) hs
 obtain ⟨hea,hdf⟩:=zI0 (ch:=ch) hf
 have hyo:=zHy (ch:=ch) (f:=60) hf
 have hyl:(zu c ch 60).length=c.hours.length:=zBT
 have hyr:∀ r∈zu c ch 60,r.length≤20:=fun r hr=>Nat.le_trans (zFq r hr) h4
 have hDr:=fun W (hW:Below w.heap.size w W)=>zHK c A ca B cb C cc ch D cd 60 W (hc.below hW) hs (hD.below hW) hfu zRU
 have hek:=zDs h0 hyo
 have hek2:=zDs hd0 (zKv hea hf hdf hyo)
 have hsle:=zNL hea hf hdf (pl:=zAC (zu c ch 60)) hek hek2
 have hSc:=fun W (hW:Below w.heap.size w W) P cp hp=>zFl c A ca B cb C cc (zu c ch 60) P cp W (hc.below hW) hs hp zRU hyr (hG.below hW)
 have hSd:=fun W P cp hC hp (hG2:InC W 0 0 zCS)=>zFl (zBq c ch) A3 m3 (some ⟨gb,0,none⟩) m6 (some ⟨gh,0,none⟩) m9 (zu c ch 60) P cp W hC hds hp zRU hyr hG2
 have hNc:=fun W (hW:Below w.heap.size w W)=>zGl c A ca B cb C cc W (hc.below hW) hs (hG.below hW)
 have hNd:=fun W hC (hG2:InC W 0 0 zCS)=>zGl (zBq c ch) A3 m3 (some ⟨gb,0,none⟩) m6 (some ⟨gh,0,none⟩) m9 W hC hds hG2
 have hPc:=fun W (hW:Below w.heap.size w W)=>zFJ c A ca B cb C cc W (hc.below hW) hs (hG.below hW)
 have hPd:=fun W hC (hG2:InC W 0 0 zCS)=>zFJ (zBq c ch) A3 m3 (some ⟨gb,0,none⟩) m6 (some ⟨gh,0,none⟩) m9 W hC hds hG2
 obtain ⟨n1,n2,n3,n4,n5⟩:=zMW hea hf hdf h0 hd0
 have he12:(zAt c).2=0→(zAt (zBq c ch)).2=0:=fun h=>by
  cases hcan:zC1 (zAu c) (zCs c) (zAk c) with
  | false=>rw [zFj h0 hcan] at h;cases h
  | true=>rw [zDw hd0 (zPP hea hf hdf hs hds hcan)]
 rw [hek] at hSc
 rw [hek2] at hSd
 rw [hyl] at hSc hSd
 rw [n1] at hNc
 rw [n2] at hNd
 generalize zBN c (zAC (zu c ch 60))=s1 at *
 generalize zBN (zBq c ch) (zAC (zu c ch 60))=s2 at *
 generalize (zD6 c).1=nc at *
 generalize (zD6 (zBq c ch)).1=nd at *
 generalize (zAt c).2=e1 at *
 generalize (zAt (zBq c ch)).2=e2 at *
 have dt:(zBq c ch).t=c.t:=rfl
 have dw:(zBq c ch).wear=c.wear:=rfl
 have dl:(zBq c ch).layer=c.layer:=rfl
 have dr:(zBq c ch).rate=c.rate:=rfl
 have dm:(zBq c ch).limit=c.limit:=rfl
 have db:(zBq c ch).base=c.base:=rfl
 simp only [zAQ,zH,lbs,lhs,dt,dw,dl,dr,dm,db] at hSd hNd hPd
 simp only [zAQ,zH] at hSc hNc hPc hDr
 (repeat' (first|((with_reducible refine zG ?_);first|refine zE rfl rfl rfl rfl rfl ?_|refine zC rfl rfl rfl rfl rfl ?_|(refine zK rfl rfl rfl rfl rfl ?_;refine ⟨_,rfl,?_⟩)|refine zAg rfl rfl rfl rfl rfl rfl ?_|refine zAN rfl rfl rfl ?_|(refine zQ rfl rfl rfl rfl rfl rfl rfl (fun h=>?_) (fun h=>?_)<;>(dsimp only [cmpP] at h;(try (exfalso;omega))))|(refine zAV rfl rfl rfl rfl rfl rfl (fun _ _ q=>hDr _ q.below) ?_;rintro ⟨pg,pn,P,cp⟩ -;dsimp only [List.cons_append,List.nil_append])|refine zV rfl rfl rfl rfl rfl rfl (fun _ _ q=>hSc _ q.below _ _ (zBd q.own zRT)) ?_|refine zV rfl rfl rfl rfl rfl rfl (fun _ _ q=>hSd _ _ _ ⟨(zA5 q.own (Below.refl _ _)),zIo (q.own.here (.arr zAX 3 gb (zBq c ch).beds) (Take.mem zRT)),zIo (q.own.here (.arr zw 5 gh (zBq c ch).hours) (Take.mem zRT))⟩ (zBd q.own zRT) (hG.below q.below)) ?_|(refine zCW rfl rfl rfl rfl rfl rfl (fun _ _ q=>hNc _ q.below) (fun N1 nc1=>?_))|(refine zCW rfl rfl rfl rfl rfl rfl (fun _ _ q=>hNd _ ⟨(zA5 q.own (Below.refl _ _)),zIo (q.own.here (.arr zAX 3 gb (zBq c ch).beds) (Take.mem zRT)),zIo (q.own.here (.arr zw 5 gh (zBq c ch).hours) (Take.mem zRT))⟩ (hG.below q.below)) (fun N2 nc2=>?_))|(refine zAV rfl rfl rfl rfl rfl rfl (fun _ _ q=>hPc _ q.below) ?_;rintro ⟨⟨P1,pc1⟩,pl1⟩ -;dsimp only [List.cons_append,List.nil_append])|(refine zAV rfl rfl rfl rfl rfl rfl (fun _ _ q=>hPd _ ⟨(zA5 q.own (Below.refl _ _)),zIo (q.own.here (.arr zAX 3 gb (zBq c ch).beds) (Take.mem zRT)),zIo (q.own.here (.arr zw 5 gh (zBq c ch).hours) (Take.mem zRT))⟩ (hG.below q.below)) ?_;rintro ⟨⟨P2,pc2⟩,pl2⟩ -;dsimp only [List.cons_append,List.nil_append])|refine zj rfl rfl rfl rfl rfl rfl ?_|refine zp rfl rfl rfl rfl rfl ?_)|(with_reducible first|refine zI ?_|refine zB ?_|refine zD ?_|refine zA ?_|refine zP ?_|refine zN ?_|refine zk ?_|refine zR ?_|refine zY ?_)|((with_reducible refine zF ?_ ?_);(· exact rfl))))
 all_goals
  refine zq (ι:=Nat) [5,17,19,219] rfl (fun i=>i≤c.beds.length) (fun i=>[(220,.int .i64 (i:Int))]) (fun i=>[.sl encI 1 N1 nc,.sl encI 1 N2 nd]) (fun i=>c.beds.length - i) 0 (Nat.zero_le _) zRS zRQ ?_
  rintro i hi
  simp only [zAn,List.cons_append,List.nil_append]
  by_cases hil:i<c.beds.length
  ·have hxy:=n5 i hil
   obtain ⟨x,hx⟩:∃ x,nc[i]?=some x:=⟨_,List.getElem?_eq_getElem zRU⟩
   obtain ⟨y,hy⟩:∃ y,nd[i]?=some y:=⟨_,List.getElem?_eq_getElem zRU⟩
   rw [zAS hx,zAS hy] at hxy
   have:zAP nc i x:=⟨hx⟩
   have:zAP nd i y:=⟨hy⟩
   refine zE1 (enc:=encI) (A:=N1) (xs:=nc) zRT zRU ?_
   rintro bn on rfl
   refine zE1 (enc:=encI) (A:=N2) (xs:=nd) zRT zRU ?_
   rintro bm om rfl
   (repeat' (first|((with_reducible refine zG ?_);first|refine zE rfl rfl rfl rfl rfl ?_|refine zC rfl rfl rfl rfl rfl ?_|(refine zQ rfl rfl rfl rfl rfl rfl rfl (fun h=>?_) (fun h=>?_)<;>(dsimp only [cmpP] at h;(try (exfalso;omega)))))|(with_reducible first|refine zI ?_|refine zB ?_|refine zD ?_|refine zA ?_|refine zP ?_|refine zN ?_)|((with_reducible refine zJ ?_ ?_);(· exact rfl))))
   (refine zAr zRW zRW zRW ?_)
   (repeat' (first|((with_reducible refine zBD ?_);first|refine zW (zAM rfl rfl) rfl rfl rfl ?_|refine zW (zy rfl rfl zRe) rfl rfl rfl ?_|(refine zCu rfl rfl rfl rfl rfl rfl rfl (fun h=>?_) (fun h=>?_)<;>(dsimp only [cmpP] at h;(try (exfalso;omega))))|refine zW (zAO (I:=i) rfl rfl rfl zRU zRj) rfl rfl rfl ?_)|(with_reducible refine zBw ?_)))
   (repeat' (first|((with_reducible refine zG ?_);first|refine zE rfl rfl rfl rfl rfl ?_|refine zg rfl rfl rfl rfl rfl rfl zRU ?_)|(with_reducible first|refine zB ?_|refine zD ?_|refine zA ?_|refine zP ?_|refine zi ?_)|((with_reducible refine zF ?_ ?_);(· exact rfl))))
   exact zc (ι:=Nat) (i+1) zRU zRU zRS zRQ
  ·obtain rfl:i=c.beds.length:=by omega
   (repeat' (first|((with_reducible refine zG ?_);first|refine zE rfl rfl rfl rfl rfl ?_|refine zC rfl rfl rfl rfl rfl ?_|(refine zQ rfl rfl rfl rfl rfl rfl rfl (fun h=>?_) (fun h=>?_)<;>(dsimp only [cmpP] at h;(try (exfalso;omega)))))|(with_reducible first|refine zI ?_|refine zB ?_|refine zD ?_|refine zA ?_|refine za ?_|refine zk ?_|refine zR ?_|refine zY ?_)|((with_reducible refine zF ?_ ?_);(· exact rfl))))
   exact zU zRZ () trivial rfl (fun _ _=>Own.nil _ _)
end Go.Proofs.YtdigopgncfhiaaaGreatDoor.Two
