/- C43 -/
import Derived.Test.YtdigopgncfhiaaaGreatDoorC36
import Derived.Test.YtdigopgncfhiaaaGreatDoorC25
import Derived.Test.YtdigopgncfhiaaaGreatDoorC31
set_option linter.unusedSimpArgs false
set_option linter.unusedVariables false
namespace Go.Proofs.YtdigopgncfhiaaaGreatDoor.Two
variable {ro : Option Nat}
open Go.RowKit
set_option maxRecDepth 20000
set_option maxHeartbeats 8000000 in
theorem zOd (c:Cov) (A:Option Addr) (ca:Nat) (B:Option Addr) (cb:Nat) (C:Option Addr) (cc:Nat) (ch:List Int) (D:Option Addr) (cd:Nat) (w:World) (hc:zAU w c A B C) (hfit:zE0 c.t) (hD:zAB zHE 1 w D ch) (hfu:zJB ch) (hG:InC w 0 0 zB7) :
  Gv Tryz.prog 7 [zAI c A ca B cb C cc,.slice D ch.length cd] w (.bool true):=by
 have hAl:=fun W (hW:Below w.heap.size w W)=>zCu W (hG.below hW)
 have hR:=fun W (hW:Below w.heap.size w W)=>zCt c A ca B cb C cc W (hc.below hW) hfit
 cases hr:zDK c
 ·rw [hr] at hR
  unfold zAI zH at hR ⊢
  unfold Gv
  (refine zM (n:=234) Tryz.func7 rfl rfl rfl ?_)
  (repeat' (first|((with_reducible refine zG ?_);first|refine zE rfl rfl rfl rfl rfl ?_|refine zC rfl rfl rfl rfl rfl ?_|(refine zK rfl rfl rfl rfl rfl ?_;refine ⟨_,rfl,?_⟩)|refine zS rfl rfl rfl rfl rfl rfl (fun _ _ q=>hAl _ q.below) ?_|refine zS rfl rfl rfl rfl rfl rfl (fun _ _ q=>hR _ q.below) ?_|refine zAh rfl rfl rfl rfl rfl ?_|(refine zAM rfl rfl rfl rfl rfl rfl (fun b=>?_)))|(with_reducible first|refine zI ?_|refine zB ?_|refine zD ?_|refine zA ?_|refine zb ?_|refine zP ?_|refine zd ?_)|((with_reducible refine zJ ?_ ?_);(· exact rfl))|((with_reducible refine zF ?_ ?_);(· exact rfl))))
  all_goals exact zT (by (exact zO.cons (by exact zq.tmp rfl) zO.nil)) () trivial rfl (fun _ _=>Own.nil _ _)
 rw [hr] at hR
 have hs:=zCU hr hfit
 have h0:=(zCV.1 hr).2
 have hf:=zA1 h0
 have h4:=hs.b;have h5:=hs.h;have h6:=hs.t
 have hh1:=hf.hours
 rw [zAA] at hh1
 have hbp:=zFu h0
 have hT:=fun W (hW:Below w.heap.size w W)=>zLf c A ca B cb C cc W (hc.below hW) (by omega) (by omega) (by omega)
 have hCh:=fun W (hW:Below w.heap.size w W) x i (hx:x=((i:Nat):Int))=>zGd ch D cd x i W (hD.below hW) hfu hx
 have hci:=fun i=>zP8 hfu i
 unfold zAI at hR hT
 unfold zH at hR hT
 unfold Gv zAI zH
 (refine zM (n:=234) Tryz.func7 rfl rfl rfl ?_)
 (repeat' (first|((with_reducible refine zG ?_);first|refine zE rfl rfl rfl rfl rfl ?_|refine zC rfl rfl rfl rfl rfl ?_|(refine zK rfl rfl rfl rfl rfl ?_;refine ⟨_,rfl,?_⟩)|refine ze rfl rfl rfl rfl rfl ?_|refine zS rfl rfl rfl rfl rfl rfl (fun _ _ q=>hAl _ q.below) ?_|refine zS rfl rfl rfl rfl rfl rfl (fun _ _ q=>hR _ q.below) ?_|(refine zAG rfl rfl rfl rfl rfl rfl (fun _ _ q=>hT _ q.below) ?_;rintro ⟨⟨A3,m3⟩,⟨A6,m6⟩,A9,m9⟩ -;dsimp only [List.cons_append,List.nil_append])|refine zAh rfl rfl rfl rfl rfl ?_|refine zr rfl rfl rfl rfl rfl ?_|(refine zf rfl rfl rfl rfl rfl ?_;refine And.intro rfl (And.intro (by first|decide|exact Nat.le_of_ble_eq_true rfl|(simp;omega)) ⟨_,rfl,?_⟩))|(refine zo rfl rfl rfl rfl (fun b=>?_))|(refine zAM rfl rfl rfl rfl rfl rfl (fun b=>?_)))|(with_reducible first|refine zI ?_|refine zB ?_|refine zD ?_|refine zA ?_|refine zP ?_|refine zN ?_)|((with_reducible refine zF ?_ ?_);(· exact rfl))))
 rename_i b1
 obtain ⟨b6,hb6⟩:∃ x,x=b:=⟨_,rfl⟩
 subst hb6
 refine zER (enc:=zp) (xs:=c.hours) (by (repeat (first|exact tK1 _ _|apply tK2))) (by omega) ?_
 rintro gh rfl
 refine zER (enc:=zAJ) (xs:=c.beds) (by (repeat (first|exact tK1 _ _|apply tK2))) (by omega) ?_
 rintro gb rfl
 have hup:=fun k (u:Hour) (hu:c.hours[k]?=some u)=>zJw (f:=zFW ch) hu
 have huz:=zIX (f:=zFW ch) (l:=c.hours)
 have hug:=fun k (u:Hour) (hu:c.hours[k]?=some u)=>zJx (f:=zFW ch) hu
 have hul:=fun k=>zBv (f:=zFW ch) (l:=c.hours) (k:=k)
 refine zu (ι:=Nat) [1,2,5,6,37] rfl (fun i=>i≤c.hours.length) (fun i=>[(38,.int .i64 (i:Int))]) (fun i=>[.arr zp 5 gh (zEH (zFW ch) c.hours i),.arr zAJ 3 gb c.beds,.sl zAt 9 A3 c.t,.blk b6 (zH c A3 m3 (some ⟨gb,0,none⟩) m6 (some ⟨gh,0,none⟩) m9),.blk b1 (zH c A ca B cb C cc)]) (fun i=>c.hours.length - i) 0 (Nat.zero_le _) (by (first|exact lK1|(repeat (first|exact lK1|(refine zL rfl ?_))))) (by rw [huz];(repeat (first|exact oK1 _|(refine oK2 (by (repeat (first|exact tK1 _ _|apply tK2))) ?_)))) ?_
 rintro i hi
 simp only [zAq,zH,List.cons_append,List.nil_append]
 by_cases hil:i<c.hours.length
 ·obtain ⟨u,hu⟩:∃ u,c.hours[i]?=some u:=⟨_,List.getElem?_eq_getElem hil⟩
  have hu1:=hug i u hu
  have hu2:=hup i u hu
  have hu3:=hul i
  have hou:=hf.hour u (List.mem_of_getElem? hu)
  simp only [zBX,Bool.and_eq_true,zAA] at hou
  generalize zEH (zFW ch) c.hours i=L at *
  have:zAR L i u:=⟨hu1⟩
  obtain ⟨um,ur,uc,ud⟩:=u
  simp only at hou
  have e1:=hci (3 * i);have e2:=hci (3 * i+1);have e3:=hci (3 * i+2)
  have c1:=fun W hW=>hCh W hW (3 * (i:Int)) (3 * i) (by omega)
  have c2:=fun W hW=>hCh W hW (3 * (i:Int)+1) (3 * i+1) (by omega)
  have c3:=fun W hW=>hCh W hW (3 * (i:Int)+2) (3 * i+2) (by omega)
  simp only [zFW] at hu2
  generalize chW ch (3 * i)=x1 at *
  generalize chW ch (3 * i+1)=x2 at *
  generalize chW ch (3 * i+2)=x3 at *
  have g1:∀ z,zAR (L.set i z) i z:=fun z=>⟨List.getElem?_set_self (by omega)⟩
  have m1:=zDL (x:=x1) (n:=2) (by omega)
  have m2:=zDL (x:=x2) (n:=3) (by omega)
  have m4:=zDL (x:=x3) (n:=ur+1) (by omega)
  obtain ⟨cr,hcr⟩:∃ cr,cr=min 12 (uc+x1 % 2):=⟨_,rfl⟩
  obtain ⟨cd2,hcd⟩:∃ cd2,cd2=(ud || decide (x2 % 3=0)):=⟨_,rfl⟩
  rw [← hcr,← hcd] at hu2
  have i1:=g1 ⟨um,ur,cr,ud⟩
  have i2:=g1 ⟨um,ur,cr,cd2⟩
  (repeat' (first|((with_reducible refine zG ?_);first|refine zE rfl rfl rfl rfl rfl ?_|refine zC rfl rfl rfl rfl rfl ?_|(refine zK rfl rfl rfl rfl rfl ?_;refine ⟨_,rfl,?_⟩)|refine ze rfl rfl rfl rfl rfl ?_|(refine zQ rfl rfl rfl rfl rfl rfl rfl (fun h=>?_) (fun h=>?_)<;>(dsimp only [cmpP] at h;(try (exfalso;omega))))|refine zi (I:=i) rfl rfl rfl rfl rfl rfl rfl (by omega) ?_)|(with_reducible first|refine zI ?_|refine zB ?_|refine zD ?_|refine zA ?_|refine zP ?_|refine zN ?_)|((with_reducible refine zJ ?_ ?_);(· exact rfl))))
  (refine zAd [] [] [] rfl (show ([]:List Nat).Nodup by decide) (fun _ h=>h) (by kernel_rfl) [[],[Y],[Z,Y],[Z,Z,Y],[Z,Z,Z,Y],[Y,Y,Y,Y,Y],[Y,Y,Y,Y,Y,Y],[Z,Y,Y,Y,Y,Y,Y],[Z,Z,Z,Y,Y,Y,Y,Y],[Z,Z,Z,Z,Y,Y,Y,Y,Y],[Z,Z,Z,Z,Z,Z,Z,Z,Z,Y],[Z,Z,Z,Z,Z,Z,Z,Z,Z,Z,Y],[Z,Z,Z,Z,Z,Z,Z,Z,Z,Z,Z,Z],[Z,Z,Z,Z,Z,Z,Z,Z,Z,Z,Z,Z,Z],[Z,Z,Z,Z,Z,Z,Z,Z,Z,Z,Z,Z,Z,Z]] (by kernel_rfl) (by kernel_rfl) (by kernel_rfl) (by kernel_rfl) (by kernel_rfl) ?_)
  (repeat' (first|(((with_reducible refine zCJ ?_ ?_);(· exact rfl);refine ⟨_,fun G=>(by (try simp (decide:=true) only [vis,see,fltT,zAD,Nat.reduceAdd,Nat.reduceSub,if_true,if_false,List.set_cons_zero,List.set_cons_succ,List.set_nil,List.nil_append,List.cons_append]);rfl),?_⟩);first|refine zX _ (fun _=>zAK rfl rfl) (fun _=>rfl) rfl (by first|exact fun _ _ _=>rfl|(intro G G' h;simp (decide:=true) only [h])) ?_|refine zX _ (fun _=>zy rfl rfl (by exact rfl)) (fun _=>rfl) rfl (by first|exact fun _ _ _=>rfl|(intro G G' h;simp (decide:=true) only [h])) ?_|(refine zAb rfl ?_;refine zX _ (fun _=>zAO rfl rfl) (fun _=>rfl) rfl (by first|exact fun _ _ _=>rfl|(intro G G' h;simp (decide:=true) only [h])) ?_)|refine zBI _ rfl (fun _=>rfl) rfl (fun _=>rfl) (fun _=>rfl) (fun _ _ _ q=>c1 _ q.below) (by first|exact fun _ _ _=>rfl|(intro G G' h;simp (decide:=true) only [h])) ?_|refine zX _ (fun _=>zDg rfl rfl rfl (IntWalk.i64_in _ (by (try dsimp only);omega))) (fun _=>rfl) rfl (by exact fun _ _ _=>rfl) ?_|refine zX _ (fun _=>zGg rfl rfl rfl (IntWalk.i64_in _ (by omega))) (fun _=>rfl) rfl (by first|exact fun _ _ _=>rfl|(intro G G' h;simp (decide:=true) only [h])) ?_|refine zX _ (fun _=>zAi rfl rfl) (fun _=>rfl) rfl (by first|exact fun _ _ _=>rfl|(intro G G' h;simp (decide:=true) only [h])) ?_|refine zX _ (fun _=>zJS rfl rfl rfl (by omega) (by omega)) (fun _=>rfl) rfl (by first|exact fun _ _ _=>rfl|(intro G G' h;simp (decide:=true) only [h])) ?_|refine zX _ (fun _=>e_min rfl rfl rfl) (fun _=>rfl) rfl (by first|exact fun _ _ _=>rfl|(intro G G' h;simp (decide:=true) only [h])) ?_)|((with_reducible refine zBa ?_ ?_);(· exact rfl))))
  intro G
  simp only [regsT,List.nil_append,List.cons_append]
  refine zB5 (H':=[.arr zp 5 gh L,.arr zAJ 3 gb c.beds,.sl zAt 9 A3 c.t,.blk b6 (zH c A3 m3 (some ⟨gb,0,none⟩) m6 (some ⟨gh,0,none⟩) m9),.blk b1 (zH c A ca B cb C cc)]) (fun _ h=>h) ?_
  unfold zH
  refine zBw (enc:=zp) (k:=5) (i:=i) (j:=3) (z:=⟨um,ur,uc,ud⟩) ⟨um,ur,min 12 (uc+x1 % 2),ud⟩ rfl rfl rfl rfl rfl rfl rfl rfl (by decide) ?_
  rw [← hcr]
  have e9:cd2=(ud || decide (x2 % 3=0)):=hcd
  have fin:∀ (b0:Bool),b0=cd2→(L.set i ⟨um,ur,cr,b0⟩)=L.set i ⟨um,ur,cr,cd2⟩:=fun b0 h9=>by rw [h9]
  cases ud
  ·simp only [Bool.false_or] at e9
   have i3:=g1 ⟨um,ur,cr,true⟩
   have i4:=g1 ⟨um,ur,cr,false⟩
   (repeat' (first|((with_reducible refine zG ?_);first|refine zE rfl rfl rfl rfl rfl ?_|(refine zK rfl rfl rfl rfl rfl ?_;refine ⟨_,rfl,?_⟩)|refine ze rfl rfl rfl rfl rfl ?_|refine zAf rfl rfl rfl rfl rfl rfl ?_|(refine zQ rfl rfl rfl rfl rfl rfl rfl (fun h=>?_) (fun h=>?_)<;>(dsimp only [cmpP] at h;(try (exfalso;omega))))|refine zS rfl rfl rfl rfl rfl rfl (fun _ _ q=>c2 _ q.below) ?_|refine zBw (enc:=zp) (k:=5) (i:=i) (j:=4) (z:=⟨um,ur,cr,false⟩) ⟨um,ur,cr,true⟩ rfl rfl rfl rfl rfl rfl rfl rfl (by decide) ?_|refine zBw (enc:=zp) (k:=5) (i:=i) (j:=4) (z:=⟨um,ur,cr,false⟩) ⟨um,ur,cr,false⟩ rfl rfl rfl rfl rfl rfl rfl rfl (by decide) ?_|refine zCh rfl rfl rfl rfl rfl rfl (IntWalk.i64_in _ (by omega)) ?_|refine zLd rfl rfl rfl rfl rfl rfl (IntWalk.i64_in _ (by omega)) ?_|refine zBP rfl rfl rfl rfl rfl ?_|refine zNh rfl rfl rfl rfl rfl rfl (by omega) (by omega) ?_)|(with_reducible first|refine zI ?_|refine zB ?_|refine zD ?_|refine zA ?_)))
   ·rw [List.set_set,fin true (by rw [e9];simpa using h)]
    (refine zAd [] [] [] rfl (show ([]:List Nat).Nodup by decide) (fun _ h=>h) (by kernel_rfl) [[],[Z],[Z,Z],[Z,Z,Z],[Y,Y,Y,Y],[Y,Y,Y,Y,Y],[Z,Y,Y,Y,Y,Y],[Z,Z,Y,Y,Y,Y,Y],[Z,Z,Z,Z,Y,Y,Y,Y],[Y,Y,Y,Y,Y,Y,Y,Y,Y],[Z,Y,Y,Y,Y,Y,Y,Y,Y,Y],[Z,Z,Y,Y,Y,Y,Y,Y,Y,Y,Y],[Z,Z,Z,Y,Y,Y,Y,Y,Y,Y,Y,Y],[Z,Z,Z,Z,Y,Y,Y,Y,Y,Y,Y,Y,Y],[Z,Z,Z,Z,Z,Z,Z,Z,Z,Z,Y,Y,Y,Y],[Z,Z,Z,Z,Z,Z,Z,Z,Z,Z,Z,Z,Z,Z,Z],[Z,Z,Z,Z,Z,Z,Z,Z,Z,Z,Z,Z,Z,Z,Z,Z],[Z,Z,Z,Z,Z,Z,Z,Z,Z,Z,Z,Z,Z,Z,Z,Z,Z],[Z,Z,Z,Z,Z,Z,Z,Z,Z,Z,Z,Z,Z,Z,Z,Z,Z,Z]] (by kernel_rfl) (by kernel_rfl) (by kernel_rfl) (by kernel_rfl) (by kernel_rfl) ?_)
    (repeat' (first|(((with_reducible refine zCJ ?_ ?_);(· exact rfl);refine ⟨_,fun G=>(by (try simp (decide:=true) only [vis,see,fltT,zAD,Nat.reduceAdd,Nat.reduceSub,if_true,if_false,List.set_cons_zero,List.set_cons_succ,List.set_nil,List.nil_append,List.cons_append]);rfl),?_⟩);first|refine zX _ (fun _=>zAK rfl rfl) (fun _=>rfl) rfl (by first|exact fun _ _ _=>rfl|(intro G G' h;simp (decide:=true) only [h])) ?_|refine zX _ (fun _=>zy rfl rfl (by exact rfl)) (fun _=>rfl) rfl (by first|exact fun _ _ _=>rfl|(intro G G' h;simp (decide:=true) only [h])) ?_|(refine zAb rfl ?_;refine zX _ (fun _=>zAO rfl rfl) (fun _=>rfl) rfl (by first|exact fun _ _ _=>rfl|(intro G G' h;simp (decide:=true) only [h])) ?_)|refine zBI _ rfl (fun _=>rfl) rfl (fun _=>rfl) (fun _=>rfl) (fun _ _ _ q=>c3 _ q.below) (by first|exact fun _ _ _=>rfl|(intro G G' h;simp (decide:=true) only [h])) ?_|refine zX _ (fun _=>zDg rfl rfl rfl (IntWalk.i64_in _ (by (try dsimp only);omega))) (fun _=>rfl) rfl (by exact fun _ _ _=>rfl) ?_|refine zX _ (fun _=>zEt rfl rfl rfl (IntWalk.i64_in _ (by (try dsimp only);omega))) (fun _=>rfl) rfl (by exact fun _ _ _=>rfl) ?_|refine zX _ (fun _=>zJS rfl rfl rfl (by (try dsimp only);omega) (by (try dsimp only);omega)) (fun _=>rfl) rfl (by exact fun _ _ _=>rfl) ?_|refine zX _ (fun _=>zGg rfl rfl rfl (IntWalk.i64_in _ (by omega))) (fun _=>rfl) rfl (by first|exact fun _ _ _=>rfl|(intro G G' h;simp (decide:=true) only [h])) ?_|refine zX _ (fun _=>zAi rfl rfl) (fun _=>rfl) rfl (by first|exact fun _ _ _=>rfl|(intro G G' h;simp (decide:=true) only [h])) ?_)|((with_reducible refine zBa ?_ ?_);(· exact rfl))))
    intro G
    simp only [regsT,List.nil_append,List.cons_append]
    refine zB5 (H':=[.arr zp 5 gh (L.set i ⟨um,ur,cr,cd2⟩),.arr zAJ 3 gb c.beds,.sl zAt 9 A3 c.t,.blk b6 (zH c A3 m3 (some ⟨gb,0,none⟩) m6 (some ⟨gh,0,none⟩) m9),.blk b1 (zH c A ca B cb C cc)]) (fun _ h=>h) ?_
    unfold zH
    refine zBw (enc:=zp) (k:=5) (i:=i) (j:=2) (z:=⟨um,ur,cr,cd2⟩) ⟨um,ur - x3 % (ur+1),cr,cd2⟩ rfl rfl rfl rfl rfl rfl rfl rfl (by decide) ?_
    rw [List.set_set,hu2]
    (repeat' (first|((with_reducible refine zG ?_);first|refine zE rfl rfl rfl rfl rfl ?_|refine zj rfl rfl rfl rfl rfl rfl (by omega) ?_)|(with_reducible first|refine zB ?_|refine zD ?_|refine zA ?_|refine zk ?_)))
    exact zc (ι:=Nat) (i+1) (by omega) (by omega) (by (first|exact lK1|(repeat (first|exact lK1|(refine zL rfl ?_))))) (by (repeat (first|exact oK1 _|(refine oK2 (by (repeat (first|exact tK1 _ _|apply tK2))) ?_))))
   ·rw [List.set_set,fin false (by rw [e9];simpa using h)]
    (refine zAd [] [] [] rfl (show ([]:List Nat).Nodup by decide) (fun _ h=>h) (by kernel_rfl) [[],[Z],[Z,Z],[Z,Z,Z],[Y,Y,Y,Y],[Y,Y,Y,Y,Y],[Z,Y,Y,Y,Y,Y],[Z,Z,Y,Y,Y,Y,Y],[Z,Z,Z,Z,Y,Y,Y,Y],[Y,Y,Y,Y,Y,Y,Y,Y,Y],[Z,Y,Y,Y,Y,Y,Y,Y,Y,Y],[Z,Z,Y,Y,Y,Y,Y,Y,Y,Y,Y],[Z,Z,Z,Y,Y,Y,Y,Y,Y,Y,Y,Y],[Z,Z,Z,Z,Y,Y,Y,Y,Y,Y,Y,Y,Y],[Z,Z,Z,Z,Z,Z,Z,Z,Z,Z,Y,Y,Y,Y],[Z,Z,Z,Z,Z,Z,Z,Z,Z,Z,Z,Z,Z,Z,Z],[Z,Z,Z,Z,Z,Z,Z,Z,Z,Z,Z,Z,Z,Z,Z,Z],[Z,Z,Z,Z,Z,Z,Z,Z,Z,Z,Z,Z,Z,Z,Z,Z,Z],[Z,Z,Z,Z,Z,Z,Z,Z,Z,Z,Z,Z,Z,Z,Z,Z,Z,Z]] (by kernel_rfl) (by kernel_rfl) (by kernel_rfl) (by kernel_rfl) (by kernel_rfl) ?_)
    (repeat' (first|(((with_reducible refine zCJ ?_ ?_);(· exact rfl);refine ⟨_,fun G=>(by (try simp (decide:=true) only [vis,see,fltT,zAD,Nat.reduceAdd,Nat.reduceSub,if_true,if_false,List.set_cons_zero,List.set_cons_succ,List.set_nil,List.nil_append,List.cons_append]);rfl),?_⟩);first|refine zX _ (fun _=>zAK rfl rfl) (fun _=>rfl) rfl (by first|exact fun _ _ _=>rfl|(intro G G' h;simp (decide:=true) only [h])) ?_|refine zX _ (fun _=>zy rfl rfl (by exact rfl)) (fun _=>rfl) rfl (by first|exact fun _ _ _=>rfl|(intro G G' h;simp (decide:=true) only [h])) ?_|(refine zAb rfl ?_;refine zX _ (fun _=>zAO rfl rfl) (fun _=>rfl) rfl (by first|exact fun _ _ _=>rfl|(intro G G' h;simp (decide:=true) only [h])) ?_)|refine zBI _ rfl (fun _=>rfl) rfl (fun _=>rfl) (fun _=>rfl) (fun _ _ _ q=>c3 _ q.below) (by first|exact fun _ _ _=>rfl|(intro G G' h;simp (decide:=true) only [h])) ?_|refine zX _ (fun _=>zDg rfl rfl rfl (IntWalk.i64_in _ (by (try dsimp only);omega))) (fun _=>rfl) rfl (by exact fun _ _ _=>rfl) ?_|refine zX _ (fun _=>zEt rfl rfl rfl (IntWalk.i64_in _ (by (try dsimp only);omega))) (fun _=>rfl) rfl (by exact fun _ _ _=>rfl) ?_|refine zX _ (fun _=>zJS rfl rfl rfl (by (try dsimp only);omega) (by (try dsimp only);omega)) (fun _=>rfl) rfl (by exact fun _ _ _=>rfl) ?_|refine zX _ (fun _=>zGg rfl rfl rfl (IntWalk.i64_in _ (by omega))) (fun _=>rfl) rfl (by first|exact fun _ _ _=>rfl|(intro G G' h;simp (decide:=true) only [h])) ?_|refine zX _ (fun _=>zAi rfl rfl) (fun _=>rfl) rfl (by first|exact fun _ _ _=>rfl|(intro G G' h;simp (decide:=true) only [h])) ?_)|((with_reducible refine zBa ?_ ?_);(· exact rfl))))
    intro G
    simp only [regsT,List.nil_append,List.cons_append]
    refine zB5 (H':=[.arr zp 5 gh (L.set i ⟨um,ur,cr,cd2⟩),.arr zAJ 3 gb c.beds,.sl zAt 9 A3 c.t,.blk b6 (zH c A3 m3 (some ⟨gb,0,none⟩) m6 (some ⟨gh,0,none⟩) m9),.blk b1 (zH c A ca B cb C cc)]) (fun _ h=>h) ?_
    unfold zH
    refine zBw (enc:=zp) (k:=5) (i:=i) (j:=2) (z:=⟨um,ur,cr,cd2⟩) ⟨um,ur - x3 % (ur+1),cr,cd2⟩ rfl rfl rfl rfl rfl rfl rfl rfl (by decide) ?_
    rw [List.set_set,hu2]
    (repeat' (first|((with_reducible refine zG ?_);first|refine zE rfl rfl rfl rfl rfl ?_|refine zj rfl rfl rfl rfl rfl rfl (by omega) ?_)|(with_reducible first|refine zB ?_|refine zD ?_|refine zA ?_|refine zk ?_)))
    exact zc (ι:=Nat) (i+1) (by omega) (by omega) (by (first|exact lK1|(repeat (first|exact lK1|(refine zL rfl ?_))))) (by (repeat (first|exact oK1 _|(refine oK2 (by (repeat (first|exact tK1 _ _|apply tK2))) ?_))))
  ·simp only [Bool.true_or] at e9
   have i3:=g1 ⟨um,ur,cr,true⟩
   (repeat' (first|((with_reducible refine zG ?_);first|refine zE rfl rfl rfl rfl rfl ?_|(refine zK rfl rfl rfl rfl rfl ?_;refine ⟨_,rfl,?_⟩)|refine ze rfl rfl rfl rfl rfl ?_|refine zAf rfl rfl rfl rfl rfl rfl ?_|refine zAT rfl rfl rfl ?_|refine zBw (enc:=zp) (k:=5) (i:=i) (j:=4) (z:=⟨um,ur,cr,true⟩) ⟨um,ur,cr,true⟩ rfl rfl rfl rfl rfl rfl rfl rfl (by decide) ?_|refine zBP rfl rfl rfl rfl rfl ?_)|(with_reducible first|refine zI ?_|refine zB ?_|refine zD ?_|refine zA ?_)))
   rw [List.set_set,fin true e9.symm]
   (refine zAd [] [] [] rfl (show ([]:List Nat).Nodup by decide) (fun _ h=>h) (by kernel_rfl) [[],[Z],[Z,Z],[Z,Z,Z],[Y,Y,Y,Y],[Y,Y,Y,Y,Y],[Z,Y,Y,Y,Y,Y],[Z,Z,Y,Y,Y,Y,Y],[Z,Z,Z,Z,Y,Y,Y,Y],[Y,Y,Y,Y,Y,Y,Y,Y,Y],[Z,Y,Y,Y,Y,Y,Y,Y,Y,Y],[Z,Z,Y,Y,Y,Y,Y,Y,Y,Y,Y],[Z,Z,Z,Y,Y,Y,Y,Y,Y,Y,Y,Y],[Z,Z,Z,Z,Y,Y,Y,Y,Y,Y,Y,Y,Y],[Z,Z,Z,Z,Z,Z,Z,Z,Z,Z,Y,Y,Y,Y],[Z,Z,Z,Z,Z,Z,Z,Z,Z,Z,Z,Z,Z,Z,Z],[Z,Z,Z,Z,Z,Z,Z,Z,Z,Z,Z,Z,Z,Z,Z,Z],[Z,Z,Z,Z,Z,Z,Z,Z,Z,Z,Z,Z,Z,Z,Z,Z,Z],[Z,Z,Z,Z,Z,Z,Z,Z,Z,Z,Z,Z,Z,Z,Z,Z,Z,Z]] (by kernel_rfl) (by kernel_rfl) (by kernel_rfl) (by kernel_rfl) (by kernel_rfl) ?_)
   (repeat' (first|(((with_reducible refine zCJ ?_ ?_);(· exact rfl);refine ⟨_,fun G=>(by (try simp (decide:=true) only [vis,see,fltT,zAD,Nat.reduceAdd,Nat.reduceSub,if_true,if_false,List.set_cons_zero,List.set_cons_succ,List.set_nil,List.nil_append,List.cons_append]);rfl),?_⟩);first|refine zX _ (fun _=>zAK rfl rfl) (fun _=>rfl) rfl (by first|exact fun _ _ _=>rfl|(intro G G' h;simp (decide:=true) only [h])) ?_|refine zX _ (fun _=>zy rfl rfl (by exact rfl)) (fun _=>rfl) rfl (by first|exact fun _ _ _=>rfl|(intro G G' h;simp (decide:=true) only [h])) ?_|(refine zAb rfl ?_;refine zX _ (fun _=>zAO rfl rfl) (fun _=>rfl) rfl (by first|exact fun _ _ _=>rfl|(intro G G' h;simp (decide:=true) only [h])) ?_)|refine zBI _ rfl (fun _=>rfl) rfl (fun _=>rfl) (fun _=>rfl) (fun _ _ _ q=>c3 _ q.below) (by first|exact fun _ _ _=>rfl|(intro G G' h;simp (decide:=true) only [h])) ?_|refine zX _ (fun _=>zDg rfl rfl rfl (IntWalk.i64_in _ (by (try dsimp only);omega))) (fun _=>rfl) rfl (by exact fun _ _ _=>rfl) ?_|refine zX _ (fun _=>zEt rfl rfl rfl (IntWalk.i64_in _ (by (try dsimp only);omega))) (fun _=>rfl) rfl (by exact fun _ _ _=>rfl) ?_|refine zX _ (fun _=>zJS rfl rfl rfl (by (try dsimp only);omega) (by (try dsimp only);omega)) (fun _=>rfl) rfl (by exact fun _ _ _=>rfl) ?_|refine zX _ (fun _=>zGg rfl rfl rfl (IntWalk.i64_in _ (by omega))) (fun _=>rfl) rfl (by first|exact fun _ _ _=>rfl|(intro G G' h;simp (decide:=true) only [h])) ?_|refine zX _ (fun _=>zAi rfl rfl) (fun _=>rfl) rfl (by first|exact fun _ _ _=>rfl|(intro G G' h;simp (decide:=true) only [h])) ?_)|((with_reducible refine zBa ?_ ?_);(· exact rfl))))
   intro G
   simp only [regsT,List.nil_append,List.cons_append]
   refine zB5 (H':=[.arr zp 5 gh (L.set i ⟨um,ur,cr,cd2⟩),.arr zAJ 3 gb c.beds,.sl zAt 9 A3 c.t,.blk b6 (zH c A3 m3 (some ⟨gb,0,none⟩) m6 (some ⟨gh,0,none⟩) m9),.blk b1 (zH c A ca B cb C cc)]) (fun _ h=>h) ?_
   unfold zH
   refine zBw (enc:=zp) (k:=5) (i:=i) (j:=2) (z:=⟨um,ur,cr,cd2⟩) ⟨um,ur - x3 % (ur+1),cr,cd2⟩ rfl rfl rfl rfl rfl rfl rfl rfl (by decide) ?_
   rw [List.set_set,hu2]
   (repeat' (first|((with_reducible refine zG ?_);first|refine zE rfl rfl rfl rfl rfl ?_|refine zj rfl rfl rfl rfl rfl rfl (by omega) ?_)|(with_reducible first|refine zB ?_|refine zD ?_|refine zA ?_|refine zk ?_)))
   exact zc (ι:=Nat) (i+1) (by omega) (by omega) (by (first|exact lK1|(repeat (first|exact lK1|(refine zL rfl ?_))))) (by (repeat (first|exact oK1 _|(refine oK2 (by (repeat (first|exact tK1 _ _|apply tK2))) ?_))))
 obtain rfl:i=c.hours.length:=by omega
 have ehs:zEH (zFW ch) c.hours c.hours.length=(zBy c ch).hours:=rfl
 have ebs:zEH (zGW ch) c.beds c.beds.length=(zBy c ch).beds:=rfl
 have lhs:(zBy c ch).hours.length=c.hours.length:=zBv
 have lbs:(zBy c ch).beds.length=c.beds.length:=zBv
 rw [ehs]
 clear hup huz hug hul
 have hup:=fun k (z:Bed) (hz:c.beds[k]?=some z)=>zJw (f:=zGW ch) hz
 have huz:=zIX (f:=zGW ch) (l:=c.beds)
 have hug:=fun k (z:Bed) (hz:c.beds[k]?=some z)=>zJx (f:=zGW ch) hz
 have hul:=fun k=>zBv (f:=zGW ch) (l:=c.beds) (k:=k)
 generalize ehq:(zBy c ch).hours=hq at *
 (repeat' (first|((with_reducible refine zG ?_);first|refine zE rfl rfl rfl rfl rfl ?_|(refine zK rfl rfl rfl rfl rfl ?_;refine ⟨_,rfl,?_⟩)|refine ze rfl rfl rfl rfl rfl ?_|(refine zQ rfl rfl rfl rfl rfl rfl rfl (fun h=>?_) (fun h=>?_)<;>(dsimp only [cmpP] at h;(try (exfalso;omega))))|refine zr rfl rfl rfl rfl rfl ?_)|(with_reducible first|refine zI ?_|refine zB ?_|refine zD ?_|refine zA ?_|refine zN ?_|refine zn ?_|refine zR ?_|refine zY ?_)|((with_reducible refine zF ?_ ?_);(· exact rfl))))
 refine zu (ι:=Nat) [1,2,5,6,96] rfl (fun i=>i≤c.beds.length) (fun i=>[(97,.int .i64 (i:Int))]) (fun i=>[.arr zAJ 3 gb (zEH (zGW ch) c.beds i),.arr zp 5 gh hq,.sl zAt 9 A3 c.t,.blk b6 (zH c A3 m3 (some ⟨gb,0,none⟩) m6 (some ⟨gh,0,none⟩) m9),.blk b1 (zH c A ca B cb C cc)]) (fun i=>c.beds.length - i) 0 (Nat.zero_le _) (by (first|exact lK1|(repeat (first|exact lK1|(refine zL rfl ?_))))) (by rw [huz];(repeat (first|exact oK1 _|(refine oK2 (by (repeat (first|exact tK1 _ _|apply tK2))) ?_)))) ?_
 rintro i hi
 simp only [zAq,zH,List.cons_append,List.nil_append]
 by_cases hil:i<c.beds.length
 ·obtain ⟨z,hz⟩:∃ z,c.beds[i]?=some z:=⟨_,List.getElem?_eq_getElem hil⟩
  have hu1:=hug i z hz
  have hu2:=hup i z hz
  have hu3:=hul i
  have hoz:=hf.bed z (List.mem_of_getElem? hz)
  simp only [zC0,Bool.and_eq_true,zAF,zAA] at hoz
  generalize zEH (zGW ch) c.beds i=L at *
  have:zAR L i z:=⟨hu1⟩
  obtain ⟨⟨zl,zh⟩,zs⟩:=z
  simp only at hoz
  have e1:=hci (30+2 * i);have e2:=hci (31+2 * i)
  have c1:=fun W hW=>hCh W hW (30+2 * (i:Int)) (30+2 * i) (by omega)
  have c2:=fun W hW=>hCh W hW (31+2 * (i:Int)) (31+2 * i) (by omega)
  simp only [zGW] at hu2
  generalize chW ch (30+2 * i)=x1 at *
  generalize chW ch (31+2 * i)=x2 at *
  have g1:∀ z,zAR (L.set i z) i z:=fun z=>⟨List.getElem?_set_self (by omega)⟩
  have m1:=zDL (x:=x1) (n:=zs+1) (by omega)
  have m2:=zDL (x:=x2) (n:=40) (by omega)
  obtain ⟨sn,hsn⟩:∃ sn,sn=zs - x1 % (zs+1):=⟨_,rfl⟩
  obtain ⟨pl,hpl⟩:∃ pl,pl=min 2000 (zl+x2 % 40):=⟨_,rfl⟩
  obtain ⟨ph,hph⟩:∃ ph,ph=min 2000 (zh+x2 % 40):=⟨_,rfl⟩
  rw [← hsn,← hpl,← hph] at hu2
  have i1:=g1 ⟨⟨zl,zh⟩,sn⟩
  (repeat' (first|((with_reducible refine zG ?_);first|refine zE rfl rfl rfl rfl rfl ?_|refine zC rfl rfl rfl rfl rfl ?_|(refine zK rfl rfl rfl rfl rfl ?_;refine ⟨_,rfl,?_⟩)|refine ze rfl rfl rfl rfl rfl ?_|(refine zQ rfl rfl rfl rfl rfl rfl rfl (fun h=>?_) (fun h=>?_)<;>(dsimp only [cmpP] at h;(try (exfalso;omega))))|refine zi (I:=i) rfl rfl rfl rfl rfl rfl rfl (by omega) ?_)|(with_reducible first|refine zI ?_|refine zB ?_|refine zD ?_|refine zA ?_|refine zP ?_|refine zN ?_)|((with_reducible refine zJ ?_ ?_);(· exact rfl))))
  (refine zAd [] [] [] rfl (show ([]:List Nat).Nodup by decide) (fun _ h=>h) (by kernel_rfl) [[],[Z],[Z,Z],[Z,Z,Z],[Y,Y,Y,Y],[Y,Y,Y,Y,Y],[Z,Y,Y,Y,Y,Y],[Z,Z,Y,Y,Y,Y,Y],[Z,Z,Z,Z,Y,Y,Y,Y],[Y,Y,Y,Y,Y,Y,Y,Y,Y],[Z,Y,Y,Y,Y,Y,Y,Y,Y,Y],[Z,Z,Y,Y,Y,Y,Y,Y,Y,Y,Y],[Z,Z,Z,Y,Y,Y,Y,Y,Y,Y,Y,Y],[Z,Z,Z,Z,Y,Y,Y,Y,Y,Y,Y,Y,Y],[Z,Z,Z,Z,Z,Z,Z,Z,Z,Z,Y,Y,Y,Y],[Z,Z,Z,Z,Z,Z,Z,Z,Z,Z,Z,Z,Z,Z,Z],[Z,Z,Z,Z,Z,Z,Z,Z,Z,Z,Z,Z,Z,Z,Z,Z],[Z,Z,Z,Z,Z,Z,Z,Z,Z,Z,Z,Z,Z,Z,Z,Z,Z],[Z,Z,Z,Z,Z,Z,Z,Z,Z,Z,Z,Z,Z,Z,Z,Z,Z,Z]] (by kernel_rfl) (by kernel_rfl) (by kernel_rfl) (by kernel_rfl) (by kernel_rfl) ?_)
  (repeat' (first|(((with_reducible refine zCJ ?_ ?_);(· exact rfl);refine ⟨_,fun G=>(by (try simp (decide:=true) only [vis,see,fltT,zAD,Nat.reduceAdd,Nat.reduceSub,if_true,if_false,List.set_cons_zero,List.set_cons_succ,List.set_nil,List.nil_append,List.cons_append]);rfl),?_⟩);first|refine zX _ (fun _=>zAK rfl rfl) (fun _=>rfl) rfl (by first|exact fun _ _ _=>rfl|(intro G G' h;simp (decide:=true) only [h])) ?_|refine zX _ (fun _=>zy rfl rfl (by exact rfl)) (fun _=>rfl) rfl (by first|exact fun _ _ _=>rfl|(intro G G' h;simp (decide:=true) only [h])) ?_|(refine zAb rfl ?_;refine zX _ (fun _=>zAO rfl rfl) (fun _=>rfl) rfl (by first|exact fun _ _ _=>rfl|(intro G G' h;simp (decide:=true) only [h])) ?_)|refine zBI _ rfl (fun _=>rfl) rfl (fun _=>rfl) (fun _=>rfl) (fun _ _ _ q=>c1 _ q.below) (by first|exact fun _ _ _=>rfl|(intro G G' h;simp (decide:=true) only [h])) ?_|refine zX _ (fun _=>zDg rfl rfl rfl (IntWalk.i64_in _ (by (try dsimp only);omega))) (fun _=>rfl) rfl (by exact fun _ _ _=>rfl) ?_|refine zX _ (fun _=>zEt rfl rfl rfl (IntWalk.i64_in _ (by (try dsimp only);omega))) (fun _=>rfl) rfl (by exact fun _ _ _=>rfl) ?_|refine zX _ (fun _=>zJS rfl rfl rfl (by (try dsimp only);omega) (by (try dsimp only);omega)) (fun _=>rfl) rfl (by exact fun _ _ _=>rfl) ?_|refine zX _ (fun _=>zGg rfl rfl rfl (IntWalk.i64_in _ (by omega))) (fun _=>rfl) rfl (by first|exact fun _ _ _=>rfl|(intro G G' h;simp (decide:=true) only [h])) ?_|refine zX _ (fun _=>zAi rfl rfl) (fun _=>rfl) rfl (by first|exact fun _ _ _=>rfl|(intro G G' h;simp (decide:=true) only [h])) ?_)|((with_reducible refine zBa ?_ ?_);(· exact rfl))))
  intro G
  simp only [regsT,List.nil_append,List.cons_append]
  refine zB5 (H':=[.arr zAJ 3 gb L,.arr zp 5 gh hq,.sl zAt 9 A3 c.t,.blk b6 (zH c A3 m3 (some ⟨gb,0,none⟩) m6 (some ⟨gh,0,none⟩) m9),.blk b1 (zH c A ca B cb C cc)]) (fun _ h=>h) ?_
  unfold zH
  refine zBw (enc:=zAJ) (k:=3) (i:=i) (j:=2) (z:=⟨⟨zl,zh⟩,zs⟩) ⟨⟨zl,zh⟩,zs - x1 % (zs+1)⟩ rfl rfl rfl rfl rfl rfl rfl rfl (by decide) ?_
  rw [← hsn]
  (repeat' (first|((with_reducible refine zG ?_);first|refine zE rfl rfl rfl rfl rfl ?_|refine zC rfl rfl rfl rfl rfl ?_|refine zS rfl rfl rfl rfl rfl rfl (fun _ _ q=>c2 _ q.below) ?_|refine zCh rfl rfl rfl rfl rfl rfl (IntWalk.i64_in _ (by omega)) ?_|refine zLd rfl rfl rfl rfl rfl rfl (IntWalk.i64_in _ (by omega)) ?_|refine zNh rfl rfl rfl rfl rfl rfl (by omega) (by omega) ?_)|(with_reducible first|refine zI ?_|refine zB ?_|refine zD ?_|refine zA ?_)))
  (refine zAd [] [] [] rfl (show ([]:List Nat).Nodup by decide) (fun _ h=>h) (by kernel_rfl) [[],[Y],[Z,Y],[Z,Z,Y],[Z,Z,Z,Y],[Z,Z,Z,Z,Y],[Y,Y,Y,Y,Y,Y],[Z,Z,Z,Z,Z,Z,Y],[Z,Z,Z,Z,Z,Z,Z,Y],[Y,Y,Y,Y,Y,Y,Y,Y,Y],[Z,Y,Y,Y,Y,Y,Y,Y,Y,Y],[Z,Z,Y,Y,Y,Y,Y,Y,Y,Y,Y],[Z,Z,Z,Y,Y,Y,Y,Y,Y,Y,Y,Y],[Z,Z,Z,Z,Y,Y,Y,Y,Y,Y,Y,Y,Y],[Y,Y,Y,Y,Y,Y,Y,Y,Y,Y,Y,Y,Y,Y],[Z,Z,Z,Z,Z,Z,Y,Y,Y,Y,Y,Y,Y,Y,Y],[Z,Z,Z,Z,Z,Z,Z,Y,Y,Y,Y,Y,Y,Y,Y,Y],[Z,Z,Z,Z,Z,Z,Z,Z,Z,Z,Z,Z,Z,Z,Z,Z,Y],[Z,Z,Z,Z,Z,Z,Z,Z,Z,Z,Z,Z,Z,Z,Z,Z,Z,Z],[Z,Z,Z,Z,Z,Z,Z,Z,Z,Z,Z,Z,Z,Z,Z,Z,Z,Z,Z],[Z,Z,Z,Z,Z,Z,Z,Z,Z,Z,Z,Z,Z,Z,Z,Z,Z,Z,Z,Z]] (by kernel_rfl) (by kernel_rfl) (by kernel_rfl) (by kernel_rfl) (by kernel_rfl) ?_)
  (repeat' (first|(((with_reducible refine zCJ ?_ ?_);(· exact rfl);refine ⟨_,fun G=>(by (try simp (decide:=true) only [vis,see,fltT,zAD,Nat.reduceAdd,Nat.reduceSub,if_true,if_false,List.set_cons_zero,List.set_cons_succ,List.set_nil,List.nil_append,List.cons_append]);rfl),?_⟩);first|refine zX _ (fun _=>zAK rfl rfl) (fun _=>rfl) rfl (by first|exact fun _ _ _=>rfl|(intro G G' h;simp (decide:=true) only [h])) ?_|refine zX _ (fun _=>zy rfl rfl (by exact rfl)) (fun _=>rfl) rfl (by first|exact fun _ _ _=>rfl|(intro G G' h;simp (decide:=true) only [h])) ?_|(refine zAb rfl ?_;refine zX _ (fun _=>zAO rfl rfl) (fun _=>rfl) rfl (by first|exact fun _ _ _=>rfl|(intro G G' h;simp (decide:=true) only [h])) ?_)|refine zBI _ rfl (fun _=>rfl) rfl (fun _=>rfl) (fun _=>rfl) (fun _ _ _ q=>zB3 _ _ _) (by first|exact fun _ _ _=>rfl|(intro G G' h;simp (decide:=true) only [h])) ?_|refine zX _ (fun _=>zDg rfl rfl rfl (IntWalk.i64_in _ (by (try dsimp only);omega))) (fun _=>rfl) rfl (by exact fun _ _ _=>rfl) ?_|refine zX _ (fun _=>zAi rfl rfl) (fun _=>rfl) rfl (by first|exact fun _ _ _=>rfl|(intro G G' h;simp (decide:=true) only [h])) ?_|refine zX _ (fun _=>e_min rfl rfl rfl) (fun _=>rfl) rfl (by first|exact fun _ _ _=>rfl|(intro G G' h;simp (decide:=true) only [h])) ?_)|((with_reducible refine zBa ?_ ?_);(· exact rfl))))
  intro G
  simp only [regsT,List.nil_append,List.cons_append]
  refine zB5 (H':=[.arr zAJ 3 gb (L.set i ⟨⟨zl,zh⟩,sn⟩),.arr zp 5 gh hq,.sl zAt 9 A3 c.t,.blk b6 (zH c A3 m3 (some ⟨gb,0,none⟩) m6 (some ⟨gh,0,none⟩) m9),.blk b1 (zH c A ca B cb C cc)]) (fun _ h=>h) ?_
  unfold zH
  refine zBw (enc:=zAJ) (k:=3) (i:=i) (j:=0) (z:=⟨⟨zl,zh⟩,sn⟩) ⟨⟨min 2000 (zl+x2 % 40),min 2000 (zh+x2 % 40)⟩,sn⟩ rfl rfl rfl rfl rfl rfl rfl rfl (by decide) ?_
  rw [List.set_set,← hpl,← hph,hu2]
  (repeat' (first|((with_reducible refine zG ?_);first|refine zE rfl rfl rfl rfl rfl ?_|refine zj rfl rfl rfl rfl rfl rfl (by omega) ?_)|(with_reducible first|refine zB ?_|refine zD ?_|refine zA ?_|refine zk ?_)))
  exact zc (ι:=Nat) (i+1) (by omega) (by omega) (by (first|exact lK1|(repeat (first|exact lK1|(refine zL rfl ?_))))) (by (repeat (first|exact oK1 _|(refine oK2 (by (repeat (first|exact tK1 _ _|apply tK2))) ?_))))
 obtain rfl:i=c.beds.length:=by omega
 rw [ebs]
 subst ehq
 clear hup huz hug hul hCh hci hT
 have hd0:=more_err (ch:=ch) h0
 have hds:=zPb (ch:=ch) hs
 obtain ⟨hea,hdf⟩:=zJP (ch:=ch) hf
 have hyo:=zGh (ch:=ch) (f:=60) hf
 have hyl:(zZ c ch 60).length=c.hours.length:=zBQ
 have hyr:∀ r∈zZ c ch 60,r.length≤20:=fun r hr=>Nat.le_trans (zEv r hr) h4
 have hDr:=fun W (hW:Below w.heap.size w W)=>zHg c A ca B cb C cc ch D cd 60 W (hc.below hW) hs (hD.below hW) hfu (by omega)
 have hek:=zC7 h0 hyo
 have hek2:=zC7 hd0 (zLR hea hf hdf hyo)
 have hsle:=zNu hea hf hdf (pl:=zm (zZ c ch 60)) hek hek2
 have hSc:=fun W (hW:Below w.heap.size w W) P cp hp=>zFJ c A ca B cb C cc (zZ c ch 60) P cp W (hc.below hW) hs hp (by omega) hyr (hG.below hW)
 have hSd:=fun W P cp hC hp (hG2:InC W 0 0 zB7)=>zFJ (zBy c ch) A3 m3 (some ⟨gb,0,none⟩) m6 (some ⟨gh,0,none⟩) m9 (zZ c ch 60) P cp W hC hds hp (by omega) hyr hG2
 have hNc:=fun W (hW:Below w.heap.size w W)=>zEY c A ca B cb C cc W (hc.below hW) hs (hG.below hW)
 have hNd:=fun W hC (hG2:InC W 0 0 zB7)=>zEY (zBy c ch) A3 m3 (some ⟨gb,0,none⟩) m6 (some ⟨gh,0,none⟩) m9 W hC hds hG2
 have hPc:=fun W (hW:Below w.heap.size w W)=>zEX c A ca B cb C cc W (hc.below hW) hs (hG.below hW)
 have hPd:=fun W hC (hG2:InC W 0 0 zB7)=>zEX (zBy c ch) A3 m3 (some ⟨gb,0,none⟩) m6 (some ⟨gh,0,none⟩) m9 W hC hds hG2
 obtain ⟨n1,n2,n3,n4,n5⟩:=zM6 hea hf hdf h0 hd0
 have he12:(zAy c).2=0→(zAy (zBy c ch)).2=0:=fun h=>by
  cases hcan:zDG (zA2 c) (zC6 c) (zAp c) with
  | false=>rw [zF4 h0 hcan] at h;cases h
  | true=>rw [zD9 hd0 (zQA hea hf hdf hs hds hcan)]
 rw [hek] at hSc
 rw [hek2] at hSd
 rw [hyl] at hSc hSd
 rw [n1] at hNc
 rw [n2] at hNd
 generalize zBR c (zm (zZ c ch 60))=s1 at *
 generalize zBR (zBy c ch) (zm (zZ c ch 60))=s2 at *
 generalize (zDm c).1=nc at *
 generalize (zDm (zBy c ch)).1=nd at *
 generalize (zAy c).2=e1 at *
 generalize (zAy (zBy c ch)).2=e2 at *
 have dt:(zBy c ch).t=c.t:=rfl
 have dw:(zBy c ch).wear=c.wear:=rfl
 have dl:(zBy c ch).layer=c.layer:=rfl
 have dr:(zBy c ch).rate=c.rate:=rfl
 have dm:(zBy c ch).limit=c.limit:=rfl
 have db:(zBy c ch).base=c.base:=rfl
 simp only [zAI,zH,lbs,lhs,dt,dw,dl,dr,dm,db] at hSd hNd hPd
 simp only [zAI,zH] at hSc hNc hPc hDr
 (repeat' (first|((with_reducible refine zG ?_);first|refine zE rfl rfl rfl rfl rfl ?_|refine zC rfl rfl rfl rfl rfl ?_|(refine zK rfl rfl rfl rfl rfl ?_;refine ⟨_,rfl,?_⟩)|refine zAf rfl rfl rfl rfl rfl rfl ?_|refine zAT rfl rfl rfl ?_|(refine zQ rfl rfl rfl rfl rfl rfl rfl (fun h=>?_) (fun h=>?_)<;>(dsimp only [cmpP] at h;(try (exfalso;omega))))|(refine zAG rfl rfl rfl rfl rfl rfl (fun _ _ q=>hDr _ q.below) ?_;rintro ⟨pg,pn,P,cp⟩ -;dsimp only [List.cons_append,List.nil_append])|refine zS rfl rfl rfl rfl rfl rfl (fun _ _ q=>hSc _ q.below _ _ (zBJ q.own (by (repeat (first|exact tK1 _ _|apply tK2))))) ?_|refine zS rfl rfl rfl rfl rfl rfl (fun _ _ q=>hSd _ _ _ ⟨(zAL q.own (Below.refl _ _)),zEK (q.own.here (.arr zAJ 3 gb (zBy c ch).beds) (Take.mem (by (repeat (first|exact tK1 _ _|apply tK2))))),zEK (q.own.here (.arr zp 5 gh (zBy c ch).hours) (Take.mem (by (repeat (first|exact tK1 _ _|apply tK2)))))⟩ (zBJ q.own (by (repeat (first|exact tK1 _ _|apply tK2)))) (hG.below q.below)) ?_|(refine zCE rfl rfl rfl rfl rfl rfl (fun _ _ q=>hNc _ q.below) (fun N1 nc1=>?_))|(refine zCE rfl rfl rfl rfl rfl rfl (fun _ _ q=>hNd _ ⟨(zAL q.own (Below.refl _ _)),zEK (q.own.here (.arr zAJ 3 gb (zBy c ch).beds) (Take.mem (by (repeat (first|exact tK1 _ _|apply tK2))))),zEK (q.own.here (.arr zp 5 gh (zBy c ch).hours) (Take.mem (by (repeat (first|exact tK1 _ _|apply tK2)))))⟩ (hG.below q.below)) (fun N2 nc2=>?_))|(refine zAG rfl rfl rfl rfl rfl rfl (fun _ _ q=>hPc _ q.below) ?_;rintro ⟨⟨P1,pc1⟩,pl1⟩ -;dsimp only [List.cons_append,List.nil_append])|(refine zAG rfl rfl rfl rfl rfl rfl (fun _ _ q=>hPd _ ⟨(zAL q.own (Below.refl _ _)),zEK (q.own.here (.arr zAJ 3 gb (zBy c ch).beds) (Take.mem (by (repeat (first|exact tK1 _ _|apply tK2))))),zEK (q.own.here (.arr zp 5 gh (zBy c ch).hours) (Take.mem (by (repeat (first|exact tK1 _ _|apply tK2)))))⟩ (hG.below q.below)) ?_;rintro ⟨⟨P2,pc2⟩,pl2⟩ -;dsimp only [List.cons_append,List.nil_append])|refine zg rfl rfl rfl rfl rfl rfl ?_|refine zr rfl rfl rfl rfl rfl ?_)|(with_reducible first|refine zI ?_|refine zB ?_|refine zD ?_|refine zA ?_|refine zP ?_|refine zN ?_|refine zn ?_|refine zR ?_|refine zY ?_)|((with_reducible refine zF ?_ ?_);(· exact rfl))))
 all_goals
  refine zu (ι:=Nat) [5,17,19,219] rfl (fun i=>i≤c.beds.length) (fun i=>[(220,.int .i64 (i:Int))]) (fun i=>[.sl encI 1 N1 nc,.sl encI 1 N2 nd]) (fun i=>c.beds.length - i) 0 (Nat.zero_le _) (by (first|exact lK1|(repeat (first|exact lK1|(refine zL rfl ?_))))) (by (repeat (first|exact oK1 _|(refine oK2 (by (repeat (first|exact tK1 _ _|apply tK2))) ?_)))) ?_
  rintro i hi
  simp only [zAq,List.cons_append,List.nil_append]
  by_cases hil:i<c.beds.length
  ·have hxy:=n5 i hil
   obtain ⟨x,hx⟩:∃ x,nc[i]?=some x:=⟨_,List.getElem?_eq_getElem (by omega)⟩
   obtain ⟨y,hy⟩:∃ y,nd[i]?=some y:=⟨_,List.getElem?_eq_getElem (by omega)⟩
   rw [zAW hx,zAW hy] at hxy
   have:zAR nc i x:=⟨hx⟩
   have:zAR nd i y:=⟨hy⟩
   refine zEb (enc:=encI) (A:=N1) (xs:=nc) (by (repeat (first|exact tK1 _ _|apply tK2))) (by omega) ?_
   rintro bn on rfl
   refine zEb (enc:=encI) (A:=N2) (xs:=nd) (by (repeat (first|exact tK1 _ _|apply tK2))) (by omega) ?_
   rintro bm om rfl
   (repeat' (first|((with_reducible refine zG ?_);first|refine zE rfl rfl rfl rfl rfl ?_|refine zC rfl rfl rfl rfl rfl ?_|(refine zQ rfl rfl rfl rfl rfl rfl rfl (fun h=>?_) (fun h=>?_)<;>(dsimp only [cmpP] at h;(try (exfalso;omega)))))|(with_reducible first|refine zI ?_|refine zB ?_|refine zD ?_|refine zA ?_|refine zP ?_|refine zN ?_)|((with_reducible refine zJ ?_ ?_);(· exact rfl))))
   (refine zAv (by kernel_rfl) (by kernel_rfl) (by kernel_rfl) ?_)
   (repeat' (first|((with_reducible refine zBH ?_);first|refine zW (zAK rfl rfl) rfl rfl rfl ?_|refine zW (zy rfl rfl (by exact rfl)) rfl rfl rfl ?_|(refine zCj rfl rfl rfl rfl rfl rfl rfl (fun h=>?_) (fun h=>?_)<;>(dsimp only [cmpP] at h;(try (exfalso;omega))))|refine zW (zAS (I:=i) rfl rfl rfl (by omega) (by first|omega|(dsimp only;omega))) rfl rfl rfl ?_)|(with_reducible refine zBs ?_)))
   (repeat' (first|((with_reducible refine zG ?_);first|refine zE rfl rfl rfl rfl rfl ?_|refine zj rfl rfl rfl rfl rfl rfl (by omega) ?_)|(with_reducible first|refine zB ?_|refine zD ?_|refine zA ?_|refine zP ?_|refine zk ?_)|((with_reducible refine zF ?_ ?_);(· exact rfl))))
   exact zc (ι:=Nat) (i+1) (by omega) (by omega) (by (first|exact lK1|(repeat (first|exact lK1|(refine zL rfl ?_))))) (by (repeat (first|exact oK1 _|(refine oK2 (by (repeat (first|exact tK1 _ _|apply tK2))) ?_))))
  ·obtain rfl:i=c.beds.length:=by omega
   (repeat' (first|((with_reducible refine zG ?_);first|refine zE rfl rfl rfl rfl rfl ?_|refine zC rfl rfl rfl rfl rfl ?_|(refine zQ rfl rfl rfl rfl rfl rfl rfl (fun h=>?_) (fun h=>?_)<;>(dsimp only [cmpP] at h;(try (exfalso;omega)))))|(with_reducible first|refine zI ?_|refine zB ?_|refine zD ?_|refine zA ?_|refine zb ?_|refine zn ?_|refine zR ?_|refine zY ?_)|((with_reducible refine zF ?_ ?_);(· exact rfl))))
   exact zT (by (exact zO.cons (by exact zq.tmp rfl) zO.nil)) () trivial rfl (fun _ _=>Own.nil _ _)
end Go.Proofs.YtdigopgncfhiaaaGreatDoor.Two
