/- B27 -/
import Derived.Test.YtdigopgncfhiaaaGreatDoorB1
import Derived.Test.YtdigopgncfhiaaaGreatDoorB8
import Derived.Test.YtdigopgncfhiaaaGreatDoorB26
import Derived.Test.YtdigopgncfhiaaaGreatDoorB18
import Derived.Test.YtdigopgncfhiaaaGreatDoorB19
import Derived.Test.YtdigopgncfhiaaaGreatDoorB10
import Derived.Test.YtdigopgncfhiaaaGreatDoorB14
set_option linter.unusedSimpArgs false
set_option linter.unusedVariables false
namespace Go.Proofs.YtdigopgncfhiaaaGreatDoor
variable {ro : Option Nat}
open Go.RowKit
set_option maxRecDepth 20000
def zKn (ch:List Int):Prop:=∀ x∈ch,0≤x∧x≤4294967295
def chW (ch:List Int) (i:Nat):Int:=ch.getD (i % ch.length) 0
instance encI_u : zCQ zHx 1:=⟨fun _=>rfl,fun x=>by simp [zHx,Value.oneCell']⟩
theorem zPN {ch:List Int} (h:zKn ch) (i:Nat):0≤chW ch i∧chW ch i≤4294967295:=by
 unfold chW
 rw [List.getD_eq_getElem?_getD]
 cases hg:ch[i % ch.length]? with
 | none=>simp
 | some x=>exact h x (List.mem_of_getElem? hg)
theorem zGJ (ch:List Int) (C:Option Addr) (cc:Nat) (x:Int) (i:Nat) (w:World) (hk:zAB zHx 1 w C ch) (hf:zKn ch) (hx:x=i):Gv Tryz.prog 35 [.slice C ch.length cc,.int .i64 x] w (.int .i64 (chW ch i)):=by
 subst hx
 unfold Gv
 by_cases h0:ch.length=0
 ·obtain rfl:=List.eq_nil_of_length_eq_zero h0
  (refine zM (n:=16) Tryz.func35 rfl rfl rfl ?_)
  (repeat' (first|((with_reducible refine zG ?_);first|refine zE rfl rfl rfl rfl rfl ?_|refine zC rfl rfl rfl rfl rfl ?_|(refine zQ rfl rfl rfl rfl rfl rfl rfl (fun h=>?_) (fun h=>?_)<;>(dsimp only [cmpP] at h;(try (exfalso;omega))))|refine zp rfl rfl rfl rfl rfl ?_)|(with_reducible first|refine zI ?_|refine zB ?_|refine zD ?_|refine zA ?_|refine za ?_|refine zb ?_)|((with_reducible refine zJ ?_ ?_);(· exact rfl))))
  exact zU zRZ () trivial rfl (fun _ _=>Own.nil _ _)
 ·obtain ⟨I,hI⟩:∃ I,I=i % ch.length:=⟨_,rfl⟩
  have hlt:I<ch.length:=by rw [hI];exact Nat.mod_lt i zRU
  have hI2:(i:Int) % (ch.length:Int)=(I:Int):=by rw [hI];exact (Int.natCast_emod _ _).symm
  obtain ⟨b,o,rfl,_⟩:=hk.at_ hlt
  have:InS w b o zHx 1 ch:=⟨hk⟩
  have hg:zAP ch I ch[I]:=⟨by simp [hlt]⟩
  have hb:=hf _ (List.getElem_mem hlt)
  have e:chW ch i=ch[I]:=by simp [chW,← hI,hlt]
  rw [e]
  generalize ch[I]=z at *
  (refine zM (n:=16) Tryz.func35 rfl rfl rfl ?_)
  (repeat' (first|((with_reducible refine zG ?_);first|refine zE rfl rfl rfl rfl rfl ?_|refine zC rfl rfl rfl rfl rfl ?_|(refine zK rfl rfl rfl rfl rfl ?_;refine ⟨_,rfl,?_⟩)|(refine zQ rfl rfl rfl rfl rfl rfl rfl (fun h=>?_) (fun h=>?_)<;>(dsimp only [cmpP] at h;(try (exfalso;omega))))|refine ze (I:=I) rfl rfl rfl rfl rfl rfl hI2 hlt ?_|refine zp rfl rfl rfl rfl rfl ?_|refine zK9 rfl rfl rfl rfl rfl (IntWalk.i64_in _ zRU) ?_|refine u_rem rfl rfl rfl rfl rfl rfl zRU zRU ?_)|(with_reducible first|refine zI ?_|refine zB ?_|refine zD ?_|refine zA ?_|refine za ?_|refine zP ?_)|((with_reducible refine zF ?_ ?_);(· exact rfl))))
  exact zU zRZ () trivial rfl (fun _ _=>Own.nil _ _)
def drawnR (ch:List Int) (f h:Nat) (u:Hour):Nat→List Int
 | 0=>[]
 | i+1=>if u.cold && (decide (((drawnR ch f h u i).length:Int)<u.crew) && decide (0<chW ch (f+13 * h+i) % 3)) then drawnR ch f h u i++[(i:Int)] else drawnR ch f h u i
def zu (c:Cov) (ch:List Int) (f:Nat):List (List Int):=(List.range c.hours.length).map fun h=>drawnR ch f h (c.hours.getD h default) c.beds.length
theorem zBT {c:Cov} {ch:List Int} {f:Nat}:(zu c ch f).length=c.hours.length:=by simp [zu]
theorem zHN {ch:List Int} {f h:Nat} {u:Hour}:∀ i,(drawnR ch f h u i).length≤i
 | 0=>by simp [drawnR]
 | i+1=>by
  have:=zHN (ch:=ch) (f:=f) (h:=h) (u:=u) i
  unfold drawnR;split
  ·simp;omega
  ·omega
theorem zFq {c:Cov} {ch:List Int} {f:Nat}:∀ r∈zu c ch f,r.length≤c.beds.length:=fun r hr=>by
 obtain ⟨h,_,rfl⟩:=List.mem_map.1 hr
 exact zHN _
def zEY (c:Cov) (ch:List Int) (f h:Nat):List (List Int):=(zu c ch f).take h++List.replicate (c.hours.length - h) []
theorem zOK {c:Cov} {ch:List Int} {f:Nat}:zEY c ch f 0=List.replicate c.hours.length []:=by simp [zEY]
theorem zPH {c:Cov} {ch:List Int} {f:Nat}:zEY c ch f c.hours.length=zu c ch f:=by
 simp [zEY,List.take_of_length_le,zBT]
theorem zRF {c:Cov} {ch:List Int} {f h:Nat} (hh:h<c.hours.length):(zEY c ch f h)[h]?=some []:=by
 unfold zEY
 rw [List.getElem?_append_right (by simp [zBT];omega),List.length_take,zBT,Nat.min_eq_left zRU,Nat.sub_self,List.getElem?_replicate,if_pos zRU]
theorem zPG {c:Cov} {ch:List Int} {f h:Nat} (hh:h<c.hours.length):(zEY c ch f h).set h (drawnR ch f h (c.hours.getD h default) c.beds.length)=zEY c ch f (h+1):=by
 unfold zEY
 rw [List.set_append_right _ _ (by simp [zBT];omega),List.length_take,zBT,Nat.min_eq_left zRU,Nat.sub_self]
 rw [show c.hours.length - h=(c.hours.length - (h+1))+1 by omega,List.replicate_succ,List.set_cons_zero,List.take_add_one]
 have e:(zu c ch f)[h]?=some (drawnR ch f h (c.hours.getD h default) c.beds.length):=by
  unfold zu
  rw [List.getElem?_map,List.getElem?_range hh];rfl
 rw [e]
 simp
set_option maxHeartbeats 8000000 in
theorem zKG (c:Cov) (A:Option Addr) (ca:Nat) (B:Option Addr) (cb:Nat) (C:Option Addr) (cc:Nat) (ch:List Int) (D:Option Addr) (cd f:Nat) (w:World) (hc:zAl w c A B C) (hs:Small c) (hD:zAB zHx 1 w D ch) (hf:zKn ch) (hff:f≤1000) :
  Ret Tryz.prog 17 [zAQ c A ca B cb C cc,.slice D ch.length cd,.int .i64 (f:Int)] w (fun p:Nat × List (zAH Int)=>.slice (some ⟨p.1,0,none⟩) c.hours.length c.hours.length) (fun p=>[.zBV zAF (rowOf encI 1 3) p.1 p.2]) (fun p=>p.2.map (·.xs)=zu c ch f):=by
 have h4:=hs.b;have h5:=hs.h
 have hh:=hc.h
 have hCh:=fun W (hW:Below w.heap.size w W) x i (hx:x=((i:Nat):Int))=>zGJ ch D cd x i W (hD.below hW) hf hx
 unfold zAQ zH
 (refine zM (n:=71) Tryz.func17 rfl rfl rfl ?_)
 (repeat' (first|((with_reducible refine zG ?_);first|refine zE rfl rfl rfl rfl rfl ?_|refine zC rfl rfl rfl rfl rfl ?_|(refine zK rfl rfl rfl rfl rfl ?_;refine ⟨_,rfl,?_⟩)|refine zd rfl rfl rfl rfl rfl ?_|refine zMF rfl rfl rfl rfl rfl rfl rfl rfl rfl rfl rfl zRU (fun go=>?_)|refine zp rfl rfl rfl rfl rfl ?_|(refine zAI rfl rfl rfl rfl rfl rfl (fun b=>?_)))|(with_reducible first|refine zI ?_|refine zB ?_|refine zD ?_|refine zA ?_|refine zN ?_)))
 obtain ⟨b1,hb1⟩:∃ b1,b1=b:=⟨_,rfl⟩
 subst hb1
 refine zJW (enc:=encI) (k:=1) (e:=3) (Take.here _ _) ?_
 refine zq (ι:=Nat × List (zAH Int)) [1,2,3,7,16] rfl (fun p=>p.1≤c.hours.length∧p.2.map (·.xs)=zEY c ch f p.1) (fun p=>[(17,.int .i64 (p.1:Int))]) (fun p=>[.zBV zAF (rowOf encI 1 3) go p.2,.blk b1 (zH c A ca B cb C cc)]) (fun p=>c.hours.length - p.1) (0,List.replicate c.hours.length zBH) ⟨Nat.zero_le _,by simp [zOK,zBH]⟩ zRS zRQ ?_
 rintro ⟨y,L⟩ ⟨hy,hL⟩
 simp only at hy hL
 simp only [zAn,zH,List.cons_append,List.nil_append]
 by_cases hyl:y<c.hours.length
 ·obtain ⟨u,hu⟩:∃ u,c.hours[y]?=some u:=⟨_,List.getElem?_eq_getElem hyl⟩
  obtain ⟨bc,oc,rfl,_,_⟩:=hh.at_ hyl
  have:InS w bc oc zw 5 c.hours:=⟨hh⟩
  have:zAP c.hours y u:=⟨hu⟩
  have hLl:L.length=c.hours.length:=by have:=congrArg List.length hL;simp [zEY,zBT] at this;omega
  obtain ⟨s0,hs0⟩:∃ s,L[y]?=some s:=⟨_,List.getElem?_eq_getElem zRU⟩
  have hx0:s0.xs=[]:=by
   have h1:=zRF (c:=c) (ch:=ch) (f:=f) hyl
   rw [← hL,List.getElem?_map,hs0] at h1
   exact Option.some.inj h1
  (repeat' (first|((with_reducible refine zG ?_);first|refine zE rfl rfl rfl rfl rfl ?_|refine zC rfl rfl rfl rfl rfl ?_|(refine zK rfl rfl rfl rfl rfl ?_;refine ⟨_,rfl,?_⟩)|refine zd rfl rfl rfl rfl rfl ?_|(refine zQ rfl rfl rfl rfl rfl rfl rfl (fun h=>?_) (fun h=>?_)<;>(dsimp only [cmpP] at h;(try (exfalso;omega))))|refine zp rfl rfl rfl rfl rfl ?_)|(with_reducible first|refine zI ?_|refine zB ?_|refine zD ?_|refine zA ?_|refine zP ?_|refine zN ?_)|((with_reducible refine zJ ?_ ?_);(· exact rfl))))
  refine zC9 y hs0 zRT ?_
  refine zq (ι:=Nat × zAH Int) [1,2,3,7,8,16,17,22] rfl (fun p=>p.1≤c.beds.length∧p.2.xs=drawnR ch f y u p.1) (fun p=>[(23,.int .i64 (p.1:Int))]) (fun p=>[.arr zAF 1 go (L.set y p.2),rowOf encI 1 3 p.2,.all ((L.eraseIdx y).map (rowOf encI 1 3)),.blk b1 (zH c A ca B cb (some ⟨bc,oc,none⟩) cc)]) (fun p=>c.beds.length - p.1) (0,s0) ⟨Nat.zero_le _,by rw [hx0];rfl⟩ zRS zRQ ?_
  rintro ⟨i,sA,sx,sc⟩ ⟨hi,hsx⟩
  simp only at hi hsx
  simp only [zAn,zH,rowOf,List.cons_append,List.nil_append]
  by_cases hil:i<c.beds.length
  ·have hl:=zHN (ch:=ch) (f:=f) (h:=y) (u:=u) i
   have:zAP (L.set y ⟨sA,sx,sc⟩) y ⟨sA,sx,sc⟩:=⟨List.getElem?_set_self zRU⟩
   have e1:drawnR ch f y u (i+1)=if u.cold && (decide ((sx.length:Int)<u.crew) && decide (0<chW ch (f+13 * y+i) % 3)) then sx++[(i:Int)] else sx:=by rw [hsx];rfl
   rw [← hsx] at hl
   have hc1:=zPN hf (f+13 * y+i)
   have hc2:=fun W (hW:Below w.heap.size w W)=>hCh W hW ((f:Int)+13 * (y:Int)+(i:Int)) (f+13 * y+i) zRU
   generalize chW ch (f+13 * y+i)=z at *
   obtain ⟨um,ur,uc,ud⟩:=u
   simp only at e1
   (repeat' (first|((with_reducible refine zG ?_);first|refine zE rfl rfl rfl rfl rfl ?_|refine zC rfl rfl rfl rfl rfl ?_|(refine zQ rfl rfl rfl rfl rfl rfl rfl (fun h=>?_) (fun h=>?_)<;>(dsimp only [cmpP] at h;(try (exfalso;omega)))))|(with_reducible first|refine zI ?_|refine zB ?_|refine zD ?_|refine zA ?_|refine zP ?_|refine zN ?_)|((with_reducible refine zJ ?_ ?_);(· exact rfl))))
   cases ud with
   | false =>
    simp only [Bool.false_and,Bool.false_eq_true,if_false] at e1
    (refine zAr zRW zRW zRW ?_)
    (repeat' (first|((with_reducible refine zBD ?_);first|refine zW (zAM rfl rfl) rfl rfl rfl ?_|refine zW (zy rfl rfl zRe) rfl rfl rfl ?_|refine zW (zAJ rfl rfl) rfl rfl rfl ?_|refine zW (zCA rfl rfl rfl) rfl rfl rfl ?_|refine zA9 rfl rfl rfl ?_|refine zW (zAO (I:=y) rfl rfl rfl zRU zRj) rfl rfl rfl ?_)|(with_reducible refine zBw ?_)))
    (repeat' (first|((with_reducible refine zG ?_);first|refine zE rfl rfl rfl rfl rfl ?_|refine zg rfl rfl rfl rfl rfl rfl zRU ?_)|(with_reducible first|refine zB ?_|refine zD ?_|refine zA ?_|refine zP ?_|refine zi ?_)|((with_reducible refine zF ?_ ?_);(· exact rfl))))
    exact zc (ι:=Nat × zAH Int) (i+1,⟨sA,sx,sc⟩) (by exact ⟨by simp only;omega,e1.symm⟩) zRi zRS zRQ
   | true =>
    simp only [Bool.true_and] at e1
    (refine zAr zRW zRW zRW ?_)
    (repeat' (first|((with_reducible refine zBD ?_);first|refine zW (zAM rfl rfl) rfl rfl rfl ?_|refine zW (zy rfl rfl zRe) rfl rfl rfl ?_|refine zW (zAJ rfl rfl) rfl rfl rfl ?_|refine zW (zCA rfl rfl rfl) rfl rfl rfl ?_|refine zA9 rfl rfl rfl ?_|(refine zCu rfl rfl rfl rfl rfl rfl rfl (fun h=>?_) (fun h=>?_)<;>(dsimp only [cmpP] at h;(try (exfalso;omega))))|refine zW (zAO (I:=y) rfl rfl rfl zRU zRj) rfl rfl rfl ?_|refine zDM rfl rfl rfl rfl rfl rfl (fun _ _ q=>hc2 _ q.below) ?_|refine zW (zDS rfl rfl rfl (IntWalk.i64_in _ zRU)) rfl rfl rfl ?_|refine zW (zGM rfl rfl rfl (IntWalk.i64_in _ zRU)) rfl rfl rfl ?_|refine zW (zDR rfl rfl) rfl rfl rfl ?_|refine zW (zI3 rfl rfl rfl zRU zRU) rfl rfl rfl ?_)|(with_reducible refine zBw ?_)))
    ·rw [if_pos (by simp only [Bool.and_eq_true,decide_eq_true_eq];omega)] at e1
     (repeat' (first|((with_reducible refine zG ?_);first|refine zE rfl rfl rfl rfl rfl ?_|(refine zK rfl rfl rfl rfl rfl ?_;refine ⟨_,rfl,?_⟩)|(refine zAq (enc:=encI) [_] rfl rfl rfl rfl rfl zRT rfl rfl (zAd zRe) zRc (fun A' c'=>?_))|refine zDG (hd:=zAF) (i:=y) (s:=⟨sA,sx,sc⟩) ⟨A',sx++[(i:Int)],c'⟩ rfl rfl rfl rfl rfl rfl zRT zRU ?_|refine zg rfl rfl rfl rfl rfl rfl zRU ?_|refine ze rfl rfl rfl rfl rfl rfl rfl zRU ?_|(refine zz rfl rfl rfl rfl rfl ?_;refine ⟨rfl,_,rfl,fun b=>?_⟩))|(with_reducible first|refine zB ?_|refine zD ?_|refine zA ?_|refine zi ?_)|((with_reducible refine zJ ?_ ?_);(· exact rfl))))
     exact zc (ι:=Nat × zAH Int) (i+1,⟨A',sx++[(i:Int)],c'⟩) (by exact ⟨by simp only;omega,e1.symm⟩) zRi zRS zRQ
    ·rw [if_neg (by simp only [Bool.and_eq_true,decide_eq_true_eq];omega)] at e1
     (repeat' (first|((with_reducible refine zG ?_);first|refine zE rfl rfl rfl rfl rfl ?_|refine zg rfl rfl rfl rfl rfl rfl zRU ?_)|(with_reducible first|refine zB ?_|refine zD ?_|refine zA ?_|refine zP ?_|refine zi ?_)|((with_reducible refine zF ?_ ?_);(· exact rfl))))
     exact zc (ι:=Nat × zAH Int) (i+1,⟨sA,sx,sc⟩) (by exact ⟨by simp only;omega,e1.symm⟩) zRi zRS zRQ
    ·rw [if_neg (by simp only [Bool.and_eq_true,decide_eq_true_eq];omega)] at e1
     (repeat' (first|((with_reducible refine zG ?_);first|refine zE rfl rfl rfl rfl rfl ?_|refine zg rfl rfl rfl rfl rfl rfl zRU ?_)|(with_reducible first|refine zB ?_|refine zD ?_|refine zA ?_|refine zP ?_|refine zi ?_)|((with_reducible refine zF ?_ ?_);(· exact rfl))))
     exact zc (ι:=Nat × zAH Int) (i+1,⟨sA,sx,sc⟩) (by exact ⟨by simp only;omega,e1.symm⟩) zRi zRS zRQ
  ·obtain rfl:i=c.beds.length:=by omega
   (repeat' (first|((with_reducible refine zG ?_);first|refine zE rfl rfl rfl rfl rfl ?_|(refine zQ rfl rfl rfl rfl rfl rfl rfl (fun h=>?_) (fun h=>?_)<;>(dsimp only [cmpP] at h;(try (exfalso;omega))))|refine zg rfl rfl rfl rfl rfl rfl zRU ?_)|(with_reducible first|refine zI ?_|refine zB ?_|refine zD ?_|refine zA ?_|refine zk ?_|refine zi ?_|refine zR ?_|refine zY ?_)|((with_reducible refine zF ?_ ?_);(· exact rfl))))
   refine zC8 y (re:=rowOf encI 1 3) ⟨sA,sx,sc⟩ hs0 zRT zRT zRT ?_
   refine zc (ι:=Nat × List (zAH Int)) (y+1,L.set y ⟨sA,sx,sc⟩) ⟨by simp only;omega,?_⟩ zRi zRS zRQ
   simp only
   rw [List.map_set,hL,hsx,← zPG hyl,zAS hu]
 ·obtain rfl:y=c.hours.length:=by omega
  (repeat' (first|((with_reducible refine zG ?_);first|refine zE rfl rfl rfl rfl rfl ?_|refine zC rfl rfl rfl rfl rfl ?_|(refine zQ rfl rfl rfl rfl rfl rfl rfl (fun h=>?_) (fun h=>?_)<;>(dsimp only [cmpP] at h;(try (exfalso;omega)))))|(with_reducible first|refine zI ?_|refine zB ?_|refine zD ?_|refine zA ?_|refine za ?_|refine zk ?_|refine zR ?_|refine zY ?_)|((with_reducible refine zF ?_ ?_);(· exact rfl))))
  exact zU zRZ (go,L) (by rw [hL,zPH]) rfl (fun _ h=>h.sub zRQ)
theorem zHK (c:Cov) (A:Option Addr) (ca:Nat) (B:Option Addr) (cb:Nat) (C:Option Addr) (cc:Nat) (ch:List Int) (D:Option Addr) (cd f:Nat) (w:World) (hc:zAl w c A B C) (hs:Small c) (hD:zAB zHx 1 w D ch) (hf:zKn ch) (hff:f≤1000) :
  Ret Tryz.prog 17 [zAQ c A ca B cb C cc,.slice D ch.length cd,.int .i64 (f:Int)] w (fun z:Nat × Nat × Option Addr × Nat=>.slice z.2.2.1 c.hours.length z.2.2.2) (fun z=>[.zEO z.1 z.2.1 z.2.2.1 (zu c ch f)]) (fun _=>True):=by
 have h1:Ret Tryz.prog 17 [zAQ c A ca B cb C cc,.slice D ch.length cd,.int .i64 (f:Int)] w (fun p:(Option Addr × Nat) × List Sli=>.slice p.1.1 p.2.length p.1.2) (fun p=>[.sl zAA 1 p.1.1 p.2,.rows p.2]) (fun p=>p.2.map Sli.xs=zu c ch f):=by
  refine (zKG c A ca B cb C cc ch D cd f w hc hs hD hf hff).conv fun p hp=>⟨((some ⟨p.1,0,none⟩,c.hours.length),p.2.map zAH.sli),by simp only;rw [zMO];exact hp,?_,fun w'=>zHg⟩
  have:p.2.length=c.hours.length:=by have:=congrArg List.length hp;rw [zBT] at this;simpa using this
  simp only [List.length_map,this]
 have h2:=Ret.zEO (V:=fun v=>v) h1
 simp only [zBT] at h2
 exact h2
theorem zLx {ch:List Int} {f h:Nat} {u:Hour} (hu:0≤u.crew):∀ i,((drawnR ch f h u i).length:Int)≤u.crew∧(drawnR ch f h u i=[]∨u.cold=true)∧(∀ x∈drawnR ch f h u i,0≤x∧x<i)∧(drawnR ch f h u i).Pairwise (· < ·)
 | 0=>by simp [drawnR,hu]
 | i+1=>by
  obtain ⟨h1,h2,h3,h4⟩:=zLx (ch:=ch) (f:=f) (h:=h) (u:=u) hu i
  unfold drawnR
  split
  ·rename_i hc
   simp only [Bool.and_eq_true,decide_eq_true_eq] at hc
   refine ⟨by simp;omega,.inr hc.1,fun x hx=>?_,?_⟩
   ·rcases List.mem_append.1 hx with hx|hx
    ·have:=h3 x hx;omega
    ·simp only [List.mem_singleton] at hx;subst hx;omega
   ·rw [List.pairwise_append]
    refine ⟨h4,List.pairwise_singleton _ _,fun x hx y hy=>?_⟩
    simp only [List.mem_singleton] at hy;subst hy
    exact (h3 x hx).2
  ·exact ⟨h1,h2,fun x hx=>by have:=h3 x hx;omega,h4⟩
theorem zHy {c:Cov} {ch:List Int} {f:Nat} (hf:zBm c):zA2 c (zAC (zu c ch f))=true:=by
 refine zAj.2 ⟨by simp [zAC,zBT],fun i u s hu hs=>?_⟩
 have hi:=(List.getElem?_eq_some_iff.1 hu).1
 have e:s.xs=drawnR ch f i u c.beds.length:=by
  unfold zAC zu at hs
  rw [List.map_map,List.getElem?_map,List.getElem?_range hi] at hs
  simp only [Option.map_some,Function.comp_apply,Option.some.injEq] at hs
  rw [← hs,zAS hu]
 have hcr:=hf.hour u (List.mem_of_getElem? hu)
 simp only [zBR,Bool.and_eq_true,zx] at hcr
 obtain ⟨h1,h2,h3,h4⟩:=zLx (ch:=ch) (f:=f) (h:=i) (u:=u) zRU c.beds.length
 unfold zDL
 rw [e]
 simp only [Bool.and_eq_true,Bool.or_eq_true,decide_eq_true_eq,List.all_eq_true,zx]
 refine ⟨⟨⟨h1,?_⟩,fun x hx=>by have:=h3 x hx;omega⟩,zCf.2 fun k hk=>?_⟩
 ·rcases h2 with h2|h2
  ·exact .inl (by rw [h2];rfl)
  ·exact .inr h2
 ·rw [Flow.zm zRU,Flow.zm hk]
  exact List.pairwise_iff_getElem.1 h4 k (k+1) zRU hk zRU
end Go.Proofs.YtdigopgncfhiaaaGreatDoor
namespace Go.Proofs.YtdigopgncfhiaaaGreatDoor
open Go.ChangeShapes Go.WideShapes Go.ChangeAt Go.RowKit
section
variable {H : Type} {enc:TypeId × Value→H} {w:World} {held:Bool}
set_option maxRecDepth 20000 in
theorem zDr {base:Nat} {r:Reach} {v:Value} {dd:DataW H} {p:List MemPlace} (hv:Value.okWide Tryz.prog w r base 31 v) (h:DataW.Trod enc Tryz.prog w 0 (fun _=>true) held 31 v dd p) :
  ∃ (A:Option Addr) (l:List Int) (c:Nat),v = .slice A l.length c∧zAB zHx 1 w A l∧zKn l∧l.length≤c∧c≤maxLen:=by
 obtain ⟨a,len,cap,rfl⟩:=okWide_slice Tryz.underlying31 hv
 obtain ⟨fuel,hf⟩:=h
 obtain ⟨A,l,c,e0,hs,hfit,h1,h2⟩:=zHd (en:=zHx) (k:=1) (ok:=fun x=>0≤x∧x≤4294967295) Tryz.underlying31 zRW zRU (fun _=>rfl) (fun _ _ _ h=>rd_u32 Tryz.underlying80 h) hf
 simp [Value.cells] at e0
 obtain ⟨e1,e2,e3⟩:=e0
 exact ⟨A,l,c,by rw [e1,e2,e3],hs,hfit,h1,h2⟩
end
theorem zFU (os:Os) (args:Array Value):laidMetH Tryz.prog [("kreisel/ice.limits",Rows.laid_kreisel_ice_limits)] ((World.doorLaid Tryz.prog 600 os).forCall (fun _ _=>0) ⟨#[],args,[]⟩).memory :=
 laidMetH_of_parts3 (fuel:=8) (laidMet_of_run' 8 zRW zRW) zRW zRW
end Go.Proofs.YtdigopgncfhiaaaGreatDoor
namespace Go.Proofs.YtdigopgncfhiaaaGreatDoor
open Go.RowKit
open Flow (lackF sumL)
set_option maxRecDepth 20000
theorem zKB {nd nd':Nat→Int} {my my' sm sm':Nat→Bool}:∀ k,(∀ h,h<k→nd h=nd' h∧my h=my' h∧sm h=sm' h)→lackF nd my sm k=lackF nd' my' sm' k
 | 0,_=>rfl
 | k+1,h=>by
  have ih:=zKB (nd:=nd) (nd':=nd') (my:=my) (my':=my') (sm:=sm) (sm':=sm') k (fun i hi=>h i zRU)
  obtain ⟨h1,h2,h3⟩:=h k zRU
  simp only [lackF,ih,h1,h2,h3]
theorem zE8 {c:Cov} {i:Nat} (hi:i<c.beds.length) (j:Nat) (hj:j<c.hours.length):((zAu c).getD i []).getD j 0=(needG c (c.beds.getD i default) (j+1)).2:=by
 unfold zAu
 rw [getD_map (List.getElem?_eq_getElem hi),zAS (List.getElem?_eq_getElem hi)]
 unfold zBj
 rw [getD_map (List.getElem?_range hj)]
theorem zJK {c:Cov} {i:Nat} (hi:i<c.beds.length) (j:Nat):((zCs c).getD i []).getD j false=(c.hours.map (·.cold)).getD j false:=by
 unfold zCs
 rw [List.getD_eq_getElem?_getD (l:=List.replicate _ _),List.getElem?_replicate,if_pos hi];rfl
end Go.Proofs.YtdigopgncfhiaaaGreatDoor
namespace Go.Proofs.YtdigopgncfhiaaaGreatDoor
open Go.RowKit
open Flow (lackF zBl sumL)
section
variable {nd nd':Nat→Int} {my my' a b:Nat→Bool}
theorem zBx (k:Nat):zBl my a (k+1)=zBl my a k+(if my k && !a k then 1 else 0):=Flow.zAD _ k
theorem zKd : ∀ k,0≤zBl my a k
 | 0=>Int.le_refl _
 | k+1=>by have:=zKd k;rw [zBx];split<;>omega
theorem zL5 (h:∀ k,a k=true→b k=true):∀ k,zBl my b k≤zBl my a k
 | 0=>Int.le_refl _
 | k+1=>by
  have:=zL5 h k
  have hk:=h k
  rw [zBx,zBx]
  cases my k<;>cases ha:a k<;>cases hb:b k<;>simp_all<;>omega
theorem zKc (h1:Nat):∀ d,zBl my (fun k=>a k || b k) (h1+d)+zBl my (fun k=>a k && b k) h1≤zBl my a h1+zBl my b (h1+d)
 | 0=>by
  have key:∀ k,zBl my (fun k=>a k || b k) k+zBl my (fun k=>a k && b k) k=zBl my a k+zBl my b k:=by
   intro k
   induction k with
   | zero=>rfl
   | succ k ih =>
    rw [zBx,zBx,zBx,zBx]
    cases my k<;>cases a k<;>cases b k<;>simp<;>omega
  have:=key h1
  rw [Nat.add_zero];omega
 | d+1=>by
  have:=zKc h1 d
  rw [← Nat.add_assoc,zBx,zBx]
  cases my (h1+d)<;>cases a (h1+d)<;>cases b (h1+d)<;>simp<;>omega
theorem zDP {x:Int} {k:Nat} (h0:0≤x) (h:∀ j,j<k→nd j - zBl my a j≤x):(lackF nd my a k).1≤x:=by
 rcases Flow.zGH (nd:=nd) (my:=my) (sm:=a) k with e | ⟨j,hj,e⟩
 ·omega
 ·have:=h j hj;omega
theorem zKD {k:Nat} (h:∀ k,a k=true→b k=true):(lackF nd my a k).1≤(lackF nd my b k).1:=by
 refine zDP (Flow.zBJ k) fun j hj=>?_
 have h1:=Flow.zBr (nd:=nd) (my:=my) (sm:=b) k j hj
 have h2:=zL5 (my:=my) h j
 omega
theorem zQk {k:Nat}:(lackF nd my a k).1+(lackF nd my b k).1≤(lackF nd my (fun j=>a j || b j) k).1+(lackF nd my (fun j=>a j && b j) k).1:=by
 have p1:=Flow.zBJ (nd:=nd) (my:=my) (sm:=fun j=>a j && b j) k
 have g1:(lackF nd my a k).1≤(lackF nd my (fun j=>a j || b j) k).1:=zKD fun j h=>by simp [h]
 have g2:(lackF nd my b k).1≤(lackF nd my (fun j=>a j || b j) k).1:=zKD fun j h=>by simp [h]
 rcases Flow.zGH (nd:=nd) (my:=my) (sm:=a) k with e | ⟨i,hi,e⟩
 ·omega
 rcases Flow.zGH (nd:=nd) (my:=my) (sm:=b) k with e2 | ⟨j,hj,e2⟩
 ·omega
 rcases Nat.le_total i j with h|h
 ·have h1:=Flow.zBr (nd:=nd) (my:=my) (sm:=fun j=>a j || b j) k j hj
  have h2:=Flow.zBr (nd:=nd) (my:=my) (sm:=fun j=>a j && b j) k i hi
  have h3:=zKc (my:=my) (a:=a) (b:=b) i (j - i)
  rw [show i+(j - i)=j by omega] at h3
  omega
 ·have h1:=Flow.zBr (nd:=nd) (my:=my) (sm:=fun j=>a j || b j) k i hi
  have h2:=Flow.zBr (nd:=nd) (my:=my) (sm:=fun j=>a j && b j) k j hj
  have h3:=zKc (my:=my) (a:=b) (b:=a) j (i - j)
  have e3:(fun k=>b k || a k)=fun k=>a k || b k:=funext fun k=>Bool.or_comm _ _
  have e4:(fun k=>b k && a k)=fun k=>a k && b k:=funext fun k=>Bool.and_comm _ _
  rw [show j+(i - j)=i by omega,e3,e4] at h3
  omega
end
def zDO (nb nh:Nat) (nd:Nat→Nat→Int) (my:Nat→Nat→Bool) (hd:Nat→Int) (m:Nat→Bool):Int:=sumL (List.range nb) (fun i=>(lackF (nd i) (my i) m nh).1) - sumL (List.range nh) (fun h=>if m h then hd h else 0)
def zHO (nb nh:Nat) (nd:Nat→Nat→Int) (my:Nat→Nat→Bool) (hd:Nat→Int):Prop:=∀ m,zDO nb nh nd my hd m≤0
section
variable {nb nh:Nat} {nd nd':Nat→Nat→Int} {my my':Nat→Nat→Bool} {hd hd':Nat→Int} {a b:Nat→Bool}
theorem zOn (h:∀ k,k<nh→a k=b k):zDO nb nh nd my hd a=zDO nb nh nd my hd b:=by
 unfold zDO
 rw [zt nh (fun i hi=>by rw [h i hi])]
 congr 1
 refine zt nb fun i _=>?_
 cases nh with
 | zero=>rfl
 | succ k =>
  have e:=zKB (nd:=nd i) (nd':=nd i) (my:=my i) (my':=my i) (sm:=a) (sm':=b) (k+1) (fun j hj=>⟨rfl,rfl,h j hj⟩)
  rw [e]
theorem zNE {f g:Nat→Int} {i:Nat} (hi:i<nb) (h:∀ j,j<nb→f j+(if j=i then 1 else 0)≤g j):sumL (List.range nb) f+1≤sumL (List.range nb) g:=by
 have h1:sumL (List.range nb) (fun j=>f j+(if j=i then 1 else 0))≤sumL (List.range nb) g:=Flow.zAs fun j hj=>h j (List.mem_range.1 hj)
 rw [Flow.zBQ,Flow.zCp List.nodup_range (List.mem_range.2 hi)] at h1
 exact h1
theorem can_skip {i h:Nat} (hi:i<nb) (hh:h<nh) (hc:zHO nb nh nd my hd) (h0:∀ k,0≤hd k) (hno:my i h=false∨hd h≤0∨∀ k,k<nh→nd i k≤0):zHO nb nh nd (fun j k=>if j=i∧k=h then false else my j k) hd:=by
 rcases hno with hm|hm|hm
 ·have:(fun j k=>if j=i∧k=h then false else my j k)=my:=by
   funext j k
   by_cases e:j=i∧k=h
   ·rw [if_pos e,e.1,e.2,hm]
   ·rw [if_neg e]
  rw [this];exact hc
 ·intro m
  refine Int.le_trans ?_ (hc fun k=>m k || decide (k=h))
  have e1:sumL (List.range nh) (fun k=>if (m k || decide (k=h)) then hd k else 0)=sumL (List.range nh) (fun k=>if m k then hd k else 0):=zt nh fun k _=>by
   by_cases e:k=h
   ·subst e
    have:=h0 k
    have e2:hd k=0:=by omega
    simp [e2]
   ·simp [e]
  unfold zDO
  rw [e1]
  refine Int.sub_le_sub_right (Flow.zAs fun j _=>?_) _
  refine zDP (Flow.zBJ nh) fun k hk=>?_
  dsimp only
  have h1:=Flow.zBr (nd:=nd j) (my:=my j) (sm:=fun k=>m k || decide (k=h)) nh k hk
  have h2:zBl (my j) (fun k=>m k || decide (k=h)) k≤zBl (fun k=>if j=i∧k=h then false else my j k) m k:=by
   unfold zBl
   refine Flow.zAs fun q _=>?_
   by_cases e:q=h
   ·subst e;simp;split<;>omega
   ·simp [e]
  omega
 ·intro m
  refine Int.le_trans ?_ (hc m)
  unfold zDO
  refine Int.sub_le_sub_right (Flow.zAs fun j _=>?_) _
  by_cases e:j=i
  ·subst e
   refine zDP (Flow.zBJ nh) fun k hk=>?_
   dsimp only
   have h1:=hm k hk
   have h2:=zKd (my:=fun k=>if j=j∧k=h then false else my j k) (a:=m) k
   have h3:=Flow.zBJ (nd:=nd j) (my:=my j) (sm:=m) nh
   omega
  ·have:(fun k=>if j=i∧k=h then false else my j k)=my j:=by funext k;rw [if_neg (fun q=>e q.1)]
   dsimp only
   rw [this];exact Int.le_refl _
theorem can_else {i h:Nat} (hi:i<nb) (hh:h<nh) (hc:zHO nb nh nd my hd) (hno:¬ zHO nb nh (fun j k=>if j=i then max 0 (nd i k - 1) else nd j k) (fun j k=>if j=i∧k=h then false else my j k) (fun k=>if k=h then hd h - 1 else hd k)):zHO nb nh nd (fun j k=>if j=i∧k=h then false else my j k) hd:=by
 have hno:∃ m,0<zDO nb nh (fun j k=>if j=i then max 0 (nd i k - 1) else nd j k) (fun j k=>if j=i∧k=h then false else my j k) (fun k=>if k=h then hd h - 1 else hd k) m:=by
  rcases Classical.em (∃ m,0<zDO nb nh (fun j k=>if j=i then max 0 (nd i k - 1) else nd j k) (fun j k=>if j=i∧k=h then false else my j k) (fun k=>if k=h then hd h - 1 else hd k) m) with h1|h1
  ·exact h1
  ·exact absurd (fun m=>Int.not_lt.1 fun h2=>h1 ⟨m,h2⟩) hno
 obtain ⟨a,ha⟩:=hno
 have hrest:∀ j m,j≠i→(lackF (fun k=>if j=i then max 0 (nd i k - 1) else nd j k) (fun k=>if j=i∧k=h then false else my j k) m nh).1=(lackF (nd j) (my j) m nh).1:=fun j m e=>by
  have e1:(fun k=>if j=i∧k=h then false else my j k)=my j:=by funext k;rw [if_neg (fun q=>e q.1)]
  have e2:(fun k=>if j=i then max 0 (nd i k - 1) else nd j k)=nd j:=by funext k;rw [if_neg e]
  rw [e1,e2]
 have eN:(fun k=>if i=i∧k=h then false else my i k)=fun k=>if k=h then false else my i k:=by funext k;simp
 have eM:(fun k=>if i=i then max 0 (nd i k - 1) else nd i k)=fun k=>max 0 (nd i k - 1):=by funext k;simp
 have hcan:∀ m k,zBl (my i) m k - (if m h then 0 else 1)≤zBl (fun k=>if k=h then false else my i k) m k:=fun m k=>by
  induction k with
  | zero=>simp only [zBl,List.range_zero,sumL];split<;>omega
  | succ k ih =>
   rw [zBx,zBx]
   by_cases e:k=h
   ·subst e
    have h9:zBl (fun q=>if q=k then false else my i q) m k=zBl (my i) m k:=zt k fun q hq=>by
     have e:q≠k:=by omega
     simp [e]
    rw [h9]
    cases m k<;>cases my i k<;>simp<;>omega
   ·simp only [e,if_false]
    omega
 have hone:(lackF (fun k=>max 0 (nd i k - 1)) (fun k=>if k=h then false else my i k) a nh).1≤max 0 ((lackF (nd i) (my i) a nh).1 - (if a h then 1 else 0)):=by
  refine zDP zRU fun k hk=>?_
  have h1:=Flow.zBr (nd:=nd i) (my:=my i) (sm:=a) nh k hk
  have h2:=hcan a k
  have h3:=zKd (my:=fun k=>if k=h then false else my i k) (a:=a) k
  split at h2<;>rename_i hah
  ·rw [if_pos hah];omega
  ·rw [if_neg hah];omega
 have hp:=Flow.zBJ (nd:=nd i) (my:=my i) (sm:=a) nh
 have hone2:=Int.le_trans hone (show max 0 ((lackF (nd i) (my i) a nh).1 - (if a h then 1 else 0))≤(lackF (nd i) (my i) a nh).1 by split<;>omega)
 have hall:∀ j,j<nb→(lackF (fun k=>if j=i then max 0 (nd i k - 1) else nd j k) (fun k=>if j=i∧k=h then false else my j k) a nh).1≤(lackF (nd j) (my j) a nh).1:=fun j _=>by
  by_cases e:j=i
  ·subst e;rw [eN,eM];exact hone2
  ·rw [hrest j a e];exact Int.le_refl _
 have hsum:=Flow.zAs (l:=List.range nb) fun j hj=>hall j (List.mem_range.1 hj)
 have hca:=hc a
 unfold zDO at ha hca
 dsimp only at ha
 cases hah:a h with
 | false =>
  have e1:sumL (List.range nh) (fun k=>if a k then (if k=h then hd h - 1 else hd k) else 0)=sumL (List.range nh) (fun k=>if a k then hd k else 0):=zt nh fun k _=>by
   by_cases e:k=h
   ·subst e;rw [hah];rfl
   ·rw [if_neg e]
  rw [e1] at ha
  omega
 | true =>
  have e1:sumL (List.range nh) (fun k=>if a k then (if k=h then hd h - 1 else hd k) else 0)+1=sumL (List.range nh) (fun k=>if a k then hd k else 0):=by
   have h1:sumL (List.range nh) (fun k=>(if a k then (if k=h then hd h - 1 else hd k) else 0)+(if k=h then 1 else 0))=sumL (List.range nh) (fun k=>if a k then hd k else 0):=zt nh fun k _=>by
    by_cases e:k=h
    ·subst e;rw [hah];simp
    ·simp [e]
   rw [Flow.zBQ,Flow.zCp List.nodup_range (List.mem_range.2 hh)] at h1
   exact h1
  rw [hah,if_pos rfl] at hone
  have hl0:(lackF (nd i) (my i) a nh).1=0:=by
   rcases Int.lt_or_le 0 (lackF (nd i) (my i) a nh).1 with h1|h1
   ·have:=zNE (f:=fun j=>(lackF (fun k=>if j=i then max 0 (nd i k - 1) else nd j k) (fun k=>if j=i∧k=h then false else my j k) a nh).1) (g:=fun j=>(lackF (nd j) (my j) a nh).1) hi (fun j hj=>by
     by_cases e:j=i
     ·subst e;rw [if_pos rfl,eN,eM];omega
     ·rw [if_neg e,hrest j a e];omega)
    omega
   ·omega
  have hF0:zDO nb nh nd my hd a=0:=by unfold zDO;omega
  intro m
  have hmm:=hc m
  cases hmh:m h with
  | true =>
   refine Int.le_trans (Int.le_of_eq ?_) hmm
   unfold zDO
   dsimp only
   congr 1
   refine zt nb fun j _=>?_
   have e2:∀ k,zBl (fun k=>if j=i∧k=h then false else my j k) m k=zBl (my j) m k:=fun k=>zt k fun q _=>by
    by_cases e:q=h
    ·subst e;rw [hmh];simp
    ·simp [e]
   refine Int.le_antisymm (zDP (Flow.zBJ nh) fun k hk=>?_) (zDP (Flow.zBJ nh) fun k hk=>?_)
   ·rw [e2];exact Flow.zBr nh k hk
   ·rw [← e2];exact Flow.zBr nh k hk
  | false =>
   have h2:=hc fun j=>a j || m j
   have h3:=hc fun j=>a j && m j
   -- the stretch itself
   have hi1:(lackF (nd i) (fun k=>if k=h then false else my i k) m nh).1≤(lackF (nd i) (my i) (fun j=>a j || m j) nh).1:=by
    refine zDP (Flow.zBJ nh) fun k hk=>?_
    have h4:=Flow.zBr (nd:=nd i) (my:=my i) (sm:=fun j=>a j || m j) nh k hk
    have h5:zBl (my i) (fun j=>a j || m j) k≤zBl (fun k=>if k=h then false else my i k) m k:=Flow.zAs fun q _=>by
     by_cases e:q=h
     ·subst e;simp [hah]
     ·simp only [e,if_false]
      have e8:∀ x y z:Bool,(if (x && !(y || z))=true then (1:Int) else 0)≤if (x && !z)=true then 1 else 0:=by decide
      exact e8 _ _ _
    omega
   have hi2:=Flow.zBJ (nd:=nd i) (my:=my i) (sm:=fun j=>a j && m j) nh
   have hs1:sumL (List.range nb) (fun j=>(lackF (nd j) (my j) a nh).1+(lackF (nd j) (fun k=>if j=i∧k=h then false else my j k) m nh).1)≤sumL (List.range nb) (fun j=>(lackF (nd j) (my j) (fun j=>a j || m j) nh).1+(lackF (nd j) (my j) (fun j=>a j && m j) nh).1):=Flow.zAs fun j _=>by
    by_cases e:j=i
    ·subst e;rw [eN];omega
    ·have e1:(fun k=>if j=i∧k=h then false else my j k)=my j:=by funext k;rw [if_neg (fun q=>e q.1)]
     rw [e1];exact zQk
   have hs2:sumL (List.range nh) (fun h=>(if a h then hd h else 0)+(if m h then hd h else 0))=sumL (List.range nh) (fun h=>(if (a h || m h) then hd h else 0)+(if (a h && m h) then hd h else 0)):=zt nh fun h _=>by
    cases a h<;>cases m h<;>simp
   rw [Flow.zBQ,Flow.zBQ] at hs1 hs2
   unfold zDO at hF0 h2 h3 ⊢
   dsimp only at h2 h3 ⊢
   omega
end
end Go.Proofs.YtdigopgncfhiaaaGreatDoor
namespace Go.Proofs.YtdigopgncfhiaaaGreatDoor
open Go.RowKit
open Flow (lackF zBl sumL)
def ndF (s:PS) (i h:Nat):Int:=(s.nds.getD i []).getD h 0
def myF (s:PS) (i h:Nat):Bool:=(s.may.getD i []).getD h false
def hdF (s:PS) (h:Nat):Int:=s.hands.getD h 0
theorem zEp {nb nh h i:Nat} {s:PS} (ok:zCP nb nh h i s):zC1 s.nds s.may s.hands=true↔zHO nb nh (ndF s) (myF s) (hdF s):=by
 have key:∀ m:Nat,zJi s.nds s.may s.hands m=zDO nb nh (ndF s) (myF s) (hdF s) m.testBit:=fun m=>by
  unfold zJi zDO zEo
  rw [ok.nl,ok.hl]
  congr 1
  refine zt nb fun j hj=>?_
  rw [show (s.nds.getD j []).length=nh by rw [Flow.zm (by rw [ok.nl];exact hj)];exact (ok.nr _ (List.getElem_mem _)).len]
  rfl
 unfold zC1
 rw [List.all_eq_true]
 constructor
 ·intro h m
  obtain ⟨M,hM,hb⟩:=Flow.zKe m nh
  have:=h M (List.mem_range.2 (by rw [ok.hl];exact hM))
  simp only [Bool.not_eq_true',decide_eq_false_iff_not,key] at this
  rw [zOn (b:=M.testBit) (fun k hk=>(hb k hk).symm)]
  omega
 ·intro h m _
  have:=h m.testBit
  simp only [Bool.not_eq_true',decide_eq_false_iff_not,key]
  omega
theorem zQ3 {l:List Bool} {h k:Nat}:(l.set h false).getD k false=if k=h then false else l.getD k false:=by
 rw [List.getD_eq_getElem?_getD,List.getElem?_set,List.getD_eq_getElem?_getD]
 by_cases e:h=k
 ·subst e
  rw [if_pos rfl,if_pos rfl]
  split<;>rfl
 ·rw [if_neg e,if_neg (fun q=>e q.symm)]
theorem zQ4 {l:List Int} {k:Nat}:(zDY l).getD k 0=max 0 (l.getD k 0 - 1):=by
 unfold zDY
 simp only [List.getD_eq_getElem?_getD,List.getElem?_map]
 cases l[k]?<;>simp<;>rfl
section
variable {nb nh h i:Nat} {s:PS}
theorem zHm (ok:zCP nb nh h i s) (hi:i<nb) (n:List (List Int)) (d:List Int) (o:List (List Int)):myF ⟨n,zCy s h i,d,o⟩=fun j k=>if j=i∧k=h then false else myF s j k:=by
 funext j k
 unfold myF zCy
 dsimp only
 rw [zEV (by rw [ok.ml];exact hi)]
 by_cases e:j=i
 ·subst e
  rw [if_pos rfl,zQ3]
  by_cases e2:k=h
  ·rw [if_pos e2,if_pos ⟨rfl,e2⟩]
  ·rw [if_neg e2,if_neg (fun q=>e2 q.2)]
 ·rw [if_neg e,if_neg (fun q=>e q.1)]
theorem zHl (ok:zCP nb nh h i s) (hi:i<nb) (n:List (List Bool)) (d:List Int) (o:List (List Int)):ndF ⟨zFz s i,n,d,o⟩=fun j k=>if j=i then max 0 (ndF s i k - 1) else ndF s j k:=by
 funext j k
 unfold ndF zFz
 dsimp only
 rw [zEV (by rw [ok.nl];exact hi)]
 by_cases e:j=i
 ·rw [if_pos e,if_pos e,zQ4]
 ·rw [if_neg e,if_neg e]
theorem zMi (ok:zCP nb nh h i s) (hh:h<nh) (n:List (List Int)) (m:List (List Bool)) (o:List (List Int)):hdF ⟨n,m,zCH s h,o⟩=fun k=>if k=h then hdF s h - 1 else hdF s k:=by
 funext k
 unfold hdF zCH
 dsimp only
 rw [zEV (by rw [ok.hl];exact hh)]
theorem zPr (ok:zCP nb nh h i s) (k:Nat):0≤hdF s k:=by
 unfold hdF
 rw [List.getD_eq_getElem?_getD]
 cases e:s.hands[k]? with
 | none=>exact Int.le_refl _
 | some x=>exact (ok.hr x (List.mem_of_getElem? e)).1
theorem step_can (ok:zCP nb nh h i s) (hi:i<nb) (hh:h<nh) (hc:zHO nb nh (ndF s) (myF s) (hdF s)):zHO nb nh (ndF (zCF h i s)) (myF (zCF h i s)) (hdF (zCF h i s)):=by
 have hskip:∀ (q:zHO nb nh (ndF s) (fun j k=>if j=i∧k=h then false else myF s j k) (hdF s)),zHO nb nh (ndF ⟨s.nds,zCy s h i,s.hands,s.out⟩) (myF ⟨s.nds,zCy s h i,s.hands,s.out⟩) (hdF ⟨s.nds,zCy s h i,s.hands,s.out⟩):=fun q=>by
  rw [zHm ok hi];exact q
 unfold zCF
 cases ht:zEf s h i with
 | false =>
  rw [if_neg zRf]
  refine hskip (can_skip hi hh hc (zPr ok) ?_)
  unfold zEf at ht
  simp only [Bool.and_eq_false_iff,decide_eq_false_iff_not] at ht
  rcases ht with h1|h1|h1
  ·exact .inl h1
  ·exact .inr (.inl (Int.not_lt.1 h1))
  ·refine .inr (.inr fun k hk=>Int.le_trans ?_ (Int.not_lt.1 h1))
   have hl:(s.nds.getD i []).length=nh:=by rw [Flow.zm (by rw [ok.nl];exact hi)];exact (ok.nr _ (List.getElem_mem _)).len
   unfold ndF
   rw [Flow.zm (by rw [hl];exact hk)]
   exact Flow.zJL (List.getElem_mem _)
 | true =>
  rw [if_pos rfl]
  have ok2:zCP nb nh 0 0 ⟨zFz s i,zCy s h i,zCH s h,List.replicate nh []⟩:=⟨(ok.zGd hi).1,(ok.zGg hi).1,(ok.zEG hh ht).1,by simp,(ok.zGd hi).2,(ok.zGg hi).2,(ok.zEG hh ht).2,fun k=>by
   rw [List.getD_eq_getElem?_getD,List.getElem?_replicate]
   split<;>simp⟩
  cases hb:zC1 (zFz s i) (zCy s h i) (zCH s h) with
  | true =>
   rw [if_pos rfl]
   exact (zEp ok2).1 hb
  | false =>
   rw [if_neg zRf]
   refine hskip (can_else hi hh hc fun q=>?_)
   rw [← Bool.not_eq_true] at hb
   refine hb ((zEp ok2).2 ?_)
   rw [zHm ok hi,zHl ok hi,zMi ok hh]
   exact q
end
def zBY (xss:List (List Int)) (i:Nat) (k:Nat):Int:=sumL (List.range k) fun h=>if (xss.getD h []).contains (i:Int) then 1 else 0
theorem zLz {xss:List (List Int)} {i k:Nat}:zBY xss i (k+1)=zBY xss i k+(if (xss.getD k []).contains (i:Int) then 1 else 0):=Flow.zAD _ k
theorem zFW {xss:List (List Int)} {i k:Nat}:∀ d,zBY xss i k≤zBY xss i (k+d)
 | 0=>Int.le_refl _
 | d+1=>by have:=zFW (xss:=xss) (i:=i) (k:=k) d;rw [← Nat.add_assoc,zLz];split<;>omega
structure zGv (nb nh:Nat) (s0:PS) (h i:Nat) (s:PS):Prop where
 can:zHO nb nh (ndF s) (myF s) (hdF s)
 past:∀ j k,j<nb→k<h∨(k=h∧j<i)→myF s j k=false
 cnt:∀ j,j<nb→ndF s j (nh - 1)+zBY s.out j nh=ndF s0 j (nh - 1)
 work:∀ k,k<nh→hdF s k+(s.out.getD k []).length=hdF s0 k
 rows:∀ k,(s.out.getD k []).Pairwise (· < ·)∧∀ x∈s.out.getD k [],∃ j:Nat,x=(j:Int)∧j<nb∧(k<h∨(k=h∧j<i))
section
variable {nb nh h i:Nat} {s s0:PS}
theorem zGv.step (iv:zGv nb nh s0 h i s) (ok:zCP nb nh h i s) (hi:i<nb) (hh:h<nh):zGv nb nh s0 h (i+1) (zCF h i s):=by
 have hcan:=step_can ok hi hh iv.can
 have hpast:∀ (n d o),∀ j k,j<nb→k<h∨(k=h∧j<i+1)→myF ⟨n,zCy s h i,d,o⟩ j k=false:=fun n d o j k hj hk=>by
  rw [zHm ok hi]
  dsimp only
  by_cases e:j=i∧k=h
  ·rw [if_pos e]
  ·rw [if_neg e];exact iv.past j k hj zRU
 have hrows:∀ k,(s.out.getD k []).Pairwise (· < ·)∧∀ x∈s.out.getD k [],∃ j:Nat,x=(j:Int)∧j<nb∧(k<h∨(k=h∧j<i+1)):=fun k=>⟨(iv.rows k).1,fun x hx=>by
  obtain ⟨j,e,h1,h2⟩:=(iv.rows k).2 x hx
  exact ⟨j,e,h1,by omega⟩⟩
 unfold zCF at hcan ⊢
 cases ht:zEf s h i with
 | false =>
  rw [ht,if_neg zRf] at hcan
  rw [if_neg zRf]
  exact ⟨hcan,hpast _ _ _,iv.cnt,iv.work,hrows⟩
 | true =>
  rw [ht,if_pos rfl] at hcan
  rw [if_pos rfl]
  cases hb:zC1 (zFz s i) (zCy s h i) (zCH s h) with
  | false =>
   rw [hb,if_neg zRf] at hcan
   rw [if_neg zRf]
   exact ⟨hcan,hpast _ _ _,iv.cnt,iv.work,hrows⟩
  | true =>
   rw [hb,if_pos rfl] at hcan
   rw [if_pos rfl]
   have hout:∀ k,(zIQ s h i).getD k []=if k=h then s.out.getD h []++[(i:Int)] else s.out.getD k []:=fun k=>by
    unfold zIQ
    rw [zEV (by rw [ok.ol];exact hh)]
   have hlt:∀ x∈s.out.getD h [],x<(i:Int):=fun x hx=>by
    obtain ⟨j,e,_,h2⟩:=(iv.rows h).2 x hx
    omega
   have hin:(s.out.getD h []).contains (i:Int)=false:=by
    rw [Bool.eq_false_iff]
    intro h1
    have:=hlt _ (List.contains_iff_mem.1 h1)
    omega
   unfold zEf at ht
   simp only [Bool.and_eq_true,decide_eq_true_eq] at ht
   have hmax:0<ndF s i (nh - 1):=by
    have h1:=ht.2.2
    rw [(ok.nr (s.nds.getD i []) (by rw [Flow.zm (by rw [ok.nl];exact hi)];exact List.getElem_mem _)).max zRU] at h1
    exact h1
   refine ⟨hcan,hpast _ _ _,fun j hj=>?_,fun k hk=>?_,fun k=>?_⟩
   ·rw [zHl ok hi]
    dsimp only
    have hc:=iv.cnt j hj
    by_cases e:j=i
    ·subst e
     rw [if_pos rfl]
     have:zBY (zIQ s h j) j nh=zBY s.out j nh+1:=by
      have h1:zBY (zIQ s h j) j nh=sumL (List.range nh) (fun k=>(if (s.out.getD k []).contains (j:Int) then 1 else 0)+(if k=h then 1 else 0)):=zt nh fun k _=>by
       rw [hout]
       by_cases e:k=h
       ·subst e
        rw [if_pos rfl,if_pos rfl,hin]
        simp
       ·rw [if_neg e,if_neg e,Int.add_zero]
      rw [h1,Flow.zBQ,Flow.zCp List.nodup_range (List.mem_range.2 hh)];rfl
     rw [this];omega
    ·rw [if_neg e]
     have:zBY (zIQ s h i) j nh=zBY s.out j nh:=zt nh fun k _=>by
      rw [hout]
      by_cases e2:k=h
      ·subst e2
       rw [if_pos rfl]
       have:((j:Int) == (i:Int))=false:=by simp;omega
       simp [List.contains_eq_mem,List.mem_append]
       congr 1
       simp only [eq_iff_iff]
       constructor
       ·rintro (h1|h1)
        ·exact h1
        ·omega
       ·exact .inl
      ·rw [if_neg e2]
     rw [this];exact hc
   ·rw [zMi ok hh]
    dsimp only
    have hw:=iv.work k hk
    rw [hout]
    by_cases e:k=h
    ·subst e
     rw [if_pos rfl,if_pos rfl,List.length_append]
     simp only [List.length_cons,List.length_nil]
     omega
    ·rw [if_neg e,if_neg e];exact hw
   ·dsimp only
    rw [hout]
    by_cases e:k=h
    ·subst e
     rw [if_pos rfl]
     refine ⟨List.pairwise_append.2 ⟨(iv.rows k).1,List.pairwise_singleton _ _,fun x hx y hy=>?_⟩,fun x hx=>?_⟩
     ·rw [List.mem_singleton.1 hy];exact hlt x hx
     ·rcases List.mem_append.1 hx with h1|h1
      ·exact (hrows k).2 x h1
      ·exact ⟨i,List.mem_singleton.1 h1,hi,.inr ⟨rfl,by omega⟩⟩
    ·rw [if_neg e];exact hrows k
theorem zGv.next (iv:zGv nb nh s0 h nb s):zGv nb nh s0 (h+1) 0 s :=
 ⟨iv.can,fun j k hj hk=>iv.past j k hj zRU,iv.cnt,iv.work,fun k=>⟨(iv.rows k).1,fun x hx=>by
  obtain ⟨j,e,h1,h2⟩:=(iv.rows k).2 x hx
  exact ⟨j,e,h1,by omega⟩⟩⟩
theorem zGk (iv:zGv nb nh s0 h 0 s) (ok:zCP nb nh h 0 s) (hh:h<nh):∀ i,i≤nb→zGv nb nh s0 h i (stepsP h i s)
 | 0,_=>iv
 | i+1,hi=>(zGk iv ok hh i zRU).step (zEK ok hh i zRU) zRU hh
theorem zFE (iv:zGv nb nh s0 0 0 s) (ok:zCP nb nh 0 0 s):∀ h,h≤nh→zGv nb nh s0 h 0 (zBt nb h s)
 | 0,_=>iv
 | h+1,hh=>(zGk (zFE iv ok h zRU) (zC0 ok h zRU) zRU nb (Nat.le_refl _)).next
end
theorem zED {c:Cov} (h0:zAp c=0) (hs:Small c) (hc:zC1 (zAu c) (zCs c) (zAk c)=true):zA2 c (zAC (zAt c).1)=true∧(∀ k,((zAt c).1.getD k []).Pairwise (· < ·)∧∀ x∈(zAt c).1.getD k [],∃ j:Nat,x=(j:Int)∧j<c.beds.length)∧∀ i,i<c.beds.length→zBY (zAt c).1 i c.hours.length=(needG c (c.beds.getD i default) c.hours.length).2:=by
 have hf:=zAy h0
 have ok0:=zCV hf hs (zDt hf)
 have hh1:=hf.hours
 rw [zx] at hh1
 have ok:=zC0 ok0 c.hours.length (Nat.le_refl _)
 have iv0:zGv c.beds.length c.hours.length (zAi c) 0 0 (zAi c):=by
  have hz:∀ k,(zAi c).out.getD k []=[]:=fun k=>by
   show (List.replicate c.hours.length []).getD k []=[]
   rw [List.getD_eq_getElem?_getD,List.getElem?_replicate]
   split<;>rfl
  refine ⟨(zEp ok0).1 hc,fun j k _ hk=>by omega,fun j _=>?_,fun k _=>by rw [hz];simp,fun k=>by rw [hz];simp⟩
  have:zBY (zAi c).out j c.hours.length=0:=Flow.zAT fun k _=>by rw [hz];rfl
  rw [this,Int.add_zero]
 have iv:=zFE iv0 ok0 c.hours.length (Nat.le_refl _)
 rw [zDw h0 hc]
 dsimp only
 generalize zBt c.beds.length c.hours.length (zAi c)=s at *
 refine ⟨?_,fun k=>⟨(iv.rows k).1,fun x hx=>let ⟨j,e,hj,_⟩:=(iv.rows k).2 x hx;⟨j,e,hj⟩⟩,?_⟩
 ·refine zAj.2 ⟨by simp [zAC,ok.ol],fun k u r hu hr=>?_⟩
  have hk:=(List.getElem?_eq_some_iff.1 hu).1
  have e:r.xs=s.out.getD k []:=by
   unfold zAC at hr
   rw [List.getElem?_map] at hr
   rw [List.getD_eq_getElem?_getD]
   cases ho:s.out[k]? with
   | none=>rw [ho] at hr;cases hr
   | some x=>rw [ho] at hr;cases hr;rfl
  obtain ⟨h1,h2⟩:=iv.rows k
  have hw:=iv.work k hk
  have hp:=zPr ok k
  have hS:hdF (zAi c) k=zFK u:=by
   show (zAk c).getD k 0=_
   unfold zAk;rw [getD_map hu]
  have hcr:=hf.hour u (List.mem_of_getElem? hu)
  simp only [zBR,Bool.and_eq_true,zx] at hcr
  unfold zDL
  rw [e]
  simp only [Bool.and_eq_true,Bool.or_eq_true,decide_eq_true_eq,List.all_eq_true,zx]
  unfold zFK at hS
  refine ⟨⟨⟨?_,?_⟩,fun x hx=>?_⟩,zCf.2 fun q hq=>?_⟩
  ·split at hS<;>omega
  ·split at hS<;>rename_i hcold
   ·exact .inr hcold
   ·exact .inl zRU
  ·obtain ⟨j,e2,h3,_⟩:=h2 x hx
   omega
  ·rw [Flow.zm zRU,Flow.zm hq]
   exact List.pairwise_iff_getElem.1 h1 q (q+1) zRU hq zRU
 ·intro i hi
  have hcnt:=iv.cnt i hi
  have hS:ndF (zAi c) i (c.hours.length - 1)=(needG c (c.beds.getD i default) c.hours.length).2:=by
   show ((zAu c).getD i []).getD (c.hours.length - 1) 0=_
   rw [zE8 hi _ zRU,Nat.sub_add_cancel zRU]
  have hc9:=iv.can fun _=>false
  unfold zDO at hc9
  rw [Flow.zAT (l:=List.range c.hours.length) (fun _ _=>by simp)] at hc9
  have h1:=Flow.zDu (l:=List.range c.beds.length) (f:=fun i=>(lackF (ndF s i) (myF s i) (fun _=>false) c.hours.length).1) (a:=i) (fun j _=>Flow.zBJ _) (List.mem_range.2 hi)
  have h2:=Flow.zBr (nd:=ndF s i) (my:=myF s i) (sm:=fun _=>false) c.hours.length (c.hours.length - 1) zRU
  have h3:zBl (myF s i) (fun _=>false) (c.hours.length - 1)=0:=Flow.zAT fun k hk=>by
   rw [iv.past i k hi (.inl (by have:=List.mem_range.1 hk;omega))];rfl
  have h4:0≤ndF s i (c.hours.length - 1):=by
   have:=ok.nr (s.nds.getD i []) (by rw [Flow.zm (by rw [ok.nl];exact hi)];exact List.getElem_mem _)
   unfold ndF
   rw [Flow.zm (by rw [this.len];omega)]
   exact (this.big _ (List.getElem_mem _)).1
  omega
theorem zHX {xss:List (List Int)} {k:Nat}:((zAC xss).getD k default).xs=xss.getD k []:=by
 unfold zAC
 rw [List.getD_eq_getElem?_getD,List.getElem?_map,List.getD_eq_getElem?_getD]
 cases xss[k]?<;>rfl
theorem zJa {c:Cov} {xss:List (List Int)} {z:Bed} {i:Nat} (hf:zBm c):∀ k,(∀ j,j<k→zBL c (zAC xss) zAa z i j=false)→(thickN c (zAC xss) z i k).lo=(needG c z k).1+zBY xss i k * c.layer.lo
 | 0,_=>by simp [thickN,needG,zBY,sumL]
 | k+1,h=>by
  have ih:=zJa (xss:=xss) (z:=z) (i:=i) hf k (fun j hj=>h j zRU)
  have ht:=of_decide_eq_false (h k zRU)
  unfold zAa at ht
  have ha:=(zKf (u:=c.hours.getD k default) hf).1
  have e:(needG c z (k+1)).1=(needG c z k).1 - (zBB c z (c.hours.getD k default)).hi:=rfl
  simp only [thickN,layered,thinned,zHX]
  rw [e,zLz]
  split
  ·simp only [Int.add_mul,Int.one_mul];omega
  ·simp only [Int.add_zero];omega
theorem lack_iff {x L n:Int} (hL:1≤L) (hn:0≤n):(if 0<x then (x+L - 1) / L else 0)≤n↔x≤n * L:=by
 split
 ·rw [Int.ediv_le_iff_le_mul zRU]
  omega
 ·have:=Int.mul_nonneg hn (show 0≤L by omega)
  omega
theorem zJk {c:Cov} {xss:List (List Int)} {z:Bed} {i:Nat} (hf:zBm c):∀ k,(∀ j,j<k→zBL c (zAC xss) zAa z i j=false)↔∀ j,j<k→(needG c z (j+1)).2≤zBY xss i j
 | 0=>by simp
 | k+1=>by
  have ih:=zJk (xss:=xss) (z:=z) (i:=i) hf k
  have hL:=hf.layer
  simp only [zAE] at hL
  have hcp:∀ k,0≤zBY xss i k:=fun k=>Flow.zA7 fun _ _=>by split<;>omega
  have key:(∀ j,j<k→zBL c (zAC xss) zAa z i j=false)→(∀ j,j<k→(needG c z (j+1)).2≤zBY xss i j)→(zBL c (zAC xss) zAa z i k=false↔(needG c z (k+1)).2≤zBY xss i k):=fun h1 h2=>by
   have ht:=zJa hf k h1
   have hi:=lack_iff (x:=zCZ c (c.hours.getD k default) - ((needG c z k).1 - (zBB c z (c.hours.getD k default)).hi)) (L:=c.layer.lo) (n:=zBY xss i k) zRU (hcp k)
   have hk:(needG c z k).2≤zBY xss i k:=by
    cases k with
    | zero=>exact hcp 0
    | succ m=>exact Int.le_trans (h2 m zRU) (zFW 1)
   unfold zBL zAa
   rw [decide_eq_false_iff_not,ht]
   simp only [needG]
   have h9:=hcp k
   split at hi
   ·rw [if_pos zRn];omega
   ·rw [if_neg zRn];omega
  constructor
  ·intro h j hj
   have h1:=fun j hj=>h j (Nat.lt_succ_of_lt hj)
   have h2:=ih.1 h1
   by_cases e:j=k
   ·subst e;exact (key h1 h2).1 (h j hj)
   ·exact h2 j zRU
  ·intro h j hj
   have h2:=fun j hj=>h j (Nat.lt_succ_of_lt hj)
   have h1:=ih.2 h2
   by_cases e:j=k
   ·subst e;exact (key h1 h2).2 (h j hj)
   ·exact h1 j zRU
theorem zHa {c:Cov} {xss:List (List Int)} (hf:zBm c):(zAm c (zAC xss) zAa).length=0↔∀ i,i<c.beds.length→∀ j,j<c.hours.length→(needG c (c.beds.getD i default) (j+1)).2≤zBY xss i j:=by
 rw [List.length_eq_zero_iff]
 have e1:zAm c (zAC xss) zAa=[]↔∀ i,i<c.beds.length→∀ j,j<c.hours.length→zBL c (zAC xss) zAa (c.beds.getD i default) i j=false:=by
  unfold zAm
  rw [List.flatMap_eq_nil_iff]
  constructor
  ·intro h i hi j hj
   have:=h j (List.mem_range.2 hj)
   rw [List.map_eq_nil_iff,List.filter_eq_nil_iff] at this
   simpa using this i (List.mem_range.2 hi)
  ·intro h j hj
   rw [List.map_eq_nil_iff,List.filter_eq_nil_iff]
   intro i hi
   rw [h i (List.mem_range.1 hi) j (List.mem_range.1 hj)];simp
 rw [e1]
 exact ⟨fun h i hi=>(zJk hf _).1 (h i hi),fun h i hi=>(zJk hf _).2 (h i hi)⟩
end Go.Proofs.YtdigopgncfhiaaaGreatDoor
