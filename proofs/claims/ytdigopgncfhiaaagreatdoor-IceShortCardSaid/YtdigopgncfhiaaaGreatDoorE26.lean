/- E26 -/
import Derived.Test.YtdigopgncfhiaaaGreatDoorE25
import Derived.Test.YtdigopgncfhiaaaGreatDoorE17
import Derived.Test.YtdigopgncfhiaaaGreatDoorE18
import Derived.Test.YtdigopgncfhiaaaGreatDoorE10
import Derived.Test.YtdigopgncfhiaaaGreatDoorE14
set_option linter.unusedSimpArgs false
set_option linter.unusedVariables false
namespace Go.Proofs.YtdigopgncfhiaaaGreatDoor
variable {ro : Option Nat}
open Go.RowKit
set_option maxRecDepth 20000
def FitW (ch:List Int):Prop:=∀ x∈ch,0≤x∧x≤4294967295
def chW (ch:List Int) (i:Nat):Int:=ch.getD (i % ch.length) 0
instance encI_u : zCM encU 1:=⟨fun _=>rfl,fun x=>by simp [encU,Value.oneCell']⟩
theorem chW_in {ch:List Int} (h:FitW ch) (i:Nat):0≤chW ch i∧chW ch i≤4294967295:=by
 unfold chW
 rw [List.getD_eq_getElem?_getD]
 cases hg:ch[i % ch.length]? with
 | none=>simp
 | some x=>exact h x (List.mem_of_getElem? hg)
theorem zH5 (ch:List Int) (C:Option Addr) (cc:Nat) (x:Int) (i:Nat) (w:World) (hk:zx encU 1 w C ch) (hf:FitW ch) (hx:x=i):Gv Tryz.prog 35 [.slice C ch.length cc,.int .i64 x] w (.int .i64 (chW ch i)):=by
 subst hx
 unfold Gv
 by_cases h0:ch.length=0
 ·obtain rfl:=List.eq_nil_of_length_eq_zero h0
  (refine zL (n:=16) Tryz.func35 rfl rfl rfl ?_)
  (repeat' (first|((with_reducible refine zG ?_);first|refine zE rfl rfl rfl rfl rfl ?_|refine zC rfl rfl rfl rfl rfl ?_|(refine zU rfl rfl rfl rfl rfl rfl rfl (fun h=>?_) (fun h=>?_)<;>(dsimp only [cmpP] at h;(try (exfalso;omega))))|refine zp rfl rfl rfl rfl rfl ?_)|(with_reducible first|refine zH ?_|refine zB ?_|refine zD ?_|refine zA ?_|refine zc ?_|refine zY ?_)|((with_reducible refine zI ?_ ?_);(· exact rfl))))
  exact zV (by (exact zO.cons (by exact zn.tmp rfl) zO.nil)) () trivial rfl (fun _ _=>Own.nil _ _)
 ·obtain ⟨I,hI⟩:∃ I,I=i % ch.length:=⟨_,rfl⟩
  have hlt:I<ch.length:=by rw [hI];exact Nat.mod_lt i (by omega)
  have hI2:(i:Int) % (ch.length:Int)=(I:Int):=by rw [hI];exact (Int.natCast_emod _ _).symm
  obtain ⟨b,o,rfl,_⟩:=hk.at_ hlt
  have:InS w b o encU 1 ch:=⟨hk⟩
  have hg:zAU ch I ch[I]:=⟨by simp [hlt]⟩
  have hb:=hf _ (List.getElem_mem hlt)
  have e:chW ch i=ch[I]:=by simp [chW,← hI,hlt]
  rw [e]
  generalize ch[I]=z at *
  (refine zL (n:=16) Tryz.func35 rfl rfl rfl ?_)
  (repeat' (first|((with_reducible refine zG ?_);first|refine zE rfl rfl rfl rfl rfl ?_|refine zC rfl rfl rfl rfl rfl ?_|(refine zK rfl rfl rfl rfl rfl ?_;refine ⟨_,rfl,?_⟩)|(refine zU rfl rfl rfl rfl rfl rfl rfl (fun h=>?_) (fun h=>?_)<;>(dsimp only [cmpP] at h;(try (exfalso;omega))))|refine zb (I:=I) rfl rfl rfl rfl rfl rfl hI2 hlt ?_|refine zp rfl rfl rfl rfl rfl ?_|refine zAj rfl rfl rfl rfl rfl (IntWalk.i64_in _ (by omega)) ?_|refine zCO rfl rfl rfl rfl rfl rfl (by omega) (by omega) ?_)|(with_reducible first|refine zH ?_|refine zB ?_|refine zD ?_|refine zA ?_|refine zc ?_|refine zS ?_)|((with_reducible refine zF ?_ ?_);(· exact rfl))))
  exact zV (by (exact zO.cons (by exact zn.tmp rfl) zO.nil)) () trivial rfl (fun _ _=>Own.nil _ _)
def drawnR (ch:List Int) (f h:Nat) (u:Hour):Nat→List Int
 | 0=>[]
 | i+1=>if u.cold && (decide (((drawnR ch f h u i).length:Int)<u.crew) && decide (0<chW ch (f+13 * h+i) % 3)) then drawnR ch f h u i++[(i:Int)] else drawnR ch f h u i
def zBy (c:Cov) (ch:List Int) (f:Nat):List (List Int):=(List.range c.hours.length).map fun h=>drawnR ch f h (c.hours.getD h default) c.beds.length
theorem zBo {c:Cov} {ch:List Int} {f:Nat}:(zBy c ch f).length=c.hours.length:=by simp [zBy]
theorem zGa {ch:List Int} {f h:Nat} {u:Hour}:∀ i,(drawnR ch f h u i).length≤i
 | 0=>by simp [drawnR]
 | i+1=>by
  have:=zGa (ch:=ch) (f:=f) (h:=h) (u:=u) i
  unfold drawnR;split
  ·simp;omega
  ·omega
theorem zJa {c:Cov} {ch:List Int} {f:Nat}:∀ r∈zBy c ch f,r.length≤c.beds.length:=fun r hr=>by
 obtain ⟨h,_,rfl⟩:=List.mem_map.1 hr
 exact zGa _
def zDx (c:Cov) (ch:List Int) (f h:Nat):List (List Int):=(zBy c ch f).take h++List.replicate (c.hours.length - h) []
theorem zMn {c:Cov} {ch:List Int} {f:Nat}:zDx c ch f 0=List.replicate c.hours.length []:=by simp [zDx]
theorem zNn {c:Cov} {ch:List Int} {f:Nat}:zDx c ch f c.hours.length=zBy c ch f:=by
 simp [zDx,List.take_of_length_le,zBo]
theorem zPi {c:Cov} {ch:List Int} {f h:Nat} (hh:h<c.hours.length):(zDx c ch f h)[h]?=some []:=by
 unfold zDx
 rw [List.getElem?_append_right (by simp [zBo];omega),List.length_take,zBo,Nat.min_eq_left (by omega),Nat.sub_self,List.getElem?_replicate,if_pos (by omega)]
theorem zNm {c:Cov} {ch:List Int} {f h:Nat} (hh:h<c.hours.length):(zDx c ch f h).set h (drawnR ch f h (c.hours.getD h default) c.beds.length)=zDx c ch f (h+1):=by
 unfold zDx
 rw [List.set_append_right _ _ (by simp [zBo];omega),List.length_take,zBo,Nat.min_eq_left (by omega),Nat.sub_self]
 rw [show c.hours.length - h=(c.hours.length - (h+1))+1 by omega,List.replicate_succ,List.set_cons_zero,List.take_add_one]
 have e:(zBy c ch f)[h]?=some (drawnR ch f h (c.hours.getD h default) c.beds.length):=by
  unfold zBy
  rw [List.getElem?_map,List.getElem?_range hh];rfl
 rw [e]
 simp
set_option maxHeartbeats 8000000 in
theorem zNX (c:Cov) (A:Option Addr) (ca:Nat) (B:Option Addr) (cb:Nat) (C:Option Addr) (cc:Nat) (ch:List Int) (D:Option Addr) (cd f:Nat) (w:World) (hc:zAk w c A B C) (hs:Small c) (hD:zx encU 1 w D ch) (hf:FitW ch) (hff:f≤1000) :
  Ret Tryz.prog 17 [zAI c A ca B cb C cc,.slice D ch.length cd,.int .i64 (f:Int)] w (fun p:Nat × List (zAC Int)=>.slice (some ⟨p.1,0,none⟩) c.hours.length c.hours.length) (fun p=>[.zBJ zy (rowOf encI 1 3) p.1 p.2]) (fun p=>p.2.map (·.xs)=zBy c ch f):=by
 have h4:=hs.b;have h5:=hs.h
 have hh:=hc.h
 have hCh:=fun W (hW:Below w.heap.size w W) x i (hx:x=((i:Nat):Int))=>zH5 ch D cd x i W (hD.below hW) hf hx
 unfold zAI zJ
 (refine zL (n:=71) Tryz.func17 rfl rfl rfl ?_)
 (repeat' (first|((with_reducible refine zG ?_);first|refine zE rfl rfl rfl rfl rfl ?_|refine zC rfl rfl rfl rfl rfl ?_|(refine zK rfl rfl rfl rfl rfl ?_;refine ⟨_,rfl,?_⟩)|refine za rfl rfl rfl rfl rfl ?_|refine zKy rfl rfl rfl rfl rfl rfl rfl rfl rfl rfl rfl (by omega) (fun go=>?_)|refine zp rfl rfl rfl rfl rfl ?_|(refine zt rfl rfl rfl rfl rfl rfl (fun b=>?_)))|(with_reducible first|refine zH ?_|refine zB ?_|refine zD ?_|refine zA ?_|refine zQ ?_)))
 obtain ⟨b1,hb1⟩:∃ b1,b1=b:=⟨_,rfl⟩
 subst hb1
 refine zIW (enc:=encI) (k:=1) (e:=3) (Take.here _ _) ?_
 refine zw (ι:=Nat × List (zAC Int)) [1,2,3,7,16] rfl (fun p=>p.1≤c.hours.length∧p.2.map (·.xs)=zDx c ch f p.1) (fun p=>[(17,.int .i64 (p.1:Int))]) (fun p=>[.zBJ zy (rowOf encI 1 3) go p.2,.blk b1 (zJ c A ca B cb C cc)]) (fun p=>c.hours.length - p.1) (0,List.replicate c.hours.length zA3) ⟨Nat.zero_le _,by simp [zMn,zA3]⟩ (by (first|exact lK1|(repeat (first|exact lK1|(refine zM rfl ?_))))) (by (repeat (first|exact oK1 _|(refine oK2 (by (repeat (first|exact tK1 _ _|apply tK2))) ?_)))) ?_
 rintro ⟨y,L⟩ ⟨hy,hL⟩
 simp only at hy hL
 simp only [zAx,zJ,List.cons_append,List.nil_append]
 by_cases hyl:y<c.hours.length
 ·obtain ⟨u,hu⟩:∃ u,c.hours[y]?=some u:=⟨_,List.getElem?_eq_getElem hyl⟩
  obtain ⟨bc,oc,rfl,_,_⟩:=hh.at_ hyl
  have:InS w bc oc zq 5 c.hours:=⟨hh⟩
  have:zAU c.hours y u:=⟨hu⟩
  have hLl:L.length=c.hours.length:=by have:=congrArg List.length hL;simp [zDx,zBo] at this;omega
  obtain ⟨s0,hs0⟩:∃ s,L[y]?=some s:=⟨_,List.getElem?_eq_getElem (by omega)⟩
  have hx0:s0.xs=[]:=by
   have h1:=zPi (c:=c) (ch:=ch) (f:=f) hyl
   rw [← hL,List.getElem?_map,hs0] at h1
   exact Option.some.inj h1
  (repeat' (first|((with_reducible refine zG ?_);first|refine zE rfl rfl rfl rfl rfl ?_|refine zC rfl rfl rfl rfl rfl ?_|(refine zK rfl rfl rfl rfl rfl ?_;refine ⟨_,rfl,?_⟩)|refine za rfl rfl rfl rfl rfl ?_|(refine zU rfl rfl rfl rfl rfl rfl rfl (fun h=>?_) (fun h=>?_)<;>(dsimp only [cmpP] at h;(try (exfalso;omega))))|refine zp rfl rfl rfl rfl rfl ?_)|(with_reducible first|refine zH ?_|refine zB ?_|refine zD ?_|refine zA ?_|refine zS ?_|refine zQ ?_)|((with_reducible refine zI ?_ ?_);(· exact rfl))))
  refine zCj y hs0 (by (repeat (first|exact tK1 _ _|apply tK2))) ?_
  refine zw (ι:=Nat × zAC Int) [1,2,3,7,8,16,17,22] rfl (fun p=>p.1≤c.beds.length∧p.2.xs=drawnR ch f y u p.1) (fun p=>[(23,.int .i64 (p.1:Int))]) (fun p=>[.arr zy 1 go (L.set y p.2),rowOf encI 1 3 p.2,.all ((L.eraseIdx y).map (rowOf encI 1 3)),.blk b1 (zJ c A ca B cb (some ⟨bc,oc,none⟩) cc)]) (fun p=>c.beds.length - p.1) (0,s0) ⟨Nat.zero_le _,by rw [hx0];rfl⟩ (by (first|exact lK1|(repeat (first|exact lK1|(refine zM rfl ?_))))) (by (repeat (first|exact oK1 _|(refine oK2 (by (repeat (first|exact tK1 _ _|apply tK2))) ?_)))) ?_
  rintro ⟨i,sA,sx,sc⟩ ⟨hi,hsx⟩
  simp only at hi hsx
  simp only [zAx,zJ,rowOf,List.cons_append,List.nil_append]
  by_cases hil:i<c.beds.length
  ·have hl:=zGa (ch:=ch) (f:=f) (h:=y) (u:=u) i
   have:zAU (L.set y ⟨sA,sx,sc⟩) y ⟨sA,sx,sc⟩:=⟨List.getElem?_set_self (by omega)⟩
   have e1:drawnR ch f y u (i+1)=if u.cold && (decide ((sx.length:Int)<u.crew) && decide (0<chW ch (f+13 * y+i) % 3)) then sx++[(i:Int)] else sx:=by rw [hsx];rfl
   rw [← hsx] at hl
   have hc1:=chW_in hf (f+13 * y+i)
   have hc2:=fun W (hW:Below w.heap.size w W)=>hCh W hW ((f:Int)+13 * (y:Int)+(i:Int)) (f+13 * y+i) (by omega)
   generalize chW ch (f+13 * y+i)=z at *
   obtain ⟨um,ur,uc,ud⟩:=u
   simp only at e1
   (repeat' (first|((with_reducible refine zG ?_);first|refine zE rfl rfl rfl rfl rfl ?_|refine zC rfl rfl rfl rfl rfl ?_|(refine zU rfl rfl rfl rfl rfl rfl rfl (fun h=>?_) (fun h=>?_)<;>(dsimp only [cmpP] at h;(try (exfalso;omega)))))|(with_reducible first|refine zH ?_|refine zB ?_|refine zD ?_|refine zA ?_|refine zS ?_|refine zQ ?_)|((with_reducible refine zI ?_ ?_);(· exact rfl))))
   cases ud with
   | false =>
    simp only [Bool.false_and,Bool.false_eq_true,if_false] at e1
    (refine zAy (by kernel_rfl) (by kernel_rfl) (by kernel_rfl) ?_)
    (repeat' (first|((with_reducible refine zBV ?_);first|refine zN (zAe rfl rfl) rfl rfl rfl ?_|refine zN (zAE rfl rfl (by exact rfl)) rfl rfl rfl ?_|refine zN (zAP rfl rfl) rfl rfl rfl ?_|refine zN (zCU rfl rfl rfl) rfl rfl rfl ?_|refine zAv rfl rfl rfl ?_|refine zN (zAQ (I:=y) rfl rfl rfl (by omega) (by first|omega|(dsimp only;omega))) rfl rfl rfl ?_)|(with_reducible refine zB6 ?_)))
    (repeat' (first|((with_reducible refine zG ?_);first|refine zE rfl rfl rfl rfl rfl ?_|refine zf rfl rfl rfl rfl rfl rfl (by omega) ?_)|(with_reducible first|refine zB ?_|refine zD ?_|refine zA ?_|refine zS ?_|refine zh ?_)|((with_reducible refine zF ?_ ?_);(· exact rfl))))
    exact zi (ι:=Nat × zAC Int) (i+1,⟨sA,sx,sc⟩) (by exact ⟨by simp only;omega,e1.symm⟩) (by simp only;omega) (by (first|exact lK1|(repeat (first|exact lK1|(refine zM rfl ?_))))) (by (repeat (first|exact oK1 _|(refine oK2 (by (repeat (first|exact tK1 _ _|apply tK2))) ?_))))
   | true =>
    simp only [Bool.true_and] at e1
    (refine zAy (by kernel_rfl) (by kernel_rfl) (by kernel_rfl) ?_)
    (repeat' (first|((with_reducible refine zBV ?_);first|refine zN (zAe rfl rfl) rfl rfl rfl ?_|refine zN (zAE rfl rfl (by exact rfl)) rfl rfl rfl ?_|refine zN (zAP rfl rfl) rfl rfl rfl ?_|refine zN (zCU rfl rfl rfl) rfl rfl rfl ?_|refine zAv rfl rfl rfl ?_|(refine zDU rfl rfl rfl rfl rfl rfl rfl (fun h=>?_) (fun h=>?_)<;>(dsimp only [cmpP] at h;(try (exfalso;omega))))|refine zN (zAQ (I:=y) rfl rfl rfl (by omega) (by first|omega|(dsimp only;omega))) rfl rfl rfl ?_|refine zDb rfl rfl rfl rfl rfl rfl (fun _ _ q=>hc2 _ q.below) ?_|refine zN (zE9 rfl rfl rfl (IntWalk.i64_in _ (by omega))) rfl rfl rfl ?_|refine zN (zG7 rfl rfl rfl (IntWalk.i64_in _ (by omega))) rfl rfl rfl ?_|refine zN (zCy rfl rfl) rfl rfl rfl ?_|refine zN (zH6 rfl rfl rfl (by omega) (by omega)) rfl rfl rfl ?_)|(with_reducible refine zB6 ?_)))
    ·rw [if_pos (by simp only [Bool.and_eq_true,decide_eq_true_eq];omega)] at e1
     (repeat' (first|((with_reducible refine zG ?_);first|refine zE rfl rfl rfl rfl rfl ?_|(refine zK rfl rfl rfl rfl rfl ?_;refine ⟨_,rfl,?_⟩)|(refine zBT (enc:=encI) [_] rfl rfl rfl rfl rfl (by (repeat (first|exact tK1 _ _|apply tK2))) rfl rfl (zAt (by exact rfl)) (by refine ⟨?_,by decide⟩;(try simp only [List.length_append,List.length_cons,List.length_nil]);omega) (fun A' c'=>?_))|refine zCs (hd:=zy) (i:=y) (s:=⟨sA,sx,sc⟩) ⟨A',sx++[(i:Int)],c'⟩ rfl rfl rfl rfl rfl rfl (by (repeat (first|exact tK1 _ _|apply tK2))) (by omega) ?_|refine zf rfl rfl rfl rfl rfl rfl (by omega) ?_|refine zb rfl rfl rfl rfl rfl rfl rfl (by omega) ?_|(refine zAD rfl rfl rfl rfl rfl ?_;refine ⟨rfl,_,rfl,fun b=>?_⟩))|(with_reducible first|refine zB ?_|refine zD ?_|refine zA ?_|refine zh ?_)|((with_reducible refine zI ?_ ?_);(· exact rfl))))
     exact zi (ι:=Nat × zAC Int) (i+1,⟨A',sx++[(i:Int)],c'⟩) (by exact ⟨by simp only;omega,e1.symm⟩) (by simp only;omega) (by (first|exact lK1|(repeat (first|exact lK1|(refine zM rfl ?_))))) (by (repeat (first|exact oK1 _|(refine oK2 (by (repeat (first|exact tK1 _ _|apply tK2))) ?_))))
    ·rw [if_neg (by simp only [Bool.and_eq_true,decide_eq_true_eq];omega)] at e1
     (repeat' (first|((with_reducible refine zG ?_);first|refine zE rfl rfl rfl rfl rfl ?_|refine zf rfl rfl rfl rfl rfl rfl (by omega) ?_)|(with_reducible first|refine zB ?_|refine zD ?_|refine zA ?_|refine zS ?_|refine zh ?_)|((with_reducible refine zF ?_ ?_);(· exact rfl))))
     exact zi (ι:=Nat × zAC Int) (i+1,⟨sA,sx,sc⟩) (by exact ⟨by simp only;omega,e1.symm⟩) (by simp only;omega) (by (first|exact lK1|(repeat (first|exact lK1|(refine zM rfl ?_))))) (by (repeat (first|exact oK1 _|(refine oK2 (by (repeat (first|exact tK1 _ _|apply tK2))) ?_))))
    ·rw [if_neg (by simp only [Bool.and_eq_true,decide_eq_true_eq];omega)] at e1
     (repeat' (first|((with_reducible refine zG ?_);first|refine zE rfl rfl rfl rfl rfl ?_|refine zf rfl rfl rfl rfl rfl rfl (by omega) ?_)|(with_reducible first|refine zB ?_|refine zD ?_|refine zA ?_|refine zS ?_|refine zh ?_)|((with_reducible refine zF ?_ ?_);(· exact rfl))))
     exact zi (ι:=Nat × zAC Int) (i+1,⟨sA,sx,sc⟩) (by exact ⟨by simp only;omega,e1.symm⟩) (by simp only;omega) (by (first|exact lK1|(repeat (first|exact lK1|(refine zM rfl ?_))))) (by (repeat (first|exact oK1 _|(refine oK2 (by (repeat (first|exact tK1 _ _|apply tK2))) ?_))))
  ·obtain rfl:i=c.beds.length:=by omega
   (repeat' (first|((with_reducible refine zG ?_);first|refine zE rfl rfl rfl rfl rfl ?_|(refine zU rfl rfl rfl rfl rfl rfl rfl (fun h=>?_) (fun h=>?_)<;>(dsimp only [cmpP] at h;(try (exfalso;omega))))|refine zf rfl rfl rfl rfl rfl rfl (by omega) ?_)|(with_reducible first|refine zH ?_|refine zB ?_|refine zD ?_|refine zA ?_|refine zj ?_|refine zh ?_|refine zR ?_|refine zW ?_)|((with_reducible refine zF ?_ ?_);(· exact rfl))))
   refine zCi y (re:=rowOf encI 1 3) ⟨sA,sx,sc⟩ hs0 (by (repeat (first|exact tK1 _ _|apply tK2))) (by (repeat (first|exact tK1 _ _|apply tK2))) (by (repeat (first|exact tK1 _ _|apply tK2))) ?_
   refine zi (ι:=Nat × List (zAC Int)) (y+1,L.set y ⟨sA,sx,sc⟩) ⟨by simp only;omega,?_⟩ (by simp only;omega) (by (first|exact lK1|(repeat (first|exact lK1|(refine zM rfl ?_))))) (by (repeat (first|exact oK1 _|(refine oK2 (by (repeat (first|exact tK1 _ _|apply tK2))) ?_))))
   simp only
   rw [List.map_set,hL,hsx,← zNm hyl,zAh hu]
 ·obtain rfl:y=c.hours.length:=by omega
  (repeat' (first|((with_reducible refine zG ?_);first|refine zE rfl rfl rfl rfl rfl ?_|refine zC rfl rfl rfl rfl rfl ?_|(refine zU rfl rfl rfl rfl rfl rfl rfl (fun h=>?_) (fun h=>?_)<;>(dsimp only [cmpP] at h;(try (exfalso;omega)))))|(with_reducible first|refine zH ?_|refine zB ?_|refine zD ?_|refine zA ?_|refine zc ?_|refine zj ?_|refine zR ?_|refine zW ?_)|((with_reducible refine zF ?_ ?_);(· exact rfl))))
  exact zV (by (exact zO.cons (by exact zn.tmp rfl) zO.nil)) (go,L) (by rw [hL,zNn]) rfl (fun _ h=>h.sub (by (repeat (first|exact oK1 _|(refine oK2 (by (repeat (first|exact tK1 _ _|apply tK2))) ?_)))))
theorem zJJ (c:Cov) (A:Option Addr) (ca:Nat) (B:Option Addr) (cb:Nat) (C:Option Addr) (cc:Nat) (ch:List Int) (D:Option Addr) (cd f:Nat) (w:World) (hc:zAk w c A B C) (hs:Small c) (hD:zx encU 1 w D ch) (hf:FitW ch) (hff:f≤1000) :
  Ret Tryz.prog 17 [zAI c A ca B cb C cc,.slice D ch.length cd,.int .i64 (f:Int)] w (fun z:Nat × Nat × Option Addr × Nat=>.slice z.2.2.1 c.hours.length z.2.2.2) (fun z=>[.zFN z.1 z.2.1 z.2.2.1 (zBy c ch f)]) (fun _=>True):=by
 have h1:Ret Tryz.prog 17 [zAI c A ca B cb C cc,.slice D ch.length cd,.int .i64 (f:Int)] w (fun p:(Option Addr × Nat) × List Sli=>.slice p.1.1 p.2.length p.1.2) (fun p=>[.sl zBa 1 p.1.1 p.2,.rows p.2]) (fun p=>p.2.map Sli.xs=zBy c ch f):=by
  refine (zNX c A ca B cb C cc ch D cd f w hc hs hD hf hff).conv fun p hp=>⟨((some ⟨p.1,0,none⟩,c.hours.length),p.2.map zAC.sli),by simp only;rw [sli_xs];exact hp,?_,fun w'=>zL8⟩
  have:p.2.length=c.hours.length:=by have:=congrArg List.length hp;rw [zBo] at this;simpa using this
  simp only [List.length_map,this]
 have h2:=Ret.zFN (V:=fun v=>v) h1
 simp only [zBo] at h2
 exact h2
theorem zKk {ch:List Int} {f h:Nat} {u:Hour} (hu:0≤u.crew):∀ i,((drawnR ch f h u i).length:Int)≤u.crew∧(drawnR ch f h u i=[]∨u.cold=true)∧(∀ x∈drawnR ch f h u i,0≤x∧x<i)∧(drawnR ch f h u i).Pairwise (· < ·)
 | 0=>by simp [drawnR,hu]
 | i+1=>by
  obtain ⟨h1,h2,h3,h4⟩:=zKk (ch:=ch) (f:=f) (h:=h) (u:=u) hu i
  unfold drawnR
  split
  ·rename_i hc
   simp only [Bool.and_eq_true,decide_eq_true_eq] at hc
   refine ⟨by simp;omega,.inr hc.1,fun x hx=>?_,?_⟩
   ·rcases List.mem_append.1 hx with hx|hx
    ·have:=h3 x hx;omega
    ·simp only [List.mem_singleton] at hx;subst hx;omega
   ·rw [List.pairwise_append]
    refine ⟨h4,List.pairwise_singleton _ _,fun x hx y hy=>?_⟩
    simp only [List.mem_singleton] at hy;subst hy
    exact (h3 x hx).2
  ·exact ⟨h1,h2,fun x hx=>by have:=h3 x hx;omega,h4⟩
theorem zMm {c:Cov} {ch:List Int} {f:Nat} (hf:zB4 c):zBg c (zBf (zBy c ch f))=true:=by
 refine zBN.2 ⟨by simp [zBf,zBo],fun i u s hu hs=>?_⟩
 have hi:=(List.getElem?_eq_some_iff.1 hu).1
 have e:s.xs=drawnR ch f i u c.beds.length:=by
  unfold zBf zBy at hs
  rw [List.map_map,List.getElem?_map,List.getElem?_range hi] at hs
  simp only [Option.map_some,Function.comp_apply,Option.some.injEq] at hs
  rw [← hs,zAh hu]
 have hcr:=hf.hour u (List.mem_of_getElem? hu)
 simp only [zCS,Bool.and_eq_true,zAL] at hcr
 obtain ⟨h1,h2,h3,h4⟩:=zKk (ch:=ch) (f:=f) (h:=i) (u:=u) (by omega) c.beds.length
 unfold zFK
 rw [e]
 simp only [Bool.and_eq_true,Bool.or_eq_true,decide_eq_true_eq,List.all_eq_true,zAL]
 refine ⟨⟨⟨h1,?_⟩,fun x hx=>by have:=h3 x hx;omega⟩,zGO.2 fun k hk=>?_⟩
 ·rcases h2 with h2|h2
  ·exact .inl (by rw [h2];rfl)
  ·exact .inr h2
 ·rw [Flow.zAX (by omega),Flow.zAX hk]
  exact List.pairwise_iff_getElem.1 h4 k (k+1) (by omega) hk (by omega)
end Go.Proofs.YtdigopgncfhiaaaGreatDoor
namespace Go.Proofs.YtdigopgncfhiaaaGreatDoor
open Go.ChangeShapes Go.WideShapes Go.ChangeAt Go.RowKit
section
variable {H : Type} {enc:TypeId × Value→H} {w:World} {held:Bool}
set_option maxRecDepth 20000 in
theorem zF9 {base:Nat} {r:Reach} {v:Value} {dd:DataW H} {p:List MemPlace} (hv:Value.okWide Tryz.prog w r base 31 v) (h:DataW.Trod enc Tryz.prog w 0 (fun _=>true) held 31 v dd p) :
  ∃ (A:Option Addr) (l:List Int) (c:Nat),v = .slice A l.length c∧zx encU 1 w A l∧FitW l∧l.length≤c∧c≤maxLen:=by
 obtain ⟨a,len,cap,rfl⟩:=okWide_slice Tryz.underlying31 hv
 obtain ⟨fuel,hf⟩:=h
 obtain ⟨A,l,c,e0,hs,hfit,h1,h2⟩:=zDn (en:=encU) (k:=1) (ok:=fun x=>0≤x∧x≤4294967295) Tryz.underlying31 (by kernel_rfl) (by omega) (fun _=>rfl) (fun _ _ _ h=>rd_u32 Tryz.underlying80 h) hf
 simp [Value.cells] at e0
 obtain ⟨e1,e2,e3⟩:=e0
 exact ⟨A,l,c,by rw [e1,e2,e3],hs,hfit,h1,h2⟩
set_option maxRecDepth 20000 in
theorem open_spW {base:Nat} {r:Reach} {v:Value} {dd:DataW H} {p:List MemPlace} (hv:Value.okWide Tryz.prog w r base 28 v) (h:DataW.Trod enc Tryz.prog w 0 (fun _=>true) held 28 v dd p):∃ s:Sp,v=vSp s:=by
 obtain ⟨cs,rfl,_⟩:=okWide_struct Tryz.underlying28 hv
 obtain ⟨fuel,hf⟩:=h
 obtain ⟨s,e,_⟩:=zF7 hf
 refine ⟨s,?_⟩
 obtain ⟨l⟩:=cs
 simp [Value.cells] at e
 rw [e];rfl
set_option maxRecDepth 20000 in
theorem zO6 {base:Nat} {r:Reach} {v:Value} {dd:DataW H} {p:List MemPlace} (hv:Value.okWide Tryz.prog w r base 30 v) (h:DataW.Trod enc Tryz.prog w 0 (fun _=>true) held 30 v dd p) :
  ∃ (c:Cov) (A:Option Addr) (ca:Nat) (B:Option Addr) (cb:Nat) (C:Option Addr) (cc:Nat),v=zAI c A ca B cb C cc∧zAk w c A B C∧zFb c.t∧c.hours.length≤cc:=by
 obtain ⟨cs,rfl,_⟩:=okWide_struct Tryz.underlying30 hv
 obtain ⟨fuel,hf⟩:=h
 have hl:=zHY Tryz.underlying30 hf (k:=10) (by kernel_rfl)
 obtain ⟨n0,y0,h0⟩:=zAR Tryz.underlying30 hf (j:=0) rfl rfl (k:=1) (by kernel_rfl)
 obtain ⟨n1,y1,h1⟩:=zAR Tryz.underlying30 hf (j:=1) rfl rfl (k:=1) (by kernel_rfl)
 obtain ⟨n2,y2,h2⟩:=zAR Tryz.underlying30 hf (j:=2) rfl rfl (k:=1) (by kernel_rfl)
 obtain ⟨n3,y3,h3⟩:=zAR Tryz.underlying30 hf (j:=3) rfl rfl (k:=2) (by kernel_rfl)
 obtain ⟨n4,y4,h4⟩:=zAR Tryz.underlying30 hf (j:=4) rfl rfl (k:=2) (by kernel_rfl)
 obtain ⟨n5,y5,h5⟩:=zAR Tryz.underlying30 hf (j:=5) rfl rfl (k:=1) (by kernel_rfl)
 obtain ⟨n6,y6,h6⟩:=zAR Tryz.underlying30 hf (j:=6) rfl rfl (k:=1) (by kernel_rfl)
 obtain ⟨n7,y7,h7⟩:=zAR Tryz.underlying30 hf (j:=7) rfl rfl (k:=1) (by kernel_rfl)
 obtain ⟨n8,y8,h8⟩:=zAR Tryz.underlying24 h0 (j:=0) rfl rfl (k:=1) (by kernel_rfl)
 obtain ⟨A,t,ca,e0,s0,f0,_,_⟩:=zDn (en:=zA5) (k:=9) (ok:=FitSt) Tryz.underlying22 (by kernel_rfl) (by omega) (fun _=>rfl) (fun _ _ _ h=>rd_st h) h8
 obtain ⟨B,be,cb,e1,s1,_,_,_⟩:=zDn (en:=zAd) (k:=3) (ok:=fun _=>True) Tryz.underlying25 (by kernel_rfl) (by omega) (fun _=>rfl) (fun _ _ _ h=>rd_bed h) h1
 obtain ⟨C,ho,cc,e2,s2,_,hcc,_⟩:=zDn (en:=zq) (k:=5) (ok:=fun _=>True) Tryz.underlying26 (by kernel_rfl) (by omega) (fun _=>rfl) (fun _ _ _ h=>zOF h) h2
 obtain ⟨we,e3,_⟩:=zF7 h3
 obtain ⟨la,e4,_⟩:=zF7 h4
 obtain ⟨ra,e5,_⟩:=zC9 Tryz.underlying3 h5
 obtain ⟨li,e6,_⟩:=zC9 Tryz.underlying3 h6
 obtain ⟨ba,e7,_⟩:=zC9 Tryz.underlying3 h7
 refine ⟨⟨t,be,ho,we,la,ra,li,ba⟩,A,ca,B,cb,C,cc,?_,⟨s0,s1,s2⟩,fun s hs=>(f0 s hs).2.2.2.2.1,hcc⟩
 obtain ⟨l⟩:=cs
 match l,hl with
 | [c0,c1,c2,c3,c4,c5,c6,c7,c8,c9],_ =>
  simp [Value.cells,zBD] at e0 e1 e2 e3 e4 e5 e6 e7
  simp [zAI,zJ,e0,e1,e2,e3,e4,e5,e6,e7]
end
theorem zHm (os:Os) (args:Array Value):laidMetH Tryz.prog [("kreisel/ice.limits",Rows.laid_kreisel_ice_limits)] ((World.doorLaid Tryz.prog 600 os).forCall (fun _ _=>0) ⟨#[],args,[]⟩).memory :=
 laidMetH_of_parts3 (fuel:=8) (laidMet_of_run' 8 (by kernel_rfl) (by kernel_rfl)) (by kernel_rfl) (by kernel_rfl)
end Go.Proofs.YtdigopgncfhiaaaGreatDoor
namespace Go.Proofs.YtdigopgncfhiaaaGreatDoor
open Go.RowKit
set_option maxRecDepth 20000
def zFF (c:Cov) (pl:List Sli):List (Int × Int):=if zCK c pl=0 then zBQ c pl zBX else []
def zEQ (c:Cov) (pl:List Sli):Int:=if zCK c pl=0 then (if (zBQ c pl zBX).length=0 then 2 else if (zBQ c pl zEE).length=0 then 1 else 0) else 0
set_option maxHeartbeats 2000000 in
theorem zPR (c:Cov) (A:Option Addr) (ca:Nat) (B:Option Addr) (cb:Nat) (C:Option Addr) (cc:Nat) (pl:List Sli) (P:Option Addr) (cp:Nat) (w:World) (hc:zAk w c A B C) (hs:Small c) (hp:zBP w P pl) (hl:pl.length≤12) (hrl:∀ s∈pl,s.xs.length≤20) (hG:InC w 0 0 zCc) :
  Ret Tryz.prog 20 [zAI c A ca B cb C cc,.slice P pl.length cp] w (fun p:Option Addr × Nat=>.tuple #[.slice p.1 (zFF c pl).length p.2,.int .i64 (zCK c pl)]) (fun p=>[.sl zAl 2 p.1 (zFF c pl)]) (fun _=>True):=by
 have h1:=fun W (hb:Below w.heap.size w W)=>zEW c A ca B cb C cc pl P cp W (hc.below hb) hs (hp.below hb) hl hrl
 have h2:=fun W (hb:Below w.heap.size w W)=>zEV c A ca B cb C cc pl P cp W (hc.below hb) hs (hp.below hb) hl hrl
 unfold zAI at h1 h2
 unfold zAI zFF
 by_cases h0:zCK c pl=0
 ·rw [if_pos h0,h0]
  obtain ⟨h00,hpl⟩:=zEc h0
  have hf:=zBi h00
  have h2:=fun W hb=>h2 W hb h00 hpl
  have hT:=fun W (hb:Below w.heap.size w W) g (hr:InC W g 0 (zJ c A ca B cb C cc))=>zFs (en:=zBX) (enF:=58) zHI c A ca B cb C cc g pl P cp W hr (hG.below hb) (hc.below hb) hs hf (hp.below hb) hrl (zBN.1 hpl).1
  unfold zJ at h2 hT ⊢
  (refine zL (n:=20) Tryz.func20 rfl rfl rfl ?_)
  (repeat' (first|((with_reducible refine zG ?_);first|refine zE rfl rfl rfl rfl rfl ?_|refine zC rfl rfl rfl rfl rfl ?_|(refine zK rfl rfl rfl rfl rfl ?_;refine ⟨_,rfl,?_⟩)|(refine zU rfl rfl rfl rfl rfl rfl rfl (fun h=>?_) (fun h=>?_)<;>(dsimp only [cmpP] at h;(try (exfalso;omega))))|(refine zAN rfl rfl rfl rfl rfl rfl (fun _ _ q=>h2 _ q.below) ?_;rintro g -;dsimp only [List.cons_append,List.nil_append])|(refine zAN rfl rfl rfl rfl rfl rfl (fun _ _ q=>hT _ q.below g (zAc q.own (Below.refl _ _) rfl)) ?_;rintro ⟨A',c'⟩ -;dsimp only [List.cons_append,List.nil_append])|refine zd rfl rfl rfl rfl rfl rfl ?_|(refine zt rfl rfl rfl rfl rfl rfl (fun b=>?_)))|(with_reducible first|refine zH ?_|refine zB ?_|refine zD ?_|refine zA ?_|refine zc ?_|refine zS ?_|refine zY ?_|refine zBG ?_)|((with_reducible refine zI ?_ ?_);(· exact rfl))|((with_reducible refine zF ?_ ?_);(· exact rfl))))
  exact zV (by (exact zO.cons (by exact zn.tmp rfl) (zO.cons (by exact zn.tmp rfl) zO.nil))) (A',c') trivial rfl (fun _ h=>h.sub (by (repeat (first|exact oK1 _|(refine oK2 (by (repeat (first|exact tK1 _ _|apply tK2))) ?_)))))
 ·rw [if_neg h0]
  unfold zJ at h1 ⊢
  generalize zCK c pl=e at *
  (refine zL (n:=20) Tryz.func20 rfl rfl rfl ?_)
  (repeat' (first|((with_reducible refine zG ?_);first|refine zE rfl rfl rfl rfl rfl ?_|refine zC rfl rfl rfl rfl rfl ?_|(refine zK rfl rfl rfl rfl rfl ?_;refine ⟨_,rfl,?_⟩)|(refine zU rfl rfl rfl rfl rfl rfl rfl (fun h=>?_) (fun h=>?_)<;>(dsimp only [cmpP] at h;(try (exfalso;omega))))|refine zX rfl rfl rfl rfl rfl rfl (fun _ _ q=>h1 _ q.below h0) ?_|refine zd rfl rfl rfl rfl rfl rfl ?_|(refine zt rfl rfl rfl rfl rfl rfl (fun b=>?_)))|(with_reducible first|refine zH ?_|refine zB ?_|refine zD ?_|refine zA ?_|refine zc ?_|refine zS ?_|refine zY ?_|refine zBG ?_)|((with_reducible refine zI ?_ ?_);(· exact rfl))|((with_reducible refine zF ?_ ?_);(· exact rfl))))
  all_goals exact zV (by (exact zO.cons (by exact zn.tmp rfl) (zO.cons (by exact zn.tmp rfl) zO.nil))) (none,0) trivial rfl (fun _ h=>(zHQ h).sub (by (repeat (first|exact oK1 _|(refine oK2 (by (repeat (first|exact tK1 _ _|apply tK2))) ?_)))))
set_option maxHeartbeats 2000000 in
theorem zPS (c:Cov) (A:Option Addr) (ca:Nat) (B:Option Addr) (cb:Nat) (C:Option Addr) (cc:Nat) (pl:List Sli) (P:Option Addr) (cp:Nat) (w:World) (hc:zAk w c A B C) (hs:Small c) (hp:zBP w P pl) (hl:pl.length≤12) (hrl:∀ s∈pl,s.xs.length≤20) (hG:InC w 0 0 zCc) :
  Gv Tryz.prog 21 [zAI c A ca B cb C cc,.slice P pl.length cp] w (.tuple #[.int .u8 (zEQ c pl),.int .i64 (zCK c pl)]):=by
 have h1:=fun W (hb:Below w.heap.size w W)=>zEW c A ca B cb C cc pl P cp W (hc.below hb) hs (hp.below hb) hl hrl
 have h2:=fun W (hb:Below w.heap.size w W)=>zEV c A ca B cb C cc pl P cp W (hc.below hb) hs (hp.below hb) hl hrl
 unfold zAI at h1 h2
 unfold Gv zAI zEQ
 by_cases h0:zCK c pl=0
 ·rw [if_pos h0,h0]
  obtain ⟨h00,hpl⟩:=zEc h0
  have hf:=zBi h00
  have h2:=fun W hb=>h2 W hb h00 hpl
  have hT:=fun W (hb:Below w.heap.size w W) g (hr:InC W g 0 (zJ c A ca B cb C cc))=>zFs (en:=zBX) (enF:=58) zHI c A ca B cb C cc g pl P cp W hr (hG.below hb) (hc.below hb) hs hf (hp.below hb) hrl (zBN.1 hpl).1
  have hB:=fun W (hb:Below w.heap.size w W) g (hr:InC W g 0 (zJ c A ca B cb C cc))=>zFs (en:=zEE) (enF:=59) best_any c A ca B cb C cc g pl P cp W hr (hG.below hb) (hc.below hb) hs hf (hp.below hb) hrl (zBN.1 hpl).1
  generalize zBQ c pl zBX=l1 at *
  generalize zBQ c pl zEE=l2 at *
  unfold zJ at h2 hT hB ⊢
  (refine zL (n:=30) Tryz.func21 rfl rfl rfl ?_)
  (repeat' (first|((with_reducible refine zG ?_);first|refine zE rfl rfl rfl rfl rfl ?_|refine zC rfl rfl rfl rfl rfl ?_|(refine zK rfl rfl rfl rfl rfl ?_;refine ⟨_,rfl,?_⟩)|(refine zU rfl rfl rfl rfl rfl rfl rfl (fun h=>?_) (fun h=>?_)<;>(dsimp only [cmpP] at h;(try (exfalso;omega))))|(refine zAN rfl rfl rfl rfl rfl rfl (fun _ _ q=>h2 _ q.below) ?_;rintro g -;dsimp only [List.cons_append,List.nil_append])|(refine zAN rfl rfl rfl rfl rfl rfl (fun _ _ q=>hT _ q.below g (zAc q.own (Below.refl _ _) rfl)) ?_;rintro ⟨A',c'⟩ -;dsimp only [List.cons_append,List.nil_append])|(refine zAN rfl rfl rfl rfl rfl rfl (fun _ _ q=>hB _ q.below g (zAc q.own (Below.refl _ _) rfl)) ?_;rintro ⟨A',c'⟩ -;dsimp only [List.cons_append,List.nil_append])|refine zd rfl rfl rfl rfl rfl rfl ?_|refine zp rfl rfl rfl rfl rfl ?_|(refine zt rfl rfl rfl rfl rfl rfl (fun b=>?_)))|(with_reducible first|refine zH ?_|refine zB ?_|refine zD ?_|refine zA ?_|refine zc ?_|refine zS ?_|refine zY ?_|refine zBG ?_|refine zQ ?_|refine zj ?_|refine zh ?_|refine zAK ?_|refine zR ?_|refine zW ?_)|((with_reducible refine zr ?_ ?_);(· exact rfl))|((with_reducible refine zI ?_ ?_);(· exact rfl))|((with_reducible refine zF ?_ ?_);(· exact rfl))))
  all_goals first|exact zV (by (exact zO.cons (by exact zn.tmp rfl) (zO.cons (by exact zn.tmp rfl) zO.nil))) () trivial (by rw [if_pos (by omega)];rfl) (fun _ h=>h.sub (by (repeat (first|exact oK1 _|(refine oK2 (by (repeat (first|exact tK1 _ _|apply tK2))) ?_)))))|exact zV (by (exact zO.cons (by exact zn.tmp rfl) (zO.cons (by exact zn.tmp rfl) zO.nil))) () trivial (by rw [if_neg (by omega),if_pos (by omega)];rfl) (fun _ h=>h.sub (by (repeat (first|exact oK1 _|(refine oK2 (by (repeat (first|exact tK1 _ _|apply tK2))) ?_)))))|exact zV (by (exact zO.cons (by exact zn.tmp rfl) (zO.cons (by exact zn.tmp rfl) zO.nil))) () trivial (by rw [if_neg (by omega),if_neg (by omega)];rfl) (fun _ h=>h.sub (by (repeat (first|exact oK1 _|(refine oK2 (by (repeat (first|exact tK1 _ _|apply tK2))) ?_)))))
 ·rw [if_neg h0]
  unfold zJ at h1 ⊢
  generalize zCK c pl=e at *
  (refine zL (n:=30) Tryz.func21 rfl rfl rfl ?_)
  (repeat' (first|((with_reducible refine zG ?_);first|refine zE rfl rfl rfl rfl rfl ?_|refine zC rfl rfl rfl rfl rfl ?_|(refine zK rfl rfl rfl rfl rfl ?_;refine ⟨_,rfl,?_⟩)|(refine zU rfl rfl rfl rfl rfl rfl rfl (fun h=>?_) (fun h=>?_)<;>(dsimp only [cmpP] at h;(try (exfalso;omega))))|refine zX rfl rfl rfl rfl rfl rfl (fun _ _ q=>h1 _ q.below h0) ?_|refine zd rfl rfl rfl rfl rfl rfl ?_|refine zp rfl rfl rfl rfl rfl ?_|(refine zt rfl rfl rfl rfl rfl rfl (fun b=>?_)))|(with_reducible first|refine zH ?_|refine zB ?_|refine zD ?_|refine zA ?_|refine zc ?_|refine zS ?_|refine zY ?_|refine zBG ?_|refine zQ ?_|refine zj ?_|refine zh ?_|refine zAK ?_|refine zR ?_|refine zW ?_)|((with_reducible refine zr ?_ ?_);(· exact rfl))|((with_reducible refine zI ?_ ?_);(· exact rfl))|((with_reducible refine zF ?_ ?_);(· exact rfl))))
  all_goals exact zV (by (exact zO.cons (by exact zn.tmp rfl) (zO.cons (by exact zn.tmp rfl) zO.nil))) () trivial rfl (fun _ _=>Own.nil _ _)
end Go.Proofs.YtdigopgncfhiaaaGreatDoor
namespace Go.Proofs.YtdigopgncfhiaaaGreatDoor
open Go.RowKit
set_option maxRecDepth 20000
theorem guardPr : Tryz.prog.eqGuardType Tryz.prog.depth 75=false:=by kernel_rfl
theorem e_nePr {w0:World} {n:Nat} {d:List Deferred} {R:List (Nat × Value)} {H:List Ent} {o:Oper} {x y:Operand} {a b:Int} {T':TypeId} (hop:o.op = .binOp .neq 75 x y T') (hx:evR R x=some (.agg #[.int .i64 a,.int .i64 b])) (hy:evR R y=some (.agg #[.int .i64 a,.int .i64 b])):Ev Tryz.prog w0 n d R H o (.bool false):=fun k w q=>by
 have e:=zHv 9998 a b a b w
 simp only [decide_true,Bool.and_true] at e
 have g:(eqGuard .neq 75 x y (.agg #[.int .i64 a,.int .i64 b]) (.agg #[.int .i64 a,.int .i64 b])).run Tryz.prog w = .ok () w:=run_eqGuard_agg _ _ _ _ _ _ _ guardPr
 unfold execOp;rw [hop]
 simp only [Sem.run_bind,q.ev hx,q.ev hy,g,Result.andThen_ok]
 rw [run_neq_struct,e];rfl
set_option maxHeartbeats 1000000 in
theorem zJt (l:List (Int × Int)) (A:Option Addr) (ca:Nat) (B:Option Addr) (cb:Nat) (w:World) (ha:zx zAl 2 w A l) (hb:zx zAl 2 w B l) (hl:l.length≤1000000) :
  Gv Tryz.prog 47 [.slice A l.length ca,.slice B l.length cb] w (.bool true):=by
 unfold Gv
 (refine zL (n:=26) Tryz.func47 rfl rfl rfl ?_)
 (repeat' (first|((with_reducible refine zG ?_);first|refine zE rfl rfl rfl rfl rfl ?_|refine zC rfl rfl rfl rfl rfl ?_|(refine zK rfl rfl rfl rfl rfl ?_;refine ⟨_,rfl,?_⟩)|(refine zU rfl rfl rfl rfl rfl rfl rfl (fun h=>?_) (fun h=>?_)<;>(dsimp only [cmpP] at h;(try (exfalso;omega))))|refine zf rfl rfl rfl rfl rfl rfl (by omega) ?_|refine zA2 rfl rfl rfl rfl rfl rfl (IntWalk.i64_in _ (by omega)) ?_|refine zb rfl rfl rfl rfl rfl rfl rfl (by omega) ?_|refine zAO rfl rfl rfl rfl rfl rfl rfl (by first|decide|omega) ?_|refine zp rfl rfl rfl rfl rfl ?_)|(with_reducible first|refine zH ?_|refine zB ?_|refine zD ?_|refine zA ?_|refine zc ?_|refine zS ?_|refine zY ?_|refine zBG ?_|refine zQ ?_|refine zj ?_|refine zh ?_|refine zAK ?_|refine zR ?_|refine zW ?_)|((with_reducible refine zr ?_ ?_);(· exact rfl))|((with_reducible refine zI ?_ ?_);(· exact rfl))|((with_reducible refine zF ?_ ?_);(· exact rfl))))
 refine zw (ι:=Nat) [0,1] rfl (fun i=>i≤l.length) (fun i=>[(5,.int .i64 (i:Int))]) (fun _=>[]) (fun i=>l.length - i) 0 (Nat.zero_le _) (by (first|exact lK1|(repeat (first|exact lK1|(refine zM rfl ?_))))) (by (repeat (first|exact oK1 _|(refine oK2 (by (repeat (first|exact tK1 _ _|apply tK2))) ?_)))) ?_
 rintro i hi
 simp only [zAx,List.cons_append,List.nil_append]
 by_cases hlt:i<l.length
 ·obtain ⟨z,hz⟩:∃ z,l[i]?=some z:=⟨_,List.getElem?_eq_getElem hlt⟩
  obtain ⟨b1,o1,rfl,hb1,hc1⟩:=ha.at_ hlt
  obtain ⟨b2,o2,rfl,hb2,hc2⟩:=hb.at_ hlt
  have:InS w b1 o1 zAl 2 l:=⟨ha⟩
  have:InS w b2 o2 zAl 2 l:=⟨hb⟩
  have:zAU l i z:=⟨hz⟩
  (repeat' (first|((with_reducible refine zG ?_);first|refine zE rfl rfl rfl rfl rfl ?_|refine zC rfl rfl rfl rfl rfl ?_|(refine zK rfl rfl rfl rfl rfl ?_;refine ⟨_,rfl,?_⟩)|(refine zU rfl rfl rfl rfl rfl rfl rfl (fun h=>?_) (fun h=>?_)<;>(dsimp only [cmpP] at h;(try (exfalso;omega))))|refine zf rfl rfl rfl rfl rfl rfl (by omega) ?_|refine zA2 rfl rfl rfl rfl rfl rfl (IntWalk.i64_in _ (by omega)) ?_|refine zb rfl rfl rfl rfl rfl rfl rfl (by omega) ?_|refine zAO rfl rfl rfl rfl rfl rfl rfl (by first|decide|omega) ?_|refine zp rfl rfl rfl rfl rfl ?_)|(with_reducible first|refine zH ?_|refine zB ?_|refine zD ?_|refine zA ?_|refine zc ?_|refine zS ?_|refine zY ?_|refine zBG ?_|refine zQ ?_|refine zj ?_|refine zh ?_|refine zAK ?_|refine zR ?_|refine zW ?_)|((with_reducible refine zr ?_ ?_);(· exact rfl))|((with_reducible refine zI ?_ ?_);(· exact rfl))|((with_reducible refine zF ?_ ?_);(· exact rfl))))
  (refine zAy (by kernel_rfl) (by kernel_rfl) (by kernel_rfl) ?_)
  (repeat' (first|((with_reducible refine zBV ?_);first|refine zN (zAe rfl rfl) rfl rfl rfl ?_|refine zN (zAE rfl rfl (by exact rfl)) rfl rfl rfl ?_|refine zN (zAP rfl rfl) rfl rfl rfl ?_|refine zN (zCU rfl rfl rfl) rfl rfl rfl ?_|refine zN (zBW rfl rfl) rfl rfl rfl ?_|refine zAv rfl rfl rfl ?_|(refine zDU rfl rfl rfl rfl rfl rfl rfl (fun h=>?_) (fun h=>?_)<;>(dsimp only [cmpP] at h;(try (exfalso;omega))))|refine zN (zAQ (I:=i) rfl rfl rfl (by omega) (by first|omega|(dsimp only;omega))) rfl rfl rfl ?_|refine zN (e_nePr (a:=z.1) (b:=z.2) rfl rfl rfl) rfl rfl rfl ?_|refine zN (zCo rfl rfl rfl) rfl rfl rfl ?_|refine zN (zJX rfl rfl) rfl rfl rfl ?_|refine zN (zE3 rfl rfl rfl (by omega)) rfl rfl rfl ?_|refine zN (zE9 rfl rfl rfl (IntWalk.i64_in _ (by omega))) rfl rfl rfl ?_|refine zN (zFY rfl rfl rfl (IntWalk.i64_in _ (by omega))) rfl rfl rfl ?_|refine zN (zG7 rfl rfl rfl (IntWalk.i64_in _ (by omega))) rfl rfl rfl ?_|refine zN (zAQ rfl rfl rfl rfl (by omega)) rfl rfl rfl ?_|refine zN (zEd rfl rfl rfl rfl (by first|decide|omega)) rfl rfl rfl ?_|refine zN (zCy rfl rfl) rfl rfl rfl ?_|refine zN (zKj rfl rfl) rfl rfl rfl ?_|refine zN (zAW rfl rfl) rfl rfl rfl ?_|refine zN (zDi rfl rfl (IntWalk.i64_in _ (by omega))) rfl rfl rfl ?_|refine zN (zJW rfl rfl rfl (by omega) (by omega) (IntWalk.i64_in _ (by omega))) rfl rfl rfl ?_|refine zN (zH6 rfl rfl rfl (by omega) (by omega)) rfl rfl rfl ?_|refine zN (zJY rfl rfl rfl) rfl rfl rfl ?_|refine zN (zGE rfl rfl rfl) rfl rfl rfl ?_|refine zN (zCH rfl rfl (by exact rfl)) rfl rfl rfl ?_|refine zN (zDG rfl rfl rfl) rfl rfl rfl ?_)|(with_reducible refine zB6 ?_)))
  (repeat' (first|((with_reducible refine zG ?_);first|refine zE rfl rfl rfl rfl rfl ?_|refine zC rfl rfl rfl rfl rfl ?_|(refine zK rfl rfl rfl rfl rfl ?_;refine ⟨_,rfl,?_⟩)|(refine zU rfl rfl rfl rfl rfl rfl rfl (fun h=>?_) (fun h=>?_)<;>(dsimp only [cmpP] at h;(try (exfalso;omega))))|refine zf rfl rfl rfl rfl rfl rfl (by omega) ?_|refine zA2 rfl rfl rfl rfl rfl rfl (IntWalk.i64_in _ (by omega)) ?_|refine zb rfl rfl rfl rfl rfl rfl rfl (by omega) ?_|refine zAO rfl rfl rfl rfl rfl rfl rfl (by first|decide|omega) ?_|refine zp rfl rfl rfl rfl rfl ?_)|(with_reducible first|refine zH ?_|refine zB ?_|refine zD ?_|refine zA ?_|refine zc ?_|refine zS ?_|refine zY ?_|refine zBG ?_|refine zQ ?_|refine zj ?_|refine zh ?_|refine zAK ?_|refine zR ?_|refine zW ?_)|((with_reducible refine zr ?_ ?_);(· exact rfl))|((with_reducible refine zI ?_ ?_);(· exact rfl))|((with_reducible refine zF ?_ ?_);(· exact rfl))))
  exact zi (i+1) (by omega) (by omega) (by (first|exact lK1|(repeat (first|exact lK1|(refine zM rfl ?_))))) (by (repeat (first|exact oK1 _|(refine oK2 (by (repeat (first|exact tK1 _ _|apply tK2))) ?_))))
 ·obtain rfl:i=l.length:=by omega
  (repeat' (first|((with_reducible refine zG ?_);first|refine zE rfl rfl rfl rfl rfl ?_|refine zC rfl rfl rfl rfl rfl ?_|(refine zK rfl rfl rfl rfl rfl ?_;refine ⟨_,rfl,?_⟩)|(refine zU rfl rfl rfl rfl rfl rfl rfl (fun h=>?_) (fun h=>?_)<;>(dsimp only [cmpP] at h;(try (exfalso;omega))))|refine zf rfl rfl rfl rfl rfl rfl (by omega) ?_|refine zA2 rfl rfl rfl rfl rfl rfl (IntWalk.i64_in _ (by omega)) ?_|refine zb rfl rfl rfl rfl rfl rfl rfl (by omega) ?_|refine zAO rfl rfl rfl rfl rfl rfl rfl (by first|decide|omega) ?_|refine zp rfl rfl rfl rfl rfl ?_)|(with_reducible first|refine zH ?_|refine zB ?_|refine zD ?_|refine zA ?_|refine zc ?_|refine zS ?_|refine zY ?_|refine zBG ?_|refine zQ ?_|refine zj ?_|refine zh ?_|refine zAK ?_|refine zR ?_|refine zW ?_)|((with_reducible refine zr ?_ ?_);(· exact rfl))|((with_reducible refine zI ?_ ?_);(· exact rfl))|((with_reducible refine zF ?_ ?_);(· exact rfl))))
  exact zV (by (exact zO.cons (by exact zn.tmp rfl) zO.nil)) () trivial rfl (fun _ _=>Own.nil _ _)
end Go.Proofs.YtdigopgncfhiaaaGreatDoor
