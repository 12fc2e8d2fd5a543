/- E17 -/
import Derived.Test.YtdigopgncfhiaaaGreatDoorE16
import Derived.Test.YtdigopgncfhiaaaGreatDoorE5
import Derived.Test.YtdigopgncfhiaaaGreatDoorE6
set_option linter.unusedSimpArgs false
set_option linter.unusedVariables false
namespace Go.Proofs.YtdigopgncfhiaaaGreatDoor
open Go.RowKit
set_option maxRecDepth 20000
def zA0 (b:Bool):List Value:=[.bool b]
instance encI_bl : zCM zA0 1:=⟨fun _=>rfl,fun b v hv=>by simp [zA0] at hv;subst hv;rfl⟩
theorem elem_bo : zJp Tryz.prog 121 4 1 1 (.bool false) :=
 ⟨by rfl,by exact ⟨_,rfl,rfl,rfl,rfl⟩,by decide,by decide⟩
instance elI_bo : ElI Tryz.prog 121 4 1 1:=⟨⟨_,elem_bo⟩⟩
def zDy (c:Cov) (h:Nat):List Bool:=(c.hours.take h).map (·.cold)
def zCx (c:Cov):List (List Bool):=List.replicate c.beds.length (c.hours.map (·.cold))
def zC2 (u:Hour):Int:=if u.cold then u.crew else 0
def zAF (c:Cov):List Int:=c.hours.map zC2
def zB3 (c:Cov) (h:Nat):List Int:=(c.hours.take h).map zC2++List.replicate (c.hours.length - h) 0
def zGT (c:Cov) (h i:Nat):List (List Bool):=List.replicate i (zDy c (h+1))++List.replicate (c.beds.length - i) (zDy c h)
theorem zPl {c:Cov} {h:Nat} (hh:h≤c.hours.length):(zDy c h).length=h:=by simp [zDy];omega
theorem zNp {c:Cov} {h:Nat} {u:Hour} (hu:c.hours[h]?=some u):zDy c (h+1)=zDy c h++[u.cold]:=by unfold zDy;rw [List.take_add_one,hu];simp
theorem zNd {c:Cov} {h:Nat} (hh:h≤c.hours.length):(zB3 c h).length=c.hours.length:=by simp [zB3];omega
theorem zJQ {c:Cov} {h:Nat} {u:Hour} (hu:c.hours[h]?=some u):(zB3 c h).set h (zC2 u)=zB3 c (h+1):=by
 obtain ⟨hi,e⟩:=List.getElem?_eq_some_iff.1 hu
 unfold zB3
 have hl:((c.hours.take h).map zC2).length=h:=by simp;omega
 rw [List.set_append_right _ _ (by omega),hl,Nat.sub_self]
 have e1:c.hours.take (h+1)=c.hours.take h++[u]:=by rw [List.take_add_one,hu];rfl
 rw [e1,List.map_append,List.append_assoc]
 congr 1
 obtain ⟨m,hm⟩:∃ m,c.hours.length - h=m+1:=⟨c.hours.length - h - 1,by omega⟩
 rw [hm,show c.hours.length - (h+1)=m by omega,List.replicate_succ]
 rfl
theorem zMY {c:Cov} {h:Nat} {u:Hour} (hu:c.hours[h]?=some u) (h0:zC2 u=0):zB3 c h=zB3 c (h+1):=by
 rw [← zJQ hu,h0]
 obtain ⟨hi,e⟩:=List.getElem?_eq_some_iff.1 hu
 have:(zB3 c h)[h]?=some 0:=by
  unfold zB3
  have hl:((c.hours.take h).map zC2).length=h:=by simp;omega
  rw [List.getElem?_append_right (by omega),hl,List.getElem?_replicate,if_pos (by omega)]
 obtain ⟨h1,h2⟩:=List.getElem?_eq_some_iff.1 this
 conv=>lhs;rw [← List.set_getElem_self h1]
 rw [h2]
theorem zNe {c:Cov}:zB3 c c.hours.length=zAF c:=by simp [zB3,zAF]
theorem zMX {c:Cov}:zB3 c 0=List.replicate c.hours.length 0:=by simp [zB3]
theorem zFn {c:Cov} {h:Nat}:zGT c h 0=List.replicate c.beds.length (zDy c h):=by simp [zGT]
theorem zMN {c:Cov} {h:Nat}:zGT c h c.beds.length=List.replicate c.beds.length (zDy c (h+1)):=by simp [zGT]
theorem zOM {c:Cov} {h i:Nat} (hi:i<c.beds.length):(zGT c h i)[i]?=some (zDy c h):=by
 unfold zGT
 rw [List.getElem?_append_right (by simp),List.length_replicate,Nat.sub_self,List.getElem?_replicate,if_pos (by omega)]
theorem zMM {c:Cov} {h i:Nat} (hi:i<c.beds.length):(zGT c h i).set i (zDy c (h+1))=zGT c h (i+1):=by
 unfold zGT
 rw [List.set_append_right _ _ (by simp),List.length_replicate,Nat.sub_self]
 obtain ⟨m,hm⟩:∃ m,c.beds.length - i=m+1:=⟨c.beds.length - i - 1,by omega⟩
 rw [hm,show c.beds.length - (i+1)=m by omega,List.replicate_succ,List.set_cons_zero,List.replicate_succ',List.append_assoc]
 rfl
end Go.Proofs.YtdigopgncfhiaaaGreatDoor
namespace Go.Proofs.YtdigopgncfhiaaaGreatDoor.Two
open Go.RowKit
set_option maxRecDepth 20000
set_option maxHeartbeats 4000000 in
theorem zFU (c:Cov) (A:Option Addr) (ca:Nat) (B:Option Addr) (cb:Nat) (C:Option Addr) (cc g:Nat) (w:World) (hr:InC w g 0 (zJ c A ca B cb C cc)) (hG:InC w 0 0 zCc) (h:zAk w c A B C) (hs:Small c) (hf:zB4 c) :
  Ret Tryz.prog 65 [.pointer (some ⟨g,0,none⟩)] w (fun p:(Nat × List (zAC Int)) × (Nat × List (zAC Bool)) × Nat=>.agg #[.slice (some ⟨p.1.1,0,none⟩) c.beds.length c.beds.length,.slice (some ⟨p.2.1.1,0,none⟩) c.beds.length c.beds.length,.slice (some ⟨p.2.2,0,none⟩) c.hours.length c.hours.length])
   (fun p=>[.zBJ zy (rowOf encI 1 3) p.1.1 p.1.2,.zBJ zy (rowOf zA0 1 4) p.2.1.1 p.2.1.2,.row encI 1 3 (.slice (some ⟨p.2.2,0,none⟩) c.hours.length c.hours.length) (zAF c)]) (fun p=>p.1.2.map (·.xs)=zAg c∧p.2.1.2.map (·.xs)=zCx c):=by
 have h4:=hs.b;have h5:=hs.h
 have hb:=h.b;have hh:=h.h
 have hnd:=fun W (hb:Below w.heap.size w W)=>zJI c A ca B cb C cc g W (hr.below hb) (hG.below hb) (h.below hb) hs hf
 unfold zJ at hr
 (refine zL (n:=68) Tryz.func65 rfl rfl rfl ?_)
 (repeat' (first|((with_reducible refine zG ?_);first|(refine zm rfl rfl rfl rfl (fun b=>?_)))|(with_reducible first|refine zH ?_|refine zB ?_|refine zD ?_|refine zA ?_)))
 (refine zA8 [] [] [] rfl (show ([]:List Nat).Nodup by decide) (H0:=[.blk b [.slice none 0 0,.slice none 0 0,.slice none 0 0]]) (fun _ h=>h.sub (by (repeat (first|exact oK1 _|(refine oK2 (by (repeat (first|exact tK1 _ _|apply tK2))) ?_))))) (by kernel_rfl) [[],[Z],[Y,Y],[Z,Y,Y],[Z,Z,Y,Y],[Z,Z,Z,Y,Y],[Z,Z,Z,Z,Y,Y],[Z,Z,Z,Z,Z,Y,Y],[Z,Z,Z,Z,Z,Z,Y,Y],[Y,Y,Y,Y,Y,Y,Y,Y,Y],[Z,Y,Y,Y,Y,Y,Y,Y,Y,Y],[Z,Z,Y,Y,Y,Y,Y,Y,Y,Y,Y],[Z,Z,Z,Y,Y,Y,Y,Y,Y,Y,Y,Y],[Z,Z,Z,Z,Y,Y,Y,Y,Y,Y,Y,Y,Y],[Z,Z,Z,Z,Z,Y,Y,Y,Y,Y,Y,Y,Y,Y],[Z,Z,Z,Z,Z,Z,Y,Y,Y,Y,Y,Y,Y,Y,Y],[Z,Z,Z,Z,Z,Z,Z,Z,Z,Z,Z,Z,Z,Z,Z,Z],[Y,Y,Y,Y,Y,Y,Y,Y,Y,Y,Y,Y,Y,Y,Y,Y,Y],[Z,Z,Z,Z,Z,Z,Z,Z,Z,Z,Z,Z,Z,Z,Z,Z,Z,Z]] (by kernel_rfl) (by kernel_rfl) (by kernel_rfl) (by kernel_rfl) (by kernel_rfl) ?_)
 (repeat' (first|(((with_reducible refine zDz ?_ ?_);(· exact rfl);refine ⟨_,fun G=>(by (try simp (decide:=true) only [vis,see,fltT,zAT,Nat.reduceAdd,Nat.reduceSub,if_true,if_false,List.set_cons_zero,List.set_cons_succ,List.set_nil,List.nil_append,List.cons_append]);rfl),?_⟩);first|refine zo _ (fun _=>zAe rfl rfl) (fun _=>rfl) rfl (by first|exact fun _ _ _=>rfl|(intro G G' h;simp (decide:=true) only [h])) ?_|refine zo _ (fun _=>zAE rfl rfl (by exact rfl)) (fun _=>rfl) rfl (by first|exact fun _ _ _=>rfl|(intro G G' h;simp (decide:=true) only [h])) ?_|(refine zAw rfl ?_;refine zo _ (fun _=>zAP rfl rfl) (fun _=>rfl) rfl (by first|exact fun _ _ _=>rfl|(intro G G' h;simp (decide:=true) only [h])) ?_)|(refine c_tab (enc:=encI) (kk:=1) (e:=3) (nn:=c.beds.length) zBx rfl (fun _=>rfl) rfl (fun _=>rfl) (fun _=>rfl) (fun _ _ _ q=>hnd _ q.below) ?_)|(refine c_makeT (enc:=zA0) (kk:=1) (e2:=4) (n0:=c.beds.length) rfl rfl rfl rfl rfl (fun _=>rfl) rfl (fun _=>rfl) (fun _=>rfl) (by omega) ?_)|(refine c_makeR (enc:=encI) (0:Int) (n0:=c.hours.length) rfl rfl rfl rfl rfl rfl rfl (fun _=>rfl) rfl (fun _=>rfl) (fun _=>rfl) (by omega) ?_)|refine zo _ (fun _=>zCy rfl rfl) (fun _=>rfl) rfl (by first|exact fun _ _ _=>rfl|(intro G G' h;simp (decide:=true) only [h])) ?_|refine zo _ (fun _=>zAW rfl rfl) (fun _=>rfl) rfl (by first|exact fun _ _ _=>rfl|(intro G G' h;simp (decide:=true) only [h])) ?_|refine zo _ (fun _=>zCH rfl rfl (by exact rfl)) (fun _=>rfl) rfl (by first|exact fun _ _ _=>rfl|(intro G G' h;simp (decide:=true) only [h])) ?_|refine zIR rfl (fun _=>rfl) rfl ?_)|((with_reducible refine zCL ?_ ?_);(· exact rfl))))
 intro G
 simp only [regsT,List.nil_append,List.cons_append]
 refine zFD (H':=[.blk (G 17).g [.slice none 0 0,.slice none 0 0,.slice none 0 0],.row encI 1 3 (.slice (some ⟨(G 15).g,0,none⟩) c.hours.length c.hours.length) (List.replicate c.hours.length 0),.zBJ zy (rowOf zA0 1 4) (G 8).g (List.replicate c.beds.length zA3),.hidT encI 1 3 (G 1).g ((G 1).A.getD ⟨0,0,none⟩).block (G 1).m (zAg c),.blk b [.slice none 0 0,.slice none 0 0,.slice none 0 0]]) (fun _ h=>h) ?_
 simp only [Nat.zero_add,Nat.reduceAdd]
 generalize (G 17).g=gx
 generalize (G 15).g=gh
 generalize (G 8).g=gm
 generalize (G 1).m=hi
 generalize ((G 1).A.getD ⟨0,0,none⟩).block=lo
 generalize (G 1).g=gn
 refine u_hidT (by (repeat (first|exact tK1 _ _|apply tK2))) (fun L hL=>?_)
 (repeat' (first|((with_reducible refine zG ?_);first|refine zE rfl rfl rfl rfl rfl ?_|(refine zK rfl rfl rfl rfl rfl ?_;refine ⟨_,rfl,?_⟩)|refine za rfl rfl rfl rfl rfl ?_|refine zp rfl rfl rfl rfl rfl ?_|(refine ze rfl rfl rfl rfl rfl ?_;refine And.intro rfl (And.intro (by first|decide|exact Nat.le_of_ble_eq_true rfl|(simp;omega)) ⟨_,rfl,?_⟩))|refine zBM rfl rfl rfl rfl rfl ?_)|(with_reducible first|refine zH ?_|refine zB ?_|refine zD ?_|refine zA ?_|refine zQ ?_)))
 obtain ⟨b2,hb2⟩:∃ b2,b2=b:=⟨_,rfl⟩
 subst hb2
 refine zw (ι:=Nat × List (zAC Bool)) [0,2,3,28,29] rfl (fun p=>p.1≤c.hours.length∧p.2.map (·.xs)=zGT c p.1 0) (fun p=>[(30,.int .i64 (p.1:Int))]) (fun p=>[.zBJ zy (rowOf zA0 1 4) gm p.2,.row encI 1 3 (.slice (some ⟨gh,0,none⟩) c.hours.length c.hours.length) (zB3 c p.1),.zBJ zy (rowOf encI 1 3) gn L,.blk gx [.slice (some ⟨gn,0,none⟩) c.beds.length c.beds.length,.slice (some ⟨gm,0,none⟩) c.beds.length c.beds.length,.slice (some ⟨gh,0,none⟩) c.hours.length c.hours.length],.blk b2 [.slice none 0 0,.slice none 0 0,.slice none 0 0]]) (fun p=>c.hours.length - p.1) (0,List.replicate c.beds.length zA3) ⟨Nat.zero_le _,by simp [zFn,zA3,zDy]⟩ (by (first|exact lK1|(repeat (first|exact lK1|(refine zM rfl ?_))))) (by simp only [zMX];(repeat (first|exact oK1 _|(refine oK2 (by (repeat (first|exact tK1 _ _|apply tK2))) ?_)))) ?_
 rintro ⟨j,M⟩ ⟨hj,hM⟩
 simp only at hj hM
 simp only [zAx,List.cons_append,List.nil_append]
 have hMl:M.length=c.beds.length:=by
  have:=congrArg List.length hM
  simp [zGT] at this;omega
 by_cases hjl:j<c.hours.length
 ·obtain ⟨u,hu⟩:∃ u,c.hours[j]?=some u:=⟨_,List.getElem?_eq_getElem hjl⟩
  obtain ⟨bc,oc,rfl,_,_⟩:=hh.at_ hjl
  have:InS w bc oc zq 5 c.hours:=⟨hh⟩
  have:zAU c.hours j u:=⟨hu⟩
  have hhl:=zNd (c:=c) (h:=j) (by omega)
  have hcs:=zNp hu
  have hce:=zJQ hu
  have hcn:=zMY hu
  have hcl:=zPl (c:=c) (h:=j) (by omega)
  obtain ⟨um,ur,uc,cold⟩:=u
  unfold zC2 at hce hcn
  simp only at hce hcn hcs
  cases cold
  ·simp only [Bool.false_eq_true,if_false] at hce hcn
   rw [hcn trivial]
   (repeat' (first|((with_reducible refine zG ?_);first|refine zE rfl rfl rfl rfl rfl ?_|refine zC rfl rfl rfl rfl rfl ?_|(refine zK rfl rfl rfl rfl rfl ?_;refine ⟨_,rfl,?_⟩)|refine za rfl rfl rfl rfl rfl ?_|(refine zU rfl rfl rfl rfl rfl rfl rfl (fun h=>?_) (fun h=>?_)<;>(dsimp only [cmpP] at h;(try (exfalso;omega))))|refine zb rfl rfl rfl rfl rfl rfl rfl (by omega) ?_|refine zp rfl rfl rfl rfl rfl ?_|(refine ze rfl rfl rfl rfl rfl ?_;refine And.intro rfl (And.intro (by first|decide|exact Nat.le_of_ble_eq_true rfl|(simp;omega)) ⟨_,rfl,?_⟩))|(refine zm rfl rfl rfl rfl (fun b=>?_))|refine zBM rfl rfl rfl rfl rfl ?_)|(with_reducible first|refine zH ?_|refine zB ?_|refine zD ?_|refine zA ?_|refine zS ?_|refine zQ ?_)|((with_reducible refine zI ?_ ?_);(· exact rfl))|((with_reducible refine zF ?_ ?_);(· exact rfl))))
   obtain ⟨b5,hb5⟩:∃ b5,b5=b:=⟨_,rfl⟩
   subst hb5
   refine zw (ι:=Nat × List (zAC Bool)) [0,2,3,5,28,29,30,48] rfl (fun p=>p.1≤c.beds.length∧p.2.map (·.xs)=zGT c j p.1) (fun p=>[(49,.int .i64 (p.1:Int))]) (fun p=>[.zBJ zy (rowOf zA0 1 4) gm p.2,.row encI 1 3 (.slice (some ⟨gh,0,none⟩) c.hours.length c.hours.length) (zB3 c (j+1)),.zBJ zy (rowOf encI 1 3) gn L,.blk gx [.slice (some ⟨gn,0,none⟩) c.beds.length c.beds.length,.slice (some ⟨gm,0,none⟩) c.beds.length c.beds.length,.slice (some ⟨gh,0,none⟩) c.hours.length c.hours.length],.blk b5 (zq ⟨um,ur,uc,false⟩),.blk b2 [.slice none 0 0,.slice none 0 0,.slice none 0 0]]) (fun p=>c.beds.length - p.1) (0,M) ⟨Nat.zero_le _,hM⟩ (by (first|exact lK1|(repeat (first|exact lK1|(refine zM rfl ?_))))) (by (repeat (first|exact oK1 _|(refine oK2 (by (repeat (first|exact tK1 _ _|apply tK2))) ?_)))) ?_
   rintro ⟨i,M⟩ ⟨hi,hM⟩
   simp only at hi hM
   simp only [zAx,List.cons_append,List.nil_append]
   have hMl:M.length=c.beds.length:=by
    have:=congrArg List.length hM
    simp [zGT] at this;omega
   by_cases hil:i<c.beds.length
   ·obtain ⟨s,hs1⟩:∃ s,M[i]?=some s:=⟨_,List.getElem?_eq_getElem (by omega)⟩
    have hsx:s.xs=zDy c j:=by
     have h1:=zOM (c:=c) (h:=j) hil
     rw [← hM,List.getElem?_map,hs1] at h1
     exact Option.some.inj h1
    have hsl:s.xs.length≤12:=by rw [hsx,hcl];omega
    (repeat' (first|((with_reducible refine zG ?_);first|refine zE rfl rfl rfl rfl rfl ?_|refine zC rfl rfl rfl rfl rfl ?_|(refine zU rfl rfl rfl rfl rfl rfl rfl (fun h=>?_) (fun h=>?_)<;>(dsimp only [cmpP] at h;(try (exfalso;omega)))))|(with_reducible first|refine zH ?_|refine zB ?_|refine zD ?_|refine zA ?_|refine zS ?_|refine zQ ?_)|((with_reducible refine zI ?_ ?_);(· exact rfl))))
    refine zCj i hs1 (by (repeat (first|exact tK1 _ _|apply tK2))) ?_
    have:zAU (M.set i s) i s:=⟨List.getElem?_set_self (by omega)⟩
    simp only [rowOf]
    (refine zA8 [] [(11,0,0,[.row zA0 1 4 (.slice s.A s.xs.length s.c) s.xs])] [(11,0,0)] rfl (show ([11]:List Nat).Nodup by decide) (H0:=[.arr zy 1 gm (M.set i s),.blk gx [.slice (some ⟨gn,0,none⟩) c.beds.length c.beds.length,.slice (some ⟨gm,0,none⟩) c.beds.length c.beds.length,.slice (some ⟨gh,0,none⟩) c.hours.length c.hours.length],.blk b5 (zq ⟨um,ur,uc,false⟩),.all ((M.eraseIdx i).map (rowOf zA0 1 4)),.row encI 1 3 (.slice (some ⟨gh,0,none⟩) c.hours.length c.hours.length) (zB3 c (j+1)),.zBJ zy (rowOf encI 1 3) gn L,.blk b2 [.slice none 0 0,.slice none 0 0,.slice none 0 0]]) (fun _ h=>h.sub (by (repeat (first|exact oK1 _|(refine oK2 (by (repeat (first|exact tK1 _ _|apply tK2))) ?_))))) (by kernel_rfl) [[],[Z],[Y,Y],[Y,Y,Y],[Z,Y,Y,Y],[Y,Y,Y,Y,Y],[Z,Z,Z,Y,Y,Y],[Z,Z,Z,Z,Y,Y,Y],[Y,Y,Y,Y,Y,Y,Y,Y],[Z,Y,Y,Y,Y,Y,Y,Y,Y],[Z,Z,Y,Y,Y,Y,Y,Y,Y,Y],[Z,Z,Z,Z,Z,Z,Z,Z,Y,Y,Y],[Z,Z,Z,Z,Z,Z,Z,Z,Z,Z,Z,Z],[Z,Z,Z,Z,Z,Z,Z,Z,Z,Z,Z,Z,Z]] (by kernel_rfl) (by kernel_rfl) (by kernel_rfl) (by kernel_rfl) (by kernel_rfl) ?_)
    (repeat' (first|(((with_reducible refine zDz ?_ ?_);(· exact rfl);refine ⟨_,fun G=>(by (try simp (decide:=true) only [vis,see,fltT,zAT,Nat.reduceAdd,Nat.reduceSub,if_true,if_false,List.set_cons_zero,List.set_cons_succ,List.set_nil,List.nil_append,List.cons_append]);rfl),?_⟩);first|refine zo _ (fun _=>zAe rfl rfl) (fun _=>rfl) rfl (by first|exact fun _ _ _=>rfl|(intro G G' h;simp (decide:=true) only [h])) ?_|refine zo _ (fun _=>zAE rfl rfl (by exact rfl)) (fun _=>rfl) rfl (by first|exact fun _ _ _=>rfl|(intro G G' h;simp (decide:=true) only [h])) ?_|(refine zAw rfl ?_;refine zo _ (fun _=>zAP rfl rfl) (fun _=>rfl) rfl (by first|exact fun _ _ _=>rfl|(intro G G' h;simp (decide:=true) only [h])) ?_)|refine zo _ (fun _=>zAQ rfl rfl rfl rfl (by omega)) (fun _=>rfl) rfl (by first|exact fun _ _ _=>rfl|(intro G G' h;simp (decide:=true) only [h])) ?_|refine zCD rfl (fun _=>rfl) rfl (fun _=>rfl) (by exact rfl) (by exact fun _=>rfl) (by first|exact fun _ _ _=>rfl|(intro G G' h;simp (decide:=true) only [h])) ?_)|(refine zEh (enc:=zA0) (xs:=s.xs) (vx:=.slice s.A s.xs.length s.c) [false] List.mem_cons_self rfl rfl (fun _=>rfl) rfl (fun _=>rfl) (fun _=>rfl) rfl (fun G=>(by (try simp (decide:=true) only [vis,see,fltT,zAT,Nat.reduceAdd,Nat.reduceSub,if_true,if_false,List.set_cons_zero,List.set_cons_succ,List.set_nil,List.nil_append,List.cons_append]);rfl)) (fun _ W hW h=>zAt (enc:=zA0) (by exact rfl) W hW h) ⟨by simp;omega,by decide⟩ ?_)|((with_reducible refine zCL ?_ ?_);(· exact rfl))))
    intro G
    simp only [regsT,List.nil_append,List.cons_append]
    refine zFD (H':=[.row zA0 1 4 (.slice (G 11).A (s.xs++[false]).length (G 11).m) (s.xs++[false]),.arr zy 1 gm (M.set i s),.blk gx [.slice (some ⟨gn,0,none⟩) c.beds.length c.beds.length,.slice (some ⟨gm,0,none⟩) c.beds.length c.beds.length,.slice (some ⟨gh,0,none⟩) c.hours.length c.hours.length],.blk b5 (zq ⟨um,ur,uc,false⟩),.all ((M.eraseIdx i).map (rowOf zA0 1 4)),.row encI 1 3 (.slice (some ⟨gh,0,none⟩) c.hours.length c.hours.length) (zB3 c (j+1)),.zBJ zy (rowOf encI 1 3) gn L,.blk b2 [.slice none 0 0,.slice none 0 0,.slice none 0 0]]) (fun _ h=>h.sub (by (repeat (first|exact oK1 _|(refine oK2 (by (repeat (first|exact tK1 _ _|apply tK2))) ?_))))) ?_
    (repeat' (first|((with_reducible refine zG ?_);first|refine zE rfl rfl rfl rfl rfl ?_|refine zCs (i:=i) (s:=s) ⟨(G 11).A,s.xs++[false],(G 11).m⟩ rfl rfl rfl rfl rfl rfl (by (repeat (first|exact tK1 _ _|apply tK2))) (by omega) ?_|refine zf rfl rfl rfl rfl rfl rfl (by omega) ?_)|(with_reducible first|refine zB ?_|refine zD ?_|refine zA ?_|refine zh ?_)))
    refine zCi i (re:=rowOf zA0 1 4) ⟨(G 11).A,s.xs++[false],(G 11).m⟩ hs1 (by (repeat (first|exact tK1 _ _|apply tK2))) (by (repeat (first|exact tK1 _ _|apply tK2))) (by (repeat (first|exact tK1 _ _|apply tK2))) ?_
    refine zi (i+1,M.set i ⟨(G 11).A,s.xs++[false],(G 11).m⟩) ⟨by simp only;omega,?_⟩ (by simp only;omega) (by (first|exact lK1|(repeat (first|exact lK1|(refine zM rfl ?_))))) (by (repeat (first|exact oK1 _|(refine oK2 (by (repeat (first|exact tK1 _ _|apply tK2))) ?_))))
    simp only
    rw [List.map_set,hM,hsx,← hcs,zMM hil]
   ·obtain rfl:i=c.beds.length:=by omega
    (repeat' (first|((with_reducible refine zG ?_);first|refine zE rfl rfl rfl rfl rfl ?_|(refine zU rfl rfl rfl rfl rfl rfl rfl (fun h=>?_) (fun h=>?_)<;>(dsimp only [cmpP] at h;(try (exfalso;omega))))|refine zf rfl rfl rfl rfl rfl rfl (by omega) ?_)|(with_reducible first|refine zH ?_|refine zB ?_|refine zD ?_|refine zA ?_|refine zj ?_|refine zh ?_|refine zR ?_|refine zW ?_)|((with_reducible refine zF ?_ ?_);(· exact rfl))))
    refine zi (j+1,M) ⟨by simp only;omega,?_⟩ (by simp only;omega) (by (first|exact lK1|(repeat (first|exact lK1|(refine zM rfl ?_))))) (by (repeat (first|exact oK1 _|(refine oK2 (by (repeat (first|exact tK1 _ _|apply tK2))) ?_))))
    simp only
    rw [hM,zMN,zFn]

  ·simp only [if_true] at hce
   (repeat' (first|((with_reducible refine zG ?_);first|refine zE rfl rfl rfl rfl rfl ?_|refine zC rfl rfl rfl rfl rfl ?_|(refine zK rfl rfl rfl rfl rfl ?_;refine ⟨_,rfl,?_⟩)|refine za rfl rfl rfl rfl rfl ?_|(refine zU rfl rfl rfl rfl rfl rfl rfl (fun h=>?_) (fun h=>?_)<;>(dsimp only [cmpP] at h;(try (exfalso;omega))))|refine zCr (enc:=encI) (i:=j) uc rfl rfl rfl rfl rfl rfl rfl rfl (by omega) ?_|refine zb rfl rfl rfl rfl rfl rfl rfl (by omega) ?_|refine zp rfl rfl rfl rfl rfl ?_|(refine ze rfl rfl rfl rfl rfl ?_;refine And.intro rfl (And.intro (by first|decide|exact Nat.le_of_ble_eq_true rfl|(simp;omega)) ⟨_,rfl,?_⟩))|(refine zm rfl rfl rfl rfl (fun b=>?_))|refine zBM rfl rfl rfl rfl rfl ?_)|(with_reducible first|refine zH ?_|refine zB ?_|refine zD ?_|refine zA ?_|refine zS ?_|refine zQ ?_)|((with_reducible refine zI ?_ ?_);(· exact rfl))))
   rw [hce]
   obtain ⟨b5,hb5⟩:∃ b5,b5=b:=⟨_,rfl⟩
   subst hb5
   refine zw (ι:=Nat × List (zAC Bool)) [0,2,3,5,28,29,30,48] rfl (fun p=>p.1≤c.beds.length∧p.2.map (·.xs)=zGT c j p.1) (fun p=>[(49,.int .i64 (p.1:Int))]) (fun p=>[.zBJ zy (rowOf zA0 1 4) gm p.2,.row encI 1 3 (.slice (some ⟨gh,0,none⟩) c.hours.length c.hours.length) (zB3 c (j+1)),.zBJ zy (rowOf encI 1 3) gn L,.blk gx [.slice (some ⟨gn,0,none⟩) c.beds.length c.beds.length,.slice (some ⟨gm,0,none⟩) c.beds.length c.beds.length,.slice (some ⟨gh,0,none⟩) c.hours.length c.hours.length],.blk b5 (zq ⟨um,ur,uc,true⟩),.blk b2 [.slice none 0 0,.slice none 0 0,.slice none 0 0]]) (fun p=>c.beds.length - p.1) (0,M) ⟨Nat.zero_le _,hM⟩ (by (first|exact lK1|(repeat (first|exact lK1|(refine zM rfl ?_))))) (by (repeat (first|exact oK1 _|(refine oK2 (by (repeat (first|exact tK1 _ _|apply tK2))) ?_)))) ?_
   rintro ⟨i,M⟩ ⟨hi,hM⟩
   simp only at hi hM
   simp only [zAx,List.cons_append,List.nil_append]
   have hMl:M.length=c.beds.length:=by
    have:=congrArg List.length hM
    simp [zGT] at this;omega
   by_cases hil:i<c.beds.length
   ·obtain ⟨s,hs1⟩:∃ s,M[i]?=some s:=⟨_,List.getElem?_eq_getElem (by omega)⟩
    have hsx:s.xs=zDy c j:=by
     have h1:=zOM (c:=c) (h:=j) hil
     rw [← hM,List.getElem?_map,hs1] at h1
     exact Option.some.inj h1
    have hsl:s.xs.length≤12:=by rw [hsx,hcl];omega
    (repeat' (first|((with_reducible refine zG ?_);first|refine zE rfl rfl rfl rfl rfl ?_|refine zC rfl rfl rfl rfl rfl ?_|(refine zU rfl rfl rfl rfl rfl rfl rfl (fun h=>?_) (fun h=>?_)<;>(dsimp only [cmpP] at h;(try (exfalso;omega)))))|(with_reducible first|refine zH ?_|refine zB ?_|refine zD ?_|refine zA ?_|refine zS ?_|refine zQ ?_)|((with_reducible refine zI ?_ ?_);(· exact rfl))))
    refine zCj i hs1 (by (repeat (first|exact tK1 _ _|apply tK2))) ?_
    have:zAU (M.set i s) i s:=⟨List.getElem?_set_self (by omega)⟩
    simp only [rowOf]
    (refine zA8 [] [(11,0,0,[.row zA0 1 4 (.slice s.A s.xs.length s.c) s.xs])] [(11,0,0)] rfl (show ([11]:List Nat).Nodup by decide) (H0:=[.arr zy 1 gm (M.set i s),.blk gx [.slice (some ⟨gn,0,none⟩) c.beds.length c.beds.length,.slice (some ⟨gm,0,none⟩) c.beds.length c.beds.length,.slice (some ⟨gh,0,none⟩) c.hours.length c.hours.length],.blk b5 (zq ⟨um,ur,uc,true⟩),.all ((M.eraseIdx i).map (rowOf zA0 1 4)),.row encI 1 3 (.slice (some ⟨gh,0,none⟩) c.hours.length c.hours.length) (zB3 c (j+1)),.zBJ zy (rowOf encI 1 3) gn L,.blk b2 [.slice none 0 0,.slice none 0 0,.slice none 0 0]]) (fun _ h=>h.sub (by (repeat (first|exact oK1 _|(refine oK2 (by (repeat (first|exact tK1 _ _|apply tK2))) ?_))))) (by kernel_rfl) [[],[Z],[Y,Y],[Y,Y,Y],[Z,Y,Y,Y],[Y,Y,Y,Y,Y],[Z,Z,Z,Y,Y,Y],[Z,Z,Z,Z,Y,Y,Y],[Y,Y,Y,Y,Y,Y,Y,Y],[Z,Y,Y,Y,Y,Y,Y,Y,Y],[Z,Z,Y,Y,Y,Y,Y,Y,Y,Y],[Z,Z,Z,Z,Z,Z,Z,Z,Y,Y,Y],[Z,Z,Z,Z,Z,Z,Z,Z,Z,Z,Z,Z],[Z,Z,Z,Z,Z,Z,Z,Z,Z,Z,Z,Z,Z]] (by kernel_rfl) (by kernel_rfl) (by kernel_rfl) (by kernel_rfl) (by kernel_rfl) ?_)
    (repeat' (first|(((with_reducible refine zDz ?_ ?_);(· exact rfl);refine ⟨_,fun G=>(by (try simp (decide:=true) only [vis,see,fltT,zAT,Nat.reduceAdd,Nat.reduceSub,if_true,if_false,List.set_cons_zero,List.set_cons_succ,List.set_nil,List.nil_append,List.cons_append]);rfl),?_⟩);first|refine zo _ (fun _=>zAe rfl rfl) (fun _=>rfl) rfl (by first|exact fun _ _ _=>rfl|(intro G G' h;simp (decide:=true) only [h])) ?_|refine zo _ (fun _=>zAE rfl rfl (by exact rfl)) (fun _=>rfl) rfl (by first|exact fun _ _ _=>rfl|(intro G G' h;simp (decide:=true) only [h])) ?_|(refine zAw rfl ?_;refine zo _ (fun _=>zAP rfl rfl) (fun _=>rfl) rfl (by first|exact fun _ _ _=>rfl|(intro G G' h;simp (decide:=true) only [h])) ?_)|refine zo _ (fun _=>zAQ rfl rfl rfl rfl (by omega)) (fun _=>rfl) rfl (by first|exact fun _ _ _=>rfl|(intro G G' h;simp (decide:=true) only [h])) ?_|refine zCD rfl (fun _=>rfl) rfl (fun _=>rfl) (by exact rfl) (by exact fun _=>rfl) (by first|exact fun _ _ _=>rfl|(intro G G' h;simp (decide:=true) only [h])) ?_)|(refine zEh (enc:=zA0) (xs:=s.xs) (vx:=.slice s.A s.xs.length s.c) [true] List.mem_cons_self rfl rfl (fun _=>rfl) rfl (fun _=>rfl) (fun _=>rfl) rfl (fun G=>(by (try simp (decide:=true) only [vis,see,fltT,zAT,Nat.reduceAdd,Nat.reduceSub,if_true,if_false,List.set_cons_zero,List.set_cons_succ,List.set_nil,List.nil_append,List.cons_append]);rfl)) (fun _ W hW h=>zAt (enc:=zA0) (by exact rfl) W hW h) ⟨by simp;omega,by decide⟩ ?_)|((with_reducible refine zCL ?_ ?_);(· exact rfl))))
    intro G
    simp only [regsT,List.nil_append,List.cons_append]
    refine zFD (H':=[.row zA0 1 4 (.slice (G 11).A (s.xs++[true]).length (G 11).m) (s.xs++[true]),.arr zy 1 gm (M.set i s),.blk gx [.slice (some ⟨gn,0,none⟩) c.beds.length c.beds.length,.slice (some ⟨gm,0,none⟩) c.beds.length c.beds.length,.slice (some ⟨gh,0,none⟩) c.hours.length c.hours.length],.blk b5 (zq ⟨um,ur,uc,true⟩),.all ((M.eraseIdx i).map (rowOf zA0 1 4)),.row encI 1 3 (.slice (some ⟨gh,0,none⟩) c.hours.length c.hours.length) (zB3 c (j+1)),.zBJ zy (rowOf encI 1 3) gn L,.blk b2 [.slice none 0 0,.slice none 0 0,.slice none 0 0]]) (fun _ h=>h.sub (by (repeat (first|exact oK1 _|(refine oK2 (by (repeat (first|exact tK1 _ _|apply tK2))) ?_))))) ?_
    (repeat' (first|((with_reducible refine zG ?_);first|refine zE rfl rfl rfl rfl rfl ?_|refine zCs (i:=i) (s:=s) ⟨(G 11).A,s.xs++[true],(G 11).m⟩ rfl rfl rfl rfl rfl rfl (by (repeat (first|exact tK1 _ _|apply tK2))) (by omega) ?_|refine zf rfl rfl rfl rfl rfl rfl (by omega) ?_)|(with_reducible first|refine zB ?_|refine zD ?_|refine zA ?_|refine zh ?_)))
    refine zCi i (re:=rowOf zA0 1 4) ⟨(G 11).A,s.xs++[true],(G 11).m⟩ hs1 (by (repeat (first|exact tK1 _ _|apply tK2))) (by (repeat (first|exact tK1 _ _|apply tK2))) (by (repeat (first|exact tK1 _ _|apply tK2))) ?_
    refine zi (i+1,M.set i ⟨(G 11).A,s.xs++[true],(G 11).m⟩) ⟨by simp only;omega,?_⟩ (by simp only;omega) (by (first|exact lK1|(repeat (first|exact lK1|(refine zM rfl ?_))))) (by (repeat (first|exact oK1 _|(refine oK2 (by (repeat (first|exact tK1 _ _|apply tK2))) ?_))))
    simp only
    rw [List.map_set,hM,hsx,← hcs,zMM hil]
   ·obtain rfl:i=c.beds.length:=by omega
    (repeat' (first|((with_reducible refine zG ?_);first|refine zE rfl rfl rfl rfl rfl ?_|(refine zU rfl rfl rfl rfl rfl rfl rfl (fun h=>?_) (fun h=>?_)<;>(dsimp only [cmpP] at h;(try (exfalso;omega))))|refine zf rfl rfl rfl rfl rfl rfl (by omega) ?_)|(with_reducible first|refine zH ?_|refine zB ?_|refine zD ?_|refine zA ?_|refine zj ?_|refine zh ?_|refine zR ?_|refine zW ?_)|((with_reducible refine zF ?_ ?_);(· exact rfl))))
    refine zi (j+1,M) ⟨by simp only;omega,?_⟩ (by simp only;omega) (by (first|exact lK1|(repeat (first|exact lK1|(refine zM rfl ?_))))) (by (repeat (first|exact oK1 _|(refine oK2 (by (repeat (first|exact tK1 _ _|apply tK2))) ?_))))
    simp only
    rw [hM,zMN,zFn]

 ·obtain rfl:j=c.hours.length:=by omega
  (repeat' (first|((with_reducible refine zG ?_);first|(refine zK rfl rfl rfl rfl rfl ?_;refine ⟨_,rfl,?_⟩)|(refine zU rfl rfl rfl rfl rfl rfl rfl (fun h=>?_) (fun h=>?_)<;>(dsimp only [cmpP] at h;(try (exfalso;omega))))|(refine ze rfl rfl rfl rfl rfl ?_;refine And.intro rfl (And.intro (by first|decide|exact Nat.le_of_ble_eq_true rfl|(simp;omega)) ⟨_,rfl,?_⟩)))|(with_reducible first|refine zH ?_|refine zB ?_|refine zD ?_|refine zA ?_|refine zc ?_|refine zj ?_|refine zR ?_|refine zW ?_)|((with_reducible refine zF ?_ ?_);(· exact rfl))))
  refine zV (by (exact zO.cons (by exact res1c rfl (by exact rfl)) zO.nil)) ((gn,L),(gm,M),gh) ⟨hL,?_⟩ rfl (fun _ h=>?_)
  ·simp only;rw [hM,zFn];simp [zDy,zCx]
  ·rw [← zNe];exact h.sub (by (repeat (first|exact oK1 _|(refine oK2 (by (repeat (first|exact tK1 _ _|apply tK2))) ?_))))
end Go.Proofs.YtdigopgncfhiaaaGreatDoor.Two
namespace Go.Proofs.YtdigopgncfhiaaaGreatDoor
variable {ro : Option Nat}
open Go.RowKit
set_option linter.unusedSectionVars false
section
variable {P : Program} {w0:World} {n:Nat} {d:List Deferred} {R:List (Nat × Value)} {H:List Ent} {Q:Exit→Act→World→Prop} {ops:Array Oper} {rest:List Oper} {o:Oper} {t:Tmp} {x y:Operand} {T T':TypeId} {k k':IntKind} {i j:Int}
theorem e_shr {m h:Nat} (hop:o.op = .binOp .shr T x y T') (hx:evR R x=some (.int .i64 (m:Int))) (hy:evR R y=some (.int k' (h:Int))) (hh:h≤64):Ev P w0 n d R H o (.int .i64 ((m >>> h:Nat):Int)) :=
 (fun a w q=>by
  unfold execOp;rw [hop]
  have e1:((m:Int).fdiv (2 ^ h))=((m >>> h:Nat):Int):=by
   rw [Nat.shiftRight_eq_div_pow,Int.fdiv_eq_ediv_of_nonneg _ (by exact Int.le_of_lt (Int.pow_pos (by omega)))]
   rw [Int.natCast_ediv,Int.natCast_pow];rfl
  have e2:min (h:Int).toNat IntKind.i64.bits=h:=by simp [IntKind.bits];omega
  have e3:¬ ((h:Int)<0):=by omega
  simp only [Sem.run_bind,q.ev hx,q.ev hy,eqGuard,binOp,Op.shift,e3,if_false,e2,e1,Bool.not_false,if_true,Sem.run_pure,Result.andThen_ok])
theorem zLR {m:Nat} (hop:o.op = .binOp .and T x y T') (hx:evR R x=some (.int .i64 (m:Int))) (hy:evR R y=some (.int .i64 1)) (hm:m<4611686018427387904):Ev P w0 n d R H o (.int .i64 ((m % 2:Nat):Int)) :=
 (fun a w q=>by
  unfold execOp;rw [hop]
  have e1:(BitVec.ofInt IntKind.i64.bits (m:Int) &&& BitVec.ofInt IntKind.i64.bits 1).toNat=m % 2:=by
   show (BitVec.ofInt 64 (m:Int) &&& BitVec.ofInt 64 1).toNat=m % 2
   rw [BitVec.toNat_and,BitVec.ofInt_natCast,BitVec.toNat_ofNat,Nat.mod_eq_of_lt (by omega)]
   have:(BitVec.ofInt 64 1).toNat=1:=by decide
   rw [this,Nat.and_one_is_mod]
  have e2:=IntWalk.i64_in ((m % 2:Nat):Int) (by omega)
  simp only [Sem.run_bind,q.ev hx,q.ev hy,eqGuard,binOp,Op.intBits,ne_eq,not_true_eq_false,if_false,e1,e2,Bool.not_false,if_true,Sem.run_pure,Result.andThen_ok])
theorem e_shl1 {h:Nat} (hop:o.op = .binOp .shl T x y T') (hx:evR R x=some (.int .i64 1)) (hy:evR R y=some (.int k' (h:Int))) (hh:h≤60):Ev P w0 n d R H o (.int .i64 ((2 ^ h:Nat):Int)) :=
 (fun a w q=>by
  unfold execOp;rw [hop]
  have e2:min (h:Int).toNat IntKind.i64.bits=h:=by simp [IntKind.bits];omega
  have e3:¬ ((h:Int)<0):=by omega
  have hp:2 ^ h≤2 ^ 60:=Nat.pow_le_pow_right (by omega) hh
  have e4:(1:Int) * 2 ^ h=((2 ^ h:Nat):Int):=by rw [Int.one_mul,Int.natCast_pow];rfl
  have e5:IntKind.i64.wrap ((2 ^ h:Nat):Int)=((2 ^ h:Nat):Int):=by
   generalize 2 ^ h=p at hp
   exact IntWalk.i64_in _ (by omega)
  simp only [Sem.run_bind,q.ev hx,q.ev hy,eqGuard,binOp,Op.shift,e3,if_false,e2,e4,e5,Bool.not_false,if_true,Sem.run_pure,Result.andThen_ok])
theorem u_anyShr {k':IntKind} (hop:o.op = .binOp .shr T x y T') (hw:want R ops o=some true) (hd:o.dst=some t) (ht:Nat.blt t n=true) (hx:evR R x=some (.int k i)) (hy:evR R y=some (.int k' j)) (hj:0≤j) (h:∀ z,U w0 n d ((t,.int k z)::R) H (wpL ro P ops Q rest)):U w0 n d R H (wpL ro P ops Q (o::rest)):=by
 have e3:¬ (j<0):=by omega
 exact zAa (v:=.int k (i.fdiv (2 ^ (min j.toNat k.bits)))) hw hd ht (fun a w q=>by unfold execOp;rw [hop];simp only [Sem.run_bind,q.ev hx,q.ev hy,eqGuard,binOp,Op.shift,e3,if_false,Bool.not_false,if_true,Sem.run_pure,Result.andThen_ok]) (h _)
theorem zJ3 {T1 T2:TypeId} {d1:TypeDesc} {s1 s2:Nat} {g1 g2:Bool} {k':IntKind} (hop:o.op = .convert T1 T2 x) [i1:TyI P T1 d1 s1 g1] [i2:TyI P T2 (.int k') s2 g2] (hw:want R ops o=some true) (hd:o.dst=some t) (ht:Nat.blt t n=true) (hx:evR R x=some (.int k i)) (h:∀ z,U w0 n d ((t,.int k' z)::R) H (wpL ro P ops Q rest)):U w0 n d R H (wpL ro P ops Q (o::rest)) :=
 zAa (v:=.int k' (k'.wrap i)) hw hd ht (fun a w q=>by
  unfold execOp;rw [hop]
  have e1:=run_underlying i1.und w
  have e2:=run_underlying i2.und w
  simp [q.ev hx,convert,e1,e2,Conv.intToInt]) (h _)
theorem u_and127 (hop:o.op = .binOp .and T x y T') (hw:want R ops o=some true) (hd:o.dst=some t) (ht:Nat.blt t n=true) (hx:evR R x=some (.int .i64 i)) (hy:evR R y=some (.int .i64 127)) (h:∀ z:Nat,z≤127→U w0 n d ((t,.int .i64 (z:Int))::R) H (wpL ro P ops Q rest)):U w0 n d R H (wpL ro P ops Q (o::rest)):=by
 have hle:(BitVec.ofInt IntKind.i64.bits i &&& BitVec.ofInt IntKind.i64.bits 127).toNat≤127:=by
  show (BitVec.ofInt 64 i &&& BitVec.ofInt 64 127).toNat≤127
  rw [BitVec.toNat_and]
  have:(BitVec.ofInt 64 127).toNat=127:=by decide
  rw [this];exact Nat.and_le_right
 refine zAa (v:=.int .i64 (((BitVec.ofInt IntKind.i64.bits i &&& BitVec.ofInt IntKind.i64.bits 127).toNat:Nat):Int)) hw hd ht (fun a w q=>?_) (h _ hle)
 unfold execOp;rw [hop]
 have e2:=IntWalk.i64_in ((((BitVec.ofInt IntKind.i64.bits i &&& BitVec.ofInt IntKind.i64.bits 127).toNat:Nat)):Int) (by omega)
 simp only [Sem.run_bind,q.ev hx,q.ev hy,eqGuard,binOp,Op.intBits,ne_eq,not_true_eq_false,if_false,e2,Bool.not_false,if_true,Sem.run_pure,Result.andThen_ok]
end
theorem zLY {m h:Nat}:m.testBit h=decide ((m >>> h) % 2=1):=by
 rw [Nat.testBit_eq_decide_div_mod_eq,Nat.shiftRight_eq_div_pow]
theorem bit_zero {m h:Nat}:(!m.testBit h)=decide ((m >>> h) % 2=0):=by
 rw [zLY]
 have:=Nat.mod_two_eq_zero_or_one (m >>> h)
 rcases this with h|h<;>simp [h]
end Go.Proofs.YtdigopgncfhiaaaGreatDoor
namespace Go.Proofs.YtdigopgncfhiaaaGreatDoor
open Go.RowKit
open Flow (lackF sumL)
set_option maxRecDepth 20000
theorem zJF {nd:Nat→Int} {my sm:Nat→Bool} (hb:∀ h,-1000000≤nd h∧nd h≤1000000):∀ k:Nat,0≤(lackF nd my sm k).1∧(lackF nd my sm k).1≤1000000∧0≤(lackF nd my sm k).2∧(lackF nd my sm k).2≤k
 | 0=>by simp [lackF]
 | k+1=>by
  obtain ⟨h1,h2,h3,h4⟩:=zJF (my:=my) (sm:=sm) hb k
  have:=hb k
  simp only [lackF]
  refine ⟨by omega,by omega,?_,?_⟩<;>split<;>omega
theorem zLO {l:List Int} (h:∀ x∈l,-1000000≤x∧x≤1000000) (i:Nat):-1000000≤l.getD i 0∧l.getD i 0≤1000000:=by
 by_cases hi:i<l.length
 ·rw [Flow.zAX hi];exact h _ (List.getElem_mem hi)
 ·rw [List.getD_eq_getElem?_getD,List.getElem?_eq_none (by omega)];simp
def zCn (nds:List (List Int)) (mys:List (List Bool)) (m i k:Nat):Int:=(lackF (fun h=>(nds.getD i []).getD h 0) (fun h=>(mys.getD i []).getD h false) m.testBit k).1
def zBn (hs:List Int) (m k:Nat):Int:=sumL (List.range k) (fun h=>if m.testBit h then hs.getD h 0 else 0)
def zHR (nds:List (List Int)) (mys:List (List Bool)) (hs:List Int) (m:Nat):Int:=sumL (List.range nds.length) (fun i=>zCn nds mys m i (nds.getD i []).length) - zBn hs m hs.length
theorem zGm {f:Nat→Int} {u:Int} (h:∀ i,0≤f i∧f i≤u):∀ k:Nat,0≤sumL (List.range k) f∧sumL (List.range k) f≤u * k
 | 0=>by simp [sumL]
 | k+1=>by
  obtain ⟨h1,h2⟩:=zGm h k
  obtain ⟨h3,h4⟩:=h k
  rw [Flow.zAV,Int.natCast_add,Int.mul_add]
  exact ⟨by omega,by omega⟩
theorem getD_map {α β:Type} {f:α→β} {l:List α} {i:Nat} {x:α} {d:β} (h:l[i]?=some x):(l.map f).getD i d=f x:=by
 rw [List.getD_eq_getElem?_getD,List.getElem?_map,h];rfl
structure zEJ (L:List (zAC Int)) (M:List (zAC Bool)) (hs:List Int):Prop where
 len:L.length≤20
 len2:M.length=L.length
 row:∀ (i:Nat) (s:zAC Int) (t:zAC Bool),L[i]?=some s→M[i]?=some t→s.xs.length≤t.xs.length
 rlen:∀ s∈L,s.xs.length≤12
 big:∀ s∈L,∀ x∈s.xs,-1000000≤x∧x≤1000000
 hlen:hs.length≤12
 hbig:∀ x∈hs,0≤x∧x≤1000
theorem zEJ.big2 {L:List (zAC Int)} {M:List (zAC Bool)} {hs:List Int} (h:zEJ L M hs) (i k:Nat):-1000000≤((L.map (·.xs)).getD i []).getD k 0∧((L.map (·.xs)).getD i []).getD k 0≤1000000:=by
 by_cases hi:i<L.length
 ·rw [getD_map (List.getElem?_eq_getElem hi)]
  exact zLO (h.big _ (List.getElem_mem hi)) k
 ·have e:(L.map (·.xs)).getD i []=[]:=by rw [List.getD_eq_getElem?_getD,List.getElem?_eq_none (by rw [List.length_map];omega)];rfl
  rw [e];simp
theorem zEJ.zJC {L:List (zAC Int)} {M:List (zAC Bool)} {hs:List Int} (h:zEJ L M hs) (m i k:Nat):0≤zCn (L.map (·.xs)) (M.map (·.xs)) m i k∧zCn (L.map (·.xs)) (M.map (·.xs)) m i k≤1000000:=by
 have:=zJF (nd:=fun h=>((L.map (·.xs)).getD i []).getD h 0) (my:=fun h=>((M.map (·.xs)).getD i []).getD h false) (sm:=m.testBit) (h.big2 i) k
 exact ⟨this.1,this.2.1⟩
theorem zEJ.zOP {L:List (zAC Int)} {M:List (zAC Bool)} {hs:List Int} (h:zEJ L M hs) (m k:Nat):0≤(if m.testBit k then hs.getD k 0 else 0)∧(if m.testBit k then hs.getD k 0 else 0)≤1000:=by
 split
 ·by_cases hi:k<hs.length
  ·rw [Flow.zAX hi];exact h.hbig _ (List.getElem_mem hi)
  ·rw [List.getD_eq_getElem?_getD,List.getElem?_eq_none (by omega)];simp
 ·omega
end Go.Proofs.YtdigopgncfhiaaaGreatDoor
namespace Go.Proofs.YtdigopgncfhiaaaGreatDoor
open Go.RowKit
open Flow (lackF sumL)
set_option maxRecDepth 20000
def zBH (A:Option Addr) (la ca:Nat) (B:Option Addr) (lb cb:Nat) (C:Option Addr) (lc cc:Nat):List Value:=[.slice A la ca,.slice B lb cb,.slice C lc cc]
def zDS (nds:List (List Int)) (mys:List (List Bool)) (hs:List Int) (hour m:Nat):Int:=sumL (List.range nds.length) (fun i=>zCn nds mys m i (hour+1)) - zBn hs m hour
set_option maxHeartbeats 2000000 in
theorem zNS (L:List (zAC Int)) (A:Option Addr) (ca:Nat) (M:List (zAC Bool)) (B:Option Addr) (cb:Nat) (hs:List Int) (C:Option Addr) (cc hour m:Nat) (w:World) (hL:zC0 encI 1 w A L) (hM:zC0 zA0 1 w B M) (hh:zx encI 1 w C hs) (hok:zEJ L M hs) (hmb:m<1000000) (hr:∀ s∈L,hour<s.xs.length) (hr2:∀ t∈M,hour<t.xs.length) (hr3:hour≤hs.length) :
  Gv Tryz.prog 70 [.agg (zBH A L.length ca B M.length cb C hs.length cc).toArray,.int .i64 (hour:Int),.int .i64 (m:Int)] w (.bool (decide (0<zDS (L.map (·.xs)) (M.map (·.xs)) hs hour m))):=by
 have n1:=hok.len;have n2:=hok.len2;have n3:=hok.hlen
 have hLp:=hL.p;have hMp:=hM.p
 unfold Gv zBH
 (refine zL (n:=76) Tryz.func70 rfl rfl rfl ?_)
 (repeat' (first|((with_reducible refine zG ?_);first|refine zE rfl rfl rfl rfl rfl ?_|refine zC rfl rfl rfl rfl rfl ?_|(refine zK rfl rfl rfl rfl rfl ?_;refine ⟨_,rfl,?_⟩)|refine za rfl rfl rfl rfl rfl ?_|refine zp rfl rfl rfl rfl rfl ?_|(refine zt rfl rfl rfl rfl rfl rfl (fun b=>?_)))|(with_reducible first|refine zH ?_|refine zB ?_|refine zD ?_|refine zA ?_|refine zQ ?_)))
 obtain ⟨b1,hb1⟩:∃ b1,b1=b:=⟨_,rfl⟩
 subst hb1
 refine zw (ι:=Nat) [3,1,2,15,16] rfl (fun i=>i≤L.length) (fun i=>[(17,.int .i64 (i:Int)),(7,.int .i64 (sumL (List.range i) (fun i=>zCn (L.map (·.xs)) (M.map (·.xs)) m i (hour+1))))]) (fun _=>[.blk b1 [.slice A L.length ca,.slice B M.length cb,.slice C hs.length cc]]) (fun i=>L.length - i) 0 (Nat.zero_le _) (by (first|exact lK1|(repeat (first|exact lK1|(refine zM rfl ?_))))) (by (repeat (first|exact oK1 _|(refine oK2 (by (repeat (first|exact tK1 _ _|apply tK2))) ?_)))) ?_
 rintro i hi
 simp only [zAx,List.cons_append,List.nil_append]
 by_cases hlt:i<L.length
 ·obtain ⟨s,hs1⟩:∃ s,L[i]?=some s:=⟨_,List.getElem?_eq_getElem hlt⟩
  obtain ⟨t,ht1⟩:∃ t,M[i]?=some t:=⟨_,List.getElem?_eq_getElem (by omega)⟩
  obtain ⟨b2,o2,rfl,_,_⟩:=hLp.at_ hlt
  obtain ⟨b3,o3,rfl,_,_⟩:=hMp.at_ (i:=i) (by omega)
  have:InS w b2 o2 zy 1 L:=⟨hLp⟩
  have:InS w b3 o3 zy 1 M:=⟨hMp⟩
  have:zAU L i s:=⟨hs1⟩
  have:zAU M i t:=⟨ht1⟩
  have hsx:=hL.rows s (List.mem_of_getElem? hs1)
  have htx:=hM.rows t (List.mem_of_getElem? ht1)
  have hsl:=hr s (List.mem_of_getElem? hs1)
  have htl:=hr2 t (List.mem_of_getElem? ht1)
  have hsum:=zGm (fun i=>hok.zJC m i (hour+1)) i
  have e2:=Flow.zAV (fun i=>zCn (L.map (·.xs)) (M.map (·.xs)) m i (hour+1)) i
  have e3:∀ k,zCn (L.map (·.xs)) (M.map (·.xs)) m i k=(lackF (fun h=>s.xs.getD h 0) (fun h=>t.xs.getD h false) m.testBit k).1:=fun k=>by
   unfold zCn
   rw [getD_map hs1,getD_map ht1]
  have e4:=hok.zJC m i (hour+1)
  have hbg:=zLO (hok.big s (List.mem_of_getElem? hs1))
  have hrl:=hok.rlen s (List.mem_of_getElem? hs1)
  rw [e3] at e2 e4
  generalize sumL (List.range i) (fun i=>zCn (L.map (·.xs)) (M.map (·.xs)) m i (hour+1))=p at *
  clear e3
  obtain ⟨sA,sx,sc⟩:=s
  obtain ⟨tA,tx,tc⟩:=t
  simp only at hsx htx hsl htl e2 e4 hbg hrl
  obtain ⟨b4,o4,rfl,_,_⟩:=hsx.at_ (i:=0) (by omega)
  obtain ⟨b5,o5,rfl,_,_⟩:=htx.at_ (i:=0) (by omega)
  have:InS w b4 o4 encI 1 sx:=⟨hsx⟩
  have:InS w b5 o5 zA0 1 tx:=⟨htx⟩
  (repeat' (first|((with_reducible refine zG ?_);first|refine zE rfl rfl rfl rfl rfl ?_|refine zC rfl rfl rfl rfl rfl ?_|(refine zK rfl rfl rfl rfl rfl ?_;refine ⟨_,rfl,?_⟩)|(refine zU rfl rfl rfl rfl rfl rfl rfl (fun h=>?_) (fun h=>?_)<;>(dsimp only [cmpP] at h;(try (exfalso;omega))))|refine zf rfl rfl rfl rfl rfl rfl (by omega) ?_|refine zb rfl rfl rfl rfl rfl rfl rfl (by omega) ?_)|(with_reducible first|refine zH ?_|refine zB ?_|refine zD ?_|refine zA ?_|refine zS ?_|refine zQ ?_)|((with_reducible refine zI ?_ ?_);(· exact rfl))))
  refine zw (ι:=Nat) [3,1,2,15,16,17,7,8,9,23] rfl (fun k=>k≤hour+1) (fun k=>[(24,.int .i64 (k:Int)),(10,.int .i64 (lackF (fun h=>sx.getD h 0) (fun h=>tx.getD h false) m.testBit k).1),(11,.int .i64 (lackF (fun h=>sx.getD h 0) (fun h=>tx.getD h false) m.testBit k).2)]) (fun _=>[.blk b1 [.slice (some ⟨b2,o2,none⟩) L.length ca,.slice (some ⟨b3,o3,none⟩) M.length cb,.slice C hs.length cc]]) (fun k=>hour+1 - k) 0 (Nat.zero_le _) (by (first|exact lK1|(repeat (first|exact lK1|(refine zM rfl ?_))))) (by (repeat (first|exact oK1 _|(refine oK2 (by (repeat (first|exact tK1 _ _|apply tK2))) ?_)))) ?_
  rintro k hk
  simp only [zAx,List.cons_append,List.nil_append]
  by_cases hkl:k<hour+1
  ·have hin:=zJF (nd:=fun h=>sx.getD h 0) (my:=fun h=>tx.getD h false) (sm:=m.testBit) hbg k
   have hbx:=hbg k
   have:zAU sx k (sx.getD k 0):=⟨by rw [Flow.zAX (by omega)];simp⟩
   have e1:lackF (fun h=>sx.getD h 0) (fun h=>tx.getD h false) m.testBit (k+1)=(max (lackF (fun h=>sx.getD h 0) (fun h=>tx.getD h false) m.testBit k).1 (sx.getD k 0 - (lackF (fun h=>sx.getD h 0) (fun h=>tx.getD h false) m.testBit k).2),if (tx.getD k false && !m.testBit k)=true then (lackF (fun h=>sx.getD h 0) (fun h=>tx.getD h false) m.testBit k).2+1 else (lackF (fun h=>sx.getD h 0) (fun h=>tx.getD h false) m.testBit k).2):=rfl
   have hg:tx[k]?=some (tx.getD k false):=by rw [Flow.zAX (by omega)];simp
   have hb2:=Nat.shiftRight_le m k
   rw [bit_zero] at e1
   clear e2 e4
   generalize lackF (fun h=>sx.getD h 0) (fun h=>tx.getD h false) m.testBit k=pp at *
   generalize tx.getD k false=z at *
   generalize sx.getD k 0=x at *
   have:zAU tx k z:=⟨hg⟩
   cases z
   ·simp only [Bool.false_and,Bool.false_eq_true,if_false] at e1
    (repeat' (first|((with_reducible refine zG ?_);first|refine zE rfl rfl rfl rfl rfl ?_|refine zC rfl rfl rfl rfl rfl ?_|(refine zK rfl rfl rfl rfl rfl ?_;refine ⟨_,rfl,?_⟩)|refine za rfl rfl rfl rfl rfl ?_|refine zz rfl rfl rfl rfl rfl rfl ?_|refine zg rfl rfl rfl ?_|(refine zU rfl rfl rfl rfl rfl rfl rfl (fun h=>?_) (fun h=>?_)<;>(dsimp only [cmpP] at h;(try (exfalso;omega))))|refine zb (I:=k) rfl rfl rfl rfl rfl rfl rfl (by dsimp only;omega) ?_|refine zf rfl rfl rfl rfl rfl rfl (by omega) ?_|refine zCY rfl rfl rfl rfl rfl rfl (IntWalk.i64_in _ (by omega)) ?_|refine zb rfl rfl rfl rfl rfl rfl rfl (by omega) ?_|refine zCG rfl rfl rfl rfl rfl rfl ?_)|(with_reducible first|refine zH ?_|refine zB ?_|refine zD ?_|refine zA ?_|refine zS ?_|refine zQ ?_|refine zh ?_)|((with_reducible refine zI ?_ ?_);(· exact rfl))|((with_reducible refine zF ?_ ?_);(· exact rfl))))
    exact zi (k+1) (by omega) (by omega) (by rw [e1];(first|exact lK1|(repeat (first|exact lK1|(refine zM rfl ?_))))) (by (repeat (first|exact oK1 _|(refine oK2 (by (repeat (first|exact tK1 _ _|apply tK2))) ?_))))
   ·simp only [Bool.true_and,decide_eq_true_eq] at e1
    (repeat' (first|((with_reducible refine zG ?_);first|refine zE rfl rfl rfl rfl rfl ?_|refine zC rfl rfl rfl rfl rfl ?_|(refine zK rfl rfl rfl rfl rfl ?_;refine ⟨_,rfl,?_⟩)|refine za rfl rfl rfl rfl rfl ?_|refine zz rfl rfl rfl rfl rfl rfl ?_|(refine zU rfl rfl rfl rfl rfl rfl rfl (fun h=>?_) (fun h=>?_)<;>(dsimp only [cmpP] at h;(try (exfalso;omega))))|refine zb (I:=k) rfl rfl rfl rfl rfl rfl rfl (by dsimp only;omega) ?_|refine zAa rfl rfl rfl (e_shr rfl rfl rfl (by omega)) ?_|refine zAa rfl rfl rfl (zLR rfl rfl rfl (by omega)) ?_|refine zf rfl rfl rfl rfl rfl rfl (by omega) ?_|refine zA2 rfl rfl rfl rfl rfl rfl (IntWalk.i64_in _ (by omega)) ?_|refine zCY rfl rfl rfl rfl rfl rfl (IntWalk.i64_in _ (by omega)) ?_|refine zb rfl rfl rfl rfl rfl rfl rfl (by omega) ?_|refine zCG rfl rfl rfl rfl rfl rfl ?_)|(with_reducible first|refine zH ?_|refine zB ?_|refine zD ?_|refine zA ?_|refine zS ?_|refine zQ ?_|refine zh ?_)|((with_reducible refine zI ?_ ?_);(· exact rfl))|((with_reducible refine zF ?_ ?_);(· exact rfl))))
    ·exact zi (k+1) (by omega) (by omega) (by rw [e1,if_pos (by omega)];(first|exact lK1|(repeat (first|exact lK1|(refine zM rfl ?_))))) (by (repeat (first|exact oK1 _|(refine oK2 (by (repeat (first|exact tK1 _ _|apply tK2))) ?_))))
    ·exact zi (k+1) (by omega) (by omega) (by rw [e1,if_neg (by omega)];(first|exact lK1|(repeat (first|exact lK1|(refine zM rfl ?_))))) (by (repeat (first|exact oK1 _|(refine oK2 (by (repeat (first|exact tK1 _ _|apply tK2))) ?_))))
  ·obtain rfl:k=hour+1:=by omega
   (repeat' (first|((with_reducible refine zG ?_);first|refine zE rfl rfl rfl rfl rfl ?_|refine zC rfl rfl rfl rfl rfl ?_|(refine zU rfl rfl rfl rfl rfl rfl rfl (fun h=>?_) (fun h=>?_)<;>(dsimp only [cmpP] at h;(try (exfalso;omega))))|refine zf rfl rfl rfl rfl rfl rfl (by omega) ?_|refine zA2 rfl rfl rfl rfl rfl rfl (IntWalk.i64_in _ (by omega)) ?_)|(with_reducible first|refine zH ?_|refine zB ?_|refine zD ?_|refine zA ?_|refine zj ?_|refine zh ?_|refine zR ?_|refine zW ?_)|((with_reducible refine zF ?_ ?_);(· exact rfl))))
   exact zi (i+1) (by omega) (by omega) (by rw [e2];(first|exact lK1|(repeat (first|exact lK1|(refine zM rfl ?_))))) (by (repeat (first|exact oK1 _|(refine oK2 (by (repeat (first|exact tK1 _ _|apply tK2))) ?_))))
 obtain rfl:i=L.length:=by omega
 (repeat' (first|((with_reducible refine zG ?_);first|refine zE rfl rfl rfl rfl rfl ?_|(refine zU rfl rfl rfl rfl rfl rfl rfl (fun h=>?_) (fun h=>?_)<;>(dsimp only [cmpP] at h;(try (exfalso;omega)))))|(with_reducible first|refine zH ?_|refine zB ?_|refine zD ?_|refine zA ?_|refine zQ ?_|refine zj ?_|refine zR ?_|refine zW ?_)|((with_reducible refine zF ?_ ?_);(· exact rfl))))
 have hsum:=zGm (fun i=>hok.zJC m i (hour+1)) L.length
 have hfin:zDS (L.map (·.xs)) (M.map (·.xs)) hs hour m=sumL (List.range L.length) (fun i=>zCn (L.map (·.xs)) (M.map (·.xs)) m i (hour+1)) - zBn hs m hour:=by unfold zDS;rw [List.length_map]
 rw [hfin]
 generalize sumL (List.range L.length) (fun i=>zCn (L.map (·.xs)) (M.map (·.xs)) m i (hour+1))=p at *
 refine zw (ι:=Nat) [3,2,57] rfl (fun h=>h≤hour) (fun h=>[(58,.int .i64 (h:Int)),(7,.int .i64 (p - zBn hs m h))]) (fun _=>[.blk b1 [.slice A L.length ca,.slice B M.length cb,.slice C hs.length cc]]) (fun h=>hour - h) 0 (Nat.zero_le _) (by rw [show zBn hs m 0=0 from rfl,Int.sub_zero];(first|exact lK1|(repeat (first|exact lK1|(refine zM rfl ?_))))) (by (repeat (first|exact oK1 _|(refine oK2 (by (repeat (first|exact tK1 _ _|apply tK2))) ?_)))) ?_
 rintro k hk
 simp only [zAx,List.cons_append,List.nil_append]
 by_cases hlt:k<hour
 ·obtain ⟨b2,o2,rfl,_,_⟩:=hh.at_ (i:=k) (by omega)
  have:InS w b2 o2 encI 1 hs:=⟨hh⟩
  have:zAU hs k (hs.getD k 0):=⟨by rw [Flow.zAX (by omega)];simp⟩
  have hsum2:0≤zBn hs m k∧zBn hs m k≤1000 * k:=zGm (hok.zOP m) k
  have e2:zBn hs m (k+1)=zBn hs m k+(if m.testBit k then hs.getD k 0 else 0):=Flow.zAV _ k
  have hx:0≤hs.getD k 0∧hs.getD k 0≤1000:=by rw [Flow.zAX (by omega)];exact hok.hbig _ (List.getElem_mem (by omega))
  rw [zLY] at e2
  have hb2:=Nat.shiftRight_le m k
  generalize hs.getD k 0=x at *
  generalize zBn hs m k=r at *
  have e5:(if decide ((m >>> k) % 2=1)=true then x else 0)=((m >>> k % 2:Nat):Int) * x:=by
   rcases Nat.mod_two_eq_zero_or_one (m >>> k) with h|h<;>simp [h]
  rw [e5] at e2
  have e6:0≤((m >>> k % 2:Nat):Int) * x∧((m >>> k % 2:Nat):Int) * x≤1000:=by
   rw [← e5];split<;>omega
  (repeat' (first|((with_reducible refine zG ?_);first|refine zE rfl rfl rfl rfl rfl ?_|refine zC rfl rfl rfl rfl rfl ?_|(refine zU rfl rfl rfl rfl rfl rfl rfl (fun h=>?_) (fun h=>?_)<;>(dsimp only [cmpP] at h;(try (exfalso;omega)))))|(with_reducible first|refine zH ?_|refine zB ?_|refine zD ?_|refine zA ?_|refine zS ?_|refine zQ ?_)|((with_reducible refine zI ?_ ?_);(· exact rfl))))
  (refine zAy (by kernel_rfl) (by kernel_rfl) (by kernel_rfl) ?_)
  (repeat' (first|((with_reducible refine zBV ?_);first|refine zN (zAe rfl rfl) rfl rfl rfl ?_|refine zN (zAE rfl rfl (by exact rfl)) rfl rfl rfl ?_|refine zN (zAP rfl rfl) rfl rfl rfl ?_|refine zN (zBW rfl rfl) rfl rfl rfl ?_|refine zN (e_shr rfl rfl rfl (by omega)) rfl rfl rfl ?_|refine zN (zLR rfl rfl rfl (by omega)) rfl rfl rfl ?_|refine zN (zFY rfl rfl rfl (IntWalk.i64_in _ (by omega))) rfl rfl rfl ?_|refine zN (zG7 rfl rfl rfl (IntWalk.i64_in _ (by omega))) rfl rfl rfl ?_|refine zN (zAQ rfl rfl rfl rfl (by omega)) rfl rfl rfl ?_)|(with_reducible refine zB6 ?_)))
  (repeat' (first|((with_reducible refine zG ?_);first|refine zE rfl rfl rfl rfl rfl ?_|refine zf rfl rfl rfl rfl rfl rfl (by omega) ?_)|(with_reducible first|refine zB ?_|refine zD ?_|refine zA ?_|refine zh ?_)))
  exact zi (k+1) (by omega) (by omega) (by rw [e2,← Int.sub_sub];(first|exact lK1|(repeat (first|exact lK1|(refine zM rfl ?_))))) (by (repeat (first|exact oK1 _|(refine oK2 (by (repeat (first|exact tK1 _ _|apply tK2))) ?_))))
 ·obtain rfl:k=hour:=by omega
  have hsum2:0≤zBn hs m k∧zBn hs m k≤1000 * k:=zGm (hok.zOP m) k
  (repeat' (first|((with_reducible refine zG ?_);first|refine zE rfl rfl rfl rfl rfl ?_|refine zC rfl rfl rfl rfl rfl ?_|(refine zU rfl rfl rfl rfl rfl rfl rfl (fun h=>?_) (fun h=>?_)<;>(dsimp only [cmpP] at h;(try (exfalso;omega)))))|(with_reducible first|refine zH ?_|refine zB ?_|refine zD ?_|refine zA ?_|refine zc ?_|refine zj ?_|refine zR ?_|refine zW ?_)|((with_reducible refine zF ?_ ?_);(· exact rfl))))
  all_goals exact zV (by (exact zO.cons (by exact zn.tmp rfl) zO.nil)) () trivial (by simp [resV];omega) (fun _ h=>h.sub (by (repeat (first|exact oK1 _|(refine oK2 (by (repeat (first|exact tK1 _ _|apply tK2))) ?_)))))
def zGb (nds:List (List Int)) (mys:List (List Bool)) (hs:List Int):Bool:=(List.range (2 ^ hs.length)).all fun m=>!decide (0<zHR nds mys hs m)
def zDV (l:List Int):List Int:=l.map fun x=>max 0 (x - 1)
end Go.Proofs.YtdigopgncfhiaaaGreatDoor
