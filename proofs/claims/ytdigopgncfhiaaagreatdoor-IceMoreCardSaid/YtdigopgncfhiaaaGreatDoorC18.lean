/- C18 -/
import Derived.Test.YtdigopgncfhiaaaGreatDoorC17
import Derived.Test.YtdigopgncfhiaaaGreatDoorC5
import Derived.Test.YtdigopgncfhiaaaGreatDoorC6
set_option linter.unusedSimpArgs false
set_option linter.unusedVariables false
namespace Go.Proofs.YtdigopgncfhiaaaGreatDoor
open Go.RowKit
set_option maxRecDepth 20000
def zBL (b:Bool):List Value:=[.bool b]
instance encI_bl : zCc zBL 1:=⟨fun _=>rfl,fun b v hv=>by simp [zBL] at hv;subst hv;rfl⟩
theorem elem_bo : zLK Tryz.prog 121 4 1 1 (.bool false) :=
 ⟨by rfl,by exact ⟨_,rfl,rfl,rfl,rfl⟩,by decide,by decide⟩
instance elI_bo : ElI Tryz.prog 121 4 1 1:=⟨⟨_,elem_bo⟩⟩
def zEw (c:Cov) (h:Nat):List Bool:=(c.hours.take h).map (·.cold)
def zC6 (c:Cov):List (List Bool):=List.replicate c.beds.length (c.hours.map (·.cold))
def zFf (u:Hour):Int:=if u.cold then u.crew else 0
def zAp (c:Cov):List Int:=c.hours.map zFf
def zCQ (c:Cov) (h:Nat):List Int:=(c.hours.take h).map zFf++List.replicate (c.hours.length - h) 0
def zHc (c:Cov) (h i:Nat):List (List Bool):=List.replicate i (zEw c (h+1))++List.replicate (c.beds.length - i) (zEw c h)
theorem zSA {c:Cov} {h:Nat} (hh:h≤c.hours.length):(zEw c h).length=h:=by simp [zEw];omega
theorem zP4 {c:Cov} {h:Nat} {u:Hour} (hu:c.hours[h]?=some u):zEw c (h+1)=zEw c h++[u.cold]:=by unfold zEw;rw [List.take_add_one,hu];simp
theorem zPv {c:Cov} {h:Nat} (hh:h≤c.hours.length):(zCQ c h).length=c.hours.length:=by simp [zCQ];omega
theorem zKs {c:Cov} {h:Nat} {u:Hour} (hu:c.hours[h]?=some u):(zCQ c h).set h (zFf u)=zCQ c (h+1):=by
 obtain ⟨hi,e⟩:=List.getElem?_eq_some_iff.1 hu
 unfold zCQ
 have hl:((c.hours.take h).map zFf).length=h:=by simp;omega
 rw [List.set_append_right _ _ (by omega),hl,Nat.sub_self]
 have e1:c.hours.take (h+1)=c.hours.take h++[u]:=by rw [List.take_add_one,hu];rfl
 rw [e1,List.map_append,List.append_assoc]
 congr 1
 obtain ⟨m,hm⟩:∃ m,c.hours.length - h=m+1:=⟨c.hours.length - h - 1,by omega⟩
 rw [hm,show c.hours.length - (h+1)=m by omega,List.replicate_succ]
 rfl
theorem zOh {c:Cov} {h:Nat} {u:Hour} (hu:c.hours[h]?=some u) (h0:zFf u=0):zCQ c h=zCQ c (h+1):=by
 rw [← zKs hu,h0]
 obtain ⟨hi,e⟩:=List.getElem?_eq_some_iff.1 hu
 have:(zCQ c h)[h]?=some 0:=by
  unfold zCQ
  have hl:((c.hours.take h).map zFf).length=h:=by simp;omega
  rw [List.getElem?_append_right (by omega),hl,List.getElem?_replicate,if_pos (by omega)]
 obtain ⟨h1,h2⟩:=List.getElem?_eq_some_iff.1 this
 conv=>lhs;rw [← List.set_getElem_self h1]
 rw [h2]
theorem zPw {c:Cov}:zCQ c c.hours.length=zAp c:=by simp [zCQ,zAp]
theorem zOg {c:Cov}:zCQ c 0=List.replicate c.hours.length 0:=by simp [zCQ]
theorem zG3 {c:Cov} {h:Nat}:zHc c h 0=List.replicate c.beds.length (zEw c h):=by simp [zHc]
theorem zOO {c:Cov} {h:Nat}:zHc c h c.beds.length=List.replicate c.beds.length (zEw c (h+1)):=by simp [zHc]
theorem zQb {c:Cov} {h i:Nat} (hi:i<c.beds.length):(zHc c h i)[i]?=some (zEw c h):=by
 unfold zHc
 rw [List.getElem?_append_right (by simp),List.length_replicate,Nat.sub_self,List.getElem?_replicate,if_pos (by omega)]
theorem zON {c:Cov} {h i:Nat} (hi:i<c.beds.length):(zHc c h i).set i (zEw c (h+1))=zHc c h (i+1):=by
 unfold zHc
 rw [List.set_append_right _ _ (by simp),List.length_replicate,Nat.sub_self]
 obtain ⟨m,hm⟩:∃ m,c.beds.length - i=m+1:=⟨c.beds.length - i - 1,by omega⟩
 rw [hm,show c.beds.length - (i+1)=m by omega,List.replicate_succ,List.set_cons_zero,List.replicate_succ',List.append_assoc]
 rfl
end Go.Proofs.YtdigopgncfhiaaaGreatDoor
namespace Go.Proofs.YtdigopgncfhiaaaGreatDoor.Two
open Go.RowKit
set_option maxRecDepth 20000
set_option maxHeartbeats 4000000 in
theorem zGc (c:Cov) (A:Option Addr) (ca:Nat) (B:Option Addr) (cb:Nat) (C:Option Addr) (cc g:Nat) (w:World) (hr:InC w g 0 (zH c A ca B cb C cc)) (hG:InC w 0 0 zB7) (h:zAU w c A B C) (hs:Small c) (hf:zBl c) :
  Ret Tryz.prog 65 [.pointer (some ⟨g,0,none⟩)] w (fun p:(Nat × List (zAN Int)) × (Nat × List (zAN Bool)) × Nat=>.agg #[.slice (some ⟨p.1.1,0,none⟩) c.beds.length c.beds.length,.slice (some ⟨p.2.1.1,0,none⟩) c.beds.length c.beds.length,.slice (some ⟨p.2.2,0,none⟩) c.hours.length c.hours.length])
   (fun p=>[.zBb zAH (rowOf encI 1 3) p.1.1 p.1.2,.zBb zAH (rowOf zBL 1 4) p.2.1.1 p.2.1.2,.row encI 1 3 (.slice (some ⟨p.2.2,0,none⟩) c.hours.length c.hours.length) (zAp c)]) (fun p=>p.1.2.map (·.xs)=zA2 c∧p.2.1.2.map (·.xs)=zC6 c):=by
 have h4:=hs.b;have h5:=hs.h
 have hb:=h.b;have hh:=h.h
 have hnd:=fun W (hb:Below w.heap.size w W)=>zKj c A ca B cb C cc g W (hr.below hb) (hG.below hb) (h.below hb) hs hf
 unfold zH at hr
 (refine zM (n:=68) Tryz.func65 rfl rfl rfl ?_)
 (repeat' (first|((with_reducible refine zG ?_);first|(refine zo rfl rfl rfl rfl (fun b=>?_)))|(with_reducible first|refine zI ?_|refine zB ?_|refine zD ?_|refine zA ?_)))
 (refine zAd [] [] [] rfl (show ([]:List Nat).Nodup by decide) (H0:=[.blk b [.slice none 0 0,.slice none 0 0,.slice none 0 0]]) (fun _ h=>h.sub (by (repeat (first|exact oK1 _|(refine oK2 (by (repeat (first|exact tK1 _ _|apply tK2))) ?_))))) (by kernel_rfl) [[],[Z],[Y,Y],[Z,Y,Y],[Z,Z,Y,Y],[Z,Z,Z,Y,Y],[Z,Z,Z,Z,Y,Y],[Z,Z,Z,Z,Z,Y,Y],[Z,Z,Z,Z,Z,Z,Y,Y],[Y,Y,Y,Y,Y,Y,Y,Y,Y],[Z,Y,Y,Y,Y,Y,Y,Y,Y,Y],[Z,Z,Y,Y,Y,Y,Y,Y,Y,Y,Y],[Z,Z,Z,Y,Y,Y,Y,Y,Y,Y,Y,Y],[Z,Z,Z,Z,Y,Y,Y,Y,Y,Y,Y,Y,Y],[Z,Z,Z,Z,Z,Y,Y,Y,Y,Y,Y,Y,Y,Y],[Z,Z,Z,Z,Z,Z,Y,Y,Y,Y,Y,Y,Y,Y,Y],[Z,Z,Z,Z,Z,Z,Z,Z,Z,Z,Z,Z,Z,Z,Z,Z],[Y,Y,Y,Y,Y,Y,Y,Y,Y,Y,Y,Y,Y,Y,Y,Y,Y],[Z,Z,Z,Z,Z,Z,Z,Z,Z,Z,Z,Z,Z,Z,Z,Z,Z,Z]] (by kernel_rfl) (by kernel_rfl) (by kernel_rfl) (by kernel_rfl) (by kernel_rfl) ?_)
 (repeat' (first|(((with_reducible refine zCJ ?_ ?_);(· exact rfl);refine ⟨_,fun G=>(by (try simp (decide:=true) only [vis,see,fltT,zAD,Nat.reduceAdd,Nat.reduceSub,if_true,if_false,List.set_cons_zero,List.set_cons_succ,List.set_nil,List.nil_append,List.cons_append]);rfl),?_⟩);first|refine zX _ (fun _=>zAK rfl rfl) (fun _=>rfl) rfl (by first|exact fun _ _ _=>rfl|(intro G G' h;simp (decide:=true) only [h])) ?_|refine zX _ (fun _=>zy rfl rfl (by exact rfl)) (fun _=>rfl) rfl (by first|exact fun _ _ _=>rfl|(intro G G' h;simp (decide:=true) only [h])) ?_|(refine zAb rfl ?_;refine zX _ (fun _=>zAO rfl rfl) (fun _=>rfl) rfl (by first|exact fun _ _ _=>rfl|(intro G G' h;simp (decide:=true) only [h])) ?_)|(refine c_tab (enc:=encI) (kk:=1) (e:=3) (nn:=c.beds.length) zHZ rfl (fun _=>rfl) rfl (fun _=>rfl) (fun _=>rfl) (fun _ _ _ q=>hnd _ q.below) ?_)|(refine c_makeT (enc:=zBL) (kk:=1) (e2:=4) (n0:=c.beds.length) rfl rfl rfl rfl rfl (fun _=>rfl) rfl (fun _=>rfl) (fun _=>rfl) (by omega) ?_)|(refine c_makeR (enc:=encI) (0:Int) (n0:=c.hours.length) rfl rfl rfl rfl rfl rfl rfl (fun _=>rfl) rfl (fun _=>rfl) (fun _=>rfl) (by omega) ?_)|refine zX _ (fun _=>zDT rfl rfl) (fun _=>rfl) rfl (by first|exact fun _ _ _=>rfl|(intro G G' h;simp (decide:=true) only [h])) ?_|refine zX _ (fun _=>zAi rfl rfl) (fun _=>rfl) rfl (by first|exact fun _ _ _=>rfl|(intro G G' h;simp (decide:=true) only [h])) ?_|refine zX _ (fun _=>zEE rfl rfl (by exact rfl)) (fun _=>rfl) rfl (by first|exact fun _ _ _=>rfl|(intro G G' h;simp (decide:=true) only [h])) ?_|refine zGC rfl (fun _=>rfl) rfl ?_)|((with_reducible refine zBa ?_ ?_);(· exact rfl))))
 intro G
 simp only [regsT,List.nil_append,List.cons_append]
 refine zB5 (H':=[.blk (G 17).g [.slice none 0 0,.slice none 0 0,.slice none 0 0],.row encI 1 3 (.slice (some ⟨(G 15).g,0,none⟩) c.hours.length c.hours.length) (List.replicate c.hours.length 0),.zBb zAH (rowOf zBL 1 4) (G 8).g (List.replicate c.beds.length zBO),.hidT encI 1 3 (G 1).g ((G 1).A.getD ⟨0,0,none⟩).block (G 1).m (zA2 c),.blk b [.slice none 0 0,.slice none 0 0,.slice none 0 0]]) (fun _ h=>h) ?_
 simp only [Nat.zero_add,Nat.reduceAdd]
 generalize (G 17).g=gx
 generalize (G 15).g=gh
 generalize (G 8).g=gm
 generalize (G 1).m=hi
 generalize ((G 1).A.getD ⟨0,0,none⟩).block=lo
 generalize (G 1).g=gn
 refine u_hidT (by (repeat (first|exact tK1 _ _|apply tK2))) (fun L hL=>?_)
 (repeat' (first|((with_reducible refine zG ?_);first|refine zE rfl rfl rfl rfl rfl ?_|(refine zK rfl rfl rfl rfl rfl ?_;refine ⟨_,rfl,?_⟩)|refine ze rfl rfl rfl rfl rfl ?_|refine zr rfl rfl rfl rfl rfl ?_|(refine zf rfl rfl rfl rfl rfl ?_;refine And.intro rfl (And.intro (by first|decide|exact Nat.le_of_ble_eq_true rfl|(simp;omega)) ⟨_,rfl,?_⟩))|refine zBP rfl rfl rfl rfl rfl ?_)|(with_reducible first|refine zI ?_|refine zB ?_|refine zD ?_|refine zA ?_|refine zN ?_)))
 obtain ⟨b2,hb2⟩:∃ b2,b2=b:=⟨_,rfl⟩
 subst hb2
 refine zu (ι:=Nat × List (zAN Bool)) [0,2,3,28,29] rfl (fun p=>p.1≤c.hours.length∧p.2.map (·.xs)=zHc c p.1 0) (fun p=>[(30,.int .i64 (p.1:Int))]) (fun p=>[.zBb zAH (rowOf zBL 1 4) gm p.2,.row encI 1 3 (.slice (some ⟨gh,0,none⟩) c.hours.length c.hours.length) (zCQ c p.1),.zBb zAH (rowOf encI 1 3) gn L,.blk gx [.slice (some ⟨gn,0,none⟩) c.beds.length c.beds.length,.slice (some ⟨gm,0,none⟩) c.beds.length c.beds.length,.slice (some ⟨gh,0,none⟩) c.hours.length c.hours.length],.blk b2 [.slice none 0 0,.slice none 0 0,.slice none 0 0]]) (fun p=>c.hours.length - p.1) (0,List.replicate c.beds.length zBO) ⟨Nat.zero_le _,by simp [zG3,zBO,zEw]⟩ (by (first|exact lK1|(repeat (first|exact lK1|(refine zL rfl ?_))))) (by simp only [zOg];(repeat (first|exact oK1 _|(refine oK2 (by (repeat (first|exact tK1 _ _|apply tK2))) ?_)))) ?_
 rintro ⟨j,M⟩ ⟨hj,hM⟩
 simp only at hj hM
 simp only [zAq,List.cons_append,List.nil_append]
 have hMl:M.length=c.beds.length:=by
  have:=congrArg List.length hM
  simp [zHc] at this;omega
 by_cases hjl:j<c.hours.length
 ·obtain ⟨u,hu⟩:∃ u,c.hours[j]?=some u:=⟨_,List.getElem?_eq_getElem hjl⟩
  obtain ⟨bc,oc,rfl,_,_⟩:=hh.at_ hjl
  have:InS w bc oc zp 5 c.hours:=⟨hh⟩
  have:zAR c.hours j u:=⟨hu⟩
  have hhl:=zPv (c:=c) (h:=j) (by omega)
  have hcs:=zP4 hu
  have hce:=zKs hu
  have hcn:=zOh hu
  have hcl:=zSA (c:=c) (h:=j) (by omega)
  obtain ⟨um,ur,uc,cold⟩:=u
  unfold zFf at hce hcn
  simp only at hce hcn hcs
  cases cold
  ·simp only [Bool.false_eq_true,if_false] at hce hcn
   rw [hcn trivial]
   (repeat' (first|((with_reducible refine zG ?_);first|refine zE rfl rfl rfl rfl rfl ?_|refine zC rfl rfl rfl rfl rfl ?_|(refine zK rfl rfl rfl rfl rfl ?_;refine ⟨_,rfl,?_⟩)|refine ze rfl rfl rfl rfl rfl ?_|(refine zQ rfl rfl rfl rfl rfl rfl rfl (fun h=>?_) (fun h=>?_)<;>(dsimp only [cmpP] at h;(try (exfalso;omega))))|refine zi rfl rfl rfl rfl rfl rfl rfl (by omega) ?_|refine zr rfl rfl rfl rfl rfl ?_|(refine zf rfl rfl rfl rfl rfl ?_;refine And.intro rfl (And.intro (by first|decide|exact Nat.le_of_ble_eq_true rfl|(simp;omega)) ⟨_,rfl,?_⟩))|(refine zo rfl rfl rfl rfl (fun b=>?_))|refine zBP rfl rfl rfl rfl rfl ?_)|(with_reducible first|refine zI ?_|refine zB ?_|refine zD ?_|refine zA ?_|refine zP ?_|refine zN ?_)|((with_reducible refine zJ ?_ ?_);(· exact rfl))|((with_reducible refine zF ?_ ?_);(· exact rfl))))
   obtain ⟨b5,hb5⟩:∃ b5,b5=b:=⟨_,rfl⟩
   subst hb5
   refine zu (ι:=Nat × List (zAN Bool)) [0,2,3,5,28,29,30,48] rfl (fun p=>p.1≤c.beds.length∧p.2.map (·.xs)=zHc c j p.1) (fun p=>[(49,.int .i64 (p.1:Int))]) (fun p=>[.zBb zAH (rowOf zBL 1 4) gm p.2,.row encI 1 3 (.slice (some ⟨gh,0,none⟩) c.hours.length c.hours.length) (zCQ c (j+1)),.zBb zAH (rowOf encI 1 3) gn L,.blk gx [.slice (some ⟨gn,0,none⟩) c.beds.length c.beds.length,.slice (some ⟨gm,0,none⟩) c.beds.length c.beds.length,.slice (some ⟨gh,0,none⟩) c.hours.length c.hours.length],.blk b5 (zp ⟨um,ur,uc,false⟩),.blk b2 [.slice none 0 0,.slice none 0 0,.slice none 0 0]]) (fun p=>c.beds.length - p.1) (0,M) ⟨Nat.zero_le _,hM⟩ (by (first|exact lK1|(repeat (first|exact lK1|(refine zL rfl ?_))))) (by (repeat (first|exact oK1 _|(refine oK2 (by (repeat (first|exact tK1 _ _|apply tK2))) ?_)))) ?_
   rintro ⟨i,M⟩ ⟨hi,hM⟩
   simp only at hi hM
   simp only [zAq,List.cons_append,List.nil_append]
   have hMl:M.length=c.beds.length:=by
    have:=congrArg List.length hM
    simp [zHc] at this;omega
   by_cases hil:i<c.beds.length
   ·obtain ⟨s,hs1⟩:∃ s,M[i]?=some s:=⟨_,List.getElem?_eq_getElem (by omega)⟩
    have hsx:s.xs=zEw c j:=by
     have h1:=zQb (c:=c) (h:=j) hil
     rw [← hM,List.getElem?_map,hs1] at h1
     exact Option.some.inj h1
    have hsl:s.xs.length≤12:=by rw [hsx,hcl];omega
    (repeat' (first|((with_reducible refine zG ?_);first|refine zE rfl rfl rfl rfl rfl ?_|refine zC rfl rfl rfl rfl rfl ?_|(refine zQ rfl rfl rfl rfl rfl rfl rfl (fun h=>?_) (fun h=>?_)<;>(dsimp only [cmpP] at h;(try (exfalso;omega)))))|(with_reducible first|refine zI ?_|refine zB ?_|refine zD ?_|refine zA ?_|refine zP ?_|refine zN ?_)|((with_reducible refine zJ ?_ ?_);(· exact rfl))))
    refine zDO i hs1 (by (repeat (first|exact tK1 _ _|apply tK2))) ?_
    have:zAR (M.set i s) i s:=⟨List.getElem?_set_self (by omega)⟩
    simp only [rowOf]
    (refine zAd [] [(11,0,0,[.row zBL 1 4 (.slice s.A s.xs.length s.c) s.xs])] [(11,0,0)] rfl (show ([11]:List Nat).Nodup by decide) (H0:=[.arr zAH 1 gm (M.set i s),.blk gx [.slice (some ⟨gn,0,none⟩) c.beds.length c.beds.length,.slice (some ⟨gm,0,none⟩) c.beds.length c.beds.length,.slice (some ⟨gh,0,none⟩) c.hours.length c.hours.length],.blk b5 (zp ⟨um,ur,uc,false⟩),.all ((M.eraseIdx i).map (rowOf zBL 1 4)),.row encI 1 3 (.slice (some ⟨gh,0,none⟩) c.hours.length c.hours.length) (zCQ c (j+1)),.zBb zAH (rowOf encI 1 3) gn L,.blk b2 [.slice none 0 0,.slice none 0 0,.slice none 0 0]]) (fun _ h=>h.sub (by (repeat (first|exact oK1 _|(refine oK2 (by (repeat (first|exact tK1 _ _|apply tK2))) ?_))))) (by kernel_rfl) [[],[Z],[Y,Y],[Y,Y,Y],[Z,Y,Y,Y],[Y,Y,Y,Y,Y],[Z,Z,Z,Y,Y,Y],[Z,Z,Z,Z,Y,Y,Y],[Y,Y,Y,Y,Y,Y,Y,Y],[Z,Y,Y,Y,Y,Y,Y,Y,Y],[Z,Z,Y,Y,Y,Y,Y,Y,Y,Y],[Z,Z,Z,Z,Z,Z,Z,Z,Y,Y,Y],[Z,Z,Z,Z,Z,Z,Z,Z,Z,Z,Z,Z],[Z,Z,Z,Z,Z,Z,Z,Z,Z,Z,Z,Z,Z]] (by kernel_rfl) (by kernel_rfl) (by kernel_rfl) (by kernel_rfl) (by kernel_rfl) ?_)
    (repeat' (first|(((with_reducible refine zCJ ?_ ?_);(· exact rfl);refine ⟨_,fun G=>(by (try simp (decide:=true) only [vis,see,fltT,zAD,Nat.reduceAdd,Nat.reduceSub,if_true,if_false,List.set_cons_zero,List.set_cons_succ,List.set_nil,List.nil_append,List.cons_append]);rfl),?_⟩);first|refine zX _ (fun _=>zAK rfl rfl) (fun _=>rfl) rfl (by first|exact fun _ _ _=>rfl|(intro G G' h;simp (decide:=true) only [h])) ?_|refine zX _ (fun _=>zy rfl rfl (by exact rfl)) (fun _=>rfl) rfl (by first|exact fun _ _ _=>rfl|(intro G G' h;simp (decide:=true) only [h])) ?_|(refine zAb rfl ?_;refine zX _ (fun _=>zAO rfl rfl) (fun _=>rfl) rfl (by first|exact fun _ _ _=>rfl|(intro G G' h;simp (decide:=true) only [h])) ?_)|refine zX _ (fun _=>zAS rfl rfl rfl rfl (by omega)) (fun _=>rfl) rfl (by first|exact fun _ _ _=>rfl|(intro G G' h;simp (decide:=true) only [h])) ?_|refine zB1 rfl (fun _=>rfl) rfl (fun _=>rfl) (by exact rfl) (by exact fun _=>rfl) (by first|exact fun _ _ _=>rfl|(intro G G' h;simp (decide:=true) only [h])) ?_)|(refine zD1 (enc:=zBL) (xs:=s.xs) (vx:=.slice s.A s.xs.length s.c) [false] List.mem_cons_self rfl rfl (fun _=>rfl) rfl (fun _=>rfl) (fun _=>rfl) rfl (fun G=>(by (try simp (decide:=true) only [vis,see,fltT,zAD,Nat.reduceAdd,Nat.reduceSub,if_true,if_false,List.set_cons_zero,List.set_cons_succ,List.set_nil,List.nil_append,List.cons_append]);rfl)) (fun _ W hW h=>zAl (enc:=zBL) (by exact rfl) W hW h) ⟨by simp;omega,by decide⟩ ?_)|((with_reducible refine zBa ?_ ?_);(· exact rfl))))
    intro G
    simp only [regsT,List.nil_append,List.cons_append]
    refine zB5 (H':=[.row zBL 1 4 (.slice (G 11).A (s.xs++[false]).length (G 11).m) (s.xs++[false]),.arr zAH 1 gm (M.set i s),.blk gx [.slice (some ⟨gn,0,none⟩) c.beds.length c.beds.length,.slice (some ⟨gm,0,none⟩) c.beds.length c.beds.length,.slice (some ⟨gh,0,none⟩) c.hours.length c.hours.length],.blk b5 (zp ⟨um,ur,uc,false⟩),.all ((M.eraseIdx i).map (rowOf zBL 1 4)),.row encI 1 3 (.slice (some ⟨gh,0,none⟩) c.hours.length c.hours.length) (zCQ c (j+1)),.zBb zAH (rowOf encI 1 3) gn L,.blk b2 [.slice none 0 0,.slice none 0 0,.slice none 0 0]]) (fun _ h=>h.sub (by (repeat (first|exact oK1 _|(refine oK2 (by (repeat (first|exact tK1 _ _|apply tK2))) ?_))))) ?_
    (repeat' (first|((with_reducible refine zG ?_);first|refine zE rfl rfl rfl rfl rfl ?_|refine zDX (i:=i) (s:=s) ⟨(G 11).A,s.xs++[false],(G 11).m⟩ rfl rfl rfl rfl rfl rfl (by (repeat (first|exact tK1 _ _|apply tK2))) (by omega) ?_|refine zj rfl rfl rfl rfl rfl rfl (by omega) ?_)|(with_reducible first|refine zB ?_|refine zD ?_|refine zA ?_|refine zk ?_)))
    refine zDN i (re:=rowOf zBL 1 4) ⟨(G 11).A,s.xs++[false],(G 11).m⟩ hs1 (by (repeat (first|exact tK1 _ _|apply tK2))) (by (repeat (first|exact tK1 _ _|apply tK2))) (by (repeat (first|exact tK1 _ _|apply tK2))) ?_
    refine zc (i+1,M.set i ⟨(G 11).A,s.xs++[false],(G 11).m⟩) ⟨by simp only;omega,?_⟩ (by simp only;omega) (by (first|exact lK1|(repeat (first|exact lK1|(refine zL rfl ?_))))) (by (repeat (first|exact oK1 _|(refine oK2 (by (repeat (first|exact tK1 _ _|apply tK2))) ?_))))
    simp only
    rw [List.map_set,hM,hsx,← hcs,zON hil]
   ·obtain rfl:i=c.beds.length:=by omega
    (repeat' (first|((with_reducible refine zG ?_);first|refine zE rfl rfl rfl rfl rfl ?_|(refine zQ rfl rfl rfl rfl rfl rfl rfl (fun h=>?_) (fun h=>?_)<;>(dsimp only [cmpP] at h;(try (exfalso;omega))))|refine zj rfl rfl rfl rfl rfl rfl (by omega) ?_)|(with_reducible first|refine zI ?_|refine zB ?_|refine zD ?_|refine zA ?_|refine zn ?_|refine zk ?_|refine zR ?_|refine zY ?_)|((with_reducible refine zF ?_ ?_);(· exact rfl))))
    refine zc (j+1,M) ⟨by simp only;omega,?_⟩ (by simp only;omega) (by (first|exact lK1|(repeat (first|exact lK1|(refine zL rfl ?_))))) (by (repeat (first|exact oK1 _|(refine oK2 (by (repeat (first|exact tK1 _ _|apply tK2))) ?_))))
    simp only
    rw [hM,zOO,zG3]

  ·simp only [if_true] at hce
   (repeat' (first|((with_reducible refine zG ?_);first|refine zE rfl rfl rfl rfl rfl ?_|refine zC rfl rfl rfl rfl rfl ?_|(refine zK rfl rfl rfl rfl rfl ?_;refine ⟨_,rfl,?_⟩)|refine ze rfl rfl rfl rfl rfl ?_|(refine zQ rfl rfl rfl rfl rfl rfl rfl (fun h=>?_) (fun h=>?_)<;>(dsimp only [cmpP] at h;(try (exfalso;omega))))|refine zCd (enc:=encI) (i:=j) uc rfl rfl rfl rfl rfl rfl rfl rfl (by omega) ?_|refine zi rfl rfl rfl rfl rfl rfl rfl (by omega) ?_|refine zr rfl rfl rfl rfl rfl ?_|(refine zf rfl rfl rfl rfl rfl ?_;refine And.intro rfl (And.intro (by first|decide|exact Nat.le_of_ble_eq_true rfl|(simp;omega)) ⟨_,rfl,?_⟩))|(refine zo rfl rfl rfl rfl (fun b=>?_))|refine zBP rfl rfl rfl rfl rfl ?_)|(with_reducible first|refine zI ?_|refine zB ?_|refine zD ?_|refine zA ?_|refine zP ?_|refine zN ?_)|((with_reducible refine zJ ?_ ?_);(· exact rfl))))
   rw [hce]
   obtain ⟨b5,hb5⟩:∃ b5,b5=b:=⟨_,rfl⟩
   subst hb5
   refine zu (ι:=Nat × List (zAN Bool)) [0,2,3,5,28,29,30,48] rfl (fun p=>p.1≤c.beds.length∧p.2.map (·.xs)=zHc c j p.1) (fun p=>[(49,.int .i64 (p.1:Int))]) (fun p=>[.zBb zAH (rowOf zBL 1 4) gm p.2,.row encI 1 3 (.slice (some ⟨gh,0,none⟩) c.hours.length c.hours.length) (zCQ c (j+1)),.zBb zAH (rowOf encI 1 3) gn L,.blk gx [.slice (some ⟨gn,0,none⟩) c.beds.length c.beds.length,.slice (some ⟨gm,0,none⟩) c.beds.length c.beds.length,.slice (some ⟨gh,0,none⟩) c.hours.length c.hours.length],.blk b5 (zp ⟨um,ur,uc,true⟩),.blk b2 [.slice none 0 0,.slice none 0 0,.slice none 0 0]]) (fun p=>c.beds.length - p.1) (0,M) ⟨Nat.zero_le _,hM⟩ (by (first|exact lK1|(repeat (first|exact lK1|(refine zL rfl ?_))))) (by (repeat (first|exact oK1 _|(refine oK2 (by (repeat (first|exact tK1 _ _|apply tK2))) ?_)))) ?_
   rintro ⟨i,M⟩ ⟨hi,hM⟩
   simp only at hi hM
   simp only [zAq,List.cons_append,List.nil_append]
   have hMl:M.length=c.beds.length:=by
    have:=congrArg List.length hM
    simp [zHc] at this;omega
   by_cases hil:i<c.beds.length
   ·obtain ⟨s,hs1⟩:∃ s,M[i]?=some s:=⟨_,List.getElem?_eq_getElem (by omega)⟩
    have hsx:s.xs=zEw c j:=by
     have h1:=zQb (c:=c) (h:=j) hil
     rw [← hM,List.getElem?_map,hs1] at h1
     exact Option.some.inj h1
    have hsl:s.xs.length≤12:=by rw [hsx,hcl];omega
    (repeat' (first|((with_reducible refine zG ?_);first|refine zE rfl rfl rfl rfl rfl ?_|refine zC rfl rfl rfl rfl rfl ?_|(refine zQ rfl rfl rfl rfl rfl rfl rfl (fun h=>?_) (fun h=>?_)<;>(dsimp only [cmpP] at h;(try (exfalso;omega)))))|(with_reducible first|refine zI ?_|refine zB ?_|refine zD ?_|refine zA ?_|refine zP ?_|refine zN ?_)|((with_reducible refine zJ ?_ ?_);(· exact rfl))))
    refine zDO i hs1 (by (repeat (first|exact tK1 _ _|apply tK2))) ?_
    have:zAR (M.set i s) i s:=⟨List.getElem?_set_self (by omega)⟩
    simp only [rowOf]
    (refine zAd [] [(11,0,0,[.row zBL 1 4 (.slice s.A s.xs.length s.c) s.xs])] [(11,0,0)] rfl (show ([11]:List Nat).Nodup by decide) (H0:=[.arr zAH 1 gm (M.set i s),.blk gx [.slice (some ⟨gn,0,none⟩) c.beds.length c.beds.length,.slice (some ⟨gm,0,none⟩) c.beds.length c.beds.length,.slice (some ⟨gh,0,none⟩) c.hours.length c.hours.length],.blk b5 (zp ⟨um,ur,uc,true⟩),.all ((M.eraseIdx i).map (rowOf zBL 1 4)),.row encI 1 3 (.slice (some ⟨gh,0,none⟩) c.hours.length c.hours.length) (zCQ c (j+1)),.zBb zAH (rowOf encI 1 3) gn L,.blk b2 [.slice none 0 0,.slice none 0 0,.slice none 0 0]]) (fun _ h=>h.sub (by (repeat (first|exact oK1 _|(refine oK2 (by (repeat (first|exact tK1 _ _|apply tK2))) ?_))))) (by kernel_rfl) [[],[Z],[Y,Y],[Y,Y,Y],[Z,Y,Y,Y],[Y,Y,Y,Y,Y],[Z,Z,Z,Y,Y,Y],[Z,Z,Z,Z,Y,Y,Y],[Y,Y,Y,Y,Y,Y,Y,Y],[Z,Y,Y,Y,Y,Y,Y,Y,Y],[Z,Z,Y,Y,Y,Y,Y,Y,Y,Y],[Z,Z,Z,Z,Z,Z,Z,Z,Y,Y,Y],[Z,Z,Z,Z,Z,Z,Z,Z,Z,Z,Z,Z],[Z,Z,Z,Z,Z,Z,Z,Z,Z,Z,Z,Z,Z]] (by kernel_rfl) (by kernel_rfl) (by kernel_rfl) (by kernel_rfl) (by kernel_rfl) ?_)
    (repeat' (first|(((with_reducible refine zCJ ?_ ?_);(· exact rfl);refine ⟨_,fun G=>(by (try simp (decide:=true) only [vis,see,fltT,zAD,Nat.reduceAdd,Nat.reduceSub,if_true,if_false,List.set_cons_zero,List.set_cons_succ,List.set_nil,List.nil_append,List.cons_append]);rfl),?_⟩);first|refine zX _ (fun _=>zAK rfl rfl) (fun _=>rfl) rfl (by first|exact fun _ _ _=>rfl|(intro G G' h;simp (decide:=true) only [h])) ?_|refine zX _ (fun _=>zy rfl rfl (by exact rfl)) (fun _=>rfl) rfl (by first|exact fun _ _ _=>rfl|(intro G G' h;simp (decide:=true) only [h])) ?_|(refine zAb rfl ?_;refine zX _ (fun _=>zAO rfl rfl) (fun _=>rfl) rfl (by first|exact fun _ _ _=>rfl|(intro G G' h;simp (decide:=true) only [h])) ?_)|refine zX _ (fun _=>zAS rfl rfl rfl rfl (by omega)) (fun _=>rfl) rfl (by first|exact fun _ _ _=>rfl|(intro G G' h;simp (decide:=true) only [h])) ?_|refine zB1 rfl (fun _=>rfl) rfl (fun _=>rfl) (by exact rfl) (by exact fun _=>rfl) (by first|exact fun _ _ _=>rfl|(intro G G' h;simp (decide:=true) only [h])) ?_)|(refine zD1 (enc:=zBL) (xs:=s.xs) (vx:=.slice s.A s.xs.length s.c) [true] List.mem_cons_self rfl rfl (fun _=>rfl) rfl (fun _=>rfl) (fun _=>rfl) rfl (fun G=>(by (try simp (decide:=true) only [vis,see,fltT,zAD,Nat.reduceAdd,Nat.reduceSub,if_true,if_false,List.set_cons_zero,List.set_cons_succ,List.set_nil,List.nil_append,List.cons_append]);rfl)) (fun _ W hW h=>zAl (enc:=zBL) (by exact rfl) W hW h) ⟨by simp;omega,by decide⟩ ?_)|((with_reducible refine zBa ?_ ?_);(· exact rfl))))
    intro G
    simp only [regsT,List.nil_append,List.cons_append]
    refine zB5 (H':=[.row zBL 1 4 (.slice (G 11).A (s.xs++[true]).length (G 11).m) (s.xs++[true]),.arr zAH 1 gm (M.set i s),.blk gx [.slice (some ⟨gn,0,none⟩) c.beds.length c.beds.length,.slice (some ⟨gm,0,none⟩) c.beds.length c.beds.length,.slice (some ⟨gh,0,none⟩) c.hours.length c.hours.length],.blk b5 (zp ⟨um,ur,uc,true⟩),.all ((M.eraseIdx i).map (rowOf zBL 1 4)),.row encI 1 3 (.slice (some ⟨gh,0,none⟩) c.hours.length c.hours.length) (zCQ c (j+1)),.zBb zAH (rowOf encI 1 3) gn L,.blk b2 [.slice none 0 0,.slice none 0 0,.slice none 0 0]]) (fun _ h=>h.sub (by (repeat (first|exact oK1 _|(refine oK2 (by (repeat (first|exact tK1 _ _|apply tK2))) ?_))))) ?_
    (repeat' (first|((with_reducible refine zG ?_);first|refine zE rfl rfl rfl rfl rfl ?_|refine zDX (i:=i) (s:=s) ⟨(G 11).A,s.xs++[true],(G 11).m⟩ rfl rfl rfl rfl rfl rfl (by (repeat (first|exact tK1 _ _|apply tK2))) (by omega) ?_|refine zj rfl rfl rfl rfl rfl rfl (by omega) ?_)|(with_reducible first|refine zB ?_|refine zD ?_|refine zA ?_|refine zk ?_)))
    refine zDN i (re:=rowOf zBL 1 4) ⟨(G 11).A,s.xs++[true],(G 11).m⟩ hs1 (by (repeat (first|exact tK1 _ _|apply tK2))) (by (repeat (first|exact tK1 _ _|apply tK2))) (by (repeat (first|exact tK1 _ _|apply tK2))) ?_
    refine zc (i+1,M.set i ⟨(G 11).A,s.xs++[true],(G 11).m⟩) ⟨by simp only;omega,?_⟩ (by simp only;omega) (by (first|exact lK1|(repeat (first|exact lK1|(refine zL rfl ?_))))) (by (repeat (first|exact oK1 _|(refine oK2 (by (repeat (first|exact tK1 _ _|apply tK2))) ?_))))
    simp only
    rw [List.map_set,hM,hsx,← hcs,zON hil]
   ·obtain rfl:i=c.beds.length:=by omega
    (repeat' (first|((with_reducible refine zG ?_);first|refine zE rfl rfl rfl rfl rfl ?_|(refine zQ rfl rfl rfl rfl rfl rfl rfl (fun h=>?_) (fun h=>?_)<;>(dsimp only [cmpP] at h;(try (exfalso;omega))))|refine zj rfl rfl rfl rfl rfl rfl (by omega) ?_)|(with_reducible first|refine zI ?_|refine zB ?_|refine zD ?_|refine zA ?_|refine zn ?_|refine zk ?_|refine zR ?_|refine zY ?_)|((with_reducible refine zF ?_ ?_);(· exact rfl))))
    refine zc (j+1,M) ⟨by simp only;omega,?_⟩ (by simp only;omega) (by (first|exact lK1|(repeat (first|exact lK1|(refine zL rfl ?_))))) (by (repeat (first|exact oK1 _|(refine oK2 (by (repeat (first|exact tK1 _ _|apply tK2))) ?_))))
    simp only
    rw [hM,zOO,zG3]

 ·obtain rfl:j=c.hours.length:=by omega
  (repeat' (first|((with_reducible refine zG ?_);first|(refine zK rfl rfl rfl rfl rfl ?_;refine ⟨_,rfl,?_⟩)|(refine zQ rfl rfl rfl rfl rfl rfl rfl (fun h=>?_) (fun h=>?_)<;>(dsimp only [cmpP] at h;(try (exfalso;omega))))|(refine zf rfl rfl rfl rfl rfl ?_;refine And.intro rfl (And.intro (by first|decide|exact Nat.le_of_ble_eq_true rfl|(simp;omega)) ⟨_,rfl,?_⟩)))|(with_reducible first|refine zI ?_|refine zB ?_|refine zD ?_|refine zA ?_|refine zb ?_|refine zn ?_|refine zR ?_|refine zY ?_)|((with_reducible refine zF ?_ ?_);(· exact rfl))))
  refine zT (by (exact zO.cons (by exact res1c rfl (by exact rfl)) zO.nil)) ((gn,L),(gm,M),gh) ⟨hL,?_⟩ rfl (fun _ h=>?_)
  ·simp only;rw [hM,zG3];simp [zEw,zC6]
  ·rw [← zPw];exact h.sub (by (repeat (first|exact oK1 _|(refine oK2 (by (repeat (first|exact tK1 _ _|apply tK2))) ?_))))
end Go.Proofs.YtdigopgncfhiaaaGreatDoor.Two
namespace Go.Proofs.YtdigopgncfhiaaaGreatDoor
variable {ro : Option Nat}
open Go.RowKit
set_option linter.unusedSectionVars false
section
variable {P : Program} {w0:World} {n:Nat} {d:List Deferred} {R:List (Nat × Value)} {H:List Ent} {Q:Exit→Act→World→Prop} {ops:Array Oper} {rest:List Oper} {o:Oper} {t:Tmp} {x y:Operand} {T T':TypeId} {k k':IntKind} {i j:Int}
theorem e_shr {m h:Nat} (hop:o.op = .binOp .shr T x y T') (hx:evR R x=some (.int .i64 (m:Int))) (hy:evR R y=some (.int k' (h:Int))) (hh:h≤64):Ev P w0 n d R H o (.int .i64 ((m >>> h:Nat):Int)) :=
 (fun a w q=>by
  unfold execOp;rw [hop]
  have e1:((m:Int).fdiv (2 ^ h))=((m >>> h:Nat):Int):=by
   rw [Nat.shiftRight_eq_div_pow,Int.fdiv_eq_ediv_of_nonneg _ (by exact Int.le_of_lt (Int.pow_pos (by omega)))]
   rw [Int.natCast_ediv,Int.natCast_pow];rfl
  have e2:min (h:Int).toNat IntKind.i64.bits=h:=by simp [IntKind.bits];omega
  have e3:¬ ((h:Int)<0):=by omega
  simp only [Sem.run_bind,q.ev hx,q.ev hy,eqGuard,binOp,Op.shift,e3,if_false,e2,e1,Bool.not_false,if_true,Sem.run_pure,Result.andThen_ok])
theorem zNN {m:Nat} (hop:o.op = .binOp .and T x y T') (hx:evR R x=some (.int .i64 (m:Int))) (hy:evR R y=some (.int .i64 1)) (hm:m<4611686018427387904):Ev P w0 n d R H o (.int .i64 ((m % 2:Nat):Int)) :=
 (fun a w q=>by
  unfold execOp;rw [hop]
  have e1:(BitVec.ofInt IntKind.i64.bits (m:Int) &&& BitVec.ofInt IntKind.i64.bits 1).toNat=m % 2:=by
   show (BitVec.ofInt 64 (m:Int) &&& BitVec.ofInt 64 1).toNat=m % 2
   rw [BitVec.toNat_and,BitVec.ofInt_natCast,BitVec.toNat_ofNat,Nat.mod_eq_of_lt (by omega)]
   have:(BitVec.ofInt 64 1).toNat=1:=by decide
   rw [this,Nat.and_one_is_mod]
  have e2:=IntWalk.i64_in ((m % 2:Nat):Int) (by omega)
  simp only [Sem.run_bind,q.ev hx,q.ev hy,eqGuard,binOp,Op.intBits,ne_eq,not_true_eq_false,if_false,e1,e2,Bool.not_false,if_true,Sem.run_pure,Result.andThen_ok])
theorem e_shl1 {h:Nat} (hop:o.op = .binOp .shl T x y T') (hx:evR R x=some (.int .i64 1)) (hy:evR R y=some (.int k' (h:Int))) (hh:h≤60):Ev P w0 n d R H o (.int .i64 ((2 ^ h:Nat):Int)) :=
 (fun a w q=>by
  unfold execOp;rw [hop]
  have e2:min (h:Int).toNat IntKind.i64.bits=h:=by simp [IntKind.bits];omega
  have e3:¬ ((h:Int)<0):=by omega
  have hp:2 ^ h≤2 ^ 60:=Nat.pow_le_pow_right (by omega) hh
  have e4:(1:Int) * 2 ^ h=((2 ^ h:Nat):Int):=by rw [Int.one_mul,Int.natCast_pow];rfl
  have e5:IntKind.i64.wrap ((2 ^ h:Nat):Int)=((2 ^ h:Nat):Int):=by
   generalize 2 ^ h=p at hp
   exact IntWalk.i64_in _ (by omega)
  simp only [Sem.run_bind,q.ev hx,q.ev hy,eqGuard,binOp,Op.shift,e3,if_false,e2,e4,e5,Bool.not_false,if_true,Sem.run_pure,Result.andThen_ok])
theorem u_anyShr {k':IntKind} (hop:o.op = .binOp .shr T x y T') (hw:want R ops o=some true) (hd:o.dst=some t) (ht:Nat.blt t n=true) (hx:evR R x=some (.int k i)) (hy:evR R y=some (.int k' j)) (hj:0≤j) (h:∀ z,U w0 n d ((t,.int k z)::R) H (wpL ro P ops Q rest)):U w0 n d R H (wpL ro P ops Q (o::rest)):=by
 have e3:¬ (j<0):=by omega
 exact zAe (v:=.int k (i.fdiv (2 ^ (min j.toNat k.bits)))) hw hd ht (fun a w q=>by unfold execOp;rw [hop];simp only [Sem.run_bind,q.ev hx,q.ev hy,eqGuard,binOp,Op.shift,e3,if_false,Bool.not_false,if_true,Sem.run_pure,Result.andThen_ok]) (h _)
theorem zLe {T1 T2:TypeId} {d1:TypeDesc} {s1 s2:Nat} {g1 g2:Bool} {k':IntKind} (hop:o.op = .convert T1 T2 x) [i1:TyI P T1 d1 s1 g1] [i2:TyI P T2 (.int k') s2 g2] (hw:want R ops o=some true) (hd:o.dst=some t) (ht:Nat.blt t n=true) (hx:evR R x=some (.int k i)) (h:∀ z,U w0 n d ((t,.int k' z)::R) H (wpL ro P ops Q rest)):U w0 n d R H (wpL ro P ops Q (o::rest)) :=
 zAe (v:=.int k' (k'.wrap i)) hw hd ht (fun a w q=>by
  unfold execOp;rw [hop]
  have e1:=run_underlying i1.und w
  have e2:=run_underlying i2.und w
  simp [q.ev hx,convert,e1,e2,Conv.intToInt]) (h _)
theorem u_and127 (hop:o.op = .binOp .and T x y T') (hw:want R ops o=some true) (hd:o.dst=some t) (ht:Nat.blt t n=true) (hx:evR R x=some (.int .i64 i)) (hy:evR R y=some (.int .i64 127)) (h:∀ z:Nat,z≤127→U w0 n d ((t,.int .i64 (z:Int))::R) H (wpL ro P ops Q rest)):U w0 n d R H (wpL ro P ops Q (o::rest)):=by
 have hle:(BitVec.ofInt IntKind.i64.bits i &&& BitVec.ofInt IntKind.i64.bits 127).toNat≤127:=by
  show (BitVec.ofInt 64 i &&& BitVec.ofInt 64 127).toNat≤127
  rw [BitVec.toNat_and]
  have:(BitVec.ofInt 64 127).toNat=127:=by decide
  rw [this];exact Nat.and_le_right
 refine zAe (v:=.int .i64 (((BitVec.ofInt IntKind.i64.bits i &&& BitVec.ofInt IntKind.i64.bits 127).toNat:Nat):Int)) hw hd ht (fun a w q=>?_) (h _ hle)
 unfold execOp;rw [hop]
 have e2:=IntWalk.i64_in ((((BitVec.ofInt IntKind.i64.bits i &&& BitVec.ofInt IntKind.i64.bits 127).toNat:Nat)):Int) (by omega)
 simp only [Sem.run_bind,q.ev hx,q.ev hy,eqGuard,binOp,Op.intBits,ne_eq,not_true_eq_false,if_false,e2,Bool.not_false,if_true,Sem.run_pure,Result.andThen_ok]
end
theorem zNW {m h:Nat}:m.testBit h=decide ((m >>> h) % 2=1):=by
 rw [Nat.testBit_eq_decide_div_mod_eq,Nat.shiftRight_eq_div_pow]
theorem bit_zero {m h:Nat}:(!m.testBit h)=decide ((m >>> h) % 2=0):=by
 rw [zNW]
 have:=Nat.mod_two_eq_zero_or_one (m >>> h)
 rcases this with h|h<;>simp [h]
end Go.Proofs.YtdigopgncfhiaaaGreatDoor
namespace Go.Proofs.YtdigopgncfhiaaaGreatDoor
open Go.RowKit
open Flow (lackF sumL)
set_option maxRecDepth 20000
theorem zKg {nd:Nat→Int} {my sm:Nat→Bool} (hb:∀ h,-1000000≤nd h∧nd h≤1000000):∀ k:Nat,0≤(lackF nd my sm k).1∧(lackF nd my sm k).1≤1000000∧0≤(lackF nd my sm k).2∧(lackF nd my sm k).2≤k
 | 0=>by simp [lackF]
 | k+1=>by
  obtain ⟨h1,h2,h3,h4⟩:=zKg (my:=my) (sm:=sm) hb k
  have:=hb k
  simp only [lackF]
  refine ⟨by omega,by omega,?_,?_⟩<;>split<;>omega
theorem zNJ {l:List Int} (h:∀ x∈l,-1000000≤x∧x≤1000000) (i:Nat):-1000000≤l.getD i 0∧l.getD i 0≤1000000:=by
 by_cases hi:i<l.length
 ·rw [Flow.zt hi];exact h _ (List.getElem_mem hi)
 ·rw [List.getD_eq_getElem?_getD,List.getElem?_eq_none (by omega)];simp
def zGI (nds:List (List Int)) (mys:List (List Bool)) (m i k:Nat):Int:=(lackF (fun h=>(nds.getD i []).getD h 0) (fun h=>(mys.getD i []).getD h false) m.testBit k).1
def zFC (hs:List Int) (m k:Nat):Int:=sumL (List.range k) (fun h=>if m.testBit h then hs.getD h 0 else 0)
def zKB (nds:List (List Int)) (mys:List (List Bool)) (hs:List Int) (m:Nat):Int:=sumL (List.range nds.length) (fun i=>zGI nds mys m i (nds.getD i []).length) - zFC hs m hs.length
theorem zHt {f:Nat→Int} {u:Int} (h:∀ i,0≤f i∧f i≤u):∀ k:Nat,0≤sumL (List.range k) f∧sumL (List.range k) f≤u * k
 | 0=>by simp [sumL]
 | k+1=>by
  obtain ⟨h1,h2⟩:=zHt h k
  obtain ⟨h3,h4⟩:=h k
  rw [Flow.zAE,Int.natCast_add,Int.mul_add]
  exact ⟨by omega,by omega⟩
theorem getD_map {α β:Type} {f:α→β} {l:List α} {i:Nat} {x:α} {d:β} (h:l[i]?=some x):(l.map f).getD i d=f x:=by
 rw [List.getD_eq_getElem?_getD,List.getElem?_map,h];rfl
structure zFM (L:List (zAN Int)) (M:List (zAN Bool)) (hs:List Int):Prop where
 len:L.length≤20
 len2:M.length=L.length
 row:∀ (i:Nat) (s:zAN Int) (t:zAN Bool),L[i]?=some s→M[i]?=some t→s.xs.length≤t.xs.length
 rlen:∀ s∈L,s.xs.length≤12
 big:∀ s∈L,∀ x∈s.xs,-1000000≤x∧x≤1000000
 hlen:hs.length≤12
 hbig:∀ x∈hs,0≤x∧x≤1000
theorem zFM.big2 {L:List (zAN Int)} {M:List (zAN Bool)} {hs:List Int} (h:zFM L M hs) (i k:Nat):-1000000≤((L.map (·.xs)).getD i []).getD k 0∧((L.map (·.xs)).getD i []).getD k 0≤1000000:=by
 by_cases hi:i<L.length
 ·rw [getD_map (List.getElem?_eq_getElem hi)]
  exact zNJ (h.big _ (List.getElem_mem hi)) k
 ·have e:(L.map (·.xs)).getD i []=[]:=by rw [List.getD_eq_getElem?_getD,List.getElem?_eq_none (by rw [List.length_map];omega)];rfl
  rw [e];simp
theorem zFM.zKe {L:List (zAN Int)} {M:List (zAN Bool)} {hs:List Int} (h:zFM L M hs) (m i k:Nat):0≤zGI (L.map (·.xs)) (M.map (·.xs)) m i k∧zGI (L.map (·.xs)) (M.map (·.xs)) m i k≤1000000:=by
 have:=zKg (nd:=fun h=>((L.map (·.xs)).getD i []).getD h 0) (my:=fun h=>((M.map (·.xs)).getD i []).getD h false) (sm:=m.testBit) (h.big2 i) k
 exact ⟨this.1,this.2.1⟩
theorem zFM.zQi {L:List (zAN Int)} {M:List (zAN Bool)} {hs:List Int} (h:zFM L M hs) (m k:Nat):0≤(if m.testBit k then hs.getD k 0 else 0)∧(if m.testBit k then hs.getD k 0 else 0)≤1000:=by
 split
 ·by_cases hi:k<hs.length
  ·rw [Flow.zt hi];exact h.hbig _ (List.getElem_mem hi)
  ·rw [List.getD_eq_getElem?_getD,List.getElem?_eq_none (by omega)];simp
 ·omega
end Go.Proofs.YtdigopgncfhiaaaGreatDoor
namespace Go.Proofs.YtdigopgncfhiaaaGreatDoor
open Go.RowKit
open Flow (lackF sumL)
set_option maxRecDepth 20000
def zBf (A:Option Addr) (la ca:Nat) (B:Option Addr) (lb cb:Nat) (C:Option Addr) (lc cc:Nat):List Value:=[.slice A la ca,.slice B lb cb,.slice C lc cc]
def zKC (nds:List (List Int)) (mys:List (List Bool)) (hs:List Int) (hour m:Nat):Int:=sumL (List.range nds.length) (fun i=>zGI nds mys m i (hour+1)) - zFC hs m hour
set_option maxHeartbeats 2000000 in
theorem zPl (L:List (zAN Int)) (A:Option Addr) (ca:Nat) (M:List (zAN Bool)) (B:Option Addr) (cb:Nat) (hs:List Int) (C:Option Addr) (cc hour m:Nat) (w:World) (hL:zDi encI 1 w A L) (hM:zDi zBL 1 w B M) (hh:zAB encI 1 w C hs) (hok:zFM L M hs) (hmb:m<1000000) (hr:∀ s∈L,hour<s.xs.length) (hr2:∀ t∈M,hour<t.xs.length) (hr3:hour≤hs.length) :
  Gv Tryz.prog 70 [.agg (zBf A L.length ca B M.length cb C hs.length cc).toArray,.int .i64 (hour:Int),.int .i64 (m:Int)] w (.bool (decide (0<zKC (L.map (·.xs)) (M.map (·.xs)) hs hour m))):=by
 have n1:=hok.len;have n2:=hok.len2;have n3:=hok.hlen
 have hLp:=hL.p;have hMp:=hM.p
 unfold Gv zBf
 (refine zM (n:=76) Tryz.func70 rfl rfl rfl ?_)
 (repeat' (first|((with_reducible refine zG ?_);first|refine zE rfl rfl rfl rfl rfl ?_|refine zC rfl rfl rfl rfl rfl ?_|(refine zK rfl rfl rfl rfl rfl ?_;refine ⟨_,rfl,?_⟩)|refine ze rfl rfl rfl rfl rfl ?_|refine zr rfl rfl rfl rfl rfl ?_|(refine zAM rfl rfl rfl rfl rfl rfl (fun b=>?_)))|(with_reducible first|refine zI ?_|refine zB ?_|refine zD ?_|refine zA ?_|refine zN ?_)))
 obtain ⟨b1,hb1⟩:∃ b1,b1=b:=⟨_,rfl⟩
 subst hb1
 refine zu (ι:=Nat) [3,1,2,15,16] rfl (fun i=>i≤L.length) (fun i=>[(17,.int .i64 (i:Int)),(7,.int .i64 (sumL (List.range i) (fun i=>zGI (L.map (·.xs)) (M.map (·.xs)) m i (hour+1))))]) (fun _=>[.blk b1 [.slice A L.length ca,.slice B M.length cb,.slice C hs.length cc]]) (fun i=>L.length - i) 0 (Nat.zero_le _) (by (first|exact lK1|(repeat (first|exact lK1|(refine zL rfl ?_))))) (by (repeat (first|exact oK1 _|(refine oK2 (by (repeat (first|exact tK1 _ _|apply tK2))) ?_)))) ?_
 rintro i hi
 simp only [zAq,List.cons_append,List.nil_append]
 by_cases hlt:i<L.length
 ·obtain ⟨s,hs1⟩:∃ s,L[i]?=some s:=⟨_,List.getElem?_eq_getElem hlt⟩
  obtain ⟨t,ht1⟩:∃ t,M[i]?=some t:=⟨_,List.getElem?_eq_getElem (by omega)⟩
  obtain ⟨b2,o2,rfl,_,_⟩:=hLp.at_ hlt
  obtain ⟨b3,o3,rfl,_,_⟩:=hMp.at_ (i:=i) (by omega)
  have:InS w b2 o2 zAH 1 L:=⟨hLp⟩
  have:InS w b3 o3 zAH 1 M:=⟨hMp⟩
  have:zAR L i s:=⟨hs1⟩
  have:zAR M i t:=⟨ht1⟩
  have hsx:=hL.rows s (List.mem_of_getElem? hs1)
  have htx:=hM.rows t (List.mem_of_getElem? ht1)
  have hsl:=hr s (List.mem_of_getElem? hs1)
  have htl:=hr2 t (List.mem_of_getElem? ht1)
  have hsum:=zHt (fun i=>hok.zKe m i (hour+1)) i
  have e2:=Flow.zAE (fun i=>zGI (L.map (·.xs)) (M.map (·.xs)) m i (hour+1)) i
  have e3:∀ k,zGI (L.map (·.xs)) (M.map (·.xs)) m i k=(lackF (fun h=>s.xs.getD h 0) (fun h=>t.xs.getD h false) m.testBit k).1:=fun k=>by
   unfold zGI
   rw [getD_map hs1,getD_map ht1]
  have e4:=hok.zKe m i (hour+1)
  have hbg:=zNJ (hok.big s (List.mem_of_getElem? hs1))
  have hrl:=hok.rlen s (List.mem_of_getElem? hs1)
  rw [e3] at e2 e4
  generalize sumL (List.range i) (fun i=>zGI (L.map (·.xs)) (M.map (·.xs)) m i (hour+1))=p at *
  clear e3
  obtain ⟨sA,sx,sc⟩:=s
  obtain ⟨tA,tx,tc⟩:=t
  simp only at hsx htx hsl htl e2 e4 hbg hrl
  obtain ⟨b4,o4,rfl,_,_⟩:=hsx.at_ (i:=0) (by omega)
  obtain ⟨b5,o5,rfl,_,_⟩:=htx.at_ (i:=0) (by omega)
  have:InS w b4 o4 encI 1 sx:=⟨hsx⟩
  have:InS w b5 o5 zBL 1 tx:=⟨htx⟩
  (repeat' (first|((with_reducible refine zG ?_);first|refine zE rfl rfl rfl rfl rfl ?_|refine zC rfl rfl rfl rfl rfl ?_|(refine zK rfl rfl rfl rfl rfl ?_;refine ⟨_,rfl,?_⟩)|(refine zQ rfl rfl rfl rfl rfl rfl rfl (fun h=>?_) (fun h=>?_)<;>(dsimp only [cmpP] at h;(try (exfalso;omega))))|refine zj rfl rfl rfl rfl rfl rfl (by omega) ?_|refine zi rfl rfl rfl rfl rfl rfl rfl (by omega) ?_)|(with_reducible first|refine zI ?_|refine zB ?_|refine zD ?_|refine zA ?_|refine zP ?_|refine zN ?_)|((with_reducible refine zJ ?_ ?_);(· exact rfl))))
  refine zu (ι:=Nat) [3,1,2,15,16,17,7,8,9,23] rfl (fun k=>k≤hour+1) (fun k=>[(24,.int .i64 (k:Int)),(10,.int .i64 (lackF (fun h=>sx.getD h 0) (fun h=>tx.getD h false) m.testBit k).1),(11,.int .i64 (lackF (fun h=>sx.getD h 0) (fun h=>tx.getD h false) m.testBit k).2)]) (fun _=>[.blk b1 [.slice (some ⟨b2,o2,none⟩) L.length ca,.slice (some ⟨b3,o3,none⟩) M.length cb,.slice C hs.length cc]]) (fun k=>hour+1 - k) 0 (Nat.zero_le _) (by (first|exact lK1|(repeat (first|exact lK1|(refine zL rfl ?_))))) (by (repeat (first|exact oK1 _|(refine oK2 (by (repeat (first|exact tK1 _ _|apply tK2))) ?_)))) ?_
  rintro k hk
  simp only [zAq,List.cons_append,List.nil_append]
  by_cases hkl:k<hour+1
  ·have hin:=zKg (nd:=fun h=>sx.getD h 0) (my:=fun h=>tx.getD h false) (sm:=m.testBit) hbg k
   have hbx:=hbg k
   have:zAR sx k (sx.getD k 0):=⟨by rw [Flow.zt (by omega)];simp⟩
   have e1:lackF (fun h=>sx.getD h 0) (fun h=>tx.getD h false) m.testBit (k+1)=(max (lackF (fun h=>sx.getD h 0) (fun h=>tx.getD h false) m.testBit k).1 (sx.getD k 0 - (lackF (fun h=>sx.getD h 0) (fun h=>tx.getD h false) m.testBit k).2),if (tx.getD k false && !m.testBit k)=true then (lackF (fun h=>sx.getD h 0) (fun h=>tx.getD h false) m.testBit k).2+1 else (lackF (fun h=>sx.getD h 0) (fun h=>tx.getD h false) m.testBit k).2):=rfl
   have hg:tx[k]?=some (tx.getD k false):=by rw [Flow.zt (by omega)];simp
   have hb2:=Nat.shiftRight_le m k
   rw [bit_zero] at e1
   clear e2 e4
   generalize lackF (fun h=>sx.getD h 0) (fun h=>tx.getD h false) m.testBit k=pp at *
   generalize tx.getD k false=z at *
   generalize sx.getD k 0=x at *
   have:zAR tx k z:=⟨hg⟩
   cases z
   ·simp only [Bool.false_and,Bool.false_eq_true,if_false] at e1
    (repeat' (first|((with_reducible refine zG ?_);first|refine zE rfl rfl rfl rfl rfl ?_|refine zC rfl rfl rfl rfl rfl ?_|(refine zK rfl rfl rfl rfl rfl ?_;refine ⟨_,rfl,?_⟩)|refine ze rfl rfl rfl rfl rfl ?_|refine zAf rfl rfl rfl rfl rfl rfl ?_|refine zAT rfl rfl rfl ?_|(refine zQ rfl rfl rfl rfl rfl rfl rfl (fun h=>?_) (fun h=>?_)<;>(dsimp only [cmpP] at h;(try (exfalso;omega))))|refine zi (I:=k) rfl rfl rfl rfl rfl rfl rfl (by dsimp only;omega) ?_|refine zj rfl rfl rfl rfl rfl rfl (by omega) ?_|refine zCn rfl rfl rfl rfl rfl rfl (IntWalk.i64_in _ (by omega)) ?_|refine zi rfl rfl rfl rfl rfl rfl rfl (by omega) ?_|refine zJz rfl rfl rfl rfl rfl rfl ?_)|(with_reducible first|refine zI ?_|refine zB ?_|refine zD ?_|refine zA ?_|refine zP ?_|refine zN ?_|refine zk ?_)|((with_reducible refine zJ ?_ ?_);(· exact rfl))|((with_reducible refine zF ?_ ?_);(· exact rfl))))
    exact zc (k+1) (by omega) (by omega) (by rw [e1];(first|exact lK1|(repeat (first|exact lK1|(refine zL rfl ?_))))) (by (repeat (first|exact oK1 _|(refine oK2 (by (repeat (first|exact tK1 _ _|apply tK2))) ?_))))
   ·simp only [Bool.true_and,decide_eq_true_eq] at e1
    (repeat' (first|((with_reducible refine zG ?_);first|refine zE rfl rfl rfl rfl rfl ?_|refine zC rfl rfl rfl rfl rfl ?_|(refine zK rfl rfl rfl rfl rfl ?_;refine ⟨_,rfl,?_⟩)|refine ze rfl rfl rfl rfl rfl ?_|refine zAf rfl rfl rfl rfl rfl rfl ?_|(refine zQ rfl rfl rfl rfl rfl rfl rfl (fun h=>?_) (fun h=>?_)<;>(dsimp only [cmpP] at h;(try (exfalso;omega))))|refine zi (I:=k) rfl rfl rfl rfl rfl rfl rfl (by dsimp only;omega) ?_|refine zAe rfl rfl rfl (e_shr rfl rfl rfl (by omega)) ?_|refine zAe rfl rfl rfl (zNN rfl rfl rfl (by omega)) ?_|refine zj rfl rfl rfl rfl rfl rfl (by omega) ?_|refine zCh rfl rfl rfl rfl rfl rfl (IntWalk.i64_in _ (by omega)) ?_|refine zCn rfl rfl rfl rfl rfl rfl (IntWalk.i64_in _ (by omega)) ?_|refine zi rfl rfl rfl rfl rfl rfl rfl (by omega) ?_|refine zJz rfl rfl rfl rfl rfl rfl ?_)|(with_reducible first|refine zI ?_|refine zB ?_|refine zD ?_|refine zA ?_|refine zP ?_|refine zN ?_|refine zk ?_)|((with_reducible refine zJ ?_ ?_);(· exact rfl))|((with_reducible refine zF ?_ ?_);(· exact rfl))))
    ·exact zc (k+1) (by omega) (by omega) (by rw [e1,if_pos (by omega)];(first|exact lK1|(repeat (first|exact lK1|(refine zL rfl ?_))))) (by (repeat (first|exact oK1 _|(refine oK2 (by (repeat (first|exact tK1 _ _|apply tK2))) ?_))))
    ·exact zc (k+1) (by omega) (by omega) (by rw [e1,if_neg (by omega)];(first|exact lK1|(repeat (first|exact lK1|(refine zL rfl ?_))))) (by (repeat (first|exact oK1 _|(refine oK2 (by (repeat (first|exact tK1 _ _|apply tK2))) ?_))))
  ·obtain rfl:k=hour+1:=by omega
   (repeat' (first|((with_reducible refine zG ?_);first|refine zE rfl rfl rfl rfl rfl ?_|refine zC rfl rfl rfl rfl rfl ?_|(refine zQ rfl rfl rfl rfl rfl rfl rfl (fun h=>?_) (fun h=>?_)<;>(dsimp only [cmpP] at h;(try (exfalso;omega))))|refine zj rfl rfl rfl rfl rfl rfl (by omega) ?_|refine zCh rfl rfl rfl rfl rfl rfl (IntWalk.i64_in _ (by omega)) ?_)|(with_reducible first|refine zI ?_|refine zB ?_|refine zD ?_|refine zA ?_|refine zn ?_|refine zk ?_|refine zR ?_|refine zY ?_)|((with_reducible refine zF ?_ ?_);(· exact rfl))))
   exact zc (i+1) (by omega) (by omega) (by rw [e2];(first|exact lK1|(repeat (first|exact lK1|(refine zL rfl ?_))))) (by (repeat (first|exact oK1 _|(refine oK2 (by (repeat (first|exact tK1 _ _|apply tK2))) ?_))))
 obtain rfl:i=L.length:=by omega
 (repeat' (first|((with_reducible refine zG ?_);first|refine zE rfl rfl rfl rfl rfl ?_|(refine zQ rfl rfl rfl rfl rfl rfl rfl (fun h=>?_) (fun h=>?_)<;>(dsimp only [cmpP] at h;(try (exfalso;omega)))))|(with_reducible first|refine zI ?_|refine zB ?_|refine zD ?_|refine zA ?_|refine zN ?_|refine zn ?_|refine zR ?_|refine zY ?_)|((with_reducible refine zF ?_ ?_);(· exact rfl))))
 have hsum:=zHt (fun i=>hok.zKe m i (hour+1)) L.length
 have hfin:zKC (L.map (·.xs)) (M.map (·.xs)) hs hour m=sumL (List.range L.length) (fun i=>zGI (L.map (·.xs)) (M.map (·.xs)) m i (hour+1)) - zFC hs m hour:=by unfold zKC;rw [List.length_map]
 rw [hfin]
 generalize sumL (List.range L.length) (fun i=>zGI (L.map (·.xs)) (M.map (·.xs)) m i (hour+1))=p at *
 refine zu (ι:=Nat) [3,2,57] rfl (fun h=>h≤hour) (fun h=>[(58,.int .i64 (h:Int)),(7,.int .i64 (p - zFC hs m h))]) (fun _=>[.blk b1 [.slice A L.length ca,.slice B M.length cb,.slice C hs.length cc]]) (fun h=>hour - h) 0 (Nat.zero_le _) (by rw [show zFC hs m 0=0 from rfl,Int.sub_zero];(first|exact lK1|(repeat (first|exact lK1|(refine zL rfl ?_))))) (by (repeat (first|exact oK1 _|(refine oK2 (by (repeat (first|exact tK1 _ _|apply tK2))) ?_)))) ?_
 rintro k hk
 simp only [zAq,List.cons_append,List.nil_append]
 by_cases hlt:k<hour
 ·obtain ⟨b2,o2,rfl,_,_⟩:=hh.at_ (i:=k) (by omega)
  have:InS w b2 o2 encI 1 hs:=⟨hh⟩
  have:zAR hs k (hs.getD k 0):=⟨by rw [Flow.zt (by omega)];simp⟩
  have hsum2:0≤zFC hs m k∧zFC hs m k≤1000 * k:=zHt (hok.zQi m) k
  have e2:zFC hs m (k+1)=zFC hs m k+(if m.testBit k then hs.getD k 0 else 0):=Flow.zAE _ k
  have hx:0≤hs.getD k 0∧hs.getD k 0≤1000:=by rw [Flow.zt (by omega)];exact hok.hbig _ (List.getElem_mem (by omega))
  rw [zNW] at e2
  have hb2:=Nat.shiftRight_le m k
  generalize hs.getD k 0=x at *
  generalize zFC hs m k=r at *
  have e5:(if decide ((m >>> k) % 2=1)=true then x else 0)=((m >>> k % 2:Nat):Int) * x:=by
   rcases Nat.mod_two_eq_zero_or_one (m >>> k) with h|h<;>simp [h]
  rw [e5] at e2
  have e6:0≤((m >>> k % 2:Nat):Int) * x∧((m >>> k % 2:Nat):Int) * x≤1000:=by
   rw [← e5];split<;>omega
  (repeat' (first|((with_reducible refine zG ?_);first|refine zE rfl rfl rfl rfl rfl ?_|refine zC rfl rfl rfl rfl rfl ?_|(refine zQ rfl rfl rfl rfl rfl rfl rfl (fun h=>?_) (fun h=>?_)<;>(dsimp only [cmpP] at h;(try (exfalso;omega)))))|(with_reducible first|refine zI ?_|refine zB ?_|refine zD ?_|refine zA ?_|refine zP ?_|refine zN ?_)|((with_reducible refine zJ ?_ ?_);(· exact rfl))))
  (refine zAv (by kernel_rfl) (by kernel_rfl) (by kernel_rfl) ?_)
  (repeat' (first|((with_reducible refine zBH ?_);first|refine zW (zAK rfl rfl) rfl rfl rfl ?_|refine zW (zy rfl rfl (by exact rfl)) rfl rfl rfl ?_|refine zW (zAO rfl rfl) rfl rfl rfl ?_|refine zW (zBK rfl rfl) rfl rfl rfl ?_|refine zW (e_shr rfl rfl rfl (by omega)) rfl rfl rfl ?_|refine zW (zNN rfl rfl rfl (by omega)) rfl rfl rfl ?_|refine zW (zEt rfl rfl rfl (IntWalk.i64_in _ (by omega))) rfl rfl rfl ?_|refine zW (zGg rfl rfl rfl (IntWalk.i64_in _ (by omega))) rfl rfl rfl ?_|refine zW (zAS rfl rfl rfl rfl (by omega)) rfl rfl rfl ?_)|(with_reducible refine zBs ?_)))
  (repeat' (first|((with_reducible refine zG ?_);first|refine zE rfl rfl rfl rfl rfl ?_|refine zj rfl rfl rfl rfl rfl rfl (by omega) ?_)|(with_reducible first|refine zB ?_|refine zD ?_|refine zA ?_|refine zk ?_)))
  exact zc (k+1) (by omega) (by omega) (by rw [e2,← Int.sub_sub];(first|exact lK1|(repeat (first|exact lK1|(refine zL rfl ?_))))) (by (repeat (first|exact oK1 _|(refine oK2 (by (repeat (first|exact tK1 _ _|apply tK2))) ?_))))
 ·obtain rfl:k=hour:=by omega
  have hsum2:0≤zFC hs m k∧zFC hs m k≤1000 * k:=zHt (hok.zQi m) k
  (repeat' (first|((with_reducible refine zG ?_);first|refine zE rfl rfl rfl rfl rfl ?_|refine zC rfl rfl rfl rfl rfl ?_|(refine zQ rfl rfl rfl rfl rfl rfl rfl (fun h=>?_) (fun h=>?_)<;>(dsimp only [cmpP] at h;(try (exfalso;omega)))))|(with_reducible first|refine zI ?_|refine zB ?_|refine zD ?_|refine zA ?_|refine zb ?_|refine zn ?_|refine zR ?_|refine zY ?_)|((with_reducible refine zF ?_ ?_);(· exact rfl))))
  all_goals exact zT (by (exact zO.cons (by exact zq.tmp rfl) zO.nil)) () trivial (by simp [resV];omega) (fun _ h=>h.sub (by (repeat (first|exact oK1 _|(refine oK2 (by (repeat (first|exact tK1 _ _|apply tK2))) ?_)))))
def zDG (nds:List (List Int)) (mys:List (List Bool)) (hs:List Int):Bool:=(List.range (2 ^ hs.length)).all fun m=>!decide (0<zKB nds mys hs m)
def zDo (l:List Int):List Int:=l.map fun x=>max 0 (x - 1)
end Go.Proofs.YtdigopgncfhiaaaGreatDoor
