/- F16 -/
import Derived.Test.YtdigopgncfhiaaaGreatDoorF15
import Derived.Test.YtdigopgncfhiaaaGreatDoorF5
import Derived.Test.YtdigopgncfhiaaaGreatDoorF6
set_option linter.unusedSimpArgs false
set_option linter.unusedVariables false
namespace Go.Proofs.YtdigopgncfhiaaaGreatDoor
open Go.RowKit
set_option maxRecDepth 20000
def zAo (b:Bool):List Value:=[.bool b]
instance encI_bl : zBw zAo 1:=⟨fun _=>rfl,fun b v hv=>by simp [zAo] at hv;subst hv;rfl⟩
theorem elem_bo : zIe Tryz.prog 121 4 1 1 (.bool false) :=
 ⟨by rfl,by exact ⟨_,rfl,rfl,rfl,rfl⟩,by decide,by decide⟩
instance elI_bo : ElI Tryz.prog 121 4 1 1:=⟨⟨_,elem_bo⟩⟩
def zDO (c:Cov) (h:Nat):List Bool:=(c.hours.take h).map (·.cold)
def zFl (c:Cov):List (List Bool):=List.replicate c.beds.length (c.hours.map (·.cold))
def zHE (u:Hour):Int:=if u.cold then u.crew else 0
def zBM (c:Cov):List Int:=c.hours.map zHE
def zBf (c:Cov) (h:Nat):List Int:=(c.hours.take h).map zHE++List.replicate (c.hours.length - h) 0
def zFk (c:Cov) (h i:Nat):List (List Bool):=List.replicate i (zDO c (h+1))++List.replicate (c.beds.length - i) (zDO c h)
theorem zOD {c:Cov} {h:Nat} (hh:h≤c.hours.length):(zDO c h).length=h:=by simp [zDO];omega
theorem zMZ {c:Cov} {h:Nat} {u:Hour} (hu:c.hours[h]?=some u):zDO c (h+1)=zDO c h++[u.cold]:=by unfold zDO;rw [List.take_add_one,hu];simp
theorem zMN {c:Cov} {h:Nat} (hh:h≤c.hours.length):(zBf c h).length=c.hours.length:=by simp [zBf];omega
theorem zIL {c:Cov} {h:Nat} {u:Hour} (hu:c.hours[h]?=some u):(zBf c h).set h (zHE u)=zBf c (h+1):=by
 obtain ⟨hi,e⟩:=List.getElem?_eq_some_iff.1 hu
 unfold zBf
 have hl:((c.hours.take h).map zHE).length=h:=by simp;omega
 rw [List.set_append_right _ _ (by omega),hl,Nat.sub_self]
 have e1:c.hours.take (h+1)=c.hours.take h++[u]:=by rw [List.take_add_one,hu];rfl
 rw [e1,List.map_append,List.append_assoc]
 congr 1
 obtain ⟨m,hm⟩:∃ m,c.hours.length - h=m+1:=⟨c.hours.length - h - 1,by omega⟩
 rw [hm,show c.hours.length - (h+1)=m by omega,List.replicate_succ]
 rfl
theorem zLE {c:Cov} {h:Nat} {u:Hour} (hu:c.hours[h]?=some u) (h0:zHE u=0):zBf c h=zBf c (h+1):=by
 rw [← zIL hu,h0]
 obtain ⟨hi,e⟩:=List.getElem?_eq_some_iff.1 hu
 have:(zBf c h)[h]?=some 0:=by
  unfold zBf
  have hl:((c.hours.take h).map zHE).length=h:=by simp;omega
  rw [List.getElem?_append_right (by omega),hl,List.getElem?_replicate,if_pos (by omega)]
 obtain ⟨h1,h2⟩:=List.getElem?_eq_some_iff.1 this
 conv=>lhs;rw [← List.set_getElem_self h1]
 rw [h2]
theorem zMO {c:Cov}:zBf c c.hours.length=zBM c:=by simp [zBf,zBM]
theorem zLD {c:Cov}:zBf c 0=List.replicate c.hours.length 0:=by simp [zBf]
theorem zFB {c:Cov} {h:Nat}:zFk c h 0=List.replicate c.beds.length (zDO c h):=by simp [zFk]
theorem zK4 {c:Cov} {h:Nat}:zFk c h c.beds.length=List.replicate c.beds.length (zDO c (h+1)):=by simp [zFk]
theorem zMx {c:Cov} {h i:Nat} (hi:i<c.beds.length):(zFk c h i)[i]?=some (zDO c h):=by
 unfold zFk
 rw [List.getElem?_append_right (by simp),List.length_replicate,Nat.sub_self,List.getElem?_replicate,if_pos (by omega)]
theorem zK3 {c:Cov} {h i:Nat} (hi:i<c.beds.length):(zFk c h i).set i (zDO c (h+1))=zFk c h (i+1):=by
 unfold zFk
 rw [List.set_append_right _ _ (by simp),List.length_replicate,Nat.sub_self]
 obtain ⟨m,hm⟩:∃ m,c.beds.length - i=m+1:=⟨c.beds.length - i - 1,by omega⟩
 rw [hm,show c.beds.length - (i+1)=m by omega,List.replicate_succ,List.set_cons_zero,List.replicate_succ',List.append_assoc]
 rfl
end Go.Proofs.YtdigopgncfhiaaaGreatDoor
namespace Go.Proofs.YtdigopgncfhiaaaGreatDoor.Two
open Go.RowKit
set_option maxRecDepth 20000
set_option maxHeartbeats 4000000 in
theorem zEv (c:Cov) (A:Option Addr) (ca:Nat) (B:Option Addr) (cb:Nat) (C:Option Addr) (cc g:Nat) (w:World) (hr:InC w g 0 (zM c A ca B cb C cc)) (hG:InC w 0 0 zCP) (h:zAe w c A B C) (hs:Small c) (hf:zDo c) :
  Ret Tryz.prog 65 [.pointer (some ⟨g,0,none⟩)] w (fun p:(Nat × List (zx Int)) × (Nat × List (zx Bool)) × Nat=>.agg #[.slice (some ⟨p.1.1,0,none⟩) c.beds.length c.beds.length,.slice (some ⟨p.2.1.1,0,none⟩) c.beds.length c.beds.length,.slice (some ⟨p.2.2,0,none⟩) c.hours.length c.hours.length])
   (fun p=>[.zA0 zp (rowOf encI 1 3) p.1.1 p.1.2,.zA0 zp (rowOf zAo 1 4) p.2.1.1 p.2.1.2,.row encI 1 3 (.slice (some ⟨p.2.2,0,none⟩) c.hours.length c.hours.length) (zBM c)]) (fun p=>p.1.2.map (·.xs)=zAk c∧p.2.1.2.map (·.xs)=zFl c):=by
 have h4:=hs.b;have h5:=hs.h
 have hb:=h.b;have hh:=h.h
 have hnd:=fun W (hb:Below w.heap.size w W)=>zFo c A ca B cb C cc g W (hr.below hb) (hG.below hb) (h.below hb) hs hf
 unfold zM at hr
 (refine zJ (n:=68) Tryz.func65 rfl rfl rfl ?_)
 (repeat' (first|((with_reducible refine zF ?_);first|(refine zj rfl rfl (fun b=>?_)))|(with_reducible first|refine zH ?_|refine zB ?_|refine zD ?_|refine zA ?_)))
 (refine zA1 [] [] [] rfl (show ([]:List Nat).Nodup by decide) (H0:=[.blk b [.slice none 0 0,.slice none 0 0,.slice none 0 0]]) (fun _ h=>h.sub (by (repeat constructor))) (by kernel_rfl) [[],[Z],[Y,Y],[Z,Y,Y],[Z,Z,Y,Y],[Z,Z,Z,Y,Y],[Z,Z,Z,Z,Y,Y],[Z,Z,Z,Z,Z,Y,Y],[Z,Z,Z,Z,Z,Z,Y,Y],[Y,Y,Y,Y,Y,Y,Y,Y,Y],[Z,Y,Y,Y,Y,Y,Y,Y,Y,Y],[Z,Z,Y,Y,Y,Y,Y,Y,Y,Y,Y],[Z,Z,Z,Y,Y,Y,Y,Y,Y,Y,Y,Y],[Z,Z,Z,Z,Y,Y,Y,Y,Y,Y,Y,Y,Y],[Z,Z,Z,Z,Z,Y,Y,Y,Y,Y,Y,Y,Y,Y],[Z,Z,Z,Z,Z,Z,Y,Y,Y,Y,Y,Y,Y,Y,Y],[Z,Z,Z,Z,Z,Z,Z,Z,Z,Z,Z,Z,Z,Z,Z,Z],[Y,Y,Y,Y,Y,Y,Y,Y,Y,Y,Y,Y,Y,Y,Y,Y,Y],[Z,Z,Z,Z,Z,Z,Z,Z,Z,Z,Z,Z,Z,Z,Z,Z,Z,Z]] (by kernel_rfl) (by kernel_rfl) (by kernel_rfl) (by kernel_rfl) (by kernel_rfl) ?_)
 (repeat' (first|(((with_reducible refine zDQ ?_ ?_);(· exact rfl);refine ⟨_,fun G=>(by (try simp (decide:=true) only [vis,see,fltT,zAF,Nat.reduceAdd,Nat.reduceSub,if_true,if_false,List.set_cons_zero,List.set_cons_succ,List.set_nil,List.nil_append,List.cons_append]);rfl),?_⟩);first|refine zm _ (fun _=>zAi rfl rfl) (fun _=>rfl) rfl (by intro G G' h;simp (decide:=true) only [h]) ?_|refine zm _ (fun _=>zAG rfl rfl (by exact rfl)) (fun _=>rfl) rfl (by intro G G' h;simp (decide:=true) only [h]) ?_|(refine zAj rfl ?_;refine zm _ (fun _=>zAU rfl rfl) (fun _=>rfl) rfl (by intro G G' h;simp (decide:=true) only [h]) ?_)|(refine c_tab (enc:=encI) (kk:=1) (e:=3) (nn:=c.beds.length) zCg rfl (fun _=>rfl) rfl (fun _=>rfl) (fun _=>rfl) (fun _ _ _ q=>hnd _ q.below) ?_)|(refine c_makeT (enc:=zAo) (kk:=1) (e2:=4) (n0:=c.beds.length) rfl rfl rfl rfl rfl (fun _=>rfl) rfl (fun _=>rfl) (fun _=>rfl) (by omega) ?_)|(refine c_makeR (enc:=encI) (0:Int) (n0:=c.hours.length) rfl rfl rfl rfl rfl rfl rfl (fun _=>rfl) rfl (fun _=>rfl) (fun _=>rfl) (by omega) ?_)|refine zm _ (fun _=>zD8 rfl rfl) (fun _=>rfl) rfl (by intro G G' h;simp (decide:=true) only [h]) ?_|refine zm _ (fun _=>zAg rfl rfl) (fun _=>rfl) rfl (by intro G G' h;simp (decide:=true) only [h]) ?_|refine zm _ (fun _=>zD9 rfl rfl (by exact rfl)) (fun _=>rfl) rfl (by intro G G' h;simp (decide:=true) only [h]) ?_|refine zHX rfl (fun _=>rfl) rfl ?_)|((with_reducible refine zB3 ?_ ?_);(· exact rfl))))
 intro G
 simp only [regsT,List.nil_append,List.cons_append]
 refine zEj (H':=[.blk (G 17).g [.slice none 0 0,.slice none 0 0,.slice none 0 0],.row encI 1 3 (.slice (some ⟨(G 15).g,0,none⟩) c.hours.length c.hours.length) (List.replicate c.hours.length 0),.zA0 zp (rowOf zAo 1 4) (G 8).g (List.replicate c.beds.length zAs),.hidT encI 1 3 (G 1).g ((G 1).A.getD ⟨0,0,none⟩).block (G 1).m (zAk c),.blk b [.slice none 0 0,.slice none 0 0,.slice none 0 0]]) (fun _ h=>h) ?_
 simp only [Nat.zero_add,Nat.reduceAdd]
 generalize (G 17).g=gx
 generalize (G 15).g=gh
 generalize (G 8).g=gm
 generalize (G 1).m=hi
 generalize ((G 1).A.getD ⟨0,0,none⟩).block=lo
 generalize (G 1).g=gn
 refine u_hidT (by (repeat constructor)) (fun L hL=>?_)
 (repeat' (first|((with_reducible refine zF ?_);first|refine zE rfl rfl rfl ?_|(refine zK rfl rfl rfl ?_;refine ⟨_,rfl,?_⟩)|refine za rfl rfl rfl ?_|refine zo rfl rfl rfl ?_|(refine zb rfl rfl rfl rfl rfl ?_;refine ⟨rfl,by first|decide|exact Nat.le_of_ble_eq_true rfl|(simp;omega),_,rfl,?_⟩)|refine zA6 rfl rfl rfl ?_)|(with_reducible first|refine zH ?_|refine zB ?_|refine zD ?_|refine zA ?_|refine zP ?_)))
 obtain ⟨b2,hb2⟩:∃ b2,b2=b:=⟨_,rfl⟩
 subst hb2
 refine zw (ι:=Nat × List (zx Bool)) [0,2,3,28,29] rfl (fun p=>p.1≤c.hours.length∧p.2.map (·.xs)=zFk c p.1 0) (fun p=>[(30,.int .i64 (p.1:Int))]) (fun p=>[.zA0 zp (rowOf zAo 1 4) gm p.2,.row encI 1 3 (.slice (some ⟨gh,0,none⟩) c.hours.length c.hours.length) (zBf c p.1),.zA0 zp (rowOf encI 1 3) gn L,.blk gx [.slice (some ⟨gn,0,none⟩) c.beds.length c.beds.length,.slice (some ⟨gm,0,none⟩) c.beds.length c.beds.length,.slice (some ⟨gh,0,none⟩) c.hours.length c.hours.length],.blk b2 [.slice none 0 0,.slice none 0 0,.slice none 0 0]]) (fun p=>c.hours.length - p.1) (0,List.replicate c.beds.length zAs) ⟨Nat.zero_le _,by simp [zFB,zAs,zDO]⟩ (by (repeat first|exact lK1|refine zL rfl ?_)) (by simp only [zLD];(repeat constructor)) ?_
 rintro ⟨j,M⟩ ⟨hj,hM⟩
 simp only at hj hM
 simp only [zAt,List.cons_append,List.nil_append]
 have hMl:M.length=c.beds.length:=by
  have:=congrArg List.length hM
  simp [zFk] at this;omega
 by_cases hjl:j<c.hours.length
 ·obtain ⟨u,hu⟩:∃ u,c.hours[j]?=some u:=⟨_,List.getElem?_eq_getElem hjl⟩
  obtain ⟨bc,oc,rfl,_,_⟩:=hh.at_ hjl
  have:InS w bc oc zr 5 c.hours:=⟨hh⟩
  have:zAT c.hours j u:=⟨hu⟩
  have hhl:=zMN (c:=c) (h:=j) (by omega)
  have hcs:=zMZ hu
  have hce:=zIL hu
  have hcn:=zLE hu
  have hcl:=zOD (c:=c) (h:=j) (by omega)
  obtain ⟨um,ur,uc,cold⟩:=u
  unfold zHE at hce hcn
  simp only at hce hcn hcs
  cases cold
  ·simp only [Bool.false_eq_true,if_false] at hce hcn
   rw [hcn trivial]
   (repeat' (first|((with_reducible refine zF ?_);first|refine zE rfl rfl rfl ?_|refine zC rfl rfl rfl ?_|(refine zK rfl rfl rfl ?_;refine ⟨_,rfl,?_⟩)|refine za rfl rfl rfl ?_|(refine zQ rfl rfl rfl rfl rfl (fun h=>?_) (fun h=>?_)<;>(dsimp only [cmpP] at h;(try (exfalso;omega))))|refine zl rfl rfl rfl rfl rfl (by omega) ?_|refine zo rfl rfl rfl ?_|(refine zb rfl rfl rfl rfl rfl ?_;refine ⟨rfl,by first|decide|exact Nat.le_of_ble_eq_true rfl|(simp;omega),_,rfl,?_⟩)|(refine zj rfl rfl (fun b=>?_))|refine zA6 rfl rfl rfl ?_)|(with_reducible first|refine zH ?_|refine zB ?_|refine zD ?_|refine zA ?_|refine zT ?_|refine zP ?_)|((with_reducible refine zI ?_ ?_);(· exact rfl))|((with_reducible refine zG ?_ ?_);(· exact rfl))))
   obtain ⟨b5,hb5⟩:∃ b5,b5=b:=⟨_,rfl⟩
   subst hb5
   refine zw (ι:=Nat × List (zx Bool)) [0,2,3,5,28,29,30,48] rfl (fun p=>p.1≤c.beds.length∧p.2.map (·.xs)=zFk c j p.1) (fun p=>[(49,.int .i64 (p.1:Int))]) (fun p=>[.zA0 zp (rowOf zAo 1 4) gm p.2,.row encI 1 3 (.slice (some ⟨gh,0,none⟩) c.hours.length c.hours.length) (zBf c (j+1)),.zA0 zp (rowOf encI 1 3) gn L,.blk gx [.slice (some ⟨gn,0,none⟩) c.beds.length c.beds.length,.slice (some ⟨gm,0,none⟩) c.beds.length c.beds.length,.slice (some ⟨gh,0,none⟩) c.hours.length c.hours.length],.blk b5 (zr ⟨um,ur,uc,false⟩),.blk b2 [.slice none 0 0,.slice none 0 0,.slice none 0 0]]) (fun p=>c.beds.length - p.1) (0,M) ⟨Nat.zero_le _,hM⟩ (by (repeat first|exact lK1|refine zL rfl ?_)) (by (repeat constructor)) ?_
   rintro ⟨i,M⟩ ⟨hi,hM⟩
   simp only at hi hM
   simp only [zAt,List.cons_append,List.nil_append]
   have hMl:M.length=c.beds.length:=by
    have:=congrArg List.length hM
    simp [zFk] at this;omega
   by_cases hil:i<c.beds.length
   ·obtain ⟨s,hs1⟩:∃ s,M[i]?=some s:=⟨_,List.getElem?_eq_getElem (by omega)⟩
    have hsx:s.xs=zDO c j:=by
     have h1:=zMx (c:=c) (h:=j) hil
     rw [← hM,List.getElem?_map,hs1] at h1
     exact Option.some.inj h1
    have hsl:s.xs.length≤12:=by rw [hsx,hcl];omega
    (repeat' (first|((with_reducible refine zF ?_);first|refine zE rfl rfl rfl ?_|refine zC rfl rfl rfl ?_|(refine zQ rfl rfl rfl rfl rfl (fun h=>?_) (fun h=>?_)<;>(dsimp only [cmpP] at h;(try (exfalso;omega)))))|(with_reducible first|refine zH ?_|refine zB ?_|refine zD ?_|refine zA ?_|refine zT ?_|refine zP ?_)|((with_reducible refine zI ?_ ?_);(· exact rfl))))
    refine zCK i hs1 (by (repeat constructor)) ?_
    have:zAT (M.set i s) i s:=⟨List.getElem?_set_self (by omega)⟩
    simp only [rowOf]
    (refine zA1 [] [(11,0,0,[.row zAo 1 4 (.slice s.A s.xs.length s.c) s.xs])] [(11,0,0)] rfl (show ([11]:List Nat).Nodup by decide) (H0:=[.arr zp 1 gm (M.set i s),.blk gx [.slice (some ⟨gn,0,none⟩) c.beds.length c.beds.length,.slice (some ⟨gm,0,none⟩) c.beds.length c.beds.length,.slice (some ⟨gh,0,none⟩) c.hours.length c.hours.length],.blk b5 (zr ⟨um,ur,uc,false⟩),.all ((M.eraseIdx i).map (rowOf zAo 1 4)),.row encI 1 3 (.slice (some ⟨gh,0,none⟩) c.hours.length c.hours.length) (zBf c (j+1)),.zA0 zp (rowOf encI 1 3) gn L,.blk b2 [.slice none 0 0,.slice none 0 0,.slice none 0 0]]) (fun _ h=>h.sub (by (repeat constructor))) (by kernel_rfl) [[],[Z],[Y,Y],[Y,Y,Y],[Z,Y,Y,Y],[Y,Y,Y,Y,Y],[Z,Z,Z,Y,Y,Y],[Z,Z,Z,Z,Y,Y,Y],[Y,Y,Y,Y,Y,Y,Y,Y],[Z,Y,Y,Y,Y,Y,Y,Y,Y],[Z,Z,Y,Y,Y,Y,Y,Y,Y,Y],[Z,Z,Z,Z,Z,Z,Z,Z,Y,Y,Y],[Z,Z,Z,Z,Z,Z,Z,Z,Z,Z,Z,Z],[Z,Z,Z,Z,Z,Z,Z,Z,Z,Z,Z,Z,Z]] (by kernel_rfl) (by kernel_rfl) (by kernel_rfl) (by kernel_rfl) (by kernel_rfl) ?_)
    (repeat' (first|(((with_reducible refine zDQ ?_ ?_);(· exact rfl);refine ⟨_,fun G=>(by (try simp (decide:=true) only [vis,see,fltT,zAF,Nat.reduceAdd,Nat.reduceSub,if_true,if_false,List.set_cons_zero,List.set_cons_succ,List.set_nil,List.nil_append,List.cons_append]);rfl),?_⟩);first|refine zm _ (fun _=>zAi rfl rfl) (fun _=>rfl) rfl (by intro G G' h;simp (decide:=true) only [h]) ?_|refine zm _ (fun _=>zAG rfl rfl (by exact rfl)) (fun _=>rfl) rfl (by intro G G' h;simp (decide:=true) only [h]) ?_|(refine zAj rfl ?_;refine zm _ (fun _=>zAU rfl rfl) (fun _=>rfl) rfl (by intro G G' h;simp (decide:=true) only [h]) ?_)|refine zm _ (fun _=>zAr rfl rfl rfl rfl (by omega)) (fun _=>rfl) rfl (by intro G G' h;simp (decide:=true) only [h]) ?_|refine zBn rfl (fun _=>rfl) rfl (fun _=>rfl) (by exact rfl) (by exact fun _=>rfl) (by intro G G' h;simp (decide:=true) only [h]) ?_)|(refine zED (enc:=zAo) (xs:=s.xs) (vx:=.slice s.A s.xs.length s.c) [false] List.mem_cons_self rfl rfl (fun _=>rfl) rfl (fun _=>rfl) (fun _=>rfl) rfl (fun G=>(by (try simp (decide:=true) only [vis,see,fltT,zAF,Nat.reduceAdd,Nat.reduceSub,if_true,if_false,List.set_cons_zero,List.set_cons_succ,List.set_nil,List.nil_append,List.cons_append]);rfl)) (fun _ W hW h=>zAY (enc:=zAo) (by exact rfl) W hW h) ⟨by simp;omega,by decide⟩ ?_)|((with_reducible refine zB3 ?_ ?_);(· exact rfl))))
    intro G
    simp only [regsT,List.nil_append,List.cons_append]
    refine zEj (H':=[.row zAo 1 4 (.slice (G 11).A (s.xs++[false]).length (G 11).m) (s.xs++[false]),.arr zp 1 gm (M.set i s),.blk gx [.slice (some ⟨gn,0,none⟩) c.beds.length c.beds.length,.slice (some ⟨gm,0,none⟩) c.beds.length c.beds.length,.slice (some ⟨gh,0,none⟩) c.hours.length c.hours.length],.blk b5 (zr ⟨um,ur,uc,false⟩),.all ((M.eraseIdx i).map (rowOf zAo 1 4)),.row encI 1 3 (.slice (some ⟨gh,0,none⟩) c.hours.length c.hours.length) (zBf c (j+1)),.zA0 zp (rowOf encI 1 3) gn L,.blk b2 [.slice none 0 0,.slice none 0 0,.slice none 0 0]]) (fun _ h=>h.sub (by (repeat constructor))) ?_
    (repeat' (first|((with_reducible refine zF ?_);first|refine zE rfl rfl rfl ?_|refine zCS (i:=i) (s:=s) ⟨(G 11).A,s.xs++[false],(G 11).m⟩ rfl rfl rfl rfl rfl rfl (by (repeat constructor)) (by omega) ?_|refine zh rfl rfl rfl rfl (by omega) ?_)|(with_reducible first|refine zB ?_|refine zD ?_|refine zA ?_|refine zg ?_)))
    refine zCJ i (re:=rowOf zAo 1 4) ⟨(G 11).A,s.xs++[false],(G 11).m⟩ hs1 (by (repeat constructor)) (by (repeat constructor)) (by (repeat constructor)) ?_
    refine zf (i+1,M.set i ⟨(G 11).A,s.xs++[false],(G 11).m⟩) ⟨by simp only;omega,?_⟩ (by simp only;omega) (by (repeat first|exact lK1|refine zL rfl ?_)) (by (repeat constructor))
    simp only
    rw [List.map_set,hM,hsx,← hcs,zK3 hil]
   ·obtain rfl:i=c.beds.length:=by omega
    (repeat' (first|((with_reducible refine zF ?_);first|refine zE rfl rfl rfl ?_|(refine zQ rfl rfl rfl rfl rfl (fun h=>?_) (fun h=>?_)<;>(dsimp only [cmpP] at h;(try (exfalso;omega))))|refine zh rfl rfl rfl rfl (by omega) ?_)|(with_reducible first|refine zH ?_|refine zB ?_|refine zD ?_|refine zA ?_|refine zk ?_|refine zg ?_|refine zR ?_|refine zW ?_)|((with_reducible refine zG ?_ ?_);(· exact rfl))))
    refine zf (j+1,M) ⟨by simp only;omega,?_⟩ (by simp only;omega) (by (repeat first|exact lK1|refine zL rfl ?_)) (by (repeat constructor))
    simp only
    rw [hM,zK4,zFB]

  ·simp only [if_true] at hce
   (repeat' (first|((with_reducible refine zF ?_);first|refine zE rfl rfl rfl ?_|refine zC rfl rfl rfl ?_|(refine zK rfl rfl rfl ?_;refine ⟨_,rfl,?_⟩)|refine za rfl rfl rfl ?_|(refine zQ rfl rfl rfl rfl rfl (fun h=>?_) (fun h=>?_)<;>(dsimp only [cmpP] at h;(try (exfalso;omega))))|refine zCq (enc:=encI) (i:=j) uc rfl rfl rfl rfl rfl rfl rfl rfl (by omega) ?_|refine zl rfl rfl rfl rfl rfl (by omega) ?_|refine zo rfl rfl rfl ?_|(refine zb rfl rfl rfl rfl rfl ?_;refine ⟨rfl,by first|decide|exact Nat.le_of_ble_eq_true rfl|(simp;omega),_,rfl,?_⟩)|(refine zj rfl rfl (fun b=>?_))|refine zA6 rfl rfl rfl ?_)|(with_reducible first|refine zH ?_|refine zB ?_|refine zD ?_|refine zA ?_|refine zT ?_|refine zP ?_)|((with_reducible refine zI ?_ ?_);(· exact rfl))))
   rw [hce]
   obtain ⟨b5,hb5⟩:∃ b5,b5=b:=⟨_,rfl⟩
   subst hb5
   refine zw (ι:=Nat × List (zx Bool)) [0,2,3,5,28,29,30,48] rfl (fun p=>p.1≤c.beds.length∧p.2.map (·.xs)=zFk c j p.1) (fun p=>[(49,.int .i64 (p.1:Int))]) (fun p=>[.zA0 zp (rowOf zAo 1 4) gm p.2,.row encI 1 3 (.slice (some ⟨gh,0,none⟩) c.hours.length c.hours.length) (zBf c (j+1)),.zA0 zp (rowOf encI 1 3) gn L,.blk gx [.slice (some ⟨gn,0,none⟩) c.beds.length c.beds.length,.slice (some ⟨gm,0,none⟩) c.beds.length c.beds.length,.slice (some ⟨gh,0,none⟩) c.hours.length c.hours.length],.blk b5 (zr ⟨um,ur,uc,true⟩),.blk b2 [.slice none 0 0,.slice none 0 0,.slice none 0 0]]) (fun p=>c.beds.length - p.1) (0,M) ⟨Nat.zero_le _,hM⟩ (by (repeat first|exact lK1|refine zL rfl ?_)) (by (repeat constructor)) ?_
   rintro ⟨i,M⟩ ⟨hi,hM⟩
   simp only at hi hM
   simp only [zAt,List.cons_append,List.nil_append]
   have hMl:M.length=c.beds.length:=by
    have:=congrArg List.length hM
    simp [zFk] at this;omega
   by_cases hil:i<c.beds.length
   ·obtain ⟨s,hs1⟩:∃ s,M[i]?=some s:=⟨_,List.getElem?_eq_getElem (by omega)⟩
    have hsx:s.xs=zDO c j:=by
     have h1:=zMx (c:=c) (h:=j) hil
     rw [← hM,List.getElem?_map,hs1] at h1
     exact Option.some.inj h1
    have hsl:s.xs.length≤12:=by rw [hsx,hcl];omega
    (repeat' (first|((with_reducible refine zF ?_);first|refine zE rfl rfl rfl ?_|refine zC rfl rfl rfl ?_|(refine zQ rfl rfl rfl rfl rfl (fun h=>?_) (fun h=>?_)<;>(dsimp only [cmpP] at h;(try (exfalso;omega)))))|(with_reducible first|refine zH ?_|refine zB ?_|refine zD ?_|refine zA ?_|refine zT ?_|refine zP ?_)|((with_reducible refine zI ?_ ?_);(· exact rfl))))
    refine zCK i hs1 (by (repeat constructor)) ?_
    have:zAT (M.set i s) i s:=⟨List.getElem?_set_self (by omega)⟩
    simp only [rowOf]
    (refine zA1 [] [(11,0,0,[.row zAo 1 4 (.slice s.A s.xs.length s.c) s.xs])] [(11,0,0)] rfl (show ([11]:List Nat).Nodup by decide) (H0:=[.arr zp 1 gm (M.set i s),.blk gx [.slice (some ⟨gn,0,none⟩) c.beds.length c.beds.length,.slice (some ⟨gm,0,none⟩) c.beds.length c.beds.length,.slice (some ⟨gh,0,none⟩) c.hours.length c.hours.length],.blk b5 (zr ⟨um,ur,uc,true⟩),.all ((M.eraseIdx i).map (rowOf zAo 1 4)),.row encI 1 3 (.slice (some ⟨gh,0,none⟩) c.hours.length c.hours.length) (zBf c (j+1)),.zA0 zp (rowOf encI 1 3) gn L,.blk b2 [.slice none 0 0,.slice none 0 0,.slice none 0 0]]) (fun _ h=>h.sub (by (repeat constructor))) (by kernel_rfl) [[],[Z],[Y,Y],[Y,Y,Y],[Z,Y,Y,Y],[Y,Y,Y,Y,Y],[Z,Z,Z,Y,Y,Y],[Z,Z,Z,Z,Y,Y,Y],[Y,Y,Y,Y,Y,Y,Y,Y],[Z,Y,Y,Y,Y,Y,Y,Y,Y],[Z,Z,Y,Y,Y,Y,Y,Y,Y,Y],[Z,Z,Z,Z,Z,Z,Z,Z,Y,Y,Y],[Z,Z,Z,Z,Z,Z,Z,Z,Z,Z,Z,Z],[Z,Z,Z,Z,Z,Z,Z,Z,Z,Z,Z,Z,Z]] (by kernel_rfl) (by kernel_rfl) (by kernel_rfl) (by kernel_rfl) (by kernel_rfl) ?_)
    (repeat' (first|(((with_reducible refine zDQ ?_ ?_);(· exact rfl);refine ⟨_,fun G=>(by (try simp (decide:=true) only [vis,see,fltT,zAF,Nat.reduceAdd,Nat.reduceSub,if_true,if_false,List.set_cons_zero,List.set_cons_succ,List.set_nil,List.nil_append,List.cons_append]);rfl),?_⟩);first|refine zm _ (fun _=>zAi rfl rfl) (fun _=>rfl) rfl (by intro G G' h;simp (decide:=true) only [h]) ?_|refine zm _ (fun _=>zAG rfl rfl (by exact rfl)) (fun _=>rfl) rfl (by intro G G' h;simp (decide:=true) only [h]) ?_|(refine zAj rfl ?_;refine zm _ (fun _=>zAU rfl rfl) (fun _=>rfl) rfl (by intro G G' h;simp (decide:=true) only [h]) ?_)|refine zm _ (fun _=>zAr rfl rfl rfl rfl (by omega)) (fun _=>rfl) rfl (by intro G G' h;simp (decide:=true) only [h]) ?_|refine zBn rfl (fun _=>rfl) rfl (fun _=>rfl) (by exact rfl) (by exact fun _=>rfl) (by intro G G' h;simp (decide:=true) only [h]) ?_)|(refine zED (enc:=zAo) (xs:=s.xs) (vx:=.slice s.A s.xs.length s.c) [true] List.mem_cons_self rfl rfl (fun _=>rfl) rfl (fun _=>rfl) (fun _=>rfl) rfl (fun G=>(by (try simp (decide:=true) only [vis,see,fltT,zAF,Nat.reduceAdd,Nat.reduceSub,if_true,if_false,List.set_cons_zero,List.set_cons_succ,List.set_nil,List.nil_append,List.cons_append]);rfl)) (fun _ W hW h=>zAY (enc:=zAo) (by exact rfl) W hW h) ⟨by simp;omega,by decide⟩ ?_)|((with_reducible refine zB3 ?_ ?_);(· exact rfl))))
    intro G
    simp only [regsT,List.nil_append,List.cons_append]
    refine zEj (H':=[.row zAo 1 4 (.slice (G 11).A (s.xs++[true]).length (G 11).m) (s.xs++[true]),.arr zp 1 gm (M.set i s),.blk gx [.slice (some ⟨gn,0,none⟩) c.beds.length c.beds.length,.slice (some ⟨gm,0,none⟩) c.beds.length c.beds.length,.slice (some ⟨gh,0,none⟩) c.hours.length c.hours.length],.blk b5 (zr ⟨um,ur,uc,true⟩),.all ((M.eraseIdx i).map (rowOf zAo 1 4)),.row encI 1 3 (.slice (some ⟨gh,0,none⟩) c.hours.length c.hours.length) (zBf c (j+1)),.zA0 zp (rowOf encI 1 3) gn L,.blk b2 [.slice none 0 0,.slice none 0 0,.slice none 0 0]]) (fun _ h=>h.sub (by (repeat constructor))) ?_
    (repeat' (first|((with_reducible refine zF ?_);first|refine zE rfl rfl rfl ?_|refine zCS (i:=i) (s:=s) ⟨(G 11).A,s.xs++[true],(G 11).m⟩ rfl rfl rfl rfl rfl rfl (by (repeat constructor)) (by omega) ?_|refine zh rfl rfl rfl rfl (by omega) ?_)|(with_reducible first|refine zB ?_|refine zD ?_|refine zA ?_|refine zg ?_)))
    refine zCJ i (re:=rowOf zAo 1 4) ⟨(G 11).A,s.xs++[true],(G 11).m⟩ hs1 (by (repeat constructor)) (by (repeat constructor)) (by (repeat constructor)) ?_
    refine zf (i+1,M.set i ⟨(G 11).A,s.xs++[true],(G 11).m⟩) ⟨by simp only;omega,?_⟩ (by simp only;omega) (by (repeat first|exact lK1|refine zL rfl ?_)) (by (repeat constructor))
    simp only
    rw [List.map_set,hM,hsx,← hcs,zK3 hil]
   ·obtain rfl:i=c.beds.length:=by omega
    (repeat' (first|((with_reducible refine zF ?_);first|refine zE rfl rfl rfl ?_|(refine zQ rfl rfl rfl rfl rfl (fun h=>?_) (fun h=>?_)<;>(dsimp only [cmpP] at h;(try (exfalso;omega))))|refine zh rfl rfl rfl rfl (by omega) ?_)|(with_reducible first|refine zH ?_|refine zB ?_|refine zD ?_|refine zA ?_|refine zk ?_|refine zg ?_|refine zR ?_|refine zW ?_)|((with_reducible refine zG ?_ ?_);(· exact rfl))))
    refine zf (j+1,M) ⟨by simp only;omega,?_⟩ (by simp only;omega) (by (repeat first|exact lK1|refine zL rfl ?_)) (by (repeat constructor))
    simp only
    rw [hM,zK4,zFB]

 ·obtain rfl:j=c.hours.length:=by omega
  (repeat' (first|((with_reducible refine zF ?_);first|(refine zK rfl rfl rfl ?_;refine ⟨_,rfl,?_⟩)|(refine zQ rfl rfl rfl rfl rfl (fun h=>?_) (fun h=>?_)<;>(dsimp only [cmpP] at h;(try (exfalso;omega))))|(refine zb rfl rfl rfl rfl rfl ?_;refine ⟨rfl,by first|decide|exact Nat.le_of_ble_eq_true rfl|(simp;omega),_,rfl,?_⟩))|(with_reducible first|refine zH ?_|refine zB ?_|refine zD ?_|refine zA ?_|refine zX ?_|refine zk ?_|refine zR ?_|refine zW ?_)|((with_reducible refine zG ?_ ?_);(· exact rfl))))
  refine zS (by (exact zi.cons (by exact res1c rfl (by exact rfl)) zi.nil)) ((gn,L),(gm,M),gh) ⟨hL,?_⟩ rfl (fun _ h=>?_)
  ·simp only;rw [hM,zFB];simp [zDO,zFl]
  ·rw [← zMO];exact h.sub (by (repeat constructor))
end Go.Proofs.YtdigopgncfhiaaaGreatDoor.Two
namespace Go.Proofs.YtdigopgncfhiaaaGreatDoor
variable {ro : Option Nat}
open Go.RowKit
set_option linter.unusedSectionVars false
section
variable {P : Program} {w0:World} {n:Nat} {d:List Deferred} {R:List (Nat × Value)} {H:List Ent} {Q:Exit→Act→World→Prop} {ops:Array Oper} {rest:List Oper} {o:Oper} {t:Tmp} {x y:Operand} {T T':TypeId} {k k':IntKind} {i j:Int}
theorem e_shr {m h:Nat} (hop:o.op = .binOp .shr T x y T') (hx:evR R x=some (.int .i64 (m:Int))) (hy:evR R y=some (.int k' (h:Int))) (hh:h≤64):Ev P w0 n d R H o (.int .i64 ((m >>> h:Nat):Int)) :=
 (fun a w q=>by
  unfold execOp;rw [hop]
  have e1:((m:Int).fdiv (2 ^ h))=((m >>> h:Nat):Int):=by
   rw [Nat.shiftRight_eq_div_pow,Int.fdiv_eq_ediv_of_nonneg _ (by exact Int.le_of_lt (Int.pow_pos (by omega)))]
   rw [Int.natCast_ediv,Int.natCast_pow];rfl
  have e2:min (h:Int).toNat IntKind.i64.bits=h:=by simp [IntKind.bits];omega
  have e3:¬ ((h:Int)<0):=by omega
  simp only [Sem.run_bind,q.ev hx,q.ev hy,eqGuard,binOp,Op.shift,e3,if_false,e2,e1,Bool.not_false,if_true,Sem.run_pure,Result.andThen_ok])
theorem zKE {m:Nat} (hop:o.op = .binOp .and T x y T') (hx:evR R x=some (.int .i64 (m:Int))) (hy:evR R y=some (.int .i64 1)) (hm:m<4611686018427387904):Ev P w0 n d R H o (.int .i64 ((m % 2:Nat):Int)) :=
 (fun a w q=>by
  unfold execOp;rw [hop]
  have e1:(BitVec.ofInt IntKind.i64.bits (m:Int) &&& BitVec.ofInt IntKind.i64.bits 1).toNat=m % 2:=by
   show (BitVec.ofInt 64 (m:Int) &&& BitVec.ofInt 64 1).toNat=m % 2
   rw [BitVec.toNat_and,BitVec.ofInt_natCast,BitVec.toNat_ofNat,Nat.mod_eq_of_lt (by omega)]
   have:(BitVec.ofInt 64 1).toNat=1:=by decide
   rw [this,Nat.and_one_is_mod]
  have e2:=IntWalk.i64_in ((m % 2:Nat):Int) (by omega)
  simp only [Sem.run_bind,q.ev hx,q.ev hy,eqGuard,binOp,Op.intBits,ne_eq,not_true_eq_false,if_false,e1,e2,Bool.not_false,if_true,Sem.run_pure,Result.andThen_ok])
theorem e_shl1 {h:Nat} (hop:o.op = .binOp .shl T x y T') (hx:evR R x=some (.int .i64 1)) (hy:evR R y=some (.int k' (h:Int))) (hh:h≤60):Ev P w0 n d R H o (.int .i64 ((2 ^ h:Nat):Int)) :=
 (fun a w q=>by
  unfold execOp;rw [hop]
  have e2:min (h:Int).toNat IntKind.i64.bits=h:=by simp [IntKind.bits];omega
  have e3:¬ ((h:Int)<0):=by omega
  have hp:2 ^ h≤2 ^ 60:=Nat.pow_le_pow_right (by omega) hh
  have e4:(1:Int) * 2 ^ h=((2 ^ h:Nat):Int):=by rw [Int.one_mul,Int.natCast_pow];rfl
  have e5:IntKind.i64.wrap ((2 ^ h:Nat):Int)=((2 ^ h:Nat):Int):=by
   generalize 2 ^ h=p at hp
   exact IntWalk.i64_in _ (by omega)
  simp only [Sem.run_bind,q.ev hx,q.ev hy,eqGuard,binOp,Op.shift,e3,if_false,e2,e4,e5,Bool.not_false,if_true,Sem.run_pure,Result.andThen_ok])
theorem u_anyShr {k':IntKind} (hop:o.op = .binOp .shr T x y T') (hrd:rdy R ops n o=some t) (hx:evR R x=some (.int k i)) (hy:evR R y=some (.int k' j)) (hj:0≤j) (h:∀ z,U w0 n d ((t,.int k z)::R) H (wpL ro P ops Q rest)):U w0 n d R H (wpL ro P ops Q (o::rest)):=by
 have e3:¬ (j<0):=by omega
 exact zAL (v:=.int k (i.fdiv (2 ^ (min j.toNat k.bits)))) hrd (fun a w q=>by unfold execOp;rw [hop];simp only [Sem.run_bind,q.ev hx,q.ev hy,eqGuard,binOp,Op.shift,e3,if_false,Bool.not_false,if_true,Sem.run_pure,Result.andThen_ok]) (h _)
theorem zIx {T1 T2:TypeId} {d1:TypeDesc} {s1 s2:Nat} {g1 g2:Bool} {k':IntKind} (hop:o.op = .convert T1 T2 x) [i1:TyI P T1 d1 s1 g1] [i2:TyI P T2 (.int k') s2 g2] (hrd:rdy R ops n o=some t) (hx:evR R x=some (.int k i)) (h:∀ z,U w0 n d ((t,.int k' z)::R) H (wpL ro P ops Q rest)):U w0 n d R H (wpL ro P ops Q (o::rest)) :=
 zAL (v:=.int k' (k'.wrap i)) hrd (fun a w q=>by
  unfold execOp;rw [hop]
  have e1:=run_underlying i1.und w
  have e2:=run_underlying i2.und w
  simp [q.ev hx,convert,e1,e2,Conv.intToInt]) (h _)
theorem u_and127 (hop:o.op = .binOp .and T x y T') (hrd:rdy R ops n o=some t) (hx:evR R x=some (.int .i64 i)) (hy:evR R y=some (.int .i64 127)) (h:∀ z:Nat,z≤127→U w0 n d ((t,.int .i64 (z:Int))::R) H (wpL ro P ops Q rest)):U w0 n d R H (wpL ro P ops Q (o::rest)):=by
 have hle:(BitVec.ofInt IntKind.i64.bits i &&& BitVec.ofInt IntKind.i64.bits 127).toNat≤127:=by
  show (BitVec.ofInt 64 i &&& BitVec.ofInt 64 127).toNat≤127
  rw [BitVec.toNat_and]
  have:(BitVec.ofInt 64 127).toNat=127:=by decide
  rw [this];exact Nat.and_le_right
 refine zAL (v:=.int .i64 (((BitVec.ofInt IntKind.i64.bits i &&& BitVec.ofInt IntKind.i64.bits 127).toNat:Nat):Int)) hrd (fun a w q=>?_) (h _ hle)
 unfold execOp;rw [hop]
 have e2:=IntWalk.i64_in ((((BitVec.ofInt IntKind.i64.bits i &&& BitVec.ofInt IntKind.i64.bits 127).toNat:Nat)):Int) (by omega)
 simp only [Sem.run_bind,q.ev hx,q.ev hy,eqGuard,binOp,Op.intBits,ne_eq,not_true_eq_false,if_false,e2,Bool.not_false,if_true,Sem.run_pure,Result.andThen_ok]
end
theorem zKL {m h:Nat}:m.testBit h=decide ((m >>> h) % 2=1):=by
 rw [Nat.testBit_eq_decide_div_mod_eq,Nat.shiftRight_eq_div_pow]
theorem bit_zero {m h:Nat}:(!m.testBit h)=decide ((m >>> h) % 2=0):=by
 rw [zKL]
 have:=Nat.mod_two_eq_zero_or_one (m >>> h)
 rcases this with h|h<;>simp [h]
end Go.Proofs.YtdigopgncfhiaaaGreatDoor
namespace Go.Proofs.YtdigopgncfhiaaaGreatDoor
open Go.RowKit
open Flow (lackF sumL)
set_option maxRecDepth 20000
theorem zIF {nd:Nat→Int} {my sm:Nat→Bool} (hb:∀ h,-1000000≤nd h∧nd h≤1000000):∀ k:Nat,0≤(lackF nd my sm k).1∧(lackF nd my sm k).1≤1000000∧0≤(lackF nd my sm k).2∧(lackF nd my sm k).2≤k
 | 0=>by simp [lackF]
 | k+1=>by
  obtain ⟨h1,h2,h3,h4⟩:=zIF (my:=my) (sm:=sm) hb k
  have:=hb k
  simp only [lackF]
  refine ⟨by omega,by omega,?_,?_⟩<;>split<;>omega
theorem zKB {l:List Int} (h:∀ x∈l,-1000000≤x∧x≤1000000) (i:Nat):-1000000≤l.getD i 0∧l.getD i 0≤1000000:=by
 by_cases hi:i<l.length
 ·rw [Flow.zAZ hi];exact h _ (List.getElem_mem hi)
 ·rw [List.getD_eq_getElem?_getD,List.getElem?_eq_none (by omega)];simp
def zEh (nds:List (List Int)) (mys:List (List Bool)) (m i k:Nat):Int:=(lackF (fun h=>(nds.getD i []).getD h 0) (fun h=>(mys.getD i []).getD h false) m.testBit k).1
def zD0 (hs:List Int) (m k:Nat):Int:=sumL (List.range k) (fun h=>if m.testBit h then hs.getD h 0 else 0)
def zLk (nds:List (List Int)) (mys:List (List Bool)) (hs:List Int) (m:Nat):Int:=sumL (List.range nds.length) (fun i=>zEh nds mys m i (nds.getD i []).length) - zD0 hs m hs.length
theorem zF0 {f:Nat→Int} {u:Int} (h:∀ i,0≤f i∧f i≤u):∀ k:Nat,0≤sumL (List.range k) f∧sumL (List.range k) f≤u * k
 | 0=>by simp [sumL]
 | k+1=>by
  obtain ⟨h1,h2⟩:=zF0 h k
  obtain ⟨h3,h4⟩:=h k
  rw [Flow.zAq,Int.natCast_add,Int.mul_add]
  exact ⟨by omega,by omega⟩
theorem getD_map {α β:Type} {f:α→β} {l:List α} {i:Nat} {x:α} {d:β} (h:l[i]?=some x):(l.map f).getD i d=f x:=by
 rw [List.getD_eq_getElem?_getD,List.getElem?_map,h];rfl
structure zDm (L:List (zx Int)) (M:List (zx Bool)) (hs:List Int):Prop where
 len:L.length≤20
 len2:M.length=L.length
 row:∀ (i:Nat) (s:zx Int) (t:zx Bool),L[i]?=some s→M[i]?=some t→s.xs.length≤t.xs.length
 rlen:∀ s∈L,s.xs.length≤12
 big:∀ s∈L,∀ x∈s.xs,-1000000≤x∧x≤1000000
 hlen:hs.length≤12
 hbig:∀ x∈hs,0≤x∧x≤1000
theorem zDm.big2 {L:List (zx Int)} {M:List (zx Bool)} {hs:List Int} (h:zDm L M hs) (i k:Nat):-1000000≤((L.map (·.xs)).getD i []).getD k 0∧((L.map (·.xs)).getD i []).getD k 0≤1000000:=by
 by_cases hi:i<L.length
 ·rw [getD_map (List.getElem?_eq_getElem hi)]
  exact zKB (h.big _ (List.getElem_mem hi)) k
 ·have e:(L.map (·.xs)).getD i []=[]:=by rw [List.getD_eq_getElem?_getD,List.getElem?_eq_none (by rw [List.length_map];omega)];rfl
  rw [e];simp
theorem zDm.zIE {L:List (zx Int)} {M:List (zx Bool)} {hs:List Int} (h:zDm L M hs) (m i k:Nat):0≤zEh (L.map (·.xs)) (M.map (·.xs)) m i k∧zEh (L.map (·.xs)) (M.map (·.xs)) m i k≤1000000:=by
 have:=zIF (nd:=fun h=>((L.map (·.xs)).getD i []).getD h 0) (my:=fun h=>((M.map (·.xs)).getD i []).getD h false) (sm:=m.testBit) (h.big2 i) k
 exact ⟨this.1,this.2.1⟩
theorem zDm.zM0 {L:List (zx Int)} {M:List (zx Bool)} {hs:List Int} (h:zDm L M hs) (m k:Nat):0≤(if m.testBit k then hs.getD k 0 else 0)∧(if m.testBit k then hs.getD k 0 else 0)≤1000:=by
 split
 ·by_cases hi:k<hs.length
  ·rw [Flow.zAZ hi];exact h.hbig _ (List.getElem_mem hi)
  ·rw [List.getD_eq_getElem?_getD,List.getElem?_eq_none (by omega)];simp
 ·omega
end Go.Proofs.YtdigopgncfhiaaaGreatDoor
namespace Go.Proofs.YtdigopgncfhiaaaGreatDoor
open Go.RowKit
open Flow (lackF sumL)
set_option maxRecDepth 20000
def zA2 (A:Option Addr) (la ca:Nat) (B:Option Addr) (lb cb:Nat) (C:Option Addr) (lc cc:Nat):List Value:=[.slice A la ca,.slice B lb cb,.slice C lc cc]
def zHs (nds:List (List Int)) (mys:List (List Bool)) (hs:List Int) (hour m:Nat):Int:=sumL (List.range nds.length) (fun i=>zEh nds mys m i (hour+1)) - zD0 hs m hour
set_option maxHeartbeats 2000000 in
theorem zL9 (L:List (zx Int)) (A:Option Addr) (ca:Nat) (M:List (zx Bool)) (B:Option Addr) (cb:Nat) (hs:List Int) (C:Option Addr) (cc hour m:Nat) (w:World) (hL:zCX encI 1 w A L) (hM:zCX zAo 1 w B M) (hh:zq encI 1 w C hs) (hok:zDm L M hs) (hmb:m<1000000) (hr:∀ s∈L,hour<s.xs.length) (hr2:∀ t∈M,hour<t.xs.length) (hr3:hour≤hs.length) :
  Gv Tryz.prog 70 [.agg (zA2 A L.length ca B M.length cb C hs.length cc).toArray,.int .i64 (hour:Int),.int .i64 (m:Int)] w (.bool (decide (0<zHs (L.map (·.xs)) (M.map (·.xs)) hs hour m))):=by
 have n1:=hok.len;have n2:=hok.len2;have n3:=hok.hlen
 have hLp:=hL.p;have hMp:=hM.p
 unfold Gv zA2
 (refine zJ (n:=76) Tryz.func70 rfl rfl rfl ?_)
 (repeat' (first|((with_reducible refine zF ?_);first|refine zE rfl rfl rfl ?_|refine zC rfl rfl rfl ?_|(refine zK rfl rfl rfl ?_;refine ⟨_,rfl,?_⟩)|refine za rfl rfl rfl ?_|refine zo rfl rfl rfl ?_|(refine zu rfl rfl rfl rfl (fun b=>?_)))|(with_reducible first|refine zH ?_|refine zB ?_|refine zD ?_|refine zA ?_|refine zP ?_)))
 obtain ⟨b1,hb1⟩:∃ b1,b1=b:=⟨_,rfl⟩
 subst hb1
 refine zw (ι:=Nat) [3,1,2,15,16] rfl (fun i=>i≤L.length) (fun i=>[(17,.int .i64 (i:Int)),(7,.int .i64 (sumL (List.range i) (fun i=>zEh (L.map (·.xs)) (M.map (·.xs)) m i (hour+1))))]) (fun _=>[.blk b1 [.slice A L.length ca,.slice B M.length cb,.slice C hs.length cc]]) (fun i=>L.length - i) 0 (Nat.zero_le _) (by (repeat first|exact lK1|refine zL rfl ?_)) (by (repeat constructor)) ?_
 rintro i hi
 simp only [zAt,List.cons_append,List.nil_append]
 by_cases hlt:i<L.length
 ·obtain ⟨s,hs1⟩:∃ s,L[i]?=some s:=⟨_,List.getElem?_eq_getElem hlt⟩
  obtain ⟨t,ht1⟩:∃ t,M[i]?=some t:=⟨_,List.getElem?_eq_getElem (by omega)⟩
  obtain ⟨b2,o2,rfl,_,_⟩:=hLp.at_ hlt
  obtain ⟨b3,o3,rfl,_,_⟩:=hMp.at_ (i:=i) (by omega)
  have:InS w b2 o2 zp 1 L:=⟨hLp⟩
  have:InS w b3 o3 zp 1 M:=⟨hMp⟩
  have:zAT L i s:=⟨hs1⟩
  have:zAT M i t:=⟨ht1⟩
  have hsx:=hL.rows s (List.mem_of_getElem? hs1)
  have htx:=hM.rows t (List.mem_of_getElem? ht1)
  have hsl:=hr s (List.mem_of_getElem? hs1)
  have htl:=hr2 t (List.mem_of_getElem? ht1)
  have hsum:=zF0 (fun i=>hok.zIE m i (hour+1)) i
  have e2:=Flow.zAq (fun i=>zEh (L.map (·.xs)) (M.map (·.xs)) m i (hour+1)) i
  have e3:∀ k,zEh (L.map (·.xs)) (M.map (·.xs)) m i k=(lackF (fun h=>s.xs.getD h 0) (fun h=>t.xs.getD h false) m.testBit k).1:=fun k=>by
   unfold zEh
   rw [getD_map hs1,getD_map ht1]
  have e4:=hok.zIE m i (hour+1)
  have hbg:=zKB (hok.big s (List.mem_of_getElem? hs1))
  have hrl:=hok.rlen s (List.mem_of_getElem? hs1)
  rw [e3] at e2 e4
  generalize sumL (List.range i) (fun i=>zEh (L.map (·.xs)) (M.map (·.xs)) m i (hour+1))=p at *
  clear e3
  obtain ⟨sA,sx,sc⟩:=s
  obtain ⟨tA,tx,tc⟩:=t
  simp only at hsx htx hsl htl e2 e4 hbg hrl
  obtain ⟨b4,o4,rfl,_,_⟩:=hsx.at_ (i:=0) (by omega)
  obtain ⟨b5,o5,rfl,_,_⟩:=htx.at_ (i:=0) (by omega)
  have:InS w b4 o4 encI 1 sx:=⟨hsx⟩
  have:InS w b5 o5 zAo 1 tx:=⟨htx⟩
  (repeat' (first|((with_reducible refine zF ?_);first|refine zE rfl rfl rfl ?_|refine zC rfl rfl rfl ?_|(refine zK rfl rfl rfl ?_;refine ⟨_,rfl,?_⟩)|(refine zQ rfl rfl rfl rfl rfl (fun h=>?_) (fun h=>?_)<;>(dsimp only [cmpP] at h;(try (exfalso;omega))))|refine zh rfl rfl rfl rfl (by omega) ?_|refine zl rfl rfl rfl rfl rfl (by omega) ?_)|(with_reducible first|refine zH ?_|refine zB ?_|refine zD ?_|refine zA ?_|refine zT ?_|refine zP ?_)|((with_reducible refine zI ?_ ?_);(· exact rfl))))
  refine zw (ι:=Nat) [3,1,2,15,16,17,7,8,9,23] rfl (fun k=>k≤hour+1) (fun k=>[(24,.int .i64 (k:Int)),(10,.int .i64 (lackF (fun h=>sx.getD h 0) (fun h=>tx.getD h false) m.testBit k).1),(11,.int .i64 (lackF (fun h=>sx.getD h 0) (fun h=>tx.getD h false) m.testBit k).2)]) (fun _=>[.blk b1 [.slice (some ⟨b2,o2,none⟩) L.length ca,.slice (some ⟨b3,o3,none⟩) M.length cb,.slice C hs.length cc]]) (fun k=>hour+1 - k) 0 (Nat.zero_le _) (by (repeat first|exact lK1|refine zL rfl ?_)) (by (repeat constructor)) ?_
  rintro k hk
  simp only [zAt,List.cons_append,List.nil_append]
  by_cases hkl:k<hour+1
  ·have hin:=zIF (nd:=fun h=>sx.getD h 0) (my:=fun h=>tx.getD h false) (sm:=m.testBit) hbg k
   have hbx:=hbg k
   have:zAT sx k (sx.getD k 0):=⟨by rw [Flow.zAZ (by omega)];simp⟩
   have e1:lackF (fun h=>sx.getD h 0) (fun h=>tx.getD h false) m.testBit (k+1)=(max (lackF (fun h=>sx.getD h 0) (fun h=>tx.getD h false) m.testBit k).1 (sx.getD k 0 - (lackF (fun h=>sx.getD h 0) (fun h=>tx.getD h false) m.testBit k).2),if (tx.getD k false && !m.testBit k)=true then (lackF (fun h=>sx.getD h 0) (fun h=>tx.getD h false) m.testBit k).2+1 else (lackF (fun h=>sx.getD h 0) (fun h=>tx.getD h false) m.testBit k).2):=rfl
   have hg:tx[k]?=some (tx.getD k false):=by rw [Flow.zAZ (by omega)];simp
   have hb2:=Nat.shiftRight_le m k
   rw [bit_zero] at e1
   clear e2 e4
   generalize lackF (fun h=>sx.getD h 0) (fun h=>tx.getD h false) m.testBit k=pp at *
   generalize tx.getD k false=z at *
   generalize sx.getD k 0=x at *
   have:zAT tx k z:=⟨hg⟩
   cases z
   ·simp only [Bool.false_and,Bool.false_eq_true,if_false] at e1
    (repeat' (first|((with_reducible refine zF ?_);first|refine zE rfl rfl rfl ?_|refine zC rfl rfl rfl ?_|(refine zK rfl rfl rfl ?_;refine ⟨_,rfl,?_⟩)|refine za rfl rfl rfl ?_|refine zAB rfl rfl rfl rfl ?_|refine zd rfl rfl rfl ?_|(refine zQ rfl rfl rfl rfl rfl (fun h=>?_) (fun h=>?_)<;>(dsimp only [cmpP] at h;(try (exfalso;omega))))|refine zl (I:=k) rfl rfl rfl rfl rfl (by dsimp only;omega) ?_|refine zh rfl rfl rfl rfl (by omega) ?_|refine zCC rfl rfl rfl rfl (IntWalk.i64_in _ (by omega)) ?_|refine zl rfl rfl rfl rfl rfl (by omega) ?_|refine zIv rfl rfl rfl rfl ?_)|(with_reducible first|refine zH ?_|refine zB ?_|refine zD ?_|refine zA ?_|refine zT ?_|refine zP ?_|refine zg ?_)|((with_reducible refine zI ?_ ?_);(· exact rfl))|((with_reducible refine zG ?_ ?_);(· exact rfl))))
    exact zf (k+1) (by omega) (by omega) (by rw [e1];(repeat first|exact lK1|refine zL rfl ?_)) (by (repeat constructor))
   ·simp only [Bool.true_and,decide_eq_true_eq] at e1
    (repeat' (first|((with_reducible refine zF ?_);first|refine zE rfl rfl rfl ?_|refine zC rfl rfl rfl ?_|(refine zK rfl rfl rfl ?_;refine ⟨_,rfl,?_⟩)|refine za rfl rfl rfl ?_|refine zAB rfl rfl rfl rfl ?_|(refine zQ rfl rfl rfl rfl rfl (fun h=>?_) (fun h=>?_)<;>(dsimp only [cmpP] at h;(try (exfalso;omega))))|refine zl (I:=k) rfl rfl rfl rfl rfl (by dsimp only;omega) ?_|refine zAL rfl (e_shr rfl rfl rfl (by omega)) ?_|refine zAL rfl (zKE rfl rfl rfl (by omega)) ?_|refine zh rfl rfl rfl rfl (by omega) ?_|refine zBd rfl rfl rfl rfl (IntWalk.i64_in _ (by omega)) ?_|refine zCC rfl rfl rfl rfl (IntWalk.i64_in _ (by omega)) ?_|refine zl rfl rfl rfl rfl rfl (by omega) ?_|refine zIv rfl rfl rfl rfl ?_)|(with_reducible first|refine zH ?_|refine zB ?_|refine zD ?_|refine zA ?_|refine zT ?_|refine zP ?_|refine zg ?_)|((with_reducible refine zI ?_ ?_);(· exact rfl))|((with_reducible refine zG ?_ ?_);(· exact rfl))))
    ·exact zf (k+1) (by omega) (by omega) (by rw [e1,if_pos (by omega)];(repeat first|exact lK1|refine zL rfl ?_)) (by (repeat constructor))
    ·exact zf (k+1) (by omega) (by omega) (by rw [e1,if_neg (by omega)];(repeat first|exact lK1|refine zL rfl ?_)) (by (repeat constructor))
  ·obtain rfl:k=hour+1:=by omega
   (repeat' (first|((with_reducible refine zF ?_);first|refine zE rfl rfl rfl ?_|refine zC rfl rfl rfl ?_|(refine zQ rfl rfl rfl rfl rfl (fun h=>?_) (fun h=>?_)<;>(dsimp only [cmpP] at h;(try (exfalso;omega))))|refine zh rfl rfl rfl rfl (by omega) ?_|refine zBd rfl rfl rfl rfl (IntWalk.i64_in _ (by omega)) ?_)|(with_reducible first|refine zH ?_|refine zB ?_|refine zD ?_|refine zA ?_|refine zk ?_|refine zg ?_|refine zR ?_|refine zW ?_)|((with_reducible refine zG ?_ ?_);(· exact rfl))))
   exact zf (i+1) (by omega) (by omega) (by rw [e2];(repeat first|exact lK1|refine zL rfl ?_)) (by (repeat constructor))
 obtain rfl:i=L.length:=by omega
 (repeat' (first|((with_reducible refine zF ?_);first|refine zE rfl rfl rfl ?_|(refine zQ rfl rfl rfl rfl rfl (fun h=>?_) (fun h=>?_)<;>(dsimp only [cmpP] at h;(try (exfalso;omega)))))|(with_reducible first|refine zH ?_|refine zB ?_|refine zD ?_|refine zA ?_|refine zP ?_|refine zk ?_|refine zR ?_|refine zW ?_)|((with_reducible refine zG ?_ ?_);(· exact rfl))))
 have hsum:=zF0 (fun i=>hok.zIE m i (hour+1)) L.length
 have hfin:zHs (L.map (·.xs)) (M.map (·.xs)) hs hour m=sumL (List.range L.length) (fun i=>zEh (L.map (·.xs)) (M.map (·.xs)) m i (hour+1)) - zD0 hs m hour:=by unfold zHs;rw [List.length_map]
 rw [hfin]
 generalize sumL (List.range L.length) (fun i=>zEh (L.map (·.xs)) (M.map (·.xs)) m i (hour+1))=p at *
 refine zw (ι:=Nat) [3,2,57] rfl (fun h=>h≤hour) (fun h=>[(58,.int .i64 (h:Int)),(7,.int .i64 (p - zD0 hs m h))]) (fun _=>[.blk b1 [.slice A L.length ca,.slice B M.length cb,.slice C hs.length cc]]) (fun h=>hour - h) 0 (Nat.zero_le _) (by rw [show zD0 hs m 0=0 from rfl,Int.sub_zero];(repeat first|exact lK1|refine zL rfl ?_)) (by (repeat constructor)) ?_
 rintro k hk
 simp only [zAt,List.cons_append,List.nil_append]
 by_cases hlt:k<hour
 ·obtain ⟨b2,o2,rfl,_,_⟩:=hh.at_ (i:=k) (by omega)
  have:InS w b2 o2 encI 1 hs:=⟨hh⟩
  have:zAT hs k (hs.getD k 0):=⟨by rw [Flow.zAZ (by omega)];simp⟩
  have hsum2:0≤zD0 hs m k∧zD0 hs m k≤1000 * k:=zF0 (hok.zM0 m) k
  have e2:zD0 hs m (k+1)=zD0 hs m k+(if m.testBit k then hs.getD k 0 else 0):=Flow.zAq _ k
  have hx:0≤hs.getD k 0∧hs.getD k 0≤1000:=by rw [Flow.zAZ (by omega)];exact hok.hbig _ (List.getElem_mem (by omega))
  rw [zKL] at e2
  have hb2:=Nat.shiftRight_le m k
  generalize hs.getD k 0=x at *
  generalize zD0 hs m k=r at *
  have e5:(if decide ((m >>> k) % 2=1)=true then x else 0)=((m >>> k % 2:Nat):Int) * x:=by
   rcases Nat.mod_two_eq_zero_or_one (m >>> k) with h|h<;>simp [h]
  rw [e5] at e2
  have e6:0≤((m >>> k % 2:Nat):Int) * x∧((m >>> k % 2:Nat):Int) * x≤1000:=by
   rw [← e5];split<;>omega
  (repeat' (first|((with_reducible refine zF ?_);first|refine zE rfl rfl rfl ?_|refine zC rfl rfl rfl ?_|(refine zQ rfl rfl rfl rfl rfl (fun h=>?_) (fun h=>?_)<;>(dsimp only [cmpP] at h;(try (exfalso;omega)))))|(with_reducible first|refine zH ?_|refine zB ?_|refine zD ?_|refine zA ?_|refine zT ?_|refine zP ?_)|((with_reducible refine zI ?_ ?_);(· exact rfl))))
  (refine zBP (by kernel_rfl) (by kernel_rfl) (by kernel_rfl) ?_)
  (repeat' (first|((with_reducible refine zBr ?_);first|refine zn (zAi rfl rfl) rfl ?_|refine zn (zAG rfl rfl (by exact rfl)) rfl ?_|refine zn (zAU rfl rfl) rfl ?_|refine zn (zCE rfl rfl) rfl ?_|refine zn (e_shr rfl rfl rfl (by omega)) rfl ?_|refine zn (zKE rfl rfl rfl (by omega)) rfl ?_|refine zn (e_sub rfl rfl rfl (IntWalk.i64_in _ (by omega))) rfl ?_|refine zn (e_mul rfl rfl rfl (IntWalk.i64_in _ (by omega))) rfl ?_|refine zn (zAr rfl rfl rfl rfl (by omega)) rfl ?_)|(with_reducible refine zCZ ?_)))
  (repeat' (first|((with_reducible refine zF ?_);first|refine zE rfl rfl rfl ?_|refine zh rfl rfl rfl rfl (by omega) ?_)|(with_reducible first|refine zB ?_|refine zD ?_|refine zA ?_|refine zg ?_)))
  exact zf (k+1) (by omega) (by omega) (by rw [e2,← Int.sub_sub];(repeat first|exact lK1|refine zL rfl ?_)) (by (repeat constructor))
 ·obtain rfl:k=hour:=by omega
  have hsum2:0≤zD0 hs m k∧zD0 hs m k≤1000 * k:=zF0 (hok.zM0 m) k
  (repeat' (first|((with_reducible refine zF ?_);first|refine zE rfl rfl rfl ?_|refine zC rfl rfl rfl ?_|(refine zQ rfl rfl rfl rfl rfl (fun h=>?_) (fun h=>?_)<;>(dsimp only [cmpP] at h;(try (exfalso;omega)))))|(with_reducible first|refine zH ?_|refine zB ?_|refine zD ?_|refine zA ?_|refine zX ?_|refine zk ?_|refine zR ?_|refine zW ?_)|((with_reducible refine zG ?_ ?_);(· exact rfl))))
  all_goals exact zS (by exact rTm rfl) () trivial (by simp [resV];omega) (fun _ h=>h.sub (by (repeat constructor)))
def zGx (nds:List (List Int)) (mys:List (List Bool)) (hs:List Int):Bool:=(List.range (2 ^ hs.length)).all fun m=>!decide (0<zLk nds mys hs m)
def zC1 (l:List Int):List Int:=l.map fun x=>max 0 (x - 1)
end Go.Proofs.YtdigopgncfhiaaaGreatDoor
namespace Go.Proofs.YtdigopgncfhiaaaGreatDoor
open Go.RowKit
structure PS where
 nds:List (List Int)
 may:List (List Bool)
 hands:List Int
 out:List (List Int)
def zHj (s:PS) (h i:Nat):Bool:=(s.may.getD i []).getD h false && (decide (0<s.hands.getD h 0) && decide (0<Flow.zBl (s.nds.getD i [])))
def zEW (s:PS) (h i:Nat):List (List Bool):=s.may.set i ((s.may.getD i []).set h false)
def ndsO (s:PS) (i:Nat):List (List Int):=s.nds.set i (zC1 (s.nds.getD i []))
def zC0 (s:PS) (h:Nat):List Int:=s.hands.set h (s.hands.getD h 0 - 1)
def outO (s:PS) (h i:Nat):List (List Int):=s.out.set h (s.out.getD h []++[(i:Int)])
def zDT (h i:Nat) (s:PS):PS :=
 if zHj s h i then
  if zGx (ndsO s i) (zEW s h i) (zC0 s h) then ⟨ndsO s i,zEW s h i,zC0 s h,outO s h i⟩ else ⟨s.nds,zEW s h i,s.hands,s.out⟩
 else ⟨s.nds,zEW s h i,s.hands,s.out⟩
def stepsP (h:Nat):Nat→PS→PS
 | 0,s=>s
 | i+1,s=>zDT h i (stepsP h i s)
def zCj (nb:Nat):Nat→PS→PS
 | 0,s=>s
 | h+1,s=>stepsP h nb (zCj nb h s)
def zBH (c:Cov):PS:=⟨zAk c,zFl c,zBM c,List.replicate c.hours.length []⟩
def zDX (c:Cov):List (List Int) × Int :=
 if zAm c=0 then
  if zGx (zAk c) (zFl c) (zBM c) then ((zCj c.beds.length c.hours.length (zBH c)).out,0) else ([],8)
 else ([],zAm c)
structure NRow (nh:Nat) (r:List Int):Prop where
 len:r.length=nh
 big:∀ x∈r,0≤x∧x≤100000
 up:r.Pairwise (·≤·)
theorem NRow.less {nh:Nat} {r:List Int} (h:NRow nh r):NRow nh (zC1 r):=by
 refine ⟨by simp [zC1,h.len],fun x hx=>?_,?_⟩
 ·obtain ⟨y,hy,rfl⟩:=List.mem_map.1 hx
  have:=h.big y hy
  omega
 ·unfold zC1
  rw [List.pairwise_map]
  exact h.up.imp fun hab=>by omega
structure zDn (nb nh h i:Nat) (s:PS):Prop where
 nl:s.nds.length=nb
 ml:s.may.length=nb
 hl:s.hands.length=nh
 ol:s.out.length=nh
 nr:∀ r∈s.nds,NRow nh r
 mr:∀ r∈s.may,r.length=nh
 hr:∀ x∈s.hands,0≤x∧x≤1000
 or_:∀ k,(s.out.getD k []).length≤if k<h then nb else if k=h then i else 0
theorem zDl {α:Type} {l:List α} {i:Nat} {a x:α} (h:x∈l.set i a):x=a∨x∈l:=by
 rcases List.mem_or_eq_of_mem_set h with h|h
 ·exact .inr h
 ·exact .inl h
theorem getD_set {α:Type} {l:List α} {i k:Nat} {a d:α} (hi:i<l.length):(l.set i a).getD k d=if k=i then a else l.getD k d:=by
 rw [List.getD_eq_getElem?_getD,List.getElem?_set,List.getD_eq_getElem?_getD]
 by_cases e:i=k
 ·subst e;simp [hi]
 ·rw [if_neg e,if_neg (fun h=>e h.symm)]
section
variable {nb nh h i:Nat} {s:PS}
theorem zDn.zMw (ok:zDn nb nh h i s) (hi:i<nb):(zEW s h i).length=nb∧∀ r∈zEW s h i,r.length=nh:=by
 refine ⟨by simp [zEW,ok.ml],fun r hr=>?_⟩
 rcases zDl hr with rfl|hr
 ·rw [List.length_set]
  have:=ok.ml
  rw [Flow.zAZ (by omega)]
  exact ok.mr _ (List.getElem_mem _)
 ·exact ok.mr r hr
theorem zDn.zMv (ok:zDn nb nh h i s) (hi:i<nb):(ndsO s i).length=nb∧∀ r∈ndsO s i,NRow nh r:=by
 refine ⟨by simp [ndsO,ok.nl],fun r hr=>?_⟩
 rcases zDl hr with rfl|hr
 ·have:=ok.nl
  rw [Flow.zAZ (by omega)]
  exact (ok.nr _ (List.getElem_mem _)).less
 ·exact ok.nr r hr
theorem zDn.zJR (ok:zDn nb nh h i s) (hh:h<nh) (ht:zHj s h i=true):(zC0 s h).length=nh∧∀ x∈zC0 s h,0≤x∧x≤1000:=by
 refine ⟨by simp [zC0,ok.hl],fun x hx=>?_⟩
 rcases zDl hx with rfl|hx
 ·have:=ok.hl
  unfold zHj at ht
  simp only [Bool.and_eq_true,decide_eq_true_eq] at ht
  have h1:=ht.2.1
  rw [Flow.zAZ (by omega)] at h1 ⊢
  have:=ok.hr _ (List.getElem_mem (l:=s.hands) (n:=h) (by omega))
  omega
 ·exact ok.hr x hx
theorem zDn.step (ok:zDn nb nh h i s) (hi:i<nb) (hh:h<nh):zDn nb nh h (i+1) (zDT h i s):=by
 have keep:∀ k,(s.out.getD k []).length≤if k<h then nb else if k=h then i+1 else 0:=fun k=>by
  have:=ok.or_ k
  split at this
  ·rw [if_pos (by assumption)];exact this
  ·rw [if_neg (by assumption)]
   split at this
   ·rw [if_pos (by assumption)];omega
   ·rw [if_neg (by assumption)];exact this
 have hm:=ok.zMw hi
 unfold zDT
 cases ht:zHj s h i with
 | false=>rw [if_neg (by simp)];exact ⟨ok.nl,hm.1,ok.hl,ok.ol,ok.nr,hm.2,ok.hr,keep⟩
 | true =>
  rw [if_pos rfl]
  have hn:=ok.zMv hi
  have hd:=ok.zJR hh ht
  split
  ·refine ⟨hn.1,hm.1,hd.1,by simp [outO,ok.ol],hn.2,hm.2,hd.2,fun k=>?_⟩
   simp only [outO]
   rw [getD_set (by rw [ok.ol];exact hh)]
   by_cases e:k=h
   ·subst e
    have:=ok.or_ k
    rw [if_neg (by omega),if_pos rfl] at this
    rw [if_pos rfl,if_neg (by omega),if_pos rfl,List.length_append]
    simp only [List.length_cons,List.length_nil];omega
   ·rw [if_neg e];exact keep k
  ·exact ⟨ok.nl,hm.1,ok.hl,ok.ol,ok.nr,hm.2,ok.hr,keep⟩
theorem zDn.next (ok:zDn nb nh h nb s):zDn nb nh (h+1) 0 s :=
 ⟨ok.nl,ok.ml,ok.hl,ok.ol,ok.nr,ok.mr,ok.hr,fun k=>by
  have:=ok.or_ k
  by_cases h1:k<h
  ·rw [if_pos h1] at this;rw [if_pos (by omega)];exact this
  ·rw [if_neg h1] at this
   by_cases h2:k=h
   ·rw [if_pos h2] at this;rw [if_pos (by omega)];exact this
   ·rw [if_neg h2] at this;omega⟩
end
theorem zL1 (c:Cov) (z:Bed) (m:Nat):(zBX c z m).Pairwise (·≤·):=by
 unfold zBX
 rw [List.pairwise_map]
 refine List.pairwise_lt_range.imp fun {a b} hab=>?_
 have:=zKz (c:=c) (z:=z) (a+1) (b - a)
 rwa [show a+1+(b - a)=b+1 by omega] at this
theorem zE5 {c:Cov} (hf:zDo c) (hs:Small c) (hcr:∀ u∈c.hours,0≤u.crew∧u.crew≤1000):zDn c.beds.length c.hours.length 0 0 (zBH c):=by
 have h3:=hs.h
 refine ⟨by simp [zBH,zAk],by simp [zBH,zFl],by simp [zBH,zBM],by simp [zBH],fun r hr=>?_,fun r hr=>?_,fun x hx=>?_,fun k=>?_⟩
 ·obtain ⟨z,hz,rfl⟩:=List.mem_map.1 hr
  refine ⟨zDZ,fun x hx=>?_,zL1 c z _⟩
  obtain ⟨k,hk,rfl⟩:=List.mem_map.1 hx
  have:=zIA hf hz (k+1) (by have:=List.mem_range.1 hk;omega)
  have:=List.mem_range.1 hk
  omega
 ·simp [zBH,zFl] at hr
  rw [hr.2];simp
 ·obtain ⟨u,hu,rfl⟩:=List.mem_map.1 hx
  have:=hcr u hu
  unfold zHE;split<;>omega
 ·simp only [zBH,Nat.not_lt_zero,if_false]
  rw [List.getD_eq_getElem?_getD,List.getElem?_replicate]
  split<;>simp
end Go.Proofs.YtdigopgncfhiaaaGreatDoor
