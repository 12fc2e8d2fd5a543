/- B18 -/
import Derived.Test.YtdigopgncfhiaaaGreatDoorB1
import Derived.Test.YtdigopgncfhiaaaGreatDoorB10
import Derived.Test.YtdigopgncfhiaaaGreatDoorB8
import Derived.Test.YtdigopgncfhiaaaGreatDoorB17
import Derived.Test.YtdigopgncfhiaaaGreatDoorB5
import Derived.Test.YtdigopgncfhiaaaGreatDoorB6
set_option linter.unusedSimpArgs false
set_option linter.unusedVariables false
namespace Go.Proofs.YtdigopgncfhiaaaGreatDoor
theorem zRX {p:Prop} (h:p:=by (try simp (decide:=true) only [vis,see,fltT,zAG,Nat.reduceAdd,Nat.reduceSub,if_true,if_false,List.set_cons_zero,List.set_cons_succ,List.set_nil,List.nil_append,List.cons_append]);rfl):p:=h
open Go.RowKit
set_option maxRecDepth 20000
def zBF (b:Bool):List Value:=[.bool b]
instance encI_bl : zCQ zBF 1:=⟨fun _=>rfl,fun b v hv=>by simp [zBF] at hv;subst hv;rfl⟩
theorem elem_bo : zKo Tryz.prog 121 4 1 1 (.bool false) :=
 ⟨by rfl,by exact ⟨_,rfl,rfl,rfl,rfl⟩,by decide,by decide⟩
instance elI_bo : ElI Tryz.prog 121 4 1 1:=⟨⟨_,elem_bo⟩⟩
def zEZ (c:Cov) (h:Nat):List Bool:=(c.hours.take h).map (·.cold)
def zCs (c:Cov):List (List Bool):=List.replicate c.beds.length (c.hours.map (·.cold))
def zFK (u:Hour):Int:=if u.cold then u.crew else 0
def zAk (c:Cov):List Int:=c.hours.map zFK
def zCI (c:Cov) (h:Nat):List Int:=(c.hours.take h).map zFK++List.replicate (c.hours.length - h) 0
def zHH (c:Cov) (h i:Nat):List (List Bool):=List.replicate i (zEZ c (h+1))++List.replicate (c.beds.length - i) (zEZ c h)
theorem zRI {c:Cov} {h:Nat} (hh:h≤c.hours.length):(zEZ c h).length=h:=by simp [zEZ];omega
theorem zPJ {c:Cov} {h:Nat} {u:Hour} (hu:c.hours[h]?=some u):zEZ c (h+1)=zEZ c h++[u.cold]:=by unfold zEZ;rw [List.take_add_one,hu];simp
theorem zPA {c:Cov} {h:Nat} (hh:h≤c.hours.length):(zCI c h).length=c.hours.length:=by simp [zCI];omega
theorem zKN {c:Cov} {h:Nat} {u:Hour} (hu:c.hours[h]?=some u):(zCI c h).set h (zFK u)=zCI c (h+1):=by
 obtain ⟨hi,e⟩:=List.getElem?_eq_some_iff.1 hu
 unfold zCI
 have hl:((c.hours.take h).map zFK).length=h:=by simp;omega
 rw [List.set_append_right _ _ zRU,hl,Nat.sub_self]
 have e1:c.hours.take (h+1)=c.hours.take h++[u]:=by rw [List.take_add_one,hu];rfl
 rw [e1,List.map_append,List.append_assoc]
 congr 1
 obtain ⟨m,hm⟩:∃ m,c.hours.length - h=m+1:=⟨c.hours.length - h - 1,by omega⟩
 rw [hm,show c.hours.length - (h+1)=m by omega,List.replicate_succ]
 rfl
theorem zN5 {c:Cov} {h:Nat} {u:Hour} (hu:c.hours[h]?=some u) (h0:zFK u=0):zCI c h=zCI c (h+1):=by
 rw [← zKN hu,h0]
 obtain ⟨hi,e⟩:=List.getElem?_eq_some_iff.1 hu
 have:(zCI c h)[h]?=some 0:=by
  unfold zCI
  have hl:((c.hours.take h).map zFK).length=h:=by simp;omega
  rw [List.getElem?_append_right zRU,hl,List.getElem?_replicate,if_pos zRU]
 obtain ⟨h1,h2⟩:=List.getElem?_eq_some_iff.1 this
 conv=>lhs;rw [← List.set_getElem_self h1]
 rw [h2]
theorem zPB {c:Cov}:zCI c c.hours.length=zAk c:=by simp [zCI,zAk]
theorem zN4 {c:Cov}:zCI c 0=List.replicate c.hours.length 0:=by simp [zCI]
theorem zGh {c:Cov} {h:Nat}:zHH c h 0=List.replicate c.beds.length (zEZ c h):=by simp [zHH]
theorem zNp {c:Cov} {h:Nat}:zHH c h c.beds.length=List.replicate c.beds.length (zEZ c (h+1)):=by simp [zHH]
theorem zPn {c:Cov} {h i:Nat} (hi:i<c.beds.length):(zHH c h i)[i]?=some (zEZ c h):=by
 unfold zHH
 rw [List.getElem?_append_right zRf,List.length_replicate,Nat.sub_self,List.getElem?_replicate,if_pos zRU]
theorem zNo {c:Cov} {h i:Nat} (hi:i<c.beds.length):(zHH c h i).set i (zEZ c (h+1))=zHH c h (i+1):=by
 unfold zHH
 rw [List.set_append_right _ _ zRf,List.length_replicate,Nat.sub_self]
 obtain ⟨m,hm⟩:∃ m,c.beds.length - i=m+1:=⟨c.beds.length - i - 1,by omega⟩
 rw [hm,show c.beds.length - (i+1)=m by omega,List.replicate_succ,List.set_cons_zero,List.replicate_succ',List.append_assoc]
 rfl
end Go.Proofs.YtdigopgncfhiaaaGreatDoor
namespace Go.Proofs.YtdigopgncfhiaaaGreatDoor.Two
open Go.RowKit
set_option maxRecDepth 20000
set_option maxHeartbeats 4000000 in
theorem zGI (c:Cov) (A:Option Addr) (ca:Nat) (B:Option Addr) (cb:Nat) (C:Option Addr) (cc g:Nat) (w:World) (hr:InC w g 0 (zH c A ca B cb C cc)) (hG:InC w 0 0 zCS) (h:zAl w c A B C) (hs:Small c) (hf:zBm c) :
  Ret Tryz.prog 65 [.pointer (some ⟨g,0,none⟩)] w (fun p:(Nat × List (zAH Int)) × (Nat × List (zAH Bool)) × Nat=>.agg #[.slice (some ⟨p.1.1,0,none⟩) c.beds.length c.beds.length,.slice (some ⟨p.2.1.1,0,none⟩) c.beds.length c.beds.length,.slice (some ⟨p.2.2,0,none⟩) c.hours.length c.hours.length])
   (fun p=>[.zBV zAF (rowOf encI 1 3) p.1.1 p.1.2,.zBV zAF (rowOf zBF 1 4) p.2.1.1 p.2.1.2,.row encI 1 3 (.slice (some ⟨p.2.2,0,none⟩) c.hours.length c.hours.length) (zAk c)]) (fun p=>p.1.2.map (·.xs)=zAu c∧p.2.1.2.map (·.xs)=zCs c):=by
 have h4:=hs.b;have h5:=hs.h
 have hb:=h.b;have hh:=h.h
 have hnd:=fun W (hb:Below w.heap.size w W)=>zKF c A ca B cb C cc g W (hr.below hb) (hG.below hb) (h.below hb) hs hf
 unfold zH at hr
 (refine zM (n:=68) Tryz.func65 rfl rfl rfl ?_)
 (repeat' (first|((with_reducible refine zG ?_);first|(refine zr rfl rfl rfl rfl (fun b=>?_)))|(with_reducible first|refine zI ?_|refine zB ?_|refine zD ?_|refine zA ?_)))
 (refine zAc [] [] [] rfl (show ([]:List Nat).Nodup by decide) (H0:=[.blk b [.slice none 0 0,.slice none 0 0,.slice none 0 0]]) (fun _ h=>h.sub zRQ) zRW [[],[I0],[O0,O0],[I0,O0,O0],[I0,I0,O0,O0],[I0,I0,I0,O0,O0],[I0,I0,I0,I0,O0,O0],[I0,I0,I0,I0,I0,O0,O0],[I0,I0,I0,I0,I0,I0,O0,O0],[O0,O0,O0,O0,O0,O0,O0,O0,O0],[I0,O0,O0,O0,O0,O0,O0,O0,O0,O0],[I0,I0,O0,O0,O0,O0,O0,O0,O0,O0,O0],[I0,I0,I0,O0,O0,O0,O0,O0,O0,O0,O0,O0],[I0,I0,I0,I0,O0,O0,O0,O0,O0,O0,O0,O0,O0],[I0,I0,I0,I0,I0,O0,O0,O0,O0,O0,O0,O0,O0,O0],[I0,I0,I0,I0,I0,I0,O0,O0,O0,O0,O0,O0,O0,O0,O0],[I0,I0,I0,I0,I0,I0,I0,I0,I0,I0,I0,I0,I0,I0,I0,I0],[O0,O0,O0,O0,O0,O0,O0,O0,O0,O0,O0,O0,O0,O0,O0,O0,O0],[I0,I0,I0,I0,I0,I0,I0,I0,I0,I0,I0,I0,I0,I0,I0,I0,I0,I0]] zRW zRW zRW zRW zRW ?_)
 (repeat' (first|(((with_reducible refine zCT ?_ ?_);(· exact rfl);refine ⟨_,fun G=>zRX,?_⟩);first|refine zX _ (fun _=>zAM rfl rfl) (fun _=>rfl) rfl zRR ?_|refine zX _ (fun _=>zy rfl rfl zRe) (fun _=>rfl) rfl zRR ?_|(refine zAU rfl ?_;refine zX _ (fun _=>zAJ rfl rfl) (fun _=>rfl) rfl zRR ?_)|(refine c_tab (enc:=encI) (kk:=1) (e:=3) (nn:=c.beds.length) zHE rfl (fun _=>rfl) rfl (fun _=>rfl) (fun _=>rfl) (fun _ _ _ q=>hnd _ q.below) ?_)|(refine c_makeT (enc:=zBF) (kk:=1) (e2:=4) (n0:=c.beds.length) rfl rfl rfl rfl rfl (fun _=>rfl) rfl (fun _=>rfl) (fun _=>rfl) zRU ?_)|(refine c_makeR (enc:=encI) (0:Int) (n0:=c.hours.length) rfl rfl rfl rfl rfl rfl rfl (fun _=>rfl) rfl (fun _=>rfl) (fun _=>rfl) zRU ?_)|refine zX _ (fun _=>zDR rfl rfl) (fun _=>rfl) rfl zRR ?_|refine zX _ (fun _=>zAY rfl rfl) (fun _=>rfl) rfl zRR ?_|refine zX _ (fun _=>zD1 rfl rfl zRe) (fun _=>rfl) rfl zRR ?_|refine zH4 rfl (fun _=>rfl) rfl ?_)|((with_reducible refine zBU ?_ ?_);(· exact rfl))))
 intro G
 simp only [regsT,List.nil_append,List.cons_append]
 refine zB6 (H':=[.blk (G 17).g [.slice none 0 0,.slice none 0 0,.slice none 0 0],.row encI 1 3 (.slice (some ⟨(G 15).g,0,none⟩) c.hours.length c.hours.length) (List.replicate c.hours.length 0),.zBV zAF (rowOf zBF 1 4) (G 8).g (List.replicate c.beds.length zBH),.hidT encI 1 3 (G 1).g ((G 1).A.getD ⟨0,0,none⟩).block (G 1).m (zAu c),.blk b [.slice none 0 0,.slice none 0 0,.slice none 0 0]]) (fun _ h=>h) ?_
 simp only [Nat.zero_add,Nat.reduceAdd]
 generalize (G 17).g=gx
 generalize (G 15).g=gh
 generalize (G 8).g=gm
 generalize (G 1).m=hi
 generalize ((G 1).A.getD ⟨0,0,none⟩).block=lo
 generalize (G 1).g=gn
 refine u_hidT zRT (fun L hL=>?_)
 (repeat' (first|((with_reducible refine zG ?_);first|refine zE rfl rfl rfl rfl rfl ?_|(refine zK rfl rfl rfl rfl rfl ?_;refine ⟨_,rfl,?_⟩)|refine zd rfl rfl rfl rfl rfl ?_|refine zp rfl rfl rfl rfl rfl ?_|(refine zf rfl rfl rfl rfl rfl ?_;refine And.intro rfl (And.intro zRY ⟨_,rfl,?_⟩))|refine zBI rfl rfl rfl rfl rfl ?_)|(with_reducible first|refine zI ?_|refine zB ?_|refine zD ?_|refine zA ?_|refine zN ?_)))
 obtain ⟨b2,hb2⟩:∃ b2,b2=b:=⟨_,rfl⟩
 subst hb2
 refine zq (ι:=Nat × List (zAH Bool)) [0,2,3,28,29] rfl (fun p=>p.1≤c.hours.length∧p.2.map (·.xs)=zHH c p.1 0) (fun p=>[(30,.int .i64 (p.1:Int))]) (fun p=>[.zBV zAF (rowOf zBF 1 4) gm p.2,.row encI 1 3 (.slice (some ⟨gh,0,none⟩) c.hours.length c.hours.length) (zCI c p.1),.zBV zAF (rowOf encI 1 3) gn L,.blk gx [.slice (some ⟨gn,0,none⟩) c.beds.length c.beds.length,.slice (some ⟨gm,0,none⟩) c.beds.length c.beds.length,.slice (some ⟨gh,0,none⟩) c.hours.length c.hours.length],.blk b2 [.slice none 0 0,.slice none 0 0,.slice none 0 0]]) (fun p=>c.hours.length - p.1) (0,List.replicate c.beds.length zBH) ⟨Nat.zero_le _,by simp [zGh,zBH,zEZ]⟩ zRS (by simp only [zN4];(repeat (first|exact oK1 _|(refine oK2 zRT ?_)))) ?_
 rintro ⟨j,M⟩ ⟨hj,hM⟩
 simp only at hj hM
 simp only [zAn,List.cons_append,List.nil_append]
 have hMl:M.length=c.beds.length:=by
  have:=congrArg List.length hM
  simp [zHH] at this;omega
 by_cases hjl:j<c.hours.length
 ·obtain ⟨u,hu⟩:∃ u,c.hours[j]?=some u:=⟨_,List.getElem?_eq_getElem hjl⟩
  obtain ⟨bc,oc,rfl,_,_⟩:=hh.at_ hjl
  have:InS w bc oc zw 5 c.hours:=⟨hh⟩
  have:zAP c.hours j u:=⟨hu⟩
  have hhl:=zPA (c:=c) (h:=j) zRU
  have hcs:=zPJ hu
  have hce:=zKN hu
  have hcn:=zN5 hu
  have hcl:=zRI (c:=c) (h:=j) zRU
  obtain ⟨um,ur,uc,cold⟩:=u
  unfold zFK at hce hcn
  simp only at hce hcn hcs
  cases cold
  ·simp only [Bool.false_eq_true,if_false] at hce hcn
   rw [hcn trivial]
   (repeat' (first|((with_reducible refine zG ?_);first|refine zE rfl rfl rfl rfl rfl ?_|refine zC rfl rfl rfl rfl rfl ?_|(refine zK rfl rfl rfl rfl rfl ?_;refine ⟨_,rfl,?_⟩)|refine zd rfl rfl rfl rfl rfl ?_|(refine zQ rfl rfl rfl rfl rfl rfl rfl (fun h=>?_) (fun h=>?_)<;>(dsimp only [cmpP] at h;(try (exfalso;omega))))|refine ze rfl rfl rfl rfl rfl rfl rfl zRU ?_|refine zp rfl rfl rfl rfl rfl ?_|(refine zf rfl rfl rfl rfl rfl ?_;refine And.intro rfl (And.intro zRY ⟨_,rfl,?_⟩))|(refine zr rfl rfl rfl rfl (fun b=>?_))|refine zBI rfl rfl rfl rfl rfl ?_)|(with_reducible first|refine zI ?_|refine zB ?_|refine zD ?_|refine zA ?_|refine zP ?_|refine zN ?_)|((with_reducible refine zJ ?_ ?_);(· exact rfl))|((with_reducible refine zF ?_ ?_);(· exact rfl))))
   obtain ⟨b5,hb5⟩:∃ b5,b5=b:=⟨_,rfl⟩
   subst hb5
   refine zq (ι:=Nat × List (zAH Bool)) [0,2,3,5,28,29,30,48] rfl (fun p=>p.1≤c.beds.length∧p.2.map (·.xs)=zHH c j p.1) (fun p=>[(49,.int .i64 (p.1:Int))]) (fun p=>[.zBV zAF (rowOf zBF 1 4) gm p.2,.row encI 1 3 (.slice (some ⟨gh,0,none⟩) c.hours.length c.hours.length) (zCI c (j+1)),.zBV zAF (rowOf encI 1 3) gn L,.blk gx [.slice (some ⟨gn,0,none⟩) c.beds.length c.beds.length,.slice (some ⟨gm,0,none⟩) c.beds.length c.beds.length,.slice (some ⟨gh,0,none⟩) c.hours.length c.hours.length],.blk b5 (zw ⟨um,ur,uc,false⟩),.blk b2 [.slice none 0 0,.slice none 0 0,.slice none 0 0]]) (fun p=>c.beds.length - p.1) (0,M) ⟨Nat.zero_le _,hM⟩ zRS zRQ ?_
   rintro ⟨i,M⟩ ⟨hi,hM⟩
   simp only at hi hM
   simp only [zAn,List.cons_append,List.nil_append]
   have hMl:M.length=c.beds.length:=by
    have:=congrArg List.length hM
    simp [zHH] at this;omega
   by_cases hil:i<c.beds.length
   ·obtain ⟨s,hs1⟩:∃ s,M[i]?=some s:=⟨_,List.getElem?_eq_getElem zRU⟩
    have hsx:s.xs=zEZ c j:=by
     have h1:=zPn (c:=c) (h:=j) hil
     rw [← hM,List.getElem?_map,hs1] at h1
     exact Option.some.inj h1
    have hsl:s.xs.length≤12:=by rw [hsx,hcl];omega
    (repeat' (first|((with_reducible refine zG ?_);first|refine zE rfl rfl rfl rfl rfl ?_|refine zC rfl rfl rfl rfl rfl ?_|(refine zQ rfl rfl rfl rfl rfl rfl rfl (fun h=>?_) (fun h=>?_)<;>(dsimp only [cmpP] at h;(try (exfalso;omega)))))|(with_reducible first|refine zI ?_|refine zB ?_|refine zD ?_|refine zA ?_|refine zP ?_|refine zN ?_)|((with_reducible refine zJ ?_ ?_);(· exact rfl))))
    refine zC9 i hs1 zRT ?_
    have:zAP (M.set i s) i s:=⟨List.getElem?_set_self zRU⟩
    simp only [rowOf]
    (refine zAc [] [(11,0,0,[.row zBF 1 4 (.slice s.A s.xs.length s.c) s.xs])] [(11,0,0)] rfl (show ([11]:List Nat).Nodup by decide) (H0:=[.arr zAF 1 gm (M.set i s),.blk gx [.slice (some ⟨gn,0,none⟩) c.beds.length c.beds.length,.slice (some ⟨gm,0,none⟩) c.beds.length c.beds.length,.slice (some ⟨gh,0,none⟩) c.hours.length c.hours.length],.blk b5 (zw ⟨um,ur,uc,false⟩),.all ((M.eraseIdx i).map (rowOf zBF 1 4)),.row encI 1 3 (.slice (some ⟨gh,0,none⟩) c.hours.length c.hours.length) (zCI c (j+1)),.zBV zAF (rowOf encI 1 3) gn L,.blk b2 [.slice none 0 0,.slice none 0 0,.slice none 0 0]]) (fun _ h=>h.sub zRQ) zRW [[],[I0],[O0,O0],[O0,O0,O0],[I0,O0,O0,O0],[O0,O0,O0,O0,O0],[I0,I0,I0,O0,O0,O0],[I0,I0,I0,I0,O0,O0,O0],[O0,O0,O0,O0,O0,O0,O0,O0],[I0,O0,O0,O0,O0,O0,O0,O0,O0],[I0,I0,O0,O0,O0,O0,O0,O0,O0,O0],[I0,I0,I0,I0,I0,I0,I0,I0,O0,O0,O0],[I0,I0,I0,I0,I0,I0,I0,I0,I0,I0,I0,I0],[I0,I0,I0,I0,I0,I0,I0,I0,I0,I0,I0,I0,I0]] zRW zRW zRW zRW zRW ?_)
    (repeat' (first|(((with_reducible refine zCT ?_ ?_);(· exact rfl);refine ⟨_,fun G=>zRX,?_⟩);first|refine zX _ (fun _=>zAM rfl rfl) (fun _=>rfl) rfl zRR ?_|refine zX _ (fun _=>zy rfl rfl zRe) (fun _=>rfl) rfl zRR ?_|(refine zAU rfl ?_;refine zX _ (fun _=>zAJ rfl rfl) (fun _=>rfl) rfl zRR ?_)|refine zX _ (fun _=>zAO rfl rfl rfl rfl zRU) (fun _=>rfl) rfl zRR ?_|refine zBu rfl (fun _=>rfl) rfl (fun _=>rfl) zRe (by exact fun _=>rfl) zRR ?_)|(refine zDn (enc:=zBF) (xs:=s.xs) (vx:=.slice s.A s.xs.length s.c) [false] List.mem_cons_self rfl rfl (fun _=>rfl) rfl (fun _=>rfl) (fun _=>rfl) rfl (fun G=>zRX) (fun _ W hW h=>zAd (enc:=zBF) zRe W hW h) ⟨by simp;omega,by decide⟩ ?_)|((with_reducible refine zBU ?_ ?_);(· exact rfl))))
    intro G
    simp only [regsT,List.nil_append,List.cons_append]
    refine zB6 (H':=[.row zBF 1 4 (.slice (G 11).A (s.xs++[false]).length (G 11).m) (s.xs++[false]),.arr zAF 1 gm (M.set i s),.blk gx [.slice (some ⟨gn,0,none⟩) c.beds.length c.beds.length,.slice (some ⟨gm,0,none⟩) c.beds.length c.beds.length,.slice (some ⟨gh,0,none⟩) c.hours.length c.hours.length],.blk b5 (zw ⟨um,ur,uc,false⟩),.all ((M.eraseIdx i).map (rowOf zBF 1 4)),.row encI 1 3 (.slice (some ⟨gh,0,none⟩) c.hours.length c.hours.length) (zCI c (j+1)),.zBV zAF (rowOf encI 1 3) gn L,.blk b2 [.slice none 0 0,.slice none 0 0,.slice none 0 0]]) (fun _ h=>h.sub zRQ) ?_
    (repeat' (first|((with_reducible refine zG ?_);first|refine zE rfl rfl rfl rfl rfl ?_|refine zDG (i:=i) (s:=s) ⟨(G 11).A,s.xs++[false],(G 11).m⟩ rfl rfl rfl rfl rfl rfl zRT zRU ?_|refine zg rfl rfl rfl rfl rfl rfl zRU ?_)|(with_reducible first|refine zB ?_|refine zD ?_|refine zA ?_|refine zi ?_)))
    refine zC8 i (re:=rowOf zBF 1 4) ⟨(G 11).A,s.xs++[false],(G 11).m⟩ hs1 zRT zRT zRT ?_
    refine zc (i+1,M.set i ⟨(G 11).A,s.xs++[false],(G 11).m⟩) ⟨by simp only;omega,?_⟩ zRi zRS zRQ
    simp only
    rw [List.map_set,hM,hsx,← hcs,zNo hil]
   ·obtain rfl:i=c.beds.length:=by omega
    (repeat' (first|((with_reducible refine zG ?_);first|refine zE rfl rfl rfl rfl rfl ?_|(refine zQ rfl rfl rfl rfl rfl rfl rfl (fun h=>?_) (fun h=>?_)<;>(dsimp only [cmpP] at h;(try (exfalso;omega))))|refine zg rfl rfl rfl rfl rfl rfl zRU ?_)|(with_reducible first|refine zI ?_|refine zB ?_|refine zD ?_|refine zA ?_|refine zk ?_|refine zi ?_|refine zR ?_|refine zY ?_)|((with_reducible refine zF ?_ ?_);(· exact rfl))))
    refine zc (j+1,M) ⟨by simp only;omega,?_⟩ zRi zRS zRQ
    simp only
    rw [hM,zNp,zGh]

  ·simp only [if_true] at hce
   (repeat' (first|((with_reducible refine zG ?_);first|refine zE rfl rfl rfl rfl rfl ?_|refine zC rfl rfl rfl rfl rfl ?_|(refine zK rfl rfl rfl rfl rfl ?_;refine ⟨_,rfl,?_⟩)|refine zd rfl rfl rfl rfl rfl ?_|(refine zQ rfl rfl rfl rfl rfl rfl rfl (fun h=>?_) (fun h=>?_)<;>(dsimp only [cmpP] at h;(try (exfalso;omega))))|refine zCR (enc:=encI) (i:=j) uc rfl rfl rfl rfl rfl rfl rfl rfl zRU ?_|refine ze rfl rfl rfl rfl rfl rfl rfl zRU ?_|refine zp rfl rfl rfl rfl rfl ?_|(refine zf rfl rfl rfl rfl rfl ?_;refine And.intro rfl (And.intro zRY ⟨_,rfl,?_⟩))|(refine zr rfl rfl rfl rfl (fun b=>?_))|refine zBI rfl rfl rfl rfl rfl ?_)|(with_reducible first|refine zI ?_|refine zB ?_|refine zD ?_|refine zA ?_|refine zP ?_|refine zN ?_)|((with_reducible refine zJ ?_ ?_);(· exact rfl))))
   rw [hce]
   obtain ⟨b5,hb5⟩:∃ b5,b5=b:=⟨_,rfl⟩
   subst hb5
   refine zq (ι:=Nat × List (zAH Bool)) [0,2,3,5,28,29,30,48] rfl (fun p=>p.1≤c.beds.length∧p.2.map (·.xs)=zHH c j p.1) (fun p=>[(49,.int .i64 (p.1:Int))]) (fun p=>[.zBV zAF (rowOf zBF 1 4) gm p.2,.row encI 1 3 (.slice (some ⟨gh,0,none⟩) c.hours.length c.hours.length) (zCI c (j+1)),.zBV zAF (rowOf encI 1 3) gn L,.blk gx [.slice (some ⟨gn,0,none⟩) c.beds.length c.beds.length,.slice (some ⟨gm,0,none⟩) c.beds.length c.beds.length,.slice (some ⟨gh,0,none⟩) c.hours.length c.hours.length],.blk b5 (zw ⟨um,ur,uc,true⟩),.blk b2 [.slice none 0 0,.slice none 0 0,.slice none 0 0]]) (fun p=>c.beds.length - p.1) (0,M) ⟨Nat.zero_le _,hM⟩ zRS zRQ ?_
   rintro ⟨i,M⟩ ⟨hi,hM⟩
   simp only at hi hM
   simp only [zAn,List.cons_append,List.nil_append]
   have hMl:M.length=c.beds.length:=by
    have:=congrArg List.length hM
    simp [zHH] at this;omega
   by_cases hil:i<c.beds.length
   ·obtain ⟨s,hs1⟩:∃ s,M[i]?=some s:=⟨_,List.getElem?_eq_getElem zRU⟩
    have hsx:s.xs=zEZ c j:=by
     have h1:=zPn (c:=c) (h:=j) hil
     rw [← hM,List.getElem?_map,hs1] at h1
     exact Option.some.inj h1
    have hsl:s.xs.length≤12:=by rw [hsx,hcl];omega
    (repeat' (first|((with_reducible refine zG ?_);first|refine zE rfl rfl rfl rfl rfl ?_|refine zC rfl rfl rfl rfl rfl ?_|(refine zQ rfl rfl rfl rfl rfl rfl rfl (fun h=>?_) (fun h=>?_)<;>(dsimp only [cmpP] at h;(try (exfalso;omega)))))|(with_reducible first|refine zI ?_|refine zB ?_|refine zD ?_|refine zA ?_|refine zP ?_|refine zN ?_)|((with_reducible refine zJ ?_ ?_);(· exact rfl))))
    refine zC9 i hs1 zRT ?_
    have:zAP (M.set i s) i s:=⟨List.getElem?_set_self zRU⟩
    simp only [rowOf]
    (refine zAc [] [(11,0,0,[.row zBF 1 4 (.slice s.A s.xs.length s.c) s.xs])] [(11,0,0)] rfl (show ([11]:List Nat).Nodup by decide) (H0:=[.arr zAF 1 gm (M.set i s),.blk gx [.slice (some ⟨gn,0,none⟩) c.beds.length c.beds.length,.slice (some ⟨gm,0,none⟩) c.beds.length c.beds.length,.slice (some ⟨gh,0,none⟩) c.hours.length c.hours.length],.blk b5 (zw ⟨um,ur,uc,true⟩),.all ((M.eraseIdx i).map (rowOf zBF 1 4)),.row encI 1 3 (.slice (some ⟨gh,0,none⟩) c.hours.length c.hours.length) (zCI c (j+1)),.zBV zAF (rowOf encI 1 3) gn L,.blk b2 [.slice none 0 0,.slice none 0 0,.slice none 0 0]]) (fun _ h=>h.sub zRQ) zRW [[],[I0],[O0,O0],[O0,O0,O0],[I0,O0,O0,O0],[O0,O0,O0,O0,O0],[I0,I0,I0,O0,O0,O0],[I0,I0,I0,I0,O0,O0,O0],[O0,O0,O0,O0,O0,O0,O0,O0],[I0,O0,O0,O0,O0,O0,O0,O0,O0],[I0,I0,O0,O0,O0,O0,O0,O0,O0,O0],[I0,I0,I0,I0,I0,I0,I0,I0,O0,O0,O0],[I0,I0,I0,I0,I0,I0,I0,I0,I0,I0,I0,I0],[I0,I0,I0,I0,I0,I0,I0,I0,I0,I0,I0,I0,I0]] zRW zRW zRW zRW zRW ?_)
    (repeat' (first|(((with_reducible refine zCT ?_ ?_);(· exact rfl);refine ⟨_,fun G=>zRX,?_⟩);first|refine zX _ (fun _=>zAM rfl rfl) (fun _=>rfl) rfl zRR ?_|refine zX _ (fun _=>zy rfl rfl zRe) (fun _=>rfl) rfl zRR ?_|(refine zAU rfl ?_;refine zX _ (fun _=>zAJ rfl rfl) (fun _=>rfl) rfl zRR ?_)|refine zX _ (fun _=>zAO rfl rfl rfl rfl zRU) (fun _=>rfl) rfl zRR ?_|refine zBu rfl (fun _=>rfl) rfl (fun _=>rfl) zRe (by exact fun _=>rfl) zRR ?_)|(refine zDn (enc:=zBF) (xs:=s.xs) (vx:=.slice s.A s.xs.length s.c) [true] List.mem_cons_self rfl rfl (fun _=>rfl) rfl (fun _=>rfl) (fun _=>rfl) rfl (fun G=>zRX) (fun _ W hW h=>zAd (enc:=zBF) zRe W hW h) ⟨by simp;omega,by decide⟩ ?_)|((with_reducible refine zBU ?_ ?_);(· exact rfl))))
    intro G
    simp only [regsT,List.nil_append,List.cons_append]
    refine zB6 (H':=[.row zBF 1 4 (.slice (G 11).A (s.xs++[true]).length (G 11).m) (s.xs++[true]),.arr zAF 1 gm (M.set i s),.blk gx [.slice (some ⟨gn,0,none⟩) c.beds.length c.beds.length,.slice (some ⟨gm,0,none⟩) c.beds.length c.beds.length,.slice (some ⟨gh,0,none⟩) c.hours.length c.hours.length],.blk b5 (zw ⟨um,ur,uc,true⟩),.all ((M.eraseIdx i).map (rowOf zBF 1 4)),.row encI 1 3 (.slice (some ⟨gh,0,none⟩) c.hours.length c.hours.length) (zCI c (j+1)),.zBV zAF (rowOf encI 1 3) gn L,.blk b2 [.slice none 0 0,.slice none 0 0,.slice none 0 0]]) (fun _ h=>h.sub zRQ) ?_
    (repeat' (first|((with_reducible refine zG ?_);first|refine zE rfl rfl rfl rfl rfl ?_|refine zDG (i:=i) (s:=s) ⟨(G 11).A,s.xs++[true],(G 11).m⟩ rfl rfl rfl rfl rfl rfl zRT zRU ?_|refine zg rfl rfl rfl rfl rfl rfl zRU ?_)|(with_reducible first|refine zB ?_|refine zD ?_|refine zA ?_|refine zi ?_)))
    refine zC8 i (re:=rowOf zBF 1 4) ⟨(G 11).A,s.xs++[true],(G 11).m⟩ hs1 zRT zRT zRT ?_
    refine zc (i+1,M.set i ⟨(G 11).A,s.xs++[true],(G 11).m⟩) ⟨by simp only;omega,?_⟩ zRi zRS zRQ
    simp only
    rw [List.map_set,hM,hsx,← hcs,zNo hil]
   ·obtain rfl:i=c.beds.length:=by omega
    (repeat' (first|((with_reducible refine zG ?_);first|refine zE rfl rfl rfl rfl rfl ?_|(refine zQ rfl rfl rfl rfl rfl rfl rfl (fun h=>?_) (fun h=>?_)<;>(dsimp only [cmpP] at h;(try (exfalso;omega))))|refine zg rfl rfl rfl rfl rfl rfl zRU ?_)|(with_reducible first|refine zI ?_|refine zB ?_|refine zD ?_|refine zA ?_|refine zk ?_|refine zi ?_|refine zR ?_|refine zY ?_)|((with_reducible refine zF ?_ ?_);(· exact rfl))))
    refine zc (j+1,M) ⟨by simp only;omega,?_⟩ zRi zRS zRQ
    simp only
    rw [hM,zNp,zGh]

 ·obtain rfl:j=c.hours.length:=by omega
  (repeat' (first|((with_reducible refine zG ?_);first|(refine zK rfl rfl rfl rfl rfl ?_;refine ⟨_,rfl,?_⟩)|(refine zQ rfl rfl rfl rfl rfl rfl rfl (fun h=>?_) (fun h=>?_)<;>(dsimp only [cmpP] at h;(try (exfalso;omega))))|(refine zf rfl rfl rfl rfl rfl ?_;refine And.intro rfl (And.intro zRY ⟨_,rfl,?_⟩)))|(with_reducible first|refine zI ?_|refine zB ?_|refine zD ?_|refine zA ?_|refine za ?_|refine zk ?_|refine zR ?_|refine zY ?_)|((with_reducible refine zF ?_ ?_);(· exact rfl))))
  refine zU zRo ((gn,L),(gm,M),gh) ⟨hL,?_⟩ rfl (fun _ h=>?_)
  ·simp only;rw [hM,zGh];simp [zEZ,zCs]
  ·rw [← zPB];exact h.sub zRQ
end Go.Proofs.YtdigopgncfhiaaaGreatDoor.Two
namespace Go.Proofs.YtdigopgncfhiaaaGreatDoor
variable {ro : Option Nat}
open Go.RowKit
set_option linter.unusedSectionVars false
section
variable {P : Program} {w0:World} {n:Nat} {d:List Deferred} {R:List (Nat × Value)} {H:List Ent} {Q:Exit→Act→World→Prop} {ops:Array Oper} {rest:List Oper} {o:Oper} {t:Tmp} {x y:Operand} {T T':TypeId} {k k':IntKind} {i j:Int}
theorem e_shr {m h:Nat} (hop:o.op = .binOp .shr T x y T') (hx:evR R x=some (.int .i64 (m:Int))) (hy:evR R y=some (.int k' (h:Int))) (hh:h≤64):Ev P w0 n d R H o (.int .i64 ((m >>> h:Nat):Int)) :=
 (fun a w q=>by
  unfold execOp;rw [hop]
  have e1:((m:Int).fdiv (2 ^ h))=((m >>> h:Nat):Int):=by
   rw [Nat.shiftRight_eq_div_pow,Int.fdiv_eq_ediv_of_nonneg _ (by exact Int.le_of_lt (Int.pow_pos zRU))]
   rw [Int.natCast_ediv,Int.natCast_pow];rfl
  have e2:min (h:Int).toNat IntKind.i64.bits=h:=by simp [IntKind.bits];omega
  have e3:¬ ((h:Int)<0):=by omega
  simp only [Sem.run_bind,q.ev hx,q.ev hy,eqGuard,binOp,Op.shift,e3,if_false,e2,e1,Bool.not_false,if_true,Sem.run_pure,Result.andThen_ok])
theorem zMp {m:Nat} (hop:o.op = .binOp .and T x y T') (hx:evR R x=some (.int .i64 (m:Int))) (hy:evR R y=some (.int .i64 1)) (hm:m<4611686018427387904):Ev P w0 n d R H o (.int .i64 ((m % 2:Nat):Int)) :=
 (fun a w q=>by
  unfold execOp;rw [hop]
  have e1:(BitVec.ofInt IntKind.i64.bits (m:Int) &&& BitVec.ofInt IntKind.i64.bits 1).toNat=m % 2:=by
   show (BitVec.ofInt 64 (m:Int) &&& BitVec.ofInt 64 1).toNat=m % 2
   rw [BitVec.toNat_and,BitVec.ofInt_natCast,BitVec.toNat_ofNat,Nat.mod_eq_of_lt zRU]
   have:(BitVec.ofInt 64 1).toNat=1:=by decide
   rw [this,Nat.and_one_is_mod]
  have e2:=IntWalk.i64_in ((m % 2:Nat):Int) zRU
  simp only [Sem.run_bind,q.ev hx,q.ev hy,eqGuard,binOp,Op.intBits,ne_eq,not_true_eq_false,if_false,e1,e2,Bool.not_false,if_true,Sem.run_pure,Result.andThen_ok])
theorem e_shl1 {h:Nat} (hop:o.op = .binOp .shl T x y T') (hx:evR R x=some (.int .i64 1)) (hy:evR R y=some (.int k' (h:Int))) (hh:h≤60):Ev P w0 n d R H o (.int .i64 ((2 ^ h:Nat):Int)) :=
 (fun a w q=>by
  unfold execOp;rw [hop]
  have e2:min (h:Int).toNat IntKind.i64.bits=h:=by simp [IntKind.bits];omega
  have e3:¬ ((h:Int)<0):=by omega
  have hp:2 ^ h≤2 ^ 60:=Nat.pow_le_pow_right zRU hh
  have e4:(1:Int) * 2 ^ h=((2 ^ h:Nat):Int):=by rw [Int.one_mul,Int.natCast_pow];rfl
  have e5:IntKind.i64.wrap ((2 ^ h:Nat):Int)=((2 ^ h:Nat):Int):=by
   generalize 2 ^ h=p at hp
   exact IntWalk.i64_in _ zRU
  simp only [Sem.run_bind,q.ev hx,q.ev hy,eqGuard,binOp,Op.shift,e3,if_false,e2,e4,e5,Bool.not_false,if_true,Sem.run_pure,Result.andThen_ok])
theorem u_anyShr {k':IntKind} (hop:o.op = .binOp .shr T x y T') (hw:want R ops o=some true) (hd:o.dst=some t) (ht:Nat.blt t n=true) (hx:evR R x=some (.int k i)) (hy:evR R y=some (.int k' j)) (hj:0≤j) (h:∀ z,U w0 n d ((t,.int k z)::R) H (wpL ro P ops Q rest)):U w0 n d R H (wpL ro P ops Q (o::rest)):=by
 have e3:¬ (j<0):=by omega
 exact zAb (v:=.int k (i.fdiv (2 ^ (min j.toNat k.bits)))) hw hd ht (fun a w q=>by unfold execOp;rw [hop];simp only [Sem.run_bind,q.ev hx,q.ev hy,eqGuard,binOp,Op.shift,e3,if_false,Bool.not_false,if_true,Sem.run_pure,Result.andThen_ok]) (h _)
theorem zLA {T1 T2:TypeId} {d1:TypeDesc} {s1 s2:Nat} {g1 g2:Bool} {k':IntKind} (hop:o.op = .convert T1 T2 x) [i1:TyI P T1 d1 s1 g1] [i2:TyI P T2 (.int k') s2 g2] (hw:want R ops o=some true) (hd:o.dst=some t) (ht:Nat.blt t n=true) (hx:evR R x=some (.int k i)) (h:∀ z,U w0 n d ((t,.int k' z)::R) H (wpL ro P ops Q rest)):U w0 n d R H (wpL ro P ops Q (o::rest)) :=
 zAb (v:=.int k' (k'.wrap i)) hw hd ht (fun a w q=>by
  unfold execOp;rw [hop]
  have e1:=run_underlying i1.und w
  have e2:=run_underlying i2.und w
  simp [q.ev hx,convert,e1,e2,Conv.intToInt]) (h _)
theorem u_and127 (hop:o.op = .binOp .and T x y T') (hw:want R ops o=some true) (hd:o.dst=some t) (ht:Nat.blt t n=true) (hx:evR R x=some (.int .i64 i)) (hy:evR R y=some (.int .i64 127)) (h:∀ z:Nat,z≤127→U w0 n d ((t,.int .i64 (z:Int))::R) H (wpL ro P ops Q rest)):U w0 n d R H (wpL ro P ops Q (o::rest)):=by
 have hle:(BitVec.ofInt IntKind.i64.bits i &&& BitVec.ofInt IntKind.i64.bits 127).toNat≤127:=by
  show (BitVec.ofInt 64 i &&& BitVec.ofInt 64 127).toNat≤127
  rw [BitVec.toNat_and]
  have:(BitVec.ofInt 64 127).toNat=127:=by decide
  rw [this];exact Nat.and_le_right
 refine zAb (v:=.int .i64 (((BitVec.ofInt IntKind.i64.bits i &&& BitVec.ofInt IntKind.i64.bits 127).toNat:Nat):Int)) hw hd ht (fun a w q=>?_) (h _ hle)
 unfold execOp;rw [hop]
 have e2:=IntWalk.i64_in ((((BitVec.ofInt IntKind.i64.bits i &&& BitVec.ofInt IntKind.i64.bits 127).toNat:Nat)):Int) zRU
 simp only [Sem.run_bind,q.ev hx,q.ev hy,eqGuard,binOp,Op.intBits,ne_eq,not_true_eq_false,if_false,e2,Bool.not_false,if_true,Sem.run_pure,Result.andThen_ok]
end
theorem zMx {m h:Nat}:m.testBit h=decide ((m >>> h) % 2=1):=by
 rw [Nat.testBit_eq_decide_div_mod_eq,Nat.shiftRight_eq_div_pow]
theorem bit_zero {m h:Nat}:(!m.testBit h)=decide ((m >>> h) % 2=0):=by
 rw [zMx]
 have:=Nat.mod_two_eq_zero_or_one (m >>> h)
 rcases this with h|h<;>simp [h]
end Go.Proofs.YtdigopgncfhiaaaGreatDoor
namespace Go.Proofs.YtdigopgncfhiaaaGreatDoor
open Go.RowKit
open Flow (lackF sumL)
set_option maxRecDepth 20000
theorem zKC {nd:Nat→Int} {my sm:Nat→Bool} (hb:∀ h,-1000000≤nd h∧nd h≤1000000):∀ k:Nat,0≤(lackF nd my sm k).1∧(lackF nd my sm k).1≤1000000∧0≤(lackF nd my sm k).2∧(lackF nd my sm k).2≤k
 | 0=>by simp [lackF]
 | k+1=>by
  obtain ⟨h1,h2,h3,h4⟩:=zKC (my:=my) (sm:=sm) hb k
  have:=hb k
  simp only [lackF]
  refine ⟨by omega,by omega,?_,?_⟩<;>split<;>omega
theorem zMl {l:List Int} (h:∀ x∈l,-1000000≤x∧x≤1000000) (i:Nat):-1000000≤l.getD i 0∧l.getD i 0≤1000000:=by
 by_cases hi:i<l.length
 ·rw [Flow.zm hi];exact h _ (List.getElem_mem hi)
 ·rw [List.getD_eq_getElem?_getD,List.getElem?_eq_none zRU];simp
def zFx (nds:List (List Int)) (mys:List (List Bool)) (m i k:Nat):Int:=(lackF (fun h=>(nds.getD i []).getD h 0) (fun h=>(mys.getD i []).getD h false) m.testBit k).1
def zEo (hs:List Int) (m k:Nat):Int:=sumL (List.range k) (fun h=>if m.testBit h then hs.getD h 0 else 0)
def zJi (nds:List (List Int)) (mys:List (List Bool)) (hs:List Int) (m:Nat):Int:=sumL (List.range nds.length) (fun i=>zFx nds mys m i (nds.getD i []).length) - zEo hs m hs.length
theorem zHV {f:Nat→Int} {u:Int} (h:∀ i,0≤f i∧f i≤u):∀ k:Nat,0≤sumL (List.range k) f∧sumL (List.range k) f≤u * k
 | 0=>by simp [sumL]
 | k+1=>by
  obtain ⟨h1,h2⟩:=zHV h k
  obtain ⟨h3,h4⟩:=h k
  rw [Flow.zAD,Int.natCast_add,Int.mul_add]
  exact ⟨by omega,by omega⟩
theorem getD_map {α β:Type} {f:α→β} {l:List α} {i:Nat} {x:α} {d:β} (h:l[i]?=some x):(l.map f).getD i d=f x:=by
 rw [List.getD_eq_getElem?_getD,List.getElem?_map,h];rfl
structure zEx (L:List (zAH Int)) (M:List (zAH Bool)) (hs:List Int):Prop where
 len:L.length≤20
 len2:M.length=L.length
 row:∀ (i:Nat) (s:zAH Int) (t:zAH Bool),L[i]?=some s→M[i]?=some t→s.xs.length≤t.xs.length
 rlen:∀ s∈L,s.xs.length≤12
 big:∀ s∈L,∀ x∈s.xs,-1000000≤x∧x≤1000000
 hlen:hs.length≤12
 hbig:∀ x∈hs,0≤x∧x≤1000
theorem zEx.big2 {L:List (zAH Int)} {M:List (zAH Bool)} {hs:List Int} (h:zEx L M hs) (i k:Nat):-1000000≤((L.map (·.xs)).getD i []).getD k 0∧((L.map (·.xs)).getD i []).getD k 0≤1000000:=by
 by_cases hi:i<L.length
 ·rw [getD_map (List.getElem?_eq_getElem hi)]
  exact zMl (h.big _ (List.getElem_mem hi)) k
 ·have e:(L.map (·.xs)).getD i []=[]:=by rw [List.getD_eq_getElem?_getD,List.getElem?_eq_none (by rw [List.length_map];omega)];rfl
  rw [e];simp
theorem zEx.zKA {L:List (zAH Int)} {M:List (zAH Bool)} {hs:List Int} (h:zEx L M hs) (m i k:Nat):0≤zFx (L.map (·.xs)) (M.map (·.xs)) m i k∧zFx (L.map (·.xs)) (M.map (·.xs)) m i k≤1000000:=by
 have:=zKC (nd:=fun h=>((L.map (·.xs)).getD i []).getD h 0) (my:=fun h=>((M.map (·.xs)).getD i []).getD h false) (sm:=m.testBit) (h.big2 i) k
 exact ⟨this.1,this.2.1⟩
theorem zEx.zPt {L:List (zAH Int)} {M:List (zAH Bool)} {hs:List Int} (h:zEx L M hs) (m k:Nat):0≤(if m.testBit k then hs.getD k 0 else 0)∧(if m.testBit k then hs.getD k 0 else 0)≤1000:=by
 split
 ·by_cases hi:k<hs.length
  ·rw [Flow.zm hi];exact h.hbig _ (List.getElem_mem hi)
  ·rw [List.getD_eq_getElem?_getD,List.getElem?_eq_none zRU];simp
 ·omega
end Go.Proofs.YtdigopgncfhiaaaGreatDoor
namespace Go.Proofs.YtdigopgncfhiaaaGreatDoor
open Go.RowKit
open Flow (lackF sumL)
set_option maxRecDepth 20000
def zBa (A:Option Addr) (la ca:Nat) (B:Option Addr) (lb cb:Nat) (C:Option Addr) (lc cc:Nat):List Value:=[.slice A la ca,.slice B lb cb,.slice C lc cc]
def zJj (nds:List (List Int)) (mys:List (List Bool)) (hs:List Int) (hour m:Nat):Int:=sumL (List.range nds.length) (fun i=>zFx nds mys m i (hour+1)) - zEo hs m hour
set_option maxHeartbeats 2000000 in
theorem zOx (L:List (zAH Int)) (A:Option Addr) (ca:Nat) (M:List (zAH Bool)) (B:Option Addr) (cb:Nat) (hs:List Int) (C:Option Addr) (cc hour m:Nat) (w:World) (hL:zDU encI 1 w A L) (hM:zDU zBF 1 w B M) (hh:zAB encI 1 w C hs) (hok:zEx L M hs) (hmb:m<1000000) (hr:∀ s∈L,hour<s.xs.length) (hr2:∀ t∈M,hour<t.xs.length) (hr3:hour≤hs.length) :
  Gv Tryz.prog 70 [.agg (zBa A L.length ca B M.length cb C hs.length cc).toArray,.int .i64 (hour:Int),.int .i64 (m:Int)] w (.bool (decide (0<zJj (L.map (·.xs)) (M.map (·.xs)) hs hour m))):=by
 have n1:=hok.len;have n2:=hok.len2;have n3:=hok.hlen
 have hLp:=hL.p;have hMp:=hM.p
 unfold Gv zBa
 (refine zM (n:=76) Tryz.func70 rfl rfl rfl ?_)
 (repeat' (first|((with_reducible refine zG ?_);first|refine zE rfl rfl rfl rfl rfl ?_|refine zC rfl rfl rfl rfl rfl ?_|(refine zK rfl rfl rfl rfl rfl ?_;refine ⟨_,rfl,?_⟩)|refine zd rfl rfl rfl rfl rfl ?_|refine zp rfl rfl rfl rfl rfl ?_|(refine zAI rfl rfl rfl rfl rfl rfl (fun b=>?_)))|(with_reducible first|refine zI ?_|refine zB ?_|refine zD ?_|refine zA ?_|refine zN ?_)))
 obtain ⟨b1,hb1⟩:∃ b1,b1=b:=⟨_,rfl⟩
 subst hb1
 refine zq (ι:=Nat) [3,1,2,15,16] rfl (fun i=>i≤L.length) (fun i=>[(17,.int .i64 (i:Int)),(7,.int .i64 (sumL (List.range i) (fun i=>zFx (L.map (·.xs)) (M.map (·.xs)) m i (hour+1))))]) (fun _=>[.blk b1 [.slice A L.length ca,.slice B M.length cb,.slice C hs.length cc]]) (fun i=>L.length - i) 0 (Nat.zero_le _) zRS zRQ ?_
 rintro i hi
 simp only [zAn,List.cons_append,List.nil_append]
 by_cases hlt:i<L.length
 ·obtain ⟨s,hs1⟩:∃ s,L[i]?=some s:=⟨_,List.getElem?_eq_getElem hlt⟩
  obtain ⟨t,ht1⟩:∃ t,M[i]?=some t:=⟨_,List.getElem?_eq_getElem zRU⟩
  obtain ⟨b2,o2,rfl,_,_⟩:=hLp.at_ hlt
  obtain ⟨b3,o3,rfl,_,_⟩:=hMp.at_ (i:=i) zRU
  have:InS w b2 o2 zAF 1 L:=⟨hLp⟩
  have:InS w b3 o3 zAF 1 M:=⟨hMp⟩
  have:zAP L i s:=⟨hs1⟩
  have:zAP M i t:=⟨ht1⟩
  have hsx:=hL.rows s (List.mem_of_getElem? hs1)
  have htx:=hM.rows t (List.mem_of_getElem? ht1)
  have hsl:=hr s (List.mem_of_getElem? hs1)
  have htl:=hr2 t (List.mem_of_getElem? ht1)
  have hsum:=zHV (fun i=>hok.zKA m i (hour+1)) i
  have e2:=Flow.zAD (fun i=>zFx (L.map (·.xs)) (M.map (·.xs)) m i (hour+1)) i
  have e3:∀ k,zFx (L.map (·.xs)) (M.map (·.xs)) m i k=(lackF (fun h=>s.xs.getD h 0) (fun h=>t.xs.getD h false) m.testBit k).1:=fun k=>by
   unfold zFx
   rw [getD_map hs1,getD_map ht1]
  have e4:=hok.zKA m i (hour+1)
  have hbg:=zMl (hok.big s (List.mem_of_getElem? hs1))
  have hrl:=hok.rlen s (List.mem_of_getElem? hs1)
  rw [e3] at e2 e4
  generalize sumL (List.range i) (fun i=>zFx (L.map (·.xs)) (M.map (·.xs)) m i (hour+1))=p at *
  clear e3
  obtain ⟨sA,sx,sc⟩:=s
  obtain ⟨tA,tx,tc⟩:=t
  simp only at hsx htx hsl htl e2 e4 hbg hrl
  obtain ⟨b4,o4,rfl,_,_⟩:=hsx.at_ (i:=0) zRU
  obtain ⟨b5,o5,rfl,_,_⟩:=htx.at_ (i:=0) zRU
  have:InS w b4 o4 encI 1 sx:=⟨hsx⟩
  have:InS w b5 o5 zBF 1 tx:=⟨htx⟩
  (repeat' (first|((with_reducible refine zG ?_);first|refine zE rfl rfl rfl rfl rfl ?_|refine zC rfl rfl rfl rfl rfl ?_|(refine zK rfl rfl rfl rfl rfl ?_;refine ⟨_,rfl,?_⟩)|(refine zQ rfl rfl rfl rfl rfl rfl rfl (fun h=>?_) (fun h=>?_)<;>(dsimp only [cmpP] at h;(try (exfalso;omega))))|refine zg rfl rfl rfl rfl rfl rfl zRU ?_|refine ze rfl rfl rfl rfl rfl rfl rfl zRU ?_)|(with_reducible first|refine zI ?_|refine zB ?_|refine zD ?_|refine zA ?_|refine zP ?_|refine zN ?_)|((with_reducible refine zJ ?_ ?_);(· exact rfl))))
  refine zq (ι:=Nat) [3,1,2,15,16,17,7,8,9,23] rfl (fun k=>k≤hour+1) (fun k=>[(24,.int .i64 (k:Int)),(10,.int .i64 (lackF (fun h=>sx.getD h 0) (fun h=>tx.getD h false) m.testBit k).1),(11,.int .i64 (lackF (fun h=>sx.getD h 0) (fun h=>tx.getD h false) m.testBit k).2)]) (fun _=>[.blk b1 [.slice (some ⟨b2,o2,none⟩) L.length ca,.slice (some ⟨b3,o3,none⟩) M.length cb,.slice C hs.length cc]]) (fun k=>hour+1 - k) 0 (Nat.zero_le _) zRS zRQ ?_
  rintro k hk
  simp only [zAn,List.cons_append,List.nil_append]
  by_cases hkl:k<hour+1
  ·have hin:=zKC (nd:=fun h=>sx.getD h 0) (my:=fun h=>tx.getD h false) (sm:=m.testBit) hbg k
   have hbx:=hbg k
   have:zAP sx k (sx.getD k 0):=⟨by rw [Flow.zm zRU];simp⟩
   have e1:lackF (fun h=>sx.getD h 0) (fun h=>tx.getD h false) m.testBit (k+1)=(max (lackF (fun h=>sx.getD h 0) (fun h=>tx.getD h false) m.testBit k).1 (sx.getD k 0 - (lackF (fun h=>sx.getD h 0) (fun h=>tx.getD h false) m.testBit k).2),if (tx.getD k false && !m.testBit k)=true then (lackF (fun h=>sx.getD h 0) (fun h=>tx.getD h false) m.testBit k).2+1 else (lackF (fun h=>sx.getD h 0) (fun h=>tx.getD h false) m.testBit k).2):=rfl
   have hg:tx[k]?=some (tx.getD k false):=by rw [Flow.zm zRU];simp
   have hb2:=Nat.shiftRight_le m k
   rw [bit_zero] at e1
   clear e2 e4
   generalize lackF (fun h=>sx.getD h 0) (fun h=>tx.getD h false) m.testBit k=pp at *
   generalize tx.getD k false=z at *
   generalize sx.getD k 0=x at *
   have:zAP tx k z:=⟨hg⟩
   cases z
   ·simp only [Bool.false_and,Bool.false_eq_true,if_false] at e1
    (repeat' (first|((with_reducible refine zG ?_);first|refine zE rfl rfl rfl rfl rfl ?_|refine zC rfl rfl rfl rfl rfl ?_|(refine zK rfl rfl rfl rfl rfl ?_;refine ⟨_,rfl,?_⟩)|refine zd rfl rfl rfl rfl rfl ?_|refine zAg rfl rfl rfl rfl rfl rfl ?_|refine zAN rfl rfl rfl ?_|(refine zQ rfl rfl rfl rfl rfl rfl rfl (fun h=>?_) (fun h=>?_)<;>(dsimp only [cmpP] at h;(try (exfalso;omega))))|refine ze (I:=k) rfl rfl rfl rfl rfl rfl rfl (by dsimp only;omega) ?_|refine zg rfl rfl rfl rfl rfl rfl zRU ?_|refine zCc rfl rfl rfl rfl rfl rfl (IntWalk.i64_in _ zRU) ?_|refine ze rfl rfl rfl rfl rfl rfl rfl zRU ?_|refine zJX rfl rfl rfl rfl rfl rfl ?_)|(with_reducible first|refine zI ?_|refine zB ?_|refine zD ?_|refine zA ?_|refine zP ?_|refine zN ?_|refine zi ?_)|((with_reducible refine zJ ?_ ?_);(· exact rfl))|((with_reducible refine zF ?_ ?_);(· exact rfl))))
    exact zc (k+1) zRU zRU (by rw [e1];(first|exact lK1|(repeat (first|exact lK1|(refine zL rfl ?_))))) zRQ
   ·simp only [Bool.true_and,decide_eq_true_eq] at e1
    (repeat' (first|((with_reducible refine zG ?_);first|refine zE rfl rfl rfl rfl rfl ?_|refine zC rfl rfl rfl rfl rfl ?_|(refine zK rfl rfl rfl rfl rfl ?_;refine ⟨_,rfl,?_⟩)|refine zd rfl rfl rfl rfl rfl ?_|refine zAg rfl rfl rfl rfl rfl rfl ?_|(refine zQ rfl rfl rfl rfl rfl rfl rfl (fun h=>?_) (fun h=>?_)<;>(dsimp only [cmpP] at h;(try (exfalso;omega))))|refine ze (I:=k) rfl rfl rfl rfl rfl rfl rfl (by dsimp only;omega) ?_|refine zAb rfl rfl rfl (e_shr rfl rfl rfl zRU) ?_|refine zAb rfl rfl rfl (zMp rfl rfl rfl zRU) ?_|refine zg rfl rfl rfl rfl rfl rfl zRU ?_|refine zCX rfl rfl rfl rfl rfl rfl (IntWalk.i64_in _ zRU) ?_|refine zCc rfl rfl rfl rfl rfl rfl (IntWalk.i64_in _ zRU) ?_|refine ze rfl rfl rfl rfl rfl rfl rfl zRU ?_|refine zJX rfl rfl rfl rfl rfl rfl ?_)|(with_reducible first|refine zI ?_|refine zB ?_|refine zD ?_|refine zA ?_|refine zP ?_|refine zN ?_|refine zi ?_)|((with_reducible refine zJ ?_ ?_);(· exact rfl))|((with_reducible refine zF ?_ ?_);(· exact rfl))))
    ·exact zc (k+1) zRU zRU (by rw [e1,if_pos zRU];(first|exact lK1|(repeat (first|exact lK1|(refine zL rfl ?_))))) zRQ
    ·exact zc (k+1) zRU zRU (by rw [e1,if_neg zRU];(first|exact lK1|(repeat (first|exact lK1|(refine zL rfl ?_))))) zRQ
  ·obtain rfl:k=hour+1:=by omega
   (repeat' (first|((with_reducible refine zG ?_);first|refine zE rfl rfl rfl rfl rfl ?_|refine zC rfl rfl rfl rfl rfl ?_|(refine zQ rfl rfl rfl rfl rfl rfl rfl (fun h=>?_) (fun h=>?_)<;>(dsimp only [cmpP] at h;(try (exfalso;omega))))|refine zg rfl rfl rfl rfl rfl rfl zRU ?_|refine zCX rfl rfl rfl rfl rfl rfl (IntWalk.i64_in _ zRU) ?_)|(with_reducible first|refine zI ?_|refine zB ?_|refine zD ?_|refine zA ?_|refine zk ?_|refine zi ?_|refine zR ?_|refine zY ?_)|((with_reducible refine zF ?_ ?_);(· exact rfl))))
   exact zc (i+1) zRU zRU (by rw [e2];(first|exact lK1|(repeat (first|exact lK1|(refine zL rfl ?_))))) zRQ
 obtain rfl:i=L.length:=by omega
 (repeat' (first|((with_reducible refine zG ?_);first|refine zE rfl rfl rfl rfl rfl ?_|(refine zQ rfl rfl rfl rfl rfl rfl rfl (fun h=>?_) (fun h=>?_)<;>(dsimp only [cmpP] at h;(try (exfalso;omega)))))|(with_reducible first|refine zI ?_|refine zB ?_|refine zD ?_|refine zA ?_|refine zN ?_|refine zk ?_|refine zR ?_|refine zY ?_)|((with_reducible refine zF ?_ ?_);(· exact rfl))))
 have hsum:=zHV (fun i=>hok.zKA m i (hour+1)) L.length
 have hfin:zJj (L.map (·.xs)) (M.map (·.xs)) hs hour m=sumL (List.range L.length) (fun i=>zFx (L.map (·.xs)) (M.map (·.xs)) m i (hour+1)) - zEo hs m hour:=by unfold zJj;rw [List.length_map]
 rw [hfin]
 generalize sumL (List.range L.length) (fun i=>zFx (L.map (·.xs)) (M.map (·.xs)) m i (hour+1))=p at *
 refine zq (ι:=Nat) [3,2,57] rfl (fun h=>h≤hour) (fun h=>[(58,.int .i64 (h:Int)),(7,.int .i64 (p - zEo hs m h))]) (fun _=>[.blk b1 [.slice A L.length ca,.slice B M.length cb,.slice C hs.length cc]]) (fun h=>hour - h) 0 (Nat.zero_le _) (by rw [show zEo hs m 0=0 from rfl,Int.sub_zero];(first|exact lK1|(repeat (first|exact lK1|(refine zL rfl ?_))))) zRQ ?_
 rintro k hk
 simp only [zAn,List.cons_append,List.nil_append]
 by_cases hlt:k<hour
 ·obtain ⟨b2,o2,rfl,_,_⟩:=hh.at_ (i:=k) zRU
  have:InS w b2 o2 encI 1 hs:=⟨hh⟩
  have:zAP hs k (hs.getD k 0):=⟨by rw [Flow.zm zRU];simp⟩
  have hsum2:0≤zEo hs m k∧zEo hs m k≤1000 * k:=zHV (hok.zPt m) k
  have e2:zEo hs m (k+1)=zEo hs m k+(if m.testBit k then hs.getD k 0 else 0):=Flow.zAD _ k
  have hx:0≤hs.getD k 0∧hs.getD k 0≤1000:=by rw [Flow.zm zRU];exact hok.hbig _ (List.getElem_mem zRU)
  rw [zMx] at e2
  have hb2:=Nat.shiftRight_le m k
  generalize hs.getD k 0=x at *
  generalize zEo hs m k=r at *
  have e5:(if decide ((m >>> k) % 2=1)=true then x else 0)=((m >>> k % 2:Nat):Int) * x:=by
   rcases Nat.mod_two_eq_zero_or_one (m >>> k) with h|h<;>simp [h]
  rw [e5] at e2
  have e6:0≤((m >>> k % 2:Nat):Int) * x∧((m >>> k % 2:Nat):Int) * x≤1000:=by
   rw [← e5];split<;>omega
  (repeat' (first|((with_reducible refine zG ?_);first|refine zE rfl rfl rfl rfl rfl ?_|refine zC rfl rfl rfl rfl rfl ?_|(refine zQ rfl rfl rfl rfl rfl rfl rfl (fun h=>?_) (fun h=>?_)<;>(dsimp only [cmpP] at h;(try (exfalso;omega)))))|(with_reducible first|refine zI ?_|refine zB ?_|refine zD ?_|refine zA ?_|refine zP ?_|refine zN ?_)|((with_reducible refine zJ ?_ ?_);(· exact rfl))))
  (refine zAr zRW zRW zRW ?_)
  (repeat' (first|((with_reducible refine zBD ?_);first|refine zW (zAM rfl rfl) rfl rfl rfl ?_|refine zW (zy rfl rfl zRe) rfl rfl rfl ?_|refine zW (zAJ rfl rfl) rfl rfl rfl ?_|refine zW (zBe rfl rfl) rfl rfl rfl ?_|refine zW (e_shr rfl rfl rfl zRU) rfl rfl rfl ?_|refine zW (zMp rfl rfl rfl zRU) rfl rfl rfl ?_|refine zW (zFS rfl rfl rfl (IntWalk.i64_in _ zRU)) rfl rfl rfl ?_|refine zW (zGM rfl rfl rfl (IntWalk.i64_in _ zRU)) rfl rfl rfl ?_|refine zW (zAO rfl rfl rfl rfl zRU) rfl rfl rfl ?_)|(with_reducible refine zBw ?_)))
  (repeat' (first|((with_reducible refine zG ?_);first|refine zE rfl rfl rfl rfl rfl ?_|refine zg rfl rfl rfl rfl rfl rfl zRU ?_)|(with_reducible first|refine zB ?_|refine zD ?_|refine zA ?_|refine zi ?_)))
  exact zc (k+1) zRU zRU (by rw [e2,← Int.sub_sub];(first|exact lK1|(repeat (first|exact lK1|(refine zL rfl ?_))))) zRQ
 ·obtain rfl:k=hour:=by omega
  have hsum2:0≤zEo hs m k∧zEo hs m k≤1000 * k:=zHV (hok.zPt m) k
  (repeat' (first|((with_reducible refine zG ?_);first|refine zE rfl rfl rfl rfl rfl ?_|refine zC rfl rfl rfl rfl rfl ?_|(refine zQ rfl rfl rfl rfl rfl rfl rfl (fun h=>?_) (fun h=>?_)<;>(dsimp only [cmpP] at h;(try (exfalso;omega)))))|(with_reducible first|refine zI ?_|refine zB ?_|refine zD ?_|refine zA ?_|refine za ?_|refine zk ?_|refine zR ?_|refine zY ?_)|((with_reducible refine zF ?_ ?_);(· exact rfl))))
  all_goals exact zU zRZ () trivial (by simp [resV];omega) (fun _ h=>h.sub zRQ)
def zC1 (nds:List (List Int)) (mys:List (List Bool)) (hs:List Int):Bool:=(List.range (2 ^ hs.length)).all fun m=>!decide (0<zJi nds mys hs m)
def zDY (l:List Int):List Int:=l.map fun x=>max 0 (x - 1)
end Go.Proofs.YtdigopgncfhiaaaGreatDoor
