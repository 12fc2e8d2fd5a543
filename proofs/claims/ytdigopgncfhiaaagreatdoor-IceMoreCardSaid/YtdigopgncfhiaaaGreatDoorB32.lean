/- B32 -/
import Derived.Test.YtdigopgncfhiaaaGreatDoorB12
import Derived.Test.YtdigopgncfhiaaaGreatDoorB14
import Derived.Test.YtdigopgncfhiaaaGreatDoorB18
import Derived.Test.YtdigopgncfhiaaaGreatDoorB1
import Derived.Test.YtdigopgncfhiaaaGreatDoorB8
import Derived.Test.YtdigopgncfhiaaaGreatDoorB27
import Derived.Test.YtdigopgncfhiaaaGreatDoorB30
import Derived.Test.YtdigopgncfhiaaaGreatDoorB26
import Derived.Test.YtdigopgncfhiaaaGreatDoorB10
set_option linter.unusedSimpArgs false
set_option linter.unusedVariables false
namespace Go.Proofs.YtdigopgncfhiaaaGreatDoor
open Go.RowKit
open Flow (sumL)
def zCM (xss:List (List Int)):Nat→Nat
 | 0=>0
 | k+1=>zCM xss k+(xss.getD k []).length
theorem zIW {xss:List (List Int)} {k:Nat}:∀ d,zCM xss k≤zCM xss (k+d)
 | 0=>Nat.le_refl _
 | d+1=>by have:=zIW (xss:=xss) (k:=k) d;show _≤zCM xss ((k+d)+1);simp only [zCM];omega
theorem zLg {xss:List (List Int)} {n:Nat}:∀ k,n<zCM xss k→∃ J j,J<k∧j<(xss.getD J []).length∧n=zCM xss J+j
 | 0,h=>by simp [zCM] at h
 | k+1,h=>by
  rcases Nat.lt_or_ge n (zCM xss k) with h1|h1
  ·obtain ⟨J,j,h2,h3,h4⟩:=zLg k h1
   exact ⟨J,j,by omega,h3,h4⟩
  ·simp only [zCM] at h
   exact ⟨k,n - zCM xss k,by omega,by omega,by omega⟩
theorem zNu {xss:List (List Int)} {k j:Nat} (hj:j<k) (h:zCM xss k=0):xss.getD j []=[]:=by
 have h1:=zIW (xss:=xss) (k:=j+1) (k - (j+1))
 rw [show j+1+(k - (j+1))=k by omega,h] at h1
 simp only [zCM] at h1
 exact List.length_eq_zero_iff.1 zRU
def zCi (xss:List (List Int)) (J j:Nat):List (List Int):=xss.set J ((xss.getD J []).eraseIdx j)
theorem zQ7 {xss:List (List Int)} {J j k:Nat} (hJ:J<xss.length):(zCi xss J j).getD k []=if k=J then (xss.getD J []).eraseIdx j else xss.getD k []:=zEV hJ
theorem less_law {c:Cov} (h0:zAp c=0) (hs:Small c) (hc:zC1 (zAu c) (zCs c) (zAk c)=true) {J j:Nat} (hJ:J<c.hours.length) (hj:j<((zAt c).1.getD J []).length):zCC c (zAC (zCi (zAt c).1 J j))=0∧zBN c (zAC (zCi (zAt c).1 J j))≠2:=by
 obtain ⟨h1,h2,h3⟩:=zED h0 hs hc
 have hf:=zAy h0
 generalize (zAt c).1=xss at *
 have hl:xss.length=c.hours.length:=by have:=(zAj.1 h1).1;simpa [zAC] using this
 have hat:=fun k=>zQ7 (j:=j) (k:=k) (show J<xss.length by omega)
 have hok:zA2 c (zAC (zCi xss J j))=true:=by
  refine zAj.2 ⟨by simp [zAC,zCi,hl],fun i u s hu hs2=>?_⟩
  have hi:=(List.getElem?_eq_some_iff.1 hu).1
  have e:s.xs=(zCi xss J j).getD i []:=by rw [← zHX,zAS hs2]
  obtain ⟨s0,hs0⟩:∃ s0,(zAC xss)[i]?=some s0:=⟨_,List.getElem?_eq_getElem (by simp [zAC,hl];exact hi)⟩
  have e0:s0.xs=xss.getD i []:=by rw [← zHX,zAS hs0]
  have hr:=(zAj.1 h1).2 i u s0 hu hs0
  have hsub:s.xs.Sublist s0.xs:=by
   rw [e,e0,hat]
   split
   ·rename_i e2;subst e2;exact List.eraseIdx_sublist _ _
   ·exact List.Sublist.refl _
  have hpw:s.xs.Pairwise (· < ·):=by
   have h9:=(h2 i).1
   rw [← e0] at h9
   exact h9.sublist hsub
  have hlen:=hsub.length_le
  unfold zDL at hr ⊢
  simp only [Bool.and_eq_true,Bool.or_eq_true,decide_eq_true_eq,List.all_eq_true] at hr ⊢
  refine ⟨⟨⟨by omega,?_⟩,fun x hx=>hr.1.2 x (hsub.subset hx)⟩,zCf.2 fun q hq=>?_⟩
  ·rcases hr.1.1.2 with h9|h9
   ·exact .inl zRU
   ·exact .inr h9
  ·rw [Flow.zm zRU,Flow.zm hq]
   exact List.pairwise_iff_getElem.1 hpw q (q+1) zRU hq zRU
 refine ⟨zDs h0 hok,fun hsafe=>?_⟩
 have hth:(zAm c (zAC (zCi xss J j)) zAa).length=0:=by
  unfold zBN at hsafe
  split at hsafe
  ·split at hsafe
   ·assumption
   ·split at hsafe<;>omega
  ·omega
 have hin:(xss.getD J [])[j]∈xss.getD J []:=List.getElem_mem hj
 obtain ⟨i,hi,hib⟩:=(h2 J).2 _ hin
 have hsf:=(zHa hf).1 hth i hib (c.hours.length - 1) zRU
 rw [Nat.sub_add_cancel zRU,← h3 i hib] at hsf
 have hmn:=zFW (xss:=zCi xss J j) (i:=i) (k:=c.hours.length - 1) 1
 rw [Nat.sub_add_cancel zRU] at hmn
 have hcnt:zBY (zCi xss J j) i c.hours.length+1=zBY xss i c.hours.length:=by
  have e1:sumL (List.range c.hours.length) (fun k=>(if ((zCi xss J j).getD k []).contains (i:Int) then 1 else 0)+(if k=J then 1 else 0))=zBY xss i c.hours.length:=zt _ fun k _=>by
   rw [hat]
   by_cases e:k=J
   ·subst e
    rw [if_pos rfl,if_pos rfl]
    have hnd:(xss.getD k []).Nodup:=(h2 k).1.imp fun h=>by omega
    have hno:((xss.getD k []).eraseIdx j).contains (i:Int)=false:=by
     rw [Bool.eq_false_iff]
     intro h9
     have h9:=List.contains_iff_mem.1 h9
     rw [List.mem_eraseIdx_iff_getElem] at h9
     obtain ⟨q,hq,hne,e9⟩:=h9
     rw [← hi] at e9
     rcases Nat.lt_trichotomy q j with h|h|h
     ·have:=List.pairwise_iff_getElem.1 (h2 k).1 q j hq hj h
      omega
     ·exact hne h
     ·have:=List.pairwise_iff_getElem.1 (h2 k).1 j q hj hq h
      omega
    have hyes:(xss.getD k []).contains (i:Int)=true:=List.contains_iff_mem.2 (by rw [← hi];exact hin)
    rw [hno,hyes];rfl
   ·rw [if_neg e,if_neg e,Int.add_zero]
  rw [← e1,Flow.zBQ,Flow.zCp List.nodup_range (List.mem_range.2 hJ)];rfl
 omega
def zFw (c:Cov):List (List Int):=List.replicate c.hours.length []
theorem none_law {c:Cov} (h0:zAp c=0) (hs:Small c) (hc:zC1 (zAu c) (zCs c) (zAk c)=true) (hn:zCM (zAt c).1 c.hours.length=0):zCC c (zAC (zFw c))=0∧zBN c (zAC (zFw c))=2:=by
 obtain ⟨h1,h2,h3⟩:=zED h0 hs hc
 have hf:=zAy h0
 have hz:∀ k,(zFw c).getD k []=[]:=fun k=>by
  unfold zFw
  rw [List.getD_eq_getElem?_getD,List.getElem?_replicate]
  split<;>rfl
 have hok:zA2 c (zAC (zFw c))=true:=by
  refine zAj.2 ⟨by simp [zAC,zFw],fun i u s hu hs2=>?_⟩
  have e:s.xs=[]:=by rw [← hz i,← zHX,zAS hs2]
  have hcr:=hf.hour u (List.mem_of_getElem? hu)
  simp only [zBR,Bool.and_eq_true,zx] at hcr
  unfold zDL
  rw [e]
  simp only [Bool.and_eq_true,Bool.or_eq_true,decide_eq_true_eq,List.all_eq_true,List.length_nil]
  exact ⟨⟨⟨by omega,.inl trivial⟩,fun x hx=>by cases hx⟩,rfl⟩
 have hk:=zDs h0 hok
 refine ⟨hk,?_⟩
 unfold zBN
 rw [if_pos hk,if_pos ((zHa hf).2 fun i hi j hj=>?_)]
 have e:=h3 i hi
 have e0:zBY (zAt c).1 i c.hours.length=0:=Flow.zAT fun k hk=>by rw [zNu (List.mem_range.1 hk) hn];rfl
 have hm:=zHj (c:=c) (z:=c.beds.getD i default) (j+1) (c.hours.length - (j+1))
 rw [show j+1+(c.hours.length - (j+1))=c.hours.length by omega] at hm
 have:0≤zBY (zFw c) i j:=Flow.zA7 fun _ _=>by split<;>omega
 omega
end Go.Proofs.YtdigopgncfhiaaaGreatDoor
namespace Go.Proofs.YtdigopgncfhiaaaGreatDoor
open Go.RowKit
set_option maxRecDepth 20000
set_option maxHeartbeats 2000000 in
theorem zMJ (pl:List Sli) (P:Option Addr) (cp:Nat) (w:World) (hp:zBA w P pl) (h0:0<pl.length) (hl:pl.length≤12) (hrl:∀ s∈pl,s.xs.length≤20) :
  Ret Tryz.prog 31 [.slice P pl.length cp] w (fun p:(Nat × Nat) × List Sli=>.slice (some ⟨p.1.1,0,none⟩) pl.length p.1.2) (fun p=>[.arr zAA 1 p.1.1 p.2,.rows p.2]) (fun p=>p.2.map Sli.xs=pl.map Sli.xs):=by
 have hpp:=hp.p
 (refine zM (n:=24) Tryz.func31 rfl rfl rfl ?_)
 (repeat' (first|((with_reducible refine zG ?_);first|refine zE rfl rfl rfl rfl rfl ?_|refine zC rfl rfl rfl rfl rfl ?_|(refine zB9 zAA rfl rfl rfl rfl (fun b=>?_))|(refine zAq (enc:=zAA) pl rfl rfl rfl rfl rfl zRT rfl rfl (zEu hpp) zRc (fun A' c'=>?_)))|(with_reducible first|refine zI ?_|refine zB ?_|refine zD ?_|refine zA ?_|refine zN ?_)))
 simp only [List.nil_append]
 refine zE2 zRT zRU ?_
 rintro g rfl
 refine zB6 (fun _ h=>Own.zJm h) ?_
 refine zq (ι:=Nat × List Sli) [3] rfl (fun q=>q.1≤pl.length∧q.2.map Sli.xs=(pl.take q.1).map Sli.xs) (fun q=>[(4,.int .i64 (q.1:Int))]) (fun q=>[.rows q.2,.arr zAA 1 g (q.2++pl.drop q.1)]) (fun q=>pl.length - q.1) (0,[]) ⟨Nat.zero_le _,rfl⟩ zRS zRQ ?_
 rintro ⟨i,done⟩ ⟨hi,hx⟩
 simp only at hi hx
 simp only [zAn,List.cons_append,List.nil_append]
 have hdl:done.length=i:=by have:=congrArg List.length hx;simp at this;omega
 by_cases hlt:i<pl.length
 ·obtain ⟨s,hsi⟩:∃ s,pl[i]?=some s:=⟨_,List.getElem?_eq_getElem hlt⟩
  have hsm:=List.mem_of_getElem? hsi
  have hrow:=hp.rows s hsm
  have hsl:=hrl s hsm
  have hg:(done++pl.drop i)[i]?=some s:=by rw [List.getElem?_append_right zRU,List.getElem?_drop,hdl,show i+(i - i)=i by omega];exact hsi
  have hset:∀ z,(done++pl.drop i).set i z=(done++[z])++pl.drop (i+1):=fun z=>by
   rw [List.set_append_right _ _ zRU,hdl,Nat.sub_self,List.drop_eq_getElem_cons hlt,List.set_cons_zero,List.append_assoc];rfl
  have htk:(pl.take (i+1)).map Sli.xs=(pl.take i).map Sli.xs++[s.xs]:=by
   rw [List.take_add_one,hsi];simp
  have:zAP (done++pl.drop i) i s:=⟨hg⟩
  obtain ⟨sA,xs,sc⟩:=s
  simp only at hrow hsl htk
  (repeat' (first|((with_reducible refine zG ?_);first|refine zE rfl rfl rfl rfl rfl ?_|refine zC rfl rfl rfl rfl rfl ?_|(refine zK rfl rfl rfl rfl rfl ?_;refine ⟨_,rfl,?_⟩)|(refine zQ rfl rfl rfl rfl rfl rfl rfl (fun h=>?_) (fun h=>?_)<;>(dsimp only [cmpP] at h;(try (exfalso;omega))))|(refine zB9 encI (e:=3) rfl rfl rfl rfl (fun b=>?_))|(refine zAq (enc:=encI) xs rfl rfl rfl rfl rfl zRT rfl rfl (zEu hrow) zRc (fun A' c'=>?_))|refine ze (I:=i) rfl rfl rfl rfl rfl rfl rfl zRU ?_|refine zB5 (enc:=zAA) (j:=0) (z:=⟨sA,xs,sc⟩) ⟨A',xs,c'⟩ rfl rfl rfl rfl rfl rfl rfl rfl zRs ?_|refine zg rfl rfl rfl rfl rfl rfl zRU ?_|refine zp rfl rfl rfl rfl rfl ?_)|(with_reducible first|refine zI ?_|refine zB ?_|refine zD ?_|refine zA ?_|refine zP ?_|refine zN ?_|refine zi ?_)|((with_reducible refine zJ ?_ ?_);(· exact rfl))))
  refine zB6 (H':=.rows (done++[⟨A',xs,c'⟩])::[.arr zAA 1 g ((done++pl.drop i).set i ⟨A',xs,c'⟩)]) (fun W9 h=>Own.zEN ((h.zCK (enc:=encI) zRT).sub zRQ)) ?_
  rw [hset]
  exact zc (i+1,done++[⟨A',xs,c'⟩]) ⟨by simp only;omega,by simp only [List.map_append,List.map_cons,List.map_nil];rw [htk,hx]⟩ zRi zRS zRQ
 ·obtain rfl:i=pl.length:=by omega
  rw [List.drop_length,List.append_nil]
  rw [List.take_length] at hx
  (repeat' (first|((with_reducible refine zG ?_);first|refine zE rfl rfl rfl rfl rfl ?_|refine zC rfl rfl rfl rfl rfl ?_|(refine zQ rfl rfl rfl rfl rfl rfl rfl (fun h=>?_) (fun h=>?_)<;>(dsimp only [cmpP] at h;(try (exfalso;omega))))|refine zp rfl rfl rfl rfl rfl ?_)|(with_reducible first|refine zI ?_|refine zB ?_|refine zD ?_|refine zA ?_|refine za ?_|refine zk ?_|refine zR ?_|refine zY ?_)|((with_reducible refine zF ?_ ?_);(· exact rfl))))
  exact zU zRZ ((g,c'),done) hx rfl (fun _ h=>h.sub zRQ)
theorem zQc {g e base:Nat} {L:List (zAH Int)} {w:World} {H:List Ent} (h:Own base w (.zBV zAF (rowOf encI 1 e) g L::H)):Own base w (.sl zAA 1 (some ⟨g,0,none⟩) (L.map zAH.sli) :: .rows (L.map zAH.sli)::H):=by
 have h1:Own base w ((.arr zAF 1 g L::L.map (rowOf encI 1 e))++H):=zBn.2 h
 have h2:=zHg h
 obtain ⟨_,_,hx⟩:=List.pairwise_append.1 h1.apart
 have hrow:∀ b,(Ent.rows (L.map zAH.sli)).S b→∃ z∈L,(rowOf encI 1 e z).S b:=fun b hb=>by
  obtain ⟨s,hs,o,ho⟩:=hb
  obtain ⟨z,hz,rfl⟩:=List.mem_map.1 hs
  exact ⟨z,hz,show (Value.slice z.A z.xs.length z.c).ownBlock=some b by rw [show z.A=some ⟨b,o,none⟩ from ho];rfl⟩
 have hsl:∀ b,(Ent.sl zAA 1 (some ⟨g,0,none⟩) (L.map zAH.sli)).S b→b=g:=fun b hb=>by obtain ⟨o,ho⟩:=hb;cases ho;rfl
 have hp:=List.pairwise_cons.1 h2.apart
 refine ⟨fun f hf=>?_,fun f hf b hb=>?_,List.Pairwise.cons (fun f hf b hb hb'=>?_) (List.Pairwise.cons (fun f hf b hb hb'=>?_) ?_)⟩
 ·rcases List.mem_cons.1 hf with rfl|hf
  ·exact h2.here _ zRf
  ·rcases List.mem_cons.1 hf with rfl|hf
   ·exact h2.here _ zRf
   ·exact h1.here f (List.mem_append.2 (.inr hf))
 ·rcases List.mem_cons.1 hf with rfl|hf
  ·exact h2.foot _ zRf b hb
  ·rcases List.mem_cons.1 hf with rfl|hf
   ·exact h2.foot _ zRf b hb
   ·exact h1.foot f (List.mem_append.2 (.inr hf)) b hb
 ·rcases List.mem_cons.1 hf with rfl|hf
  ·exact hp.1 _ zRf b hb hb'
  ·obtain rfl:=hsl b hb
   exact hx (.arr zAF 1 b L) zRf f hf b rfl hb'
 ·obtain ⟨z,hz,hzb⟩:=hrow b hb
  exact hx _ (List.mem_cons_of_mem _ (List.mem_map_of_mem hz)) f hf b hzb hb'
 ·exact (List.pairwise_append.1 h1.apart).2.1
theorem zEB {base:Nat} {w:World} {H H1 H2:List Ent} {P:Option Addr} {pl:List Sli} (h:Own base w H) (ht:Take H (.sl zAA 1 P pl) H1) (ht2:Take H (.rows pl) H2):zBA w P pl:=⟨h.here _ ht.mem,h.here _ ht2.mem⟩
theorem plan_arr {base g:Nat} {w:World} {H H1 H2:List Ent} {pl l:List Sli} (h:Own base w H) (ht:Take H (.arr zAA 1 g pl) H1) (ht2:Take H (.rows l) H2) (hs:∀ s∈pl,s∈l):zBA w (some ⟨g,0,none⟩) pl :=
 ⟨(Own.zM0 ht h).here _ List.mem_cons_self,fun s hm=>(h.here _ ht2.mem:∀ s∈l,zAB encI 1 w s.A s.xs) s (hs s hm)⟩
end Go.Proofs.YtdigopgncfhiaaaGreatDoor
namespace Go.Proofs.YtdigopgncfhiaaaGreatDoor
open Go.RowKit
set_option maxRecDepth 20000
theorem zPp {xss:List (List Int)} (h:∀ r∈xss,r.length≤20):∀ k,zCM xss k≤20 * k
 | 0=>Nat.le_refl _
 | k+1=>by
  have h1:=zPp h k
  have h2:(xss.getD k []).length≤20:=by
   rw [List.getD_eq_getElem?_getD]
   cases e:xss[k]? with
   | none=>simp
   | some r=>exact h r (List.mem_of_getElem? e)
  simp only [zCM];omega
theorem zQY {g base n:Nat} {w:World} {H H':List Ent} (h:Own base w H) (ht:Take H (.blk g (List.replicate n (.slice none 0 0))) H'):∃ pl:List Sli,pl.map Sli.xs=(zAC (List.replicate n [])).map Sli.xs∧zBA w (some ⟨g,0,none⟩) pl:=zNY h ht
set_option maxHeartbeats 4000000 in
theorem zKy (c:Cov) (A:Option Addr) (ca:Nat) (B:Option Addr) (cb:Nat) (C:Option Addr) (cc:Nat) (a:Int) (w:World) (hc:zAl w c A B C) (hfit:zFc c.t) (ha:0≤a∧a≤255) (hG:InC w 0 0 zCS) (hz:zDc c=true→zC1 (zAu c) (zCs c) (zAk c)=true→zCM (zAt c).1 c.hours.length=0) :
  Gv Tryz.prog 5 [zAQ c A ca B cb C cc,.int .u8 a] w (.bool true):=by
 have hAl:=fun W (hW:Below w.heap.size w W)=>zDh W (hG.below hW)
 have hR:=fun W (hW:Below w.heap.size w W)=>zDg c A ca B cb C cc W (hc.below hW) hfit
 cases hr:zDc c
 ·rw [hr] at hR
  unfold zAQ zH at hR ⊢
  unfold Gv
  (refine zM (n:=119) Tryz.func5 rfl rfl rfl ?_)
  (repeat' (first|((with_reducible refine zG ?_);first|refine zE rfl rfl rfl rfl rfl ?_|refine zC rfl rfl rfl rfl rfl ?_|(refine zK rfl rfl rfl rfl rfl ?_;refine ⟨_,rfl,?_⟩)|refine zV rfl rfl rfl rfl rfl rfl (fun _ _ q=>hAl _ q.below) ?_|refine zV rfl rfl rfl rfl rfl rfl (fun _ _ q=>hR _ q.below) ?_|refine zAf rfl rfl rfl rfl rfl ?_|(refine zAI rfl rfl rfl rfl rfl rfl (fun b=>?_)))|(with_reducible first|refine zI ?_|refine zB ?_|refine zD ?_|refine zA ?_|refine za ?_|refine zP ?_|refine zb ?_)|((with_reducible refine zJ ?_ ?_);(· exact rfl))|((with_reducible refine zF ?_ ?_);(· exact rfl))))
  all_goals exact zU zRZ () trivial rfl (fun _ _=>Own.nil _ _)
 ·rw [hr] at hR
  have hs:=zCq hr hfit
  have h0:=(zC5.1 hr).2
  have hf:=zAy h0
  have h4:=hs.b;have h5:=hs.h
  have hPl:=fun W (hW:Below w.heap.size w W)=>zFJ c A ca B cb C cc W (hc.below hW) hs (hG.below hW)
  cases hcan:zC1 (zAu c) (zCs c) (zAk c)
  ·rw [zFj h0 hcan] at hPl
   unfold zAQ zH at hR hPl ⊢
   unfold Gv
   (refine zM (n:=119) Tryz.func5 rfl rfl rfl ?_)
   (repeat' (first|((with_reducible refine zG ?_);first|refine zE rfl rfl rfl rfl rfl ?_|refine zC rfl rfl rfl rfl rfl ?_|(refine zK rfl rfl rfl rfl rfl ?_;refine ⟨_,rfl,?_⟩)|refine zAg rfl rfl rfl rfl rfl rfl ?_|(refine zQ rfl rfl rfl rfl rfl rfl rfl (fun h=>?_) (fun h=>?_)<;>(dsimp only [cmpP] at h;(try (exfalso;omega))))|refine zV rfl rfl rfl rfl rfl rfl (fun _ _ q=>hAl _ q.below) ?_|refine zV rfl rfl rfl rfl rfl rfl (fun _ _ q=>hR _ q.below) ?_|(refine zAV rfl rfl rfl rfl rfl rfl (fun _ _ q=>hPl _ q.below) ?_;rintro ⟨⟨P,cp⟩,pl⟩ -;dsimp only [List.cons_append,List.nil_append])|refine zj rfl rfl rfl rfl rfl rfl ?_|refine zAf rfl rfl rfl rfl rfl ?_|(refine zAI rfl rfl rfl rfl rfl rfl (fun b=>?_)))|(with_reducible first|refine zI ?_|refine zB ?_|refine zD ?_|refine zA ?_|refine za ?_|refine zP ?_|refine zb ?_)|((with_reducible refine zJ ?_ ?_);(· exact rfl))|((with_reducible refine zF ?_ ?_);(· exact rfl))))
   all_goals exact zU zRZ () trivial rfl (fun _ _=>Own.nil _ _)
  ·have hz:=hz hr hcan
   obtain ⟨n1,n2⟩:=none_law h0 hs hcan hz
   have hl:(zAt c).1.length=c.hours.length:=by have:=(zAj.1 (zED h0 hs hcan).1).1;simpa [zAC] using this
   have he:(zAt c).2=0:=by rw [zDw h0 hcan]
   have hS:=fun W (hW:Below w.heap.size w W) P cp hp=>zFl c A ca B cb C cc (zFw c) P cp W (hc.below hW) hs hp (by simp [zFw];omega) (fun r hr=>by rw [List.eq_of_mem_replicate hr];simp) (hG.below hW)
   rw [n1,n2,show (zFw c).length=c.hours.length by simp [zFw]] at hS
   rw [he] at hPl
   unfold zFw at hS
   generalize (zAt c).1=xss at *
   have hrow:∀ i,i<c.hours.length→(xss.getD i [])=[]:=fun i hi=>zNu hi hz
   unfold zAQ zH at hR hPl hS ⊢
   unfold Gv
   (refine zM (n:=119) Tryz.func5 rfl rfl rfl ?_)
   (repeat' (first|((with_reducible refine zG ?_);first|refine zE rfl rfl rfl rfl rfl ?_|refine zC rfl rfl rfl rfl rfl ?_|(refine zK rfl rfl rfl rfl rfl ?_;refine ⟨_,rfl,?_⟩)|(refine zQ rfl rfl rfl rfl rfl rfl rfl (fun h=>?_) (fun h=>?_)<;>(dsimp only [cmpP] at h;(try (exfalso;omega))))|refine zV rfl rfl rfl rfl rfl rfl (fun _ _ q=>hAl _ q.below) ?_|refine zV rfl rfl rfl rfl rfl rfl (fun _ _ q=>hR _ q.below) ?_|(refine zAV rfl rfl rfl rfl rfl rfl (fun _ _ q=>hPl _ q.below) ?_;rintro ⟨⟨P,cp⟩,pl⟩ hx;dsimp only [List.cons_append,List.nil_append])|refine zj rfl rfl rfl rfl rfl rfl ?_|refine zAf rfl rfl rfl rfl rfl ?_|refine zp rfl rfl rfl rfl rfl ?_|(refine zAI rfl rfl rfl rfl rfl rfl (fun b=>?_)))|(with_reducible first|refine zI ?_|refine zB ?_|refine zD ?_|refine zA ?_|refine zP ?_|refine zN ?_)|((with_reducible refine zF ?_ ?_);(· exact rfl))))
   have hpl:pl.length=c.hours.length:=by have:=congrArg List.length hx;simp only [List.length_map] at this;omega
   simp only at hx
   refine zq (ι:=Nat) [1,2,5,6,38,39] rfl (fun i=>i≤pl.length) (fun i=>[(40,.int .i64 (i:Int)),(8,.int .i64 0)]) (fun _=>[.sl zAA 1 P pl,.rows pl,.blk b (zH c A ca B cb C cc)]) (fun i=>pl.length - i) 0 (Nat.zero_le _) zRS zRQ ?_
   rintro i hi
   simp only [zAn,List.cons_append,List.nil_append]
   by_cases hlt:i<pl.length
   ·obtain ⟨s,hsi⟩:∃ s,pl[i]?=some s:=⟨_,List.getElem?_eq_getElem hlt⟩
    have hxs:s.xs=[]:=by
     have h9:=hrow i zRU
     rw [← hx] at h9
     simpa [List.getD_eq_getElem?_getD,hsi] using h9
    obtain ⟨sA,xs,sc⟩:=s
    simp only at hxs
    subst hxs
    refine zE1 zRT (show 0<pl.length by omega) ?_
    rintro b9 o9 rfl
    have:zAP pl i ⟨sA,[],sc⟩:=⟨hsi⟩
    (repeat' (first|((with_reducible refine zG ?_);first|refine zE rfl rfl rfl rfl rfl ?_|refine zC rfl rfl rfl rfl rfl ?_|(refine zK rfl rfl rfl rfl rfl ?_;refine ⟨_,rfl,?_⟩)|(refine zQ rfl rfl rfl rfl rfl rfl rfl (fun h=>?_) (fun h=>?_)<;>(dsimp only [cmpP] at h;(try (exfalso;omega))))|refine ze (I:=i) rfl rfl rfl rfl rfl rfl rfl zRU ?_|refine zp rfl rfl rfl rfl rfl ?_)|(with_reducible first|refine zI ?_|refine zB ?_|refine zD ?_|refine zA ?_|refine zP ?_|refine zN ?_)|((with_reducible refine zJ ?_ ?_);(· exact rfl))))
    simp only [List.length_nil,Int.natCast_zero]
    (repeat' (first|((with_reducible refine zG ?_);first|refine zE rfl rfl rfl rfl rfl ?_|refine zC rfl rfl rfl rfl rfl ?_|refine zg rfl rfl rfl rfl rfl rfl zRU ?_|refine zCX rfl rfl rfl rfl rfl rfl (IntWalk.i64_in _ zRU) ?_)|(with_reducible first|refine zB ?_|refine zD ?_|refine zA ?_|refine zi ?_)))
    simp only [Int.add_zero]
    exact zc (i+1) zRU zRU zRS zRQ
   ·obtain rfl:i=pl.length:=by omega
    (repeat' (first|((with_reducible refine zG ?_);first|refine zE rfl rfl rfl rfl rfl ?_|(refine zQ rfl rfl rfl rfl rfl rfl rfl (fun h=>?_) (fun h=>?_)<;>(dsimp only [cmpP] at h;(try (exfalso;omega)))))|(with_reducible first|refine zI ?_|refine zB ?_|refine zD ?_|refine zA ?_|refine zk ?_|refine zR ?_|refine zY ?_)|((with_reducible refine zJ ?_ ?_);(· exact rfl))|((with_reducible refine zF ?_ ?_);(· exact rfl))))
    (refine Two.zAc [] [] [] rfl (show ([]:List Nat).Nodup by decide) (fun _ h=>h) zRW [[],[O0],[I0,O0],[I0,I0,O0],[I0,I0,I0,O0],[I0,I0,I0,I0,I0],[I0,I0,I0,I0,I0,I0],[I0,I0,I0,I0,I0,I0,I0],[O0,I0,I0,I0,I0,I0,I0,I0],[O0,I0,I0,I0,I0,I0,I0,I0,I0],[I0,I0,I0,I0,I0,I0,I0,I0,I0,I0]] zRW zRW zRW zRW zRW ?_)
    (repeat' (first|(((with_reducible refine Two.zCT ?_ ?_);(· exact rfl);refine ⟨_,fun G=>zRa,?_⟩);first|refine Two.zX _ (fun _=>zAM rfl rfl) (fun _=>rfl) rfl zRR ?_|refine Two.zX _ (fun _=>zy rfl rfl zRe) (fun _=>rfl) rfl zRR ?_|(refine Two.zAU rfl ?_;refine Two.zX _ (fun _=>zAJ rfl rfl) (fun _=>rfl) rfl zRR ?_)|refine Two.zX _ (fun _=>zBe rfl rfl) (fun _=>rfl) rfl zRR ?_|(refine Two.zP3 (v:=.slice none 0 0) rfl rfl rfl rfl rfl rfl (fun _=>rfl) rfl (fun _=>rfl) (fun _=>rfl) zRq ?_)|refine Two.zBM _ rfl (fun _=>rfl) rfl (fun _=>rfl) (fun _=>rfl) (fun _ _ _ q=>hS _ q.below _ _ (zQY q.own zRT)) zRR ?_|refine Two.zX _ (fun _=>zDk rfl rfl rfl) (fun _=>rfl) rfl zRR ?_|refine Two.zX _ (fun _=>zDR rfl rfl) (fun _=>rfl) rfl zRR ?_)|(with_reducible refine Two.zH3 ?_)))
    (intro G;simp only [regsT,zAG,Two.zBZ,Two.ini,List.nil_append,List.cons_append])
    (repeat' (first|((with_reducible refine zG ?_);first|refine zE rfl rfl rfl rfl rfl ?_|refine zC rfl rfl rfl rfl rfl ?_|refine zAg rfl rfl rfl rfl rfl rfl ?_|(refine zQ rfl rfl rfl rfl rfl rfl rfl (fun h=>?_) (fun h=>?_)<;>(dsimp only [cmpP] at h;(try (exfalso;omega)))))|(with_reducible first|refine zI ?_|refine zB ?_|refine zD ?_|refine zA ?_|refine za ?_|refine zb ?_)))
    all_goals exact zU zRZ () trivial rfl (fun _ _=>Own.nil _ _)
end Go.Proofs.YtdigopgncfhiaaaGreatDoor
namespace Go.Proofs.YtdigopgncfhiaaaGreatDoor
open Go.RowKit
theorem zJH {base:Nat} {w:World} {H H':List Ent} {pl:List Sli} {s:Sli} (h:Own base w H) (ht:Take H (.rows pl) H') (hm:s∈pl):zAB encI 1 w s.A s.xs:=(h.here _ ht.mem:∀ s∈pl,zAB encI 1 w s.A s.xs) s hm
end Go.Proofs.YtdigopgncfhiaaaGreatDoor
namespace Go.Proofs.YtdigopgncfhiaaaGreatDoor.Two
variable {ro : Option Nat}
open Go.RowKit
set_option maxRecDepth 20000
set_option maxHeartbeats 4000000 in
theorem zKK (c:Cov) (A:Option Addr) (ca:Nat) (B:Option Addr) (cb:Nat) (C:Option Addr) (cc:Nat) (a:Int) (w:World) (hc:zAl w c A B C) (hfit:zFc c.t) (ha:0≤a∧a≤255) (hG:InC w 0 0 zCS) (hr:zDc c=true) (hcan:zC1 (zAu c) (zCs c) (zAk c)=true) (hz:0<zCM (zAt c).1 c.hours.length) :
  Gv Tryz.prog 5 [zAQ c A ca B cb C cc,.int .u8 a] w (.bool true):=by
 have hAl:=fun W (hW:Below w.heap.size w W)=>zDh W (hG.below hW)
 have hR:=fun W (hW:Below w.heap.size w W)=>zDg c A ca B cb C cc W (hc.below hW) hfit
 rw [hr] at hR
 have hs:=zCq hr hfit
 have h0:=(zC5.1 hr).2
 have hf:=zAy h0
 have h4:=hs.b;have h5:=hs.h
 have hl:(zAt c).1.length=c.hours.length:=by have:=(zAj.1 (zED h0 hs hcan).1).1;simpa [zAC] using this
 have hPl:=fun W (hW:Below w.heap.size w W)=>(zLj c A ca B cb C cc W (hc.below hW) hs (hG.below hW) h0 hcan).conv (V':=fun p:Nat × List (zAH Int)=>.tuple #[.slice (some ⟨p.1,0,none⟩) (p.2.map zAH.sli).length (p.2.map zAH.sli).length,.int .i64 0]) fun p hp=>⟨p,hp,by
  have:p.2.length=c.hours.length:=by have:=congrArg List.length hp;rw [hl] at this;simpa using this
  rw [List.length_map,this],fun _ h=>h⟩
 have hlaw:=fun J j hJ hj=>less_law (J:=J) (j:=j) h0 hs hcan hJ hj
 have hlen:=(zLU hs).2
 generalize (zAt c).1=xss at *
 have hN:=zPp hlen
 have hmn:0<(zCM xss c.hours.length:Int):=by omega
 obtain ⟨m,hm⟩:∃ m:Nat,a % (zCM xss c.hours.length:Int)=(m:Int):=⟨(a % (zCM xss c.hours.length:Int)).toNat,by have:=Int.emod_nonneg a (b:=(zCM xss c.hours.length:Int)) zRU;omega⟩
 have hml:m<zCM xss c.hours.length:=by have:=Int.emod_lt_of_pos a hmn;omega
 obtain ⟨J,j,hJ,hj,hmj⟩:=zLg _ hml
 obtain ⟨k1,k2⟩:=hlaw J j hJ hj
 have hS:=fun W (hW:Below w.heap.size w W) P cp hp=>zFl c A ca B cb C cc (zCi xss J j) P cp W (hc.below hW) hs hp (by simp [zCi];omega) (fun r hr=>by
  rcases List.mem_or_eq_of_mem_set hr with h9|h9
  ·exact hlen r h9
  ·rw [h9]
   refine Nat.le_trans (List.eraseIdx_sublist _ _).length_le ?_
   rw [Flow.zm zRU];exact hlen _ (List.getElem_mem _)) (hG.below hW)
 rw [k1] at hS
 have hfl:(zCi xss J j).length=c.hours.length:=by simp [zCi,hl]
 generalize zBN c (zAC (zCi xss J j))=sf at *
 unfold zAQ zH at hR hPl hS ⊢
 unfold Gv
 (refine zM (n:=119) Tryz.func5 rfl rfl rfl ?_)
 (repeat' (first|((with_reducible refine zG ?_);first|refine zE rfl rfl rfl rfl rfl ?_|refine zC rfl rfl rfl rfl rfl ?_|(refine zK rfl rfl rfl rfl rfl ?_;refine ⟨_,rfl,?_⟩)|(refine zQ rfl rfl rfl rfl rfl rfl rfl (fun h=>?_) (fun h=>?_)<;>(dsimp only [cmpP] at h;(try (exfalso;omega))))|refine zV rfl rfl rfl rfl rfl rfl (fun _ _ q=>hAl _ q.below) ?_|refine zV rfl rfl rfl rfl rfl rfl (fun _ _ q=>hR _ q.below) ?_|(refine zAV rfl rfl rfl rfl rfl rfl (fun _ _ q=>hPl _ q.below) ?_;rintro ⟨b9,L⟩ hx;dsimp only [List.cons_append,List.nil_append])|refine zj rfl rfl rfl rfl rfl rfl ?_|refine zAf rfl rfl rfl rfl rfl ?_|refine zp rfl rfl rfl rfl rfl ?_|(refine zAI rfl rfl rfl rfl rfl rfl (fun b=>?_)))|(with_reducible first|refine zI ?_|refine zB ?_|refine zD ?_|refine zA ?_|refine zP ?_|refine zN ?_)|((with_reducible refine zF ?_ ?_);(· exact rfl))))
 simp only at hx
 refine zQA zRT fun hcaps=>?_
 refine zB6 (fun _ h=>zQc h) ?_
 rw [← zMO] at hx
 have hcaps:∀ s∈L.map zAH.sli,s.xs.length≤s.c:=fun s hs=>by
  obtain ⟨z,hz,rfl⟩:=List.mem_map.1 hs
  exact hcaps z hz
 generalize L.map zAH.sli=pl at *
 have hpl:pl.length=c.hours.length:=by have:=congrArg List.length hx;simp only [List.length_map] at this;omega
 have hat:∀ i s,pl[i]?=some s→xss.getD i []=s.xs:=fun i s h=>by
  rw [← hx,List.getD_eq_getElem?_getD,List.getElem?_map,h];rfl
 rw [← hpl] at hm hml hJ hmn
 refine zq (ι:=Nat) [1,2,5,6,38,39] rfl (fun i=>i≤pl.length) (fun i=>[(40,.int .i64 (i:Int)),(8,.int .i64 (zCM xss i:Int))]) (fun _=>[.sl zAA 1 (some ⟨b9,0,none⟩) pl,.rows pl,.blk b (zH c A ca B cb C cc)]) (fun i=>pl.length - i) 0 (Nat.zero_le _) zRS zRQ ?_
 rintro i hi
 simp only [zAn,List.cons_append,List.nil_append]
 have hNi:=hN i
 by_cases hlt:i<pl.length
 ·obtain ⟨s,hsi⟩:∃ s,pl[i]?=some s:=⟨_,List.getElem?_eq_getElem hlt⟩
  have:zAP pl i s:=⟨hsi⟩
  have e1:(zCM xss (i+1):Int)=(zCM xss i:Int)+(s.xs.length:Int):=by simp only [zCM];rw [hat i s hsi];omega
  have hN1:=hN (i+1)
  (repeat' (first|((with_reducible refine zG ?_);first|refine zE rfl rfl rfl rfl rfl ?_|refine zC rfl rfl rfl rfl rfl ?_|(refine zK rfl rfl rfl rfl rfl ?_;refine ⟨_,rfl,?_⟩)|(refine zQ rfl rfl rfl rfl rfl rfl rfl (fun h=>?_) (fun h=>?_)<;>(dsimp only [cmpP] at h;(try (exfalso;omega))))|refine ze (I:=i) rfl rfl rfl rfl rfl rfl rfl zRU ?_|refine zg rfl rfl rfl rfl rfl rfl zRU ?_|refine zCX rfl rfl rfl rfl rfl rfl (IntWalk.i64_in _ zRU) ?_|refine zp rfl rfl rfl rfl rfl ?_)|(with_reducible first|refine zI ?_|refine zB ?_|refine zD ?_|refine zA ?_|refine zP ?_|refine zN ?_|refine zi ?_)|((with_reducible refine zJ ?_ ?_);(· exact rfl))))
  exact zc (i+1) zRU zRU (by rw [e1];(first|exact lK1|(repeat (first|exact lK1|(refine zL rfl ?_))))) zRQ
 ·obtain rfl:i=pl.length:=by omega
  have hTw:=fun W (hp:zBA W (some ⟨b9,0,none⟩) pl)=>zMJ pl (some ⟨b9,0,none⟩) pl.length W hp zRU zRU (fun s hs=>hlen _ (by rw [← hx];exact List.mem_map_of_mem hs))
  (repeat' (first|((with_reducible refine zG ?_);first|refine zE rfl rfl rfl rfl rfl ?_|refine zC rfl rfl rfl rfl rfl ?_|(refine zQ rfl rfl rfl rfl rfl rfl rfl (fun h=>?_) (fun h=>?_)<;>(dsimp only [cmpP] at h;(try (exfalso;omega))))|(refine zAV rfl rfl rfl rfl rfl rfl (fun _ _ q=>hTw _ (zEB q.own zRT zRT)) ?_;rintro ⟨⟨g,cg⟩,pl2⟩ hx2;dsimp only [List.cons_append,List.nil_append])|refine zp rfl rfl rfl rfl rfl ?_|refine zK9 rfl rfl rfl rfl rfl (IntWalk.i64_in _ zRU) ?_|refine u_rem rfl rfl rfl rfl rfl rfl zRU zRU ?_)|(with_reducible first|refine zI ?_|refine zB ?_|refine zD ?_|refine zA ?_|refine zP ?_|refine zN ?_|refine zk ?_|refine zR ?_|refine zY ?_)|((with_reducible refine zF ?_ ?_);(· exact rfl))))
  rw [hm]
  simp only at hx2
  have hpl2:pl2.length=pl.length:=by have:=congrArg List.length hx2;simpa using this
  have hJ0:(m:Int) - ((zCM xss 0:Nat):Int)=(m:Int):=by simp [zCM]
  refine zq (ι:=Nat) [2,5,14,75,76] rfl (fun i=>i≤J) (fun i=>[(77,.int .i64 (i:Int)),(13,.int .i64 ((m:Int) - ((zCM xss i:Nat):Int)))]) (fun _=>[.arr zAA 1 g pl2,.rows pl2,.sl zAA 1 (some ⟨b9,0,none⟩) pl,.rows pl,.blk b (zH c A ca B cb C cc)]) (fun i=>J - i) 0 (Nat.zero_le _) (by rw [hJ0];(first|exact lK1|(repeat (first|exact lK1|(refine zL rfl ?_))))) zRQ ?_
  clear hNi hi hlt
  rintro i hi
  simp only [zAn,List.cons_append,List.nil_append]
  obtain ⟨s,hsi⟩:∃ s,pl[i]?=some s:=⟨_,List.getElem?_eq_getElem zRU⟩
  have hsm:=List.mem_of_getElem? hsi
  have:zAP pl i s:=⟨hsi⟩
  have hNi:=hN i
  have e1:zCM xss (i+1)=zCM xss i+s.xs.length:=by simp only [zCM];rw [hat i s hsi]
  have hmx:zCM xss pl.length≤240:=Nat.le_trans (hN _) zRU
  by_cases hlt:i<J
  ·have hmo:=zIW (xss:=xss) (k:=i+1) (J - (i+1))
   rw [show i+1+(J - (i+1))=J by omega] at hmo
   (repeat' (first|((with_reducible refine zG ?_);first|refine zE rfl rfl rfl rfl rfl ?_|refine zC rfl rfl rfl rfl rfl ?_|(refine zK rfl rfl rfl rfl rfl ?_;refine ⟨_,rfl,?_⟩)|(refine zQ rfl rfl rfl rfl rfl rfl rfl (fun h=>?_) (fun h=>?_)<;>(dsimp only [cmpP] at h;(try (exfalso;omega))))|refine ze (I:=i) rfl rfl rfl rfl rfl rfl rfl zRU ?_|refine zg rfl rfl rfl rfl rfl rfl zRU ?_|refine zCc rfl rfl rfl rfl rfl rfl (IntWalk.i64_in _ zRU) ?_|refine zp rfl rfl rfl rfl rfl ?_)|(with_reducible first|refine zI ?_|refine zB ?_|refine zD ?_|refine zA ?_|refine zP ?_|refine zN ?_|refine zi ?_)|((with_reducible refine zJ ?_ ?_);(· exact rfl))|((with_reducible refine zF ?_ ?_);(· exact rfl))))
   exact zc (i+1) zRU zRU (by rw [e1,show (m:Int) - ((zCM xss i+s.xs.length:Nat):Int)=(m:Int) - (zCM xss i:Int) - (s.xs.length:Int) by omega];(first|exact lK1|(repeat (first|exact lK1|(refine zL rfl ?_))))) zRQ
  ·obtain rfl:i=J:=by omega
   rw [hat i s hsi] at hj
   rw [show (m:Int) - ((zCM xss i:Nat):Int)=(j:Int) by omega]
   have hcs:=hcaps s hsm
   have hsl:s.xs.length≤20:=hlen _ (by rw [← hx];exact List.mem_map_of_mem hsm)
   (repeat' (first|((with_reducible refine zG ?_);first|refine zE rfl rfl rfl rfl rfl ?_|refine zC rfl rfl rfl rfl rfl ?_|(refine zK rfl rfl rfl rfl rfl ?_;refine ⟨_,rfl,?_⟩)|(refine zQ rfl rfl rfl rfl rfl rfl rfl (fun h=>?_) (fun h=>?_)<;>(dsimp only [cmpP] at h;(try (exfalso;omega))))|refine ze (I:=i) rfl rfl rfl rfl rfl rfl rfl zRU ?_|refine zp rfl rfl rfl rfl rfl ?_)|(with_reducible first|refine zI ?_|refine zB ?_|refine zD ?_|refine zA ?_|refine zP ?_|refine zN ?_)|((with_reducible refine zJ ?_ ?_);(· exact rfl))))
   have q1:j - 0=((s.xs.take j).drop 0).length:=by simp;omega
   have q2:s.xs.length - (j+1)=((s.xs.take s.xs.length).drop (j+1)).length:=by simp
   (refine zAc [(2,6),(6,11)] [] [] rfl zRs (fun _ h=>h) zRW [[],[O0],[O0,O0],[O0,O0,O0],[O0,O0,O0,O0],[I0,I0,O0,O0,O0],[I0,I0,I0,I0,O0,O0],[O0,O0,O0,O0,O0,O0,O0],[O0,O0,O0,O0,O0,O0,O0,O0],[I0,O0,O0,O0,O0,O0,O0,O0,O0],[I0,I0,I0,O0,O0,O0,O0,O0,O0,O0],[I0,I0,I0,I0,I0,I0,I0,I0,I0,O0,O0],[I0,I0,I0,I0,I0,I0,I0,I0,I0,I0,I0,I0],[I0,I0,I0,I0,I0,I0,I0,I0,I0,I0,I0,I0,I0]] zRW zRW zRW zRW zRW ?_)
   (repeat' (first|(((with_reducible refine zCT ?_ ?_);(· exact rfl);refine ⟨_,fun G=>zRX,?_⟩);first|refine zX _ (fun _=>zAM rfl rfl) (fun _=>rfl) rfl zRR ?_|refine zPQ encI rfl (fun _=>rfl) rfl ?_|refine zX _ (fun _=>zPy 0 j rfl rfl rfl rfl rfl rfl zRU zRU) (fun _=>rfl) rfl zRm ?_|refine zX _ (fun _=>zPy (j+1) s.xs.length rfl rfl rfl rfl rfl rfl zRU zRU) (fun _=>rfl) rfl zRm ?_|refine zX _ (fun _=>zIh rfl rfl rfl zRU) (fun _=>rfl) rfl zRR ?_|refine zX _ (fun _=>zAO rfl rfl rfl rfl zRU) (fun _=>rfl) rfl zRR ?_)|(refine zL6 (enc:=encI) (xs:=[]) ((s.xs.take j).drop 0) 2 zRs rfl rfl (fun _=>rfl) rfl (fun _=>rfl) (fun _=>rfl) (fun _=>rfl) q1 (fun G=>zRX) (fun _ W hW h=>zPe (zJH h zRT hsm) zRU zRU) ⟨by simp;omega,by decide⟩ ?_)|(refine zL6 (enc:=encI) (xs:=[]++(s.xs.take j).drop 0) ((s.xs.take s.xs.length).drop (j+1)) 6 zRs rfl rfl (fun _=>rfl) rfl (fun _=>rfl) (fun _=>rfl) (fun _=>rfl) q2 (fun G=>zRX) (fun _ W hW h=>zPe (zJH h zRT hsm) zRU zRU) ⟨by simp;omega,by decide⟩ ?_)|((with_reducible refine zBU ?_ ?_);(· exact rfl))))
   intro G
   simp only [regsT,List.nil_append,List.cons_append]
   refine zB6 (H':=[.row encI 1 3 (.slice (G 11).A ((s.xs.take j).drop 0++(s.xs.take s.xs.length).drop (j+1):List Int).length (G 11).m) ((s.xs.take j).drop 0++(s.xs.take s.xs.length).drop (j+1):List Int),.arr zAA 1 g pl2,.rows pl2,.sl zAA 1 (some ⟨b9,0,none⟩) pl,.rows pl,.blk b (zH c A ca B cb C cc)]) (fun _ h=>h) ?_
   have e9:(s.xs.take j).drop 0++(s.xs.take s.xs.length).drop (j+1)=s.xs.eraseIdx j:=by rw [List.eraseIdx_eq_take_drop_succ];simp
   simp only [Nat.reduceAdd,e9]
   generalize (G 11).A=A9
   generalize (G 11).m=c9
   obtain ⟨s2,hs2⟩:∃ s2,pl2[i]?=some s2:=⟨_,List.getElem?_eq_getElem zRU⟩
   have:zAP pl2 i s2:=⟨hs2⟩
   (repeat' (first|((with_reducible refine zG ?_);first|refine zE rfl rfl rfl rfl rfl ?_|(refine zK rfl rfl rfl rfl rfl ?_;refine ⟨_,rfl,?_⟩)|refine zB5 (enc:=zAA) (i:=i) (j:=0) (z:=s2) ⟨A9,s.xs.eraseIdx j,c9⟩ rfl rfl rfl rfl rfl rfl rfl rfl zRs ?_)|(with_reducible first|refine zI ?_|refine zB ?_|refine zD ?_|refine zA ?_|refine zk ?_|refine zR ?_|refine zY ?_)|((with_reducible refine zA6 ?_ ?_);(· exact rfl))))
   refine zB6 (H':=.rows (pl2++[⟨A9,s.xs.eraseIdx j,c9⟩])::[.arr zAA 1 g (pl2.set i ⟨A9,s.xs.eraseIdx j,c9⟩),.blk b (zH c A ca B cb C cc)]) (fun W9 h=>Own.zEN ((h.zCK (enc:=encI) zRT).sub zRQ)) ?_
   have hx9:(pl2.set i ⟨A9,s.xs.eraseIdx j,c9⟩).map Sli.xs=(zAC (zCi xss i j)).map Sli.xs:=by
    rw [List.map_set,hx2,hx,zD9]
    unfold zCi
    rw [hat i s hsi]
   have hmem:∀ z∈pl2.set i ⟨A9,s.xs.eraseIdx j,c9⟩,z∈pl2++[⟨A9,s.xs.eraseIdx j,c9⟩]:=fun z hz=>by
    rcases List.mem_or_eq_of_mem_set hz with h|h
    ·exact List.mem_append.2 (.inl h)
    ·exact List.mem_append.2 (.inr (by rw [h];exact List.mem_singleton.2 rfl))
   rw [hfl.trans hpl.symm] at hS
   (repeat' (first|((with_reducible refine zG ?_);first|refine zE rfl rfl rfl rfl rfl ?_|refine zC rfl rfl rfl rfl rfl ?_|refine zAg rfl rfl rfl rfl rfl rfl ?_|(refine zQ rfl rfl rfl rfl rfl rfl rfl (fun h=>?_) (fun h=>?_)<;>(dsimp only [cmpP] at h;(try (exfalso;omega))))|refine zV rfl rfl rfl rfl rfl rfl (fun _ _ q=>hS _ q.below _ _ ⟨_,hx9,plan_arr q.own zRT zRT hmem⟩) ?_|refine zj rfl rfl rfl rfl rfl rfl ?_)|(with_reducible first|refine zI ?_|refine zB ?_|refine zD ?_|refine zA ?_|refine za ?_)))
   all_goals exact zU zRZ () trivial rfl (fun _ _=>Own.nil _ _)
end Go.Proofs.YtdigopgncfhiaaaGreatDoor.Two
namespace Go.Proofs.YtdigopgncfhiaaaGreatDoor
open Go.RowKit
theorem zKz (c:Cov) (A:Option Addr) (ca:Nat) (B:Option Addr) (cb:Nat) (C:Option Addr) (cc:Nat) (a:Int) (w:World) (hc:zAl w c A B C) (hfit:zFc c.t) (ha:0≤a∧a≤255) (hG:InC w 0 0 zCS) :
  Gv Tryz.prog 5 [zAQ c A ca B cb C cc,.int .u8 a] w (.bool true):=by
 rcases Classical.em (zDc c=true∧zC1 (zAu c) (zCs c) (zAk c)=true∧0<zCM (zAt c).1 c.hours.length) with ⟨h1,h2,h3⟩|h
 ·exact Two.zKK c A ca B cb C cc a w hc hfit ha hG h1 h2 h3
 ·exact zKy c A ca B cb C cc a w hc hfit ha hG fun h1 h2=>by
   rcases Nat.eq_zero_or_pos (zCM (zAt c).1 c.hours.length) with h3|h3
   ·exact h3
   ·exact absurd ⟨h1,h2,h3⟩ h
end Go.Proofs.YtdigopgncfhiaaaGreatDoor
