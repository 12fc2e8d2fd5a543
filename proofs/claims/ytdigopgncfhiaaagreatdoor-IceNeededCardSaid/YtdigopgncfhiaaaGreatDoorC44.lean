/- C44 -/
import Derived.Test.YtdigopgncfhiaaaGreatDoorC37
import Derived.Test.YtdigopgncfhiaaaGreatDoorC33
import Derived.Test.YtdigopgncfhiaaaGreatDoorC30
import Derived.Test.YtdigopgncfhiaaaGreatDoorC10
set_option linter.unusedSimpArgs false
set_option linter.unusedVariables false
namespace Go.Proofs.YtdigopgncfhiaaaGreatDoor
open Go.RowKit
set_option maxRecDepth 20000
theorem zQd {xss:List (List Int)} (h:∀ r∈xss,r.length≤20):∀ k,zCX xss k≤20 * k
 | 0=>Nat.le_refl _
 | k+1=>by
  have h1:=zQd h k
  have h2:(xss.getD k []).length≤20:=by
   rw [List.getD_eq_getElem?_getD]
   cases e:xss[k]? with
   | none=>simp
   | some r=>exact h r (List.mem_of_getElem? e)
  simp only [zCX];omega
theorem zRN {g base n:Nat} {w:World} {H H':List Ent} (h:Own base w H) (ht:Take H (.blk g (List.replicate n (.slice none 0 0))) H'):∃ pl:List Sli,pl.map Sli.xs=(zm (List.replicate n [])).map Sli.xs∧zAu w (some ⟨g,0,none⟩) pl:=zKP h ht
set_option maxHeartbeats 4000000 in
theorem zLU (c:Cov) (A:Option Addr) (ca:Nat) (B:Option Addr) (cb:Nat) (C:Option Addr) (cc:Nat) (a:Int) (w:World) (hc:zAU w c A B C) (hfit:zE0 c.t) (ha:0≤a∧a≤255) (hG:InC w 0 0 zB7) (hz:zDK c=true→zDG (zA2 c) (zC6 c) (zAp c)=true→zCX (zAy c).1 c.hours.length=0) :
  Gv Tryz.prog 5 [zAI c A ca B cb C cc,.int .u8 a] w (.bool true):=by
 have hAl:=fun W (hW:Below w.heap.size w W)=>zCu W (hG.below hW)
 have hR:=fun W (hW:Below w.heap.size w W)=>zCt c A ca B cb C cc W (hc.below hW) hfit
 cases hr:zDK c
 ·rw [hr] at hR
  unfold zAI zH at hR ⊢
  unfold Gv
  (refine zM (n:=119) Tryz.func5 rfl rfl rfl ?_)
  (repeat' (first|((with_reducible refine zG ?_);first|refine zE rfl rfl rfl rfl rfl ?_|refine zC rfl rfl rfl rfl rfl ?_|(refine zK rfl rfl rfl rfl rfl ?_;refine ⟨_,rfl,?_⟩)|refine zS rfl rfl rfl rfl rfl rfl (fun _ _ q=>hAl _ q.below) ?_|refine zS rfl rfl rfl rfl rfl rfl (fun _ _ q=>hR _ q.below) ?_|refine zAh rfl rfl rfl rfl rfl ?_|(refine zAM rfl rfl rfl rfl rfl rfl (fun b=>?_)))|(with_reducible first|refine zI ?_|refine zB ?_|refine zD ?_|refine zA ?_|refine zb ?_|refine zP ?_|refine zd ?_)|((with_reducible refine zJ ?_ ?_);(· exact rfl))|((with_reducible refine zF ?_ ?_);(· exact rfl))))
  all_goals exact zT (by (exact zO.cons (by exact zq.tmp rfl) zO.nil)) () trivial rfl (fun _ _=>Own.nil _ _)
 ·rw [hr] at hR
  have hs:=zCU hr hfit
  have h0:=(zCV.1 hr).2
  have hf:=zA1 h0
  have h4:=hs.b;have h5:=hs.h
  have hPl:=fun W (hW:Below w.heap.size w W)=>zEX c A ca B cb C cc W (hc.below hW) hs (hG.below hW)
  cases hcan:zDG (zA2 c) (zC6 c) (zAp c)
  ·rw [zF4 h0 hcan] at hPl
   unfold zAI zH at hR hPl ⊢
   unfold Gv
   (refine zM (n:=119) Tryz.func5 rfl rfl rfl ?_)
   (repeat' (first|((with_reducible refine zG ?_);first|refine zE rfl rfl rfl rfl rfl ?_|refine zC rfl rfl rfl rfl rfl ?_|(refine zK rfl rfl rfl rfl rfl ?_;refine ⟨_,rfl,?_⟩)|refine zAf rfl rfl rfl rfl rfl rfl ?_|(refine zQ rfl rfl rfl rfl rfl rfl rfl (fun h=>?_) (fun h=>?_)<;>(dsimp only [cmpP] at h;(try (exfalso;omega))))|refine zS rfl rfl rfl rfl rfl rfl (fun _ _ q=>hAl _ q.below) ?_|refine zS rfl rfl rfl rfl rfl rfl (fun _ _ q=>hR _ q.below) ?_|(refine zAG rfl rfl rfl rfl rfl rfl (fun _ _ q=>hPl _ q.below) ?_;rintro ⟨⟨P,cp⟩,pl⟩ -;dsimp only [List.cons_append,List.nil_append])|refine zg rfl rfl rfl rfl rfl rfl ?_|refine zAh rfl rfl rfl rfl rfl ?_|(refine zAM rfl rfl rfl rfl rfl rfl (fun b=>?_)))|(with_reducible first|refine zI ?_|refine zB ?_|refine zD ?_|refine zA ?_|refine zb ?_|refine zP ?_|refine zd ?_)|((with_reducible refine zJ ?_ ?_);(· exact rfl))|((with_reducible refine zF ?_ ?_);(· exact rfl))))
   all_goals exact zT (by (exact zO.cons (by exact zq.tmp rfl) zO.nil)) () trivial rfl (fun _ _=>Own.nil _ _)
  ·have hz:=hz hr hcan
   obtain ⟨n1,n2⟩:=none_law h0 hs hcan hz
   have hl:(zAy c).1.length=c.hours.length:=by have:=(zAc.1 (zET h0 hs hcan).1).1;simpa [zm] using this
   have he:(zAy c).2=0:=by rw [zD9 h0 hcan]
   have hS:=fun W (hW:Below w.heap.size w W) P cp hp=>zFJ c A ca B cb C cc (zGH c) P cp W (hc.below hW) hs hp (by simp [zGH];omega) (fun r hr=>by rw [List.eq_of_mem_replicate hr];simp) (hG.below hW)
   rw [n1,n2,show (zGH c).length=c.hours.length by simp [zGH]] at hS
   rw [he] at hPl
   unfold zGH at hS
   generalize (zAy c).1=xss at *
   have hrow:∀ i,i<c.hours.length→(xss.getD i [])=[]:=fun i hi=>zOS hi hz
   unfold zAI zH at hR hPl hS ⊢
   unfold Gv
   (refine zM (n:=119) Tryz.func5 rfl rfl rfl ?_)
   (repeat' (first|((with_reducible refine zG ?_);first|refine zE rfl rfl rfl rfl rfl ?_|refine zC rfl rfl rfl rfl rfl ?_|(refine zK rfl rfl rfl rfl rfl ?_;refine ⟨_,rfl,?_⟩)|(refine zQ rfl rfl rfl rfl rfl rfl rfl (fun h=>?_) (fun h=>?_)<;>(dsimp only [cmpP] at h;(try (exfalso;omega))))|refine zS rfl rfl rfl rfl rfl rfl (fun _ _ q=>hAl _ q.below) ?_|refine zS rfl rfl rfl rfl rfl rfl (fun _ _ q=>hR _ q.below) ?_|(refine zAG rfl rfl rfl rfl rfl rfl (fun _ _ q=>hPl _ q.below) ?_;rintro ⟨⟨P,cp⟩,pl⟩ hx;dsimp only [List.cons_append,List.nil_append])|refine zg rfl rfl rfl rfl rfl rfl ?_|refine zAh rfl rfl rfl rfl rfl ?_|refine zr rfl rfl rfl rfl rfl ?_|(refine zAM rfl rfl rfl rfl rfl rfl (fun b=>?_)))|(with_reducible first|refine zI ?_|refine zB ?_|refine zD ?_|refine zA ?_|refine zP ?_|refine zN ?_)|((with_reducible refine zF ?_ ?_);(· exact rfl))))
   have hpl:pl.length=c.hours.length:=by have:=congrArg List.length hx;simp only [List.length_map] at this;omega
   simp only at hx
   refine zu (ι:=Nat) [1,2,5,6,38,39] rfl (fun i=>i≤pl.length) (fun i=>[(40,.int .i64 (i:Int)),(8,.int .i64 0)]) (fun _=>[.sl zAC 1 P pl,.rows pl,.blk b (zH c A ca B cb C cc)]) (fun i=>pl.length - i) 0 (Nat.zero_le _) (by (first|exact lK1|(repeat (first|exact lK1|(refine zL rfl ?_))))) (by (repeat (first|exact oK1 _|(refine oK2 (by (repeat (first|exact tK1 _ _|apply tK2))) ?_)))) ?_
   rintro i hi
   simp only [zAq,List.cons_append,List.nil_append]
   by_cases hlt:i<pl.length
   ·obtain ⟨s,hsi⟩:∃ s,pl[i]?=some s:=⟨_,List.getElem?_eq_getElem hlt⟩
    have hxs:s.xs=[]:=by
     have h9:=hrow i (by omega)
     rw [← hx] at h9
     simpa [List.getD_eq_getElem?_getD,hsi] using h9
    obtain ⟨sA,xs,sc⟩:=s
    simp only at hxs
    subst hxs
    refine zEb (by (repeat (first|exact tK1 _ _|apply tK2))) (show 0<pl.length by omega) ?_
    rintro b9 o9 rfl
    have:zAR pl i ⟨sA,[],sc⟩:=⟨hsi⟩
    (repeat' (first|((with_reducible refine zG ?_);first|refine zE rfl rfl rfl rfl rfl ?_|refine zC rfl rfl rfl rfl rfl ?_|(refine zK rfl rfl rfl rfl rfl ?_;refine ⟨_,rfl,?_⟩)|(refine zQ rfl rfl rfl rfl rfl rfl rfl (fun h=>?_) (fun h=>?_)<;>(dsimp only [cmpP] at h;(try (exfalso;omega))))|refine zi (I:=i) rfl rfl rfl rfl rfl rfl rfl (by omega) ?_|refine zr rfl rfl rfl rfl rfl ?_)|(with_reducible first|refine zI ?_|refine zB ?_|refine zD ?_|refine zA ?_|refine zP ?_|refine zN ?_)|((with_reducible refine zJ ?_ ?_);(· exact rfl))))
    simp only [List.length_nil,Int.natCast_zero]
    (repeat' (first|((with_reducible refine zG ?_);first|refine zE rfl rfl rfl rfl rfl ?_|refine zC rfl rfl rfl rfl rfl ?_|refine zj rfl rfl rfl rfl rfl rfl (by omega) ?_|refine zCh rfl rfl rfl rfl rfl rfl (IntWalk.i64_in _ (by omega)) ?_)|(with_reducible first|refine zB ?_|refine zD ?_|refine zA ?_|refine zk ?_)))
    simp only [Int.add_zero]
    exact zc (i+1) (by omega) (by omega) (by (first|exact lK1|(repeat (first|exact lK1|(refine zL rfl ?_))))) (by (repeat (first|exact oK1 _|(refine oK2 (by (repeat (first|exact tK1 _ _|apply tK2))) ?_))))
   ·obtain rfl:i=pl.length:=by omega
    (repeat' (first|((with_reducible refine zG ?_);first|refine zE rfl rfl rfl rfl rfl ?_|(refine zQ rfl rfl rfl rfl rfl rfl rfl (fun h=>?_) (fun h=>?_)<;>(dsimp only [cmpP] at h;(try (exfalso;omega)))))|(with_reducible first|refine zI ?_|refine zB ?_|refine zD ?_|refine zA ?_|refine zn ?_|refine zR ?_|refine zY ?_)|((with_reducible refine zJ ?_ ?_);(· exact rfl))|((with_reducible refine zF ?_ ?_);(· exact rfl))))
    (refine Two.zAd [] [] [] rfl (show ([]:List Nat).Nodup by decide) (fun _ h=>h) (by kernel_rfl) [[],[Y],[Z,Y],[Z,Z,Y],[Z,Z,Z,Y],[Z,Z,Z,Z,Z],[Z,Z,Z,Z,Z,Z],[Z,Z,Z,Z,Z,Z,Z],[Y,Z,Z,Z,Z,Z,Z,Z],[Y,Z,Z,Z,Z,Z,Z,Z,Z],[Z,Z,Z,Z,Z,Z,Z,Z,Z,Z]] (by kernel_rfl) (by kernel_rfl) (by kernel_rfl) (by kernel_rfl) (by kernel_rfl) ?_)
    (repeat' (first|(((with_reducible refine Two.zCJ ?_ ?_);(· exact rfl);refine ⟨_,fun G=>(by (try simp (decide:=true) only [Two.vis,Two.see,fltT,zAD,Nat.reduceAdd,Nat.reduceSub,if_true,if_false,List.set_cons_zero,List.set_cons_succ,List.set_nil,List.nil_append,List.cons_append]);rfl),?_⟩);first|refine Two.zX _ (fun _=>zAK rfl rfl) (fun _=>rfl) rfl (by first|exact fun _ _ _=>rfl|(intro G G' h;simp (decide:=true) only [h])) ?_|refine Two.zX _ (fun _=>zy rfl rfl (by exact rfl)) (fun _=>rfl) rfl (by first|exact fun _ _ _=>rfl|(intro G G' h;simp (decide:=true) only [h])) ?_|(refine Two.zAb rfl ?_;refine Two.zX _ (fun _=>zAO rfl rfl) (fun _=>rfl) rfl (by first|exact fun _ _ _=>rfl|(intro G G' h;simp (decide:=true) only [h])) ?_)|refine Two.zX _ (fun _=>zBK rfl rfl) (fun _=>rfl) rfl (by first|exact fun _ _ _=>rfl|(intro G G' h;simp (decide:=true) only [h])) ?_|(refine Two.zNV (v:=.slice none 0 0) rfl rfl rfl rfl rfl rfl (fun _=>rfl) rfl (fun _=>rfl) (fun _=>rfl) (by first|decide|omega) ?_)|refine Two.zBI _ rfl (fun _=>rfl) rfl (fun _=>rfl) (fun _=>rfl) (fun _ _ _ q=>hS _ q.below _ _ (zRN q.own (by (repeat (first|exact tK1 _ _|apply tK2))))) (by first|exact fun _ _ _=>rfl|(intro G G' h;simp (decide:=true) only [h])) ?_|refine Two.zX _ (fun _=>zCR rfl rfl rfl) (fun _=>rfl) rfl (by first|exact fun _ _ _=>rfl|(intro G G' h;simp (decide:=true) only [h])) ?_|refine Two.zX _ (fun _=>zDT rfl rfl) (fun _=>rfl) rfl (by first|exact fun _ _ _=>rfl|(intro G G' h;simp (decide:=true) only [h])) ?_)|(with_reducible refine Two.zFr ?_)))
    (intro G;simp only [regsT,zAD,Two.zBU,Two.ini,List.nil_append,List.cons_append])
    (repeat' (first|((with_reducible refine zG ?_);first|refine zE rfl rfl rfl rfl rfl ?_|refine zC rfl rfl rfl rfl rfl ?_|refine zAf rfl rfl rfl rfl rfl rfl ?_|(refine zQ rfl rfl rfl rfl rfl rfl rfl (fun h=>?_) (fun h=>?_)<;>(dsimp only [cmpP] at h;(try (exfalso;omega)))))|(with_reducible first|refine zI ?_|refine zB ?_|refine zD ?_|refine zA ?_|refine zb ?_|refine zd ?_)))
    all_goals exact zT (by (exact zO.cons (by exact zq.tmp rfl) zO.nil)) () trivial rfl (fun _ _=>Own.nil _ _)
end Go.Proofs.YtdigopgncfhiaaaGreatDoor
namespace Go.Proofs.YtdigopgncfhiaaaGreatDoor
open Go.RowKit
theorem zQS {base:Nat} {w:World} {H H':List Ent} {pl:List Sli} {s:Sli} (h:Own base w H) (ht:Take H (.rows pl) H') (hm:s∈pl):zAB encI 1 w s.A s.xs:=(h.here _ ht.mem:∀ s∈pl,zAB encI 1 w s.A s.xs) s hm
end Go.Proofs.YtdigopgncfhiaaaGreatDoor
namespace Go.Proofs.YtdigopgncfhiaaaGreatDoor.Two
variable {ro : Option Nat}
open Go.RowKit
set_option maxRecDepth 20000
set_option maxHeartbeats 4000000 in
theorem zKo (c:Cov) (A:Option Addr) (ca:Nat) (B:Option Addr) (cb:Nat) (C:Option Addr) (cc:Nat) (a:Int) (w:World) (hc:zAU w c A B C) (hfit:zE0 c.t) (ha:0≤a∧a≤255) (hG:InC w 0 0 zB7) (hr:zDK c=true) (hcan:zDG (zA2 c) (zC6 c) (zAp c)=true) (hz:0<zCX (zAy c).1 c.hours.length) :
  Gv Tryz.prog 5 [zAI c A ca B cb C cc,.int .u8 a] w (.bool true):=by
 have hAl:=fun W (hW:Below w.heap.size w W)=>zCu W (hG.below hW)
 have hR:=fun W (hW:Below w.heap.size w W)=>zCt c A ca B cb C cc W (hc.below hW) hfit
 rw [hr] at hR
 have hs:=zCU hr hfit
 have h0:=(zCV.1 hr).2
 have hf:=zA1 h0
 have h4:=hs.b;have h5:=hs.h
 have hl:(zAy c).1.length=c.hours.length:=by have:=(zAc.1 (zET h0 hs hcan).1).1;simpa [zm] using this
 have hPl:=fun W (hW:Below w.heap.size w W)=>(zMH c A ca B cb C cc W (hc.below hW) hs (hG.below hW) h0 hcan).conv (V':=fun p:Nat × List (zAN Int)=>.tuple #[.slice (some ⟨p.1,0,none⟩) (p.2.map zAN.sli).length (p.2.map zAN.sli).length,.int .i64 0]) fun p hp=>⟨p,hp,by
  have:p.2.length=c.hours.length:=by have:=congrArg List.length hp;rw [hl] at this;simpa using this
  rw [List.length_map,this],fun _ h=>h⟩
 have hlaw:=fun J j hJ hj=>less_law (J:=J) (j:=j) h0 hs hcan hJ hj
 have hlen:=(zL0 hs).2
 generalize (zAy c).1=xss at *
 have hN:=zQd hlen
 have hmn:0<(zCX xss c.hours.length:Int):=by omega
 obtain ⟨m,hm⟩:∃ m:Nat,a % (zCX xss c.hours.length:Int)=(m:Int):=⟨(a % (zCX xss c.hours.length:Int)).toNat,by have:=Int.emod_nonneg a (b:=(zCX xss c.hours.length:Int)) (by omega);omega⟩
 have hml:m<zCX xss c.hours.length:=by have:=Int.emod_lt_of_pos a hmn;omega
 obtain ⟨J,j,hJ,hj,hmj⟩:=zMD _ hml
 obtain ⟨k1,k2⟩:=hlaw J j hJ hj
 have hS:=fun W (hW:Below w.heap.size w W) P cp hp=>zFJ c A ca B cb C cc (zCv xss J j) P cp W (hc.below hW) hs hp (by simp [zCv];omega) (fun r hr=>by
  rcases List.mem_or_eq_of_mem_set hr with h9|h9
  ·exact hlen r h9
  ·rw [h9]
   refine Nat.le_trans (List.eraseIdx_sublist _ _).length_le ?_
   rw [Flow.zt (by omega)];exact hlen _ (List.getElem_mem _)) (hG.below hW)
 rw [k1] at hS
 have hfl:(zCv xss J j).length=c.hours.length:=by simp [zCv,hl]
 generalize zBR c (zm (zCv xss J j))=sf at *
 unfold zAI zH at hR hPl hS ⊢
 unfold Gv
 (refine zM (n:=119) Tryz.func5 rfl rfl rfl ?_)
 (repeat' (first|((with_reducible refine zG ?_);first|refine zE rfl rfl rfl rfl rfl ?_|refine zC rfl rfl rfl rfl rfl ?_|(refine zK rfl rfl rfl rfl rfl ?_;refine ⟨_,rfl,?_⟩)|(refine zQ rfl rfl rfl rfl rfl rfl rfl (fun h=>?_) (fun h=>?_)<;>(dsimp only [cmpP] at h;(try (exfalso;omega))))|refine zS rfl rfl rfl rfl rfl rfl (fun _ _ q=>hAl _ q.below) ?_|refine zS rfl rfl rfl rfl rfl rfl (fun _ _ q=>hR _ q.below) ?_|(refine zAG rfl rfl rfl rfl rfl rfl (fun _ _ q=>hPl _ q.below) ?_;rintro ⟨b9,L⟩ hx;dsimp only [List.cons_append,List.nil_append])|refine zg rfl rfl rfl rfl rfl rfl ?_|refine zAh rfl rfl rfl rfl rfl ?_|refine zr rfl rfl rfl rfl rfl ?_|(refine zAM rfl rfl rfl rfl rfl rfl (fun b=>?_)))|(with_reducible first|refine zI ?_|refine zB ?_|refine zD ?_|refine zA ?_|refine zP ?_|refine zN ?_)|((with_reducible refine zF ?_ ?_);(· exact rfl))))
 simp only at hx
 refine zQy (by (repeat (first|exact tK1 _ _|apply tK2))) fun hcaps=>?_
 refine zB5 (fun _ h=>zRR h) ?_
 rw [← zKA] at hx
 have hcaps:∀ s∈L.map zAN.sli,s.xs.length≤s.c:=fun s hs=>by
  obtain ⟨z,hz,rfl⟩:=List.mem_map.1 hs
  exact hcaps z hz
 generalize L.map zAN.sli=pl at *
 have hpl:pl.length=c.hours.length:=by have:=congrArg List.length hx;simp only [List.length_map] at this;omega
 have hat:∀ i s,pl[i]?=some s→xss.getD i []=s.xs:=fun i s h=>by
  rw [← hx,List.getD_eq_getElem?_getD,List.getElem?_map,h];rfl
 rw [← hpl] at hm hml hJ hmn
 refine zu (ι:=Nat) [1,2,5,6,38,39] rfl (fun i=>i≤pl.length) (fun i=>[(40,.int .i64 (i:Int)),(8,.int .i64 (zCX xss i:Int))]) (fun _=>[.sl zAC 1 (some ⟨b9,0,none⟩) pl,.rows pl,.blk b (zH c A ca B cb C cc)]) (fun i=>pl.length - i) 0 (Nat.zero_le _) (by (first|exact lK1|(repeat (first|exact lK1|(refine zL rfl ?_))))) (by (repeat (first|exact oK1 _|(refine oK2 (by (repeat (first|exact tK1 _ _|apply tK2))) ?_)))) ?_
 rintro i hi
 simp only [zAq,List.cons_append,List.nil_append]
 have hNi:=hN i
 by_cases hlt:i<pl.length
 ·obtain ⟨s,hsi⟩:∃ s,pl[i]?=some s:=⟨_,List.getElem?_eq_getElem hlt⟩
  have:zAR pl i s:=⟨hsi⟩
  have e1:(zCX xss (i+1):Int)=(zCX xss i:Int)+(s.xs.length:Int):=by simp only [zCX];rw [hat i s hsi];omega
  have hN1:=hN (i+1)
  (repeat' (first|((with_reducible refine zG ?_);first|refine zE rfl rfl rfl rfl rfl ?_|refine zC rfl rfl rfl rfl rfl ?_|(refine zK rfl rfl rfl rfl rfl ?_;refine ⟨_,rfl,?_⟩)|(refine zQ rfl rfl rfl rfl rfl rfl rfl (fun h=>?_) (fun h=>?_)<;>(dsimp only [cmpP] at h;(try (exfalso;omega))))|refine zi (I:=i) rfl rfl rfl rfl rfl rfl rfl (by omega) ?_|refine zj rfl rfl rfl rfl rfl rfl (by omega) ?_|refine zCh rfl rfl rfl rfl rfl rfl (IntWalk.i64_in _ (by omega)) ?_|refine zr rfl rfl rfl rfl rfl ?_)|(with_reducible first|refine zI ?_|refine zB ?_|refine zD ?_|refine zA ?_|refine zP ?_|refine zN ?_|refine zk ?_)|((with_reducible refine zJ ?_ ?_);(· exact rfl))))
  exact zc (i+1) (by omega) (by omega) (by rw [e1];(first|exact lK1|(repeat (first|exact lK1|(refine zL rfl ?_))))) (by (repeat (first|exact oK1 _|(refine oK2 (by (repeat (first|exact tK1 _ _|apply tK2))) ?_))))
 ·obtain rfl:i=pl.length:=by omega
  have hTw:=fun W (hp:zAu W (some ⟨b9,0,none⟩) pl)=>zMu pl (some ⟨b9,0,none⟩) pl.length W hp (by omega) (by omega) (fun s hs=>hlen _ (by rw [← hx];exact List.mem_map_of_mem hs))
  (repeat' (first|((with_reducible refine zG ?_);first|refine zE rfl rfl rfl rfl rfl ?_|refine zC rfl rfl rfl rfl rfl ?_|(refine zQ rfl rfl rfl rfl rfl rfl rfl (fun h=>?_) (fun h=>?_)<;>(dsimp only [cmpP] at h;(try (exfalso;omega))))|(refine zAG rfl rfl rfl rfl rfl rfl (fun _ _ q=>hTw _ (zCK q.own (by (repeat (first|exact tK1 _ _|apply tK2))) (by (repeat (first|exact tK1 _ _|apply tK2))))) ?_;rintro ⟨⟨g,cg⟩,pl2⟩ hx2;dsimp only [List.cons_append,List.nil_append])|refine zr rfl rfl rfl rfl rfl ?_|refine zIZ rfl rfl rfl rfl rfl (IntWalk.i64_in _ (by omega)) ?_|refine zNh rfl rfl rfl rfl rfl rfl (by omega) (by omega) ?_)|(with_reducible first|refine zI ?_|refine zB ?_|refine zD ?_|refine zA ?_|refine zP ?_|refine zN ?_|refine zn ?_|refine zR ?_|refine zY ?_)|((with_reducible refine zF ?_ ?_);(· exact rfl))))
  rw [hm]
  simp only at hx2
  have hpl2:pl2.length=pl.length:=by have:=congrArg List.length hx2;simpa using this
  have hJ0:(m:Int) - ((zCX xss 0:Nat):Int)=(m:Int):=by simp [zCX]
  refine zu (ι:=Nat) [2,5,14,75,76] rfl (fun i=>i≤J) (fun i=>[(77,.int .i64 (i:Int)),(13,.int .i64 ((m:Int) - ((zCX xss i:Nat):Int)))]) (fun _=>[.arr zAC 1 g pl2,.rows pl2,.sl zAC 1 (some ⟨b9,0,none⟩) pl,.rows pl,.blk b (zH c A ca B cb C cc)]) (fun i=>J - i) 0 (Nat.zero_le _) (by rw [hJ0];(first|exact lK1|(repeat (first|exact lK1|(refine zL rfl ?_))))) (by (repeat (first|exact oK1 _|(refine oK2 (by (repeat (first|exact tK1 _ _|apply tK2))) ?_)))) ?_
  clear hNi hi hlt
  rintro i hi
  simp only [zAq,List.cons_append,List.nil_append]
  obtain ⟨s,hsi⟩:∃ s,pl[i]?=some s:=⟨_,List.getElem?_eq_getElem (by omega)⟩
  have hsm:=List.mem_of_getElem? hsi
  have:zAR pl i s:=⟨hsi⟩
  have hNi:=hN i
  have e1:zCX xss (i+1)=zCX xss i+s.xs.length:=by simp only [zCX];rw [hat i s hsi]
  have hmx:zCX xss pl.length≤240:=Nat.le_trans (hN _) (by omega)
  by_cases hlt:i<J
  ·have hmo:=zIt (xss:=xss) (k:=i+1) (J - (i+1))
   rw [show i+1+(J - (i+1))=J by omega] at hmo
   (repeat' (first|((with_reducible refine zG ?_);first|refine zE rfl rfl rfl rfl rfl ?_|refine zC rfl rfl rfl rfl rfl ?_|(refine zK rfl rfl rfl rfl rfl ?_;refine ⟨_,rfl,?_⟩)|(refine zQ rfl rfl rfl rfl rfl rfl rfl (fun h=>?_) (fun h=>?_)<;>(dsimp only [cmpP] at h;(try (exfalso;omega))))|refine zi (I:=i) rfl rfl rfl rfl rfl rfl rfl (by omega) ?_|refine zj rfl rfl rfl rfl rfl rfl (by omega) ?_|refine zCn rfl rfl rfl rfl rfl rfl (IntWalk.i64_in _ (by omega)) ?_|refine zr rfl rfl rfl rfl rfl ?_)|(with_reducible first|refine zI ?_|refine zB ?_|refine zD ?_|refine zA ?_|refine zP ?_|refine zN ?_|refine zk ?_)|((with_reducible refine zJ ?_ ?_);(· exact rfl))|((with_reducible refine zF ?_ ?_);(· exact rfl))))
   exact zc (i+1) (by omega) (by omega) (by rw [e1,show (m:Int) - ((zCX xss i+s.xs.length:Nat):Int)=(m:Int) - (zCX xss i:Int) - (s.xs.length:Int) by omega];(first|exact lK1|(repeat (first|exact lK1|(refine zL rfl ?_))))) (by (repeat (first|exact oK1 _|(refine oK2 (by (repeat (first|exact tK1 _ _|apply tK2))) ?_))))
  ·obtain rfl:i=J:=by omega
   rw [hat i s hsi] at hj
   rw [show (m:Int) - ((zCX xss i:Nat):Int)=(j:Int) by omega]
   have hcs:=hcaps s hsm
   have hsl:s.xs.length≤20:=hlen _ (by rw [← hx];exact List.mem_map_of_mem hsm)
   (repeat' (first|((with_reducible refine zG ?_);first|refine zE rfl rfl rfl rfl rfl ?_|refine zC rfl rfl rfl rfl rfl ?_|(refine zK rfl rfl rfl rfl rfl ?_;refine ⟨_,rfl,?_⟩)|(refine zQ rfl rfl rfl rfl rfl rfl rfl (fun h=>?_) (fun h=>?_)<;>(dsimp only [cmpP] at h;(try (exfalso;omega))))|refine zi (I:=i) rfl rfl rfl rfl rfl rfl rfl (by omega) ?_|refine zr rfl rfl rfl rfl rfl ?_)|(with_reducible first|refine zI ?_|refine zB ?_|refine zD ?_|refine zA ?_|refine zP ?_|refine zN ?_)|((with_reducible refine zJ ?_ ?_);(· exact rfl))))
   have q1:j - 0=((s.xs.take j).drop 0).length:=by simp;omega
   have q2:s.xs.length - (j+1)=((s.xs.take s.xs.length).drop (j+1)).length:=by simp
   (refine zAd [(2,6),(6,11)] [] [] rfl (by decide) (fun _ h=>h) (by kernel_rfl) [[],[Y],[Y,Y],[Y,Y,Y],[Y,Y,Y,Y],[Z,Z,Y,Y,Y],[Z,Z,Z,Z,Y,Y],[Y,Y,Y,Y,Y,Y,Y],[Y,Y,Y,Y,Y,Y,Y,Y],[Z,Y,Y,Y,Y,Y,Y,Y,Y],[Z,Z,Z,Y,Y,Y,Y,Y,Y,Y],[Z,Z,Z,Z,Z,Z,Z,Z,Z,Y,Y],[Z,Z,Z,Z,Z,Z,Z,Z,Z,Z,Z,Z],[Z,Z,Z,Z,Z,Z,Z,Z,Z,Z,Z,Z,Z]] (by kernel_rfl) (by kernel_rfl) (by kernel_rfl) (by kernel_rfl) (by kernel_rfl) ?_)
   (repeat' (first|(((with_reducible refine zCJ ?_ ?_);(· exact rfl);refine ⟨_,fun G=>(by (try simp (decide:=true) only [vis,see,fltT,zAD,Nat.reduceAdd,Nat.reduceSub,if_true,if_false,List.set_cons_zero,List.set_cons_succ,List.set_nil,List.nil_append,List.cons_append]);rfl),?_⟩);first|refine zX _ (fun _=>zAK rfl rfl) (fun _=>rfl) rfl (by first|exact fun _ _ _=>rfl|(intro G G' h;simp (decide:=true) only [h])) ?_|refine zQC encI rfl (fun _=>rfl) rfl ?_|refine zX _ (fun _=>zHA 0 j rfl rfl rfl rfl rfl rfl (by omega) (by omega)) (fun _=>rfl) rfl (by exact fun _ _ _=>rfl) ?_|refine zX _ (fun _=>zHA (j+1) s.xs.length rfl rfl rfl rfl rfl rfl (by omega) (by omega)) (fun _=>rfl) rfl (by exact fun _ _ _=>rfl) ?_|refine zX _ (fun _=>zI6 rfl rfl rfl (by omega)) (fun _=>rfl) rfl (by first|exact fun _ _ _=>rfl|(intro G G' h;simp (decide:=true) only [h])) ?_|refine zX _ (fun _=>zAS rfl rfl rfl rfl (by omega)) (fun _=>rfl) rfl (by first|exact fun _ _ _=>rfl|(intro G G' h;simp (decide:=true) only [h])) ?_)|(refine zMg (enc:=encI) (xs:=[]) ((s.xs.take j).drop 0) 2 (by decide) rfl rfl (fun _=>rfl) rfl (fun _=>rfl) (fun _=>rfl) (fun _=>rfl) q1 (fun G=>(by (try simp (decide:=true) only [vis,see,fltT,zAD,Nat.reduceAdd,Nat.reduceSub,if_true,if_false,List.set_cons_zero,List.set_cons_succ,List.set_nil,List.nil_append,List.cons_append]);rfl)) (fun _ W hW h=>zJg (zQS h (by (repeat (first|exact tK1 _ _|apply tK2))) hsm) (by omega) (by omega)) ⟨by simp;omega,by decide⟩ ?_)|(refine zMg (enc:=encI) (xs:=[]++(s.xs.take j).drop 0) ((s.xs.take s.xs.length).drop (j+1)) 6 (by decide) rfl rfl (fun _=>rfl) rfl (fun _=>rfl) (fun _=>rfl) (fun _=>rfl) q2 (fun G=>(by (try simp (decide:=true) only [vis,see,fltT,zAD,Nat.reduceAdd,Nat.reduceSub,if_true,if_false,List.set_cons_zero,List.set_cons_succ,List.set_nil,List.nil_append,List.cons_append]);rfl)) (fun _ W hW h=>zJg (zQS h (by (repeat (first|exact tK1 _ _|apply tK2))) hsm) (by omega) (by omega)) ⟨by simp;omega,by decide⟩ ?_)|((with_reducible refine zBa ?_ ?_);(· exact rfl))))
   intro G
   simp only [regsT,List.nil_append,List.cons_append]
   refine zB5 (H':=[.row encI 1 3 (.slice (G 11).A ((s.xs.take j).drop 0++(s.xs.take s.xs.length).drop (j+1):List Int).length (G 11).m) ((s.xs.take j).drop 0++(s.xs.take s.xs.length).drop (j+1):List Int),.arr zAC 1 g pl2,.rows pl2,.sl zAC 1 (some ⟨b9,0,none⟩) pl,.rows pl,.blk b (zH c A ca B cb C cc)]) (fun _ h=>h) ?_
   have e9:(s.xs.take j).drop 0++(s.xs.take s.xs.length).drop (j+1)=s.xs.eraseIdx j:=by rw [List.eraseIdx_eq_take_drop_succ];simp
   simp only [Nat.reduceAdd,e9]
   generalize (G 11).A=A9
   generalize (G 11).m=c9
   obtain ⟨s2,hs2⟩:∃ s2,pl2[i]?=some s2:=⟨_,List.getElem?_eq_getElem (by omega)⟩
   have:zAR pl2 i s2:=⟨hs2⟩
   (repeat' (first|((with_reducible refine zG ?_);first|refine zE rfl rfl rfl rfl rfl ?_|(refine zK rfl rfl rfl rfl rfl ?_;refine ⟨_,rfl,?_⟩)|refine zBw (enc:=zAC) (i:=i) (j:=0) (z:=s2) ⟨A9,s.xs.eraseIdx j,c9⟩ rfl rfl rfl rfl rfl rfl rfl rfl (by decide) ?_)|(with_reducible first|refine zI ?_|refine zB ?_|refine zD ?_|refine zA ?_|refine zn ?_|refine zR ?_|refine zY ?_)|((with_reducible refine zBD ?_ ?_);(· exact rfl))))
   refine zB5 (H':=.rows (pl2++[⟨A9,s.xs.eraseIdx j,c9⟩])::[.arr zAC 1 g (pl2.set i ⟨A9,s.xs.eraseIdx j,c9⟩),.blk b (zH c A ca B cb C cc)]) (fun W9 h=>Own.zEg ((h.zCT (enc:=encI) (by (repeat (first|exact tK1 _ _|apply tK2)))).sub (by (repeat (first|exact oK1 _|(refine oK2 (by (repeat (first|exact tK1 _ _|apply tK2))) ?_)))))) ?_
   have hx9:(pl2.set i ⟨A9,s.xs.eraseIdx j,c9⟩).map Sli.xs=(zm (zCv xss i j)).map Sli.xs:=by
    rw [List.map_set,hx2,hx,zCi]
    unfold zCv
    rw [hat i s hsi]
   have hmem:∀ z∈pl2.set i ⟨A9,s.xs.eraseIdx j,c9⟩,z∈pl2++[⟨A9,s.xs.eraseIdx j,c9⟩]:=fun z hz=>by
    rcases List.mem_or_eq_of_mem_set hz with h|h
    ·exact List.mem_append.2 (.inl h)
    ·exact List.mem_append.2 (.inr (by rw [h];exact List.mem_singleton.2 rfl))
   rw [hfl.trans hpl.symm] at hS
   (repeat' (first|((with_reducible refine zG ?_);first|refine zE rfl rfl rfl rfl rfl ?_|refine zC rfl rfl rfl rfl rfl ?_|refine zAf rfl rfl rfl rfl rfl rfl ?_|(refine zQ rfl rfl rfl rfl rfl rfl rfl (fun h=>?_) (fun h=>?_)<;>(dsimp only [cmpP] at h;(try (exfalso;omega))))|refine zS rfl rfl rfl rfl rfl rfl (fun _ _ q=>hS _ q.below _ _ ⟨_,hx9,plan_arr q.own (by (repeat (first|exact tK1 _ _|apply tK2))) (by (repeat (first|exact tK1 _ _|apply tK2))) hmem⟩) ?_|refine zg rfl rfl rfl rfl rfl rfl ?_)|(with_reducible first|refine zI ?_|refine zB ?_|refine zD ?_|refine zA ?_|refine zb ?_)))
   all_goals exact zT (by (exact zO.cons (by exact zq.tmp rfl) zO.nil)) () trivial rfl (fun _ _=>Own.nil _ _)
end Go.Proofs.YtdigopgncfhiaaaGreatDoor.Two
namespace Go.Proofs.YtdigopgncfhiaaaGreatDoor
open Go.RowKit
theorem zLV (c:Cov) (A:Option Addr) (ca:Nat) (B:Option Addr) (cb:Nat) (C:Option Addr) (cc:Nat) (a:Int) (w:World) (hc:zAU w c A B C) (hfit:zE0 c.t) (ha:0≤a∧a≤255) (hG:InC w 0 0 zB7) :
  Gv Tryz.prog 5 [zAI c A ca B cb C cc,.int .u8 a] w (.bool true):=by
 rcases Classical.em (zDK c=true∧zDG (zA2 c) (zC6 c) (zAp c)=true∧0<zCX (zAy c).1 c.hours.length) with ⟨h1,h2,h3⟩|h
 ·exact Two.zKo c A ca B cb C cc a w hc hfit ha hG h1 h2 h3
 ·exact zLU c A ca B cb C cc a w hc hfit ha hG fun h1 h2=>by
   rcases Nat.eq_zero_or_pos (zCX (zAy c).1 c.hours.length) with h3|h3
   ·exact h3
   ·exact absurd ⟨h1,h2,h3⟩ h
end Go.Proofs.YtdigopgncfhiaaaGreatDoor
