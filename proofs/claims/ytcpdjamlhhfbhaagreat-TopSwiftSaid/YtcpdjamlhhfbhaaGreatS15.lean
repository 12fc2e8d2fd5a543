/- S15 -/
import Derived.Test.YtcpdjamlhhfbhaaGreatS14
import Derived.Test.YtcpdjamlhhfbhaaGreatS11
set_option linter.unusedSimpArgs false
set_option linter.unusedVariables false
namespace Go.Proofs.YtcpdjamlhhfbhaaGreat.Two
variable {ro : Option Nat}
open Go.RowKit
set_option maxRecDepth 20000
theorem zDa {c:Clk} {i:Nat} (h:∀ j s,j<i→c.syncs[j]?=some s→zCd (zAZ c j) s=true) (hi:i≤c.syncs.length):-1≤zAZ c i∧zAZ c i≤86400000∧∀ j s,j<i→c.syncs[j]?=some s→0≤s.at_∧s.at_≤zAZ c i∧-10000≤s.ah.lo∧s.ah.lo≤s.ah.hi∧s.ah.hi≤10000:=by
 induction i with
 | zero=>exact ⟨Int.le_refl _,by simp [zAZ],fun j s hj=>by omega⟩
 | succ i ih =>
  obtain ⟨h1,h2,h3⟩:=ih (fun j s hj=>h j s (by omega)) (by omega)
  obtain ⟨s,hs⟩:∃ s,c.syncs[i]?=some s:=⟨_,List.getElem?_eq_getElem (by omega)⟩
  have h5:=zBW.1 (h i s (by omega) hs)
  rw [zB0 hs]
  refine ⟨by omega,by omega,fun j s' hj hs'=>?_⟩
  by_cases e:j=i
  ·subst e;rw [hs] at hs';cases hs';omega
  ·have:=h3 j s' (by omega) hs';omega
theorem zGF {c:Clk} {i j:Nat} {s y:Sy} (h:∀ j s,j<c.syncs.length→c.syncs[j]?=some s→zCd (zAZ c j) s=true) (hj:j<i) (hs:c.syncs[i]?=some s) (hy:c.syncs[j]?=some y):y.at_<s.at_:=by
 have hi:=(List.getElem?_eq_some_iff.1 hs).1
 have h1:=(zDa (i:=i) (fun j s hj=>h j s (by omega)) (by omega)).2.2 j y hj hy
 have h2:=zBW.1 (h i s hi hs)
 omega
theorem zHJ {c:Clk} {i:Nat} {s:Sy} (hs:c.syncs[i]?=some s) (h:zCd (zAZ c i) s=false):zAe c=false:=by
 cases hg:zAe c with
 | false=>rfl
 | true=>have:=(zA8.1 hg).2.2 i (List.getElem?_eq_some_iff.1 hs).1;rw [zCf hs,h] at this;cases this
theorem zHI {c:Clk} {i j:Nat} {s y:Sy} (hj:j<i) (hs:c.syncs[i]?=some s) (hy:c.syncs[j]?=some y) (h:zBl c s y=false):zAe c=false:=by
 cases hg:zAe c with
 | false=>rfl
 | true =>
  have:=(zA8.1 hg).2.2 i (List.getElem?_eq_some_iff.1 hs).1
  rw [zCf hs,Bool.and_eq_true] at this
  have h2:=List.all_eq_true.1 this.2 y (List.mem_of_getElem? (i:=j) (by rw [List.getElem?_take,if_pos hj];exact hy))
  rw [h] at h2;cases h2
set_option maxHeartbeats 8000000 in
theorem zGO (x:CkM) (w:World) (hs:zg zAf 3 w x.A x.c.syncs) (hl:x.c.syncs.length≤10) (hcap:x.c.syncs.length≤x.cap):Gv Tryz.prog 89 [vCk x] w (.bool (zAe x.c)):=by
 unfold Gv vCk
 by_cases h0:inB 0 1000 x.c.drift=true∧inB 1 5 x.c.syncs.length=true
 rotate_left
 ·have e:zAe x.c=false:=by
   cases hg:zAe x.c with
   | false=>rfl
   | true=>exact absurd ⟨(zA8.1 hg).1,(zA8.1 hg).2.1⟩ h0
  rw [e]
  have h0':inB 0 1000 x.c.drift=true→inB 1 5 (x.c.syncs.length:Int)=false:=fun h1=>by
   cases h2:inB 1 5 (x.c.syncs.length:Int) with
   | false=>rfl
   | true=>exact absurd ⟨h1,h2⟩ h0
  cases h1:inB 0 1000 x.c.drift with
  | false =>
   (refine zD (n:=124) Tryz.func89 rfl rfl rfl ?_)
   (repeat' (first|((with_reducible refine zH ?_);first|refine zF rfl rfl rfl ?_|refine zC rfl rfl rfl ?_|(refine zM rfl rfl rfl ?_;refine ⟨_,rfl,?_⟩)|refine zP rfl rfl rfl ?_|refine zn rfl rfl rfl rfl ?_|refine zd rfl rfl rfl ?_|(refine zE rfl rfl rfl rfl (fun _ _ q=>h1 ▸ zw _ _ _ _) ?_)|refine zAB rfl rfl rfl ?_|(refine zf rfl rfl rfl rfl (fun b=>?_)))|(with_reducible first|refine zK ?_|refine zB ?_|refine zG ?_|refine zA ?_|refine zR ?_|refine zb ?_)|((with_reducible refine zO ?_ ?_);(· exact rfl))))
   exact zN (by exact rTm rfl) () trivial rfl (fun _ h=>h.sub (by (repeat constructor)))
  | true =>
   have h2:=h0' h1
   (refine zD (n:=124) Tryz.func89 rfl rfl rfl ?_)
   (repeat' (first|((with_reducible refine zH ?_);first|refine zF rfl rfl rfl ?_|refine zC rfl rfl rfl ?_|(refine zM rfl rfl rfl ?_;refine ⟨_,rfl,?_⟩)|refine zP rfl rfl rfl ?_|refine zn rfl rfl rfl rfl ?_|(refine zE rfl rfl rfl rfl (fun _ _ q=>h1 ▸ zw _ _ _ _) ?_)|(refine zE rfl rfl rfl rfl (fun _ _ q=>h2 ▸ zw _ _ _ _) ?_)|refine zAB rfl rfl rfl ?_|refine zz rfl rfl rfl ?_|(refine zf rfl rfl rfl rfl (fun b=>?_)))|(with_reducible first|refine zK ?_|refine zB ?_|refine zG ?_|refine zA ?_|refine zR ?_|refine zb ?_)|((with_reducible refine zO ?_ ?_);(· exact rfl))))
   exact zN (by exact rTm rfl) () trivial rfl (fun _ h=>h.sub (by (repeat constructor)))
 obtain ⟨h1,h2⟩:=h0
 have hd:=zy.1 h1
 have hn:=zy.1 h2
 have hpos:0<x.c.syncs.length:=by omega
 obtain ⟨bb,o,hA,hblt,hc⟩:=hs.at_ hpos
 rw [hA] at hs
 have:InS w bb o zAf 3 x.c.syncs:=⟨hs⟩
 rw [hA]
 (refine zD (n:=124) Tryz.func89 rfl rfl rfl ?_)
 (repeat' (first|((with_reducible refine zH ?_);first|refine zF rfl rfl rfl ?_|refine zC rfl rfl rfl ?_|(refine zM rfl rfl rfl ?_;refine ⟨_,rfl,?_⟩)|refine zP rfl rfl rfl ?_|refine zn rfl rfl rfl rfl ?_|(refine zE rfl rfl rfl rfl (fun _ _ q=>h1 ▸ zw _ _ _ _) ?_)|(refine zE rfl rfl rfl rfl (fun _ _ q=>h2 ▸ zw _ _ _ _) ?_)|refine zAB rfl rfl rfl ?_|refine zz rfl rfl rfl ?_|(refine zf rfl rfl rfl rfl (fun b=>?_)))|(with_reducible first|refine zK ?_|refine zB ?_|refine zG ?_|refine zA ?_|refine zU ?_|refine zT ?_)|((with_reducible refine zI ?_ ?_);(· exact rfl))))
 obtain ⟨b1,hb1⟩:∃ b1,b1=b:=⟨_,rfl⟩
 subst hb1
 refine z9 (ι:=Nat) [1,2] rfl (fun i=>i≤x.c.syncs.length∧∀ j s,j<i→x.c.syncs[j]?=some s→zCd (zAZ x.c j) s=true) (fun i=>[(3,.int .i64 (i:Int))]) (fun i=>[.blk b1 [.int .i64 x.c.drift,.slice (some ⟨bb,o,none⟩) x.c.syncs.length x.cap]]) (fun i=>x.c.syncs.length - i) 0 ⟨Nat.zero_le _,fun j _ hj=>by omega⟩ (by (repeat first|exact lK1|refine za rfl ?_)) (by (repeat constructor)) ?_
 rintro i ⟨hi,hall⟩
 simp only [zAu,List.cons_append,List.nil_append]
 by_cases hlt:i<x.c.syncs.length
 ·obtain ⟨s,hx⟩:∃ s,x.c.syncs[i]?=some s:=⟨_,List.getElem?_eq_getElem hlt⟩
  have:zA5 x.c.syncs i s:=⟨hx⟩
  have hno:=fun h=>zHJ hx h
  have hyes:=fun (h:zCd (zAZ x.c i) s=true) (j:Nat) s' (hj:j<i+1) (h1:x.c.syncs[j]?=some s')=>(show zCd (zAZ x.c j) s'=true from by
   by_cases e:j=i
   ·subst e;rw [hx] at h1;cases h1;exact h
   ·exact hall j s' (by omega) h1)
  by_cases hi0:0<i
  ·obtain ⟨y,hy⟩:∃ y,x.c.syncs[i - 1]?=some y:=⟨_,List.getElem?_eq_getElem (by omega)⟩
   have:zA5 x.c.syncs (i - 1) y:=⟨hy⟩
   have el:zAZ x.c i=y.at_:=by have:=zB0 hy;rwa [show i - 1+1=i by omega] at this
   have hy0:=((zDa hall hi).2.2 (i - 1) y (by omega) hy).1
   rw [el] at hno hyes
   (repeat' (first|((with_reducible refine zH ?_);first|refine zF rfl rfl rfl ?_|(refine zM rfl rfl rfl ?_;refine ⟨_,rfl,?_⟩)|refine zP rfl rfl rfl ?_|(refine zS rfl rfl rfl rfl rfl (fun h=>?_) (fun h=>?_)<;>(dsimp only [cmpP] at h;(try (exfalso;omega))))|refine zAN rfl rfl rfl rfl rfl (by omega) ?_|refine zz rfl rfl rfl ?_|(refine zV rfl rfl rfl rfl rfl ?_;refine ⟨rfl,by first|decide|exact Nat.le_of_ble_eq_true rfl|(simp;omega),_,rfl,?_⟩)|(refine zX rfl rfl (fun b=>?_)))|(with_reducible first|refine zK ?_|refine zB ?_|refine zG ?_|refine zA ?_|refine zU ?_|refine zT ?_)|((with_reducible refine zO ?_ ?_);(· exact rfl))))
   (refine zBv (by kernel_rfl) (by kernel_rfl) (by kernel_rfl) ?_)
   (repeat' (first|((with_reducible refine zCj ?_);first|refine zp (zAi rfl rfl) rfl ?_|refine zp (zAC rfl rfl (by exact rfl)) rfl ?_|refine zp (zAd rfl rfl) rfl ?_|refine zp (zCA rfl rfl rfl) rfl ?_|refine zBd rfl rfl rfl ?_|(refine q_cmp rfl rfl rfl rfl rfl (fun h=>?_) (fun h=>?_)<;>(dsimp only [cmpP] at h;(try (exfalso;omega))))|refine zp (zAV (I:=(i - 1)) rfl rfl rfl (by omega) (by first|omega|(dsimp only;omega))) rfl ?_|(refine zDH rfl rfl rfl rfl (fun _ _ q=>zw _ _ _ _) (fun h=>?_) (fun h=>?_)<;>(try (exfalso;omega)))|refine zp (zF3 rfl rfl) rfl ?_|refine zp (zDy rfl rfl rfl (IntWalk.i64_in _ (by omega))) rfl ?_)|(with_reducible refine zDt ?_)))
   all_goals (repeat' (first|((with_reducible refine zH ?_);first|refine zF rfl rfl rfl ?_|refine zC rfl rfl rfl ?_|refine zAD rfl rfl rfl rfl (by omega) ?_)|(with_reducible first|refine zK ?_|refine zB ?_|refine zG ?_|refine zA ?_|refine zR ?_|refine zU ?_|refine zb ?_|refine zu ?_|refine zAw ?_)|((with_reducible refine zO ?_ ?_);(· exact rfl))|((with_reducible refine zI ?_ ?_);(· exact rfl))))
   all_goals first|(refine zN (by exact rTm rfl) () trivial ?_ (fun _ h=>h.sub (by (repeat constructor)));refine congrArg Value.bool (hno ?_);refine Bool.eq_false_iff.2 (fun h9=>?_);have h8:=zBW.1 h9;have h7:inB 0 86400000 s.at_=true:=zy.2 (by omega);first|omega|(simp_all;done))|skip
   all_goals exact zl (ι:=Nat) (i+1) ⟨by omega,hyes (zBW.2 (by have h7:=zy.1 (show inB 0 86400000 s.at_=true by assumption);omega))⟩ (by omega) (by (repeat first|exact lK1|refine za rfl ?_)) (by (repeat constructor))
  ·obtain rfl:i=0:=by omega
   (repeat' (first|((with_reducible refine zH ?_);first|refine zF rfl rfl rfl ?_|(refine zM rfl rfl rfl ?_;refine ⟨_,rfl,?_⟩)|refine zP rfl rfl rfl ?_|(refine zS rfl rfl rfl rfl rfl (fun h=>?_) (fun h=>?_)<;>(dsimp only [cmpP] at h;(try (exfalso;omega))))|refine zAN rfl rfl rfl rfl rfl (by omega) ?_|refine zz rfl rfl rfl ?_|(refine zV rfl rfl rfl rfl rfl ?_;refine ⟨rfl,by first|decide|exact Nat.le_of_ble_eq_true rfl|(simp;omega),_,rfl,?_⟩)|(refine zX rfl rfl (fun b=>?_)))|(with_reducible first|refine zK ?_|refine zB ?_|refine zG ?_|refine zA ?_|refine zU ?_|refine zT ?_)|((with_reducible refine zO ?_ ?_);(· exact rfl))))
   (refine zBv (by kernel_rfl) (by kernel_rfl) (by kernel_rfl) ?_)
   (repeat' (first|((with_reducible refine zCj ?_);first|refine zp (zAi rfl rfl) rfl ?_|refine zp (zAC rfl rfl (by exact rfl)) rfl ?_|refine zp (zAd rfl rfl) rfl ?_|refine zp (zCA rfl rfl rfl) rfl ?_|refine zBd rfl rfl rfl ?_|(refine q_cmp rfl rfl rfl rfl rfl (fun h=>?_) (fun h=>?_)<;>(dsimp only [cmpP] at h;(try (exfalso;omega))))|(refine zDH rfl rfl rfl rfl (fun _ _ q=>zw _ _ _ _) (fun h=>?_) (fun h=>?_)<;>(try (exfalso;omega)))|refine zp (zF3 rfl rfl) rfl ?_)|(with_reducible refine zDt ?_)))
   all_goals (repeat' (first|((with_reducible refine zH ?_);first|refine zF rfl rfl rfl ?_|refine zC rfl rfl rfl ?_|refine zAD rfl rfl rfl rfl (by omega) ?_)|(with_reducible first|refine zK ?_|refine zB ?_|refine zG ?_|refine zA ?_|refine zR ?_|refine zU ?_|refine zb ?_|refine zu ?_|refine zAw ?_)|((with_reducible refine zO ?_ ?_);(· exact rfl))|((with_reducible refine zI ?_ ?_);(· exact rfl))))
   all_goals first|(refine zN (by exact rTm rfl) () trivial ?_ (fun _ h=>h.sub (by (repeat constructor)));refine congrArg Value.bool (hno ?_);refine Bool.eq_false_iff.2 (fun h9=>?_);have h8:=zBW.1 h9;simp only [zAZ] at h8;have h7:inB 0 86400000 s.at_=true:=zy.2 (by omega);first|omega|(simp_all;done))|skip
   all_goals exact zl (ι:=Nat) (0+1) ⟨by omega,hyes (zBW.2 (by have h7:=zy.1 (show inB 0 86400000 s.at_=true by assumption);simp only [zAZ];omega))⟩ (by omega) (by (repeat first|exact lK1|refine za rfl ?_)) (by (repeat constructor))
 obtain rfl:i=x.c.syncs.length:=by omega
 obtain ⟨l1,l2,l3⟩:=zDa hall (Nat.le_refl _)
 (repeat' (first|((with_reducible refine zH ?_);first|refine zF rfl rfl rfl ?_|refine zC rfl rfl rfl ?_|(refine zM rfl rfl rfl ?_;refine ⟨_,rfl,?_⟩)|refine zP rfl rfl rfl ?_|(refine zS rfl rfl rfl rfl rfl (fun h=>?_) (fun h=>?_)<;>(dsimp only [cmpP] at h;(try (exfalso;omega))))|refine zz rfl rfl rfl ?_)|(with_reducible first|refine zK ?_|refine zB ?_|refine zG ?_|refine zA ?_|refine zT ?_|refine zr ?_|refine zZ ?_|refine ze ?_)|((with_reducible refine zI ?_ ?_);(· exact rfl))))
 refine z9 (ι:=Nat) [1,2] rfl (fun i=>i≤x.c.syncs.length∧∀ j s,j<i→x.c.syncs[j]?=some s→(x.c.syncs.take j).all (zBl x.c s)=true) (fun i=>[(5,.int .i64 (i:Int))]) (fun i=>[.blk b1 [.int .i64 x.c.drift,.slice (some ⟨bb,o,none⟩) x.c.syncs.length x.cap]]) (fun i=>x.c.syncs.length - i) 0 ⟨Nat.zero_le _,fun j _ hj=>by omega⟩ (by (repeat first|exact lK1|refine za rfl ?_)) (by (repeat constructor)) ?_
 rintro i ⟨hi2,hall2⟩
 simp only [zAu,List.cons_append,List.nil_append]
 by_cases hlt:i<x.c.syncs.length
 ·obtain ⟨s,hx⟩:∃ s,x.c.syncs[i]?=some s:=⟨_,List.getElem?_eq_getElem hlt⟩
  have:zA5 x.c.syncs i s:=⟨hx⟩
  (repeat' (first|((with_reducible refine zH ?_);first|refine zF rfl rfl rfl ?_|refine zC rfl rfl rfl ?_|(refine zM rfl rfl rfl ?_;refine ⟨_,rfl,?_⟩)|refine zP rfl rfl rfl ?_|(refine zS rfl rfl rfl rfl rfl (fun h=>?_) (fun h=>?_)<;>(dsimp only [cmpP] at h;(try (exfalso;omega))))|refine zz rfl rfl rfl ?_)|(with_reducible first|refine zK ?_|refine zB ?_|refine zG ?_|refine zA ?_|refine zU ?_|refine zT ?_)|((with_reducible refine zO ?_ ?_);(· exact rfl))))
  refine z9 (ι:=Nat) [1,2,5] rfl (fun k=>k≤i∧(x.c.syncs.take k).all (zBl x.c s)=true) (fun k=>[(6,.int .i64 (k:Int))]) (fun i=>[.blk b1 [.int .i64 x.c.drift,.slice (some ⟨bb,o,none⟩) x.c.syncs.length x.cap]]) (fun k=>i - k) 0 ⟨Nat.zero_le _,rfl⟩ (by (repeat first|exact lK1|refine za rfl ?_)) (by (repeat constructor)) ?_
  rintro k ⟨hk,hall3⟩
  simp only [zAu,List.cons_append,List.nil_append]
  by_cases hki:k<i
  ·obtain ⟨y,hy⟩:∃ y,x.c.syncs[k]?=some y:=⟨_,List.getElem?_eq_getElem (by omega)⟩
   have:zA5 x.c.syncs k y:=⟨hy⟩
   have hrise:=zGF hall hki hx hy
   have hsa:=l3 i s hlt hx
   have hya:=l3 k y (by omega) hy
   obtain ⟨m1,m2⟩:=zFy (c:=x.c) (s:=s) (o:=y) hd (by omega) (by omega)
   have hU:=fun W=>zFs x.c.drift (s.at_ - y.at_) W m1 (by omega)
   have hm:=upI_in (b:=1000000) m1 (by decide)
   have e3:upI (x.c.drift * (s.at_ - y.at_)) 1000000=zC1 x.c s y:=rfl
   rw [e3] at hU hm
   have e4:zBl x.c s y=(decide (s.ah.lo - y.ah.hi≤zC1 x.c s y) && decide (y.ah.lo - s.ah.hi≤zC1 x.c s y)):=rfl
   have hno:=fun h=>zHI hki hx hy h
   have e:=zCz (c:=x.c) (s:=s) hy
   rw [e4] at e hno
   rw [hall3,Bool.true_and] at e
   generalize zC1 x.c s y=mo at *
   (repeat' (first|((with_reducible refine zH ?_);first|refine zF rfl rfl rfl ?_|(refine zS rfl rfl rfl rfl rfl (fun h=>?_) (fun h=>?_)<;>(dsimp only [cmpP] at h;(try (exfalso;omega)))))|(with_reducible first|refine zK ?_|refine zB ?_|refine zG ?_|refine zA ?_|refine zU ?_|refine zT ?_)|((with_reducible refine zO ?_ ?_);(· exact rfl))))
   (refine zAP [(10,12),(11,13)] [] [] rfl (by decide) (fun _ h=>h) (by kernel_rfl) [[],[Z],[Y,Y],[Z,Z,Z],[Z,Z,Z,Z],[Y,Y,Y,Y,Y],[Z,Y,Y,Y,Y,Y],[Y,Y,Y,Y,Y,Y,Y],[Z,Z,Z,Y,Y,Y,Y,Y],[Z,Z,Z,Z,Y,Y,Y,Y,Y],[Y,Y,Y,Y,Y,Y,Y,Y,Y,Y],[Y,Y,Y,Y,Y,Y,Y,Y,Y,Y,Y],[Z,Z,Y,Y,Y,Y,Y,Z,Z,Z,Z,Z],[Z,Z,Z,Z,Z,Z,Z,Z,Z,Z,Z,Z,Z]] (by kernel_rfl) (by kernel_rfl) (by kernel_rfl) (by kernel_rfl) (by kernel_rfl) ?_)
   (repeat' (first|(((with_reducible refine zCL ?_ ?_);(· exact rfl);refine ⟨_,fun G=>(by (try simp (decide:=true) only [vis,see,fltT,z8,Nat.reduceAdd,Nat.reduceSub,if_true,if_false,List.set_cons_zero,List.set_cons_succ,List.set_nil,List.nil_append,List.cons_append]);rfl),?_⟩);first|refine zW _ (fun _=>zAi rfl rfl) (fun _=>rfl) rfl (by intro G G' h;simp (decide:=true) only [h]) ?_|refine zW _ (fun _=>zAC rfl rfl (by exact rfl)) (fun _=>rfl) rfl (by intro G G' h;simp (decide:=true) only [h]) ?_|(refine zAj rfl ?_;refine zW _ (fun _=>zAd rfl rfl) (fun _=>rfl) rfl (by intro G G' h;simp (decide:=true) only [h]) ?_)|refine zW _ (fun _=>zAV (I:=k) rfl rfl rfl rfl (by omega)) (fun _=>rfl) rfl (by exact fun _ _ _=>rfl) ?_|refine zW _ (fun _=>zAV (I:=i) rfl rfl rfl rfl (by omega)) (fun _=>rfl) rfl (by exact fun _ _ _=>rfl) ?_|refine zDO rfl (fun _=>rfl) rfl ?_)|(refine zCl (gx:=fun G=>(G 10).g) (cs:=fun _=>[.int .i64 0,.int .i64 0,.int .i64 0]) (cs':=fun _=>zAf y) 10 (by decide) rfl rfl (fun _=>rfl) rfl (fun _=>rfl) (fun _=>rfl) (fun _=>rfl) (fun _=>rfl) (fun _=>rfl) (fun _=>rfl) (fun _=>rfl) (by intro G G' h;simp (decide:=true) only [h]) (by exact fun _ _ _=>rfl) ?_)|(refine zCl (gx:=fun G=>(G 11).g) (cs:=fun _=>[.int .i64 0,.int .i64 0,.int .i64 0]) (cs':=fun _=>zAf s) 11 (by decide) rfl rfl (fun _=>rfl) rfl (fun _=>rfl) (fun _=>rfl) (fun _=>rfl) (fun _=>rfl) (fun _=>rfl) (fun _=>rfl) (fun _=>rfl) (by intro G G' h;simp (decide:=true) only [h]) (by exact fun _ _ _=>rfl) ?_)|(with_reducible refine zB2 ?_)))
   intro G
   simp only [regsT,List.nil_append,List.cons_append]
   refine zBk (H':=[.blk (G 11).g (zAf s),.blk (G 10).g (zAf y),.blk b1 [.int .i64 x.c.drift,.slice (some ⟨bb,o,none⟩) x.c.syncs.length x.cap]]) (fun _ h=>h) ?_
   unfold zAf
   (repeat' (first|((with_reducible refine zH ?_);first|refine zF rfl rfl rfl ?_|refine zC rfl rfl rfl ?_|(refine zM rfl rfl rfl ?_;refine ⟨_,rfl,?_⟩)|refine zP rfl rfl rfl ?_|refine zn rfl rfl rfl rfl ?_|refine zd rfl rfl rfl ?_|(refine zS rfl rfl rfl rfl rfl (fun h=>?_) (fun h=>?_)<;>(dsimp only [cmpP] at h;(try (exfalso;omega))))|refine zE rfl rfl rfl rfl (fun _ _ q=>hU _) ?_|refine zAD rfl rfl rfl rfl (by omega) ?_|refine zBu rfl rfl rfl rfl (IntWalk.i64_in _ (by omega)) ?_)|(with_reducible first|refine zK ?_|refine zB ?_|refine zG ?_|refine zA ?_|refine zR ?_|refine zU ?_|refine zb ?_|refine zu ?_|refine zAw ?_)|((with_reducible refine zO ?_ ?_);(· exact rfl))|((with_reducible refine zI ?_ ?_);(· exact rfl))))
   all_goals first|(refine zN (by exact rTm rfl) () trivial ?_ (fun _ h=>h.sub (by (repeat constructor)));refine congrArg Value.bool (hno ?_);simp only [Bool.and_eq_false_iff,decide_eq_false_iff_not];omega)|skip
   all_goals exact zl (ι:=Nat) (k+1) ⟨by omega,by rw [e];simp only [Bool.and_eq_true,decide_eq_true_eq];omega⟩ (by omega) (by (repeat first|exact lK1|refine za rfl ?_)) (by (repeat constructor))
  ·obtain rfl:k=i:=by omega
   (repeat' (first|((with_reducible refine zH ?_);first|refine zF rfl rfl rfl ?_|refine zC rfl rfl rfl ?_|(refine zS rfl rfl rfl rfl rfl (fun h=>?_) (fun h=>?_)<;>(dsimp only [cmpP] at h;(try (exfalso;omega))))|refine zAD rfl rfl rfl rfl (by omega) ?_)|(with_reducible first|refine zK ?_|refine zB ?_|refine zG ?_|refine zA ?_|refine zr ?_|refine zu ?_|refine zZ ?_|refine ze ?_)|((with_reducible refine zI ?_ ?_);(· exact rfl))))
   exact zl (ι:=Nat) (k+1) ⟨by omega,fun j s' hj hs'=>by
    by_cases e:j=k
    ·subst e;rw [hx] at hs';cases hs';exact hall3
    ·exact hall2 j s' (by omega) hs'⟩ (by omega) (by (repeat first|exact lK1|refine za rfl ?_)) (by (repeat constructor))
 obtain rfl:i=x.c.syncs.length:=by omega
 rw [zA8.2 ⟨h1,h2,fun j hj=>by
  obtain ⟨s,hx⟩:∃ s,x.c.syncs[j]?=some s:=⟨_,List.getElem?_eq_getElem hj⟩
  rw [zCf hx,hall j s hj hx,hall2 j s hj hx];rfl⟩]
 (repeat' (first|((with_reducible refine zH ?_);first|refine zF rfl rfl rfl ?_|refine zC rfl rfl rfl ?_|(refine zM rfl rfl rfl ?_;refine ⟨_,rfl,?_⟩)|refine zP rfl rfl rfl ?_|(refine zS rfl rfl rfl rfl rfl (fun h=>?_) (fun h=>?_)<;>(dsimp only [cmpP] at h;(try (exfalso;omega))))|refine zz rfl rfl rfl ?_)|(with_reducible first|refine zK ?_|refine zB ?_|refine zG ?_|refine zA ?_|refine zR ?_|refine zr ?_|refine zZ ?_|refine ze ?_)|((with_reducible refine zI ?_ ?_);(· exact rfl))))
 exact zN (by exact rTm rfl) () trivial rfl (fun _ h=>h.sub (by (repeat constructor)))
theorem zF7 {l:LnM}:ask1 l=true↔inB 1 5000 l.fast=true∧inB 1 4 l.cks.length=true∧inB 1 6 l.bms.length=true∧inB 0 ((l.bms.length:Int) - 1) l.finish=true∧inB 0 3 l.fakes=true∧inB 0 3 l.misses=true:=by
 unfold ask1;simp only [Bool.and_eq_true,and_assoc]
set_option maxHeartbeats 4000000 in
theorem zHC (l:LnM) (w:World) (h:zDT w l) (hs:zBa l) (hv:valid l.t=true):Gv Tryz.prog 58 [vLn l] w (.bool (zBI l)):=by
 have c1:=hs.c;have c2:=hs.b;have c3:=hs.t;have hT:=h.t;have hS:=h.s;have hCp:=h.cap
 unfold Gv
 by_cases h1:ask1 l=true
 rotate_left
 ·have e:zBI l=false:=by unfold zBI;rw [Bool.eq_false_iff.2 h1];rfl
  rw [e]
  rw [zF7] at h1
  unfold vLn
  (refine zD (n:=102) Tryz.func58 rfl rfl rfl ?_)
  (repeat' (first|((with_reducible refine zH ?_);first|refine zF rfl rfl rfl ?_|refine zC rfl rfl rfl ?_|(refine zM rfl rfl rfl ?_;refine ⟨_,rfl,?_⟩)|refine zP rfl rfl rfl ?_|refine zn rfl rfl rfl rfl ?_|refine zd rfl rfl rfl ?_|(refine zAO rfl rfl rfl rfl (fun _ _ q=>zw _ _ _ _) (fun h=>?_) (fun h=>?_)<;>(try (exfalso;omega)))|refine zAB rfl rfl rfl ?_|refine zBu rfl rfl rfl rfl (IntWalk.i64_in _ (by omega)) ?_|refine zz rfl rfl rfl ?_|(refine zf rfl rfl rfl rfl (fun b=>?_)))|(with_reducible first|refine zK ?_|refine zB ?_|refine zG ?_|refine zA ?_|refine zR ?_|refine zU ?_|refine zb ?_|refine zT ?_)|((with_reducible refine zO ?_ ?_);(· exact rfl))|((with_reducible refine zI ?_ ?_);(· exact rfl))))
  all_goals first|exact zN (by exact rTm rfl) () trivial rfl (fun _ h=>h.sub (by (repeat constructor)))|(exfalso;simp_all;done)
 obtain ⟨a1,a2,a3,a4,a5,a6⟩:=zF7.1 h1
 have e0:zBI l=(l.cks.all (fun x=>zAe x.c) && (l.bms.all (zCm l) && (List.range l.bms.length).all fun i=>decide (1≤zAv l i))):=by unfold zBI;rw [h1,Bool.true_and]
 have n1:=zy.1 a2
 have n2:=zy.1 a3
 have hway:=fun W (hW:Below w.heap.size w W) i hi=>rway_any l i W (h.below hW) hs hi
 unfold vLn at hway ⊢
 obtain ⟨bc,oc,hCA,hcl,hcc⟩:=h.c.at_ (show 0<l.cks.length by omega)
 obtain ⟨bb,ob,hBA,hbl,hbc⟩:=h.b.at_ (show 0<l.bms.length by omega)
 have hc:=h.c;have hb:=h.b
 rw [hCA] at hc;rw [hBA] at hb
 have:InS w bc oc zBb 2 l.cks:=⟨hc⟩
 have:InS w bb ob zAn 4 l.bms:=⟨hb⟩
 rw [hCA,hBA] at hway ⊢
 (refine zD (n:=102) Tryz.func58 rfl rfl rfl ?_)
 (repeat' (first|((with_reducible refine zH ?_);first|refine zF rfl rfl rfl ?_|refine zC rfl rfl rfl ?_|(refine zM rfl rfl rfl ?_;refine ⟨_,rfl,?_⟩)|refine zP rfl rfl rfl ?_|refine zn rfl rfl rfl rfl ?_|(refine zE rfl rfl rfl rfl (fun _ _ q=>a1 ▸ zw _ _ _ _) ?_)|(refine zE rfl rfl rfl rfl (fun _ _ q=>a2 ▸ zw _ _ _ _) ?_)|(refine zE rfl rfl rfl rfl (fun _ _ q=>a3 ▸ zw _ _ _ _) ?_)|(refine zE rfl rfl rfl rfl (fun _ _ q=>a4 ▸ zw _ _ _ _) ?_)|(refine zE rfl rfl rfl rfl (fun _ _ q=>a5 ▸ zw _ _ _ _) ?_)|(refine zE rfl rfl rfl rfl (fun _ _ q=>a6 ▸ zw _ _ _ _) ?_)|refine zAB rfl rfl rfl ?_|refine zBu rfl rfl rfl rfl (IntWalk.i64_in _ (by omega)) ?_|refine zz rfl rfl rfl ?_|(refine zf rfl rfl rfl rfl (fun b=>?_)))|(with_reducible first|refine zK ?_|refine zB ?_|refine zG ?_|refine zA ?_|refine zU ?_|refine zT ?_)|((with_reducible refine zI ?_ ?_);(· exact rfl))))
 obtain ⟨b1,hb1⟩:∃ b1,b1=b:=⟨_,rfl⟩
 subst hb1
 refine z9 (ι:=Nat) [1,2] rfl (fun i=>i≤l.cks.length∧∀ j x,j<i→l.cks[j]?=some x→zAe x.c=true) (fun i=>[(3,.int .i64 (i:Int))]) (fun i=>[.blk b1 [.slice l.TA l.t.length l.tc,.int .i64 l.fast,.slice (some ⟨bc,oc,none⟩) l.cks.length l.cc,.slice (some ⟨bb,ob,none⟩) l.bms.length l.bc,.int .i64 l.finish,.int .i64 l.fakes,.int .i64 l.misses]]) (fun i=>l.cks.length - i) 0 ⟨Nat.zero_le _,fun j _ hj=>by omega⟩ (by (repeat first|exact lK1|refine za rfl ?_)) (by (repeat constructor)) ?_
 rintro i ⟨hi,hall⟩
 simp only [zAu,List.cons_append,List.nil_append]
 by_cases hlt:i<l.cks.length
 ·obtain ⟨x,hx⟩:∃ s,l.cks[i]?=some s:=⟨_,List.getElem?_eq_getElem hlt⟩
  have hm:=List.mem_of_getElem? hx
  have:zA5 l.cks i x:=⟨hx⟩
  have hG:=fun W (hW:Below w.heap.size w W)=>zGO x W ((hS x hm).below hW) (hs.s x hm) (hCp x hm)
  unfold vCk at hG
  have hno:zAe x.c=false→zBI l=false:=fun h9=>by
   rw [e0];cases h8:l.cks.all (fun x=>zAe x.c) with
   | false=>rfl
   | true=>have:=List.all_eq_true.1 h8 x hm;rw [h9] at this;cases this
  cases hg:zAe x.c with
  | false =>
   rw [hno hg]
   rw [hg] at hG
   (repeat' (first|((with_reducible refine zH ?_);first|refine zF rfl rfl rfl ?_|refine zC rfl rfl rfl ?_|(refine zM rfl rfl rfl ?_;refine ⟨_,rfl,?_⟩)|refine zP rfl rfl rfl ?_|(refine zS rfl rfl rfl rfl rfl (fun h=>?_) (fun h=>?_)<;>(dsimp only [cmpP] at h;(try (exfalso;omega))))|refine zE rfl rfl rfl rfl (fun _ _ q=>hG _ q.below) ?_|refine zAB rfl rfl rfl ?_|refine zAN rfl rfl rfl rfl rfl (by omega) ?_|refine zz rfl rfl rfl ?_)|(with_reducible first|refine zK ?_|refine zB ?_|refine zG ?_|refine zA ?_|refine zR ?_|refine zU ?_|refine zb ?_|refine zT ?_|refine zAw ?_)|((with_reducible refine zO ?_ ?_);(· exact rfl))))
   exact zN (by exact rTm rfl) () trivial rfl (fun _ h=>h.sub (by (repeat constructor)))
  | true =>
   rw [hg] at hG
   (repeat' (first|((with_reducible refine zH ?_);first|refine zF rfl rfl rfl ?_|refine zC rfl rfl rfl ?_|(refine zM rfl rfl rfl ?_;refine ⟨_,rfl,?_⟩)|refine zP rfl rfl rfl ?_|(refine zS rfl rfl rfl rfl rfl (fun h=>?_) (fun h=>?_)<;>(dsimp only [cmpP] at h;(try (exfalso;omega))))|refine zE rfl rfl rfl rfl (fun _ _ q=>hG _ q.below) ?_|refine zAB rfl rfl rfl ?_|refine zAD rfl rfl rfl rfl (by omega) ?_|refine zAN rfl rfl rfl rfl rfl (by omega) ?_|refine zz rfl rfl rfl ?_)|(with_reducible first|refine zK ?_|refine zB ?_|refine zG ?_|refine zA ?_|refine zU ?_|refine zT ?_|refine zu ?_)|((with_reducible refine zO ?_ ?_);(· exact rfl))|((with_reducible refine zI ?_ ?_);(· exact rfl))))
   exact zl (ι:=Nat) (i+1) ⟨by omega,fun j s' hj hs'=>by
    by_cases e:j=i
    ·subst e;rw [hx] at hs';cases hs';exact hg
    ·exact hall j s' (by omega) hs'⟩ (by omega) (by (repeat first|exact lK1|refine za rfl ?_)) (by (repeat constructor))
 obtain rfl:i=l.cks.length:=by omega
 have e1:l.cks.all (fun x=>zAe x.c)=true:=List.all_eq_true.2 fun x hx=>by
  obtain ⟨j,hj⟩:=List.getElem?_of_mem hx
  exact hall j x (List.getElem?_eq_some_iff.1 hj).1 hj
 rw [e1,Bool.true_and] at e0
 (repeat' (first|((with_reducible refine zH ?_);first|refine zF rfl rfl rfl ?_|refine zC rfl rfl rfl ?_|(refine zM rfl rfl rfl ?_;refine ⟨_,rfl,?_⟩)|refine zP rfl rfl rfl ?_|(refine zS rfl rfl rfl rfl rfl (fun h=>?_) (fun h=>?_)<;>(dsimp only [cmpP] at h;(try (exfalso;omega))))|refine zz rfl rfl rfl ?_)|(with_reducible first|refine zK ?_|refine zB ?_|refine zG ?_|refine zA ?_|refine zT ?_|refine zr ?_|refine zZ ?_|refine ze ?_)|((with_reducible refine zI ?_ ?_);(· exact rfl))))
 refine z9 (ι:=Nat) [1,2] rfl (fun i=>i≤l.bms.length∧∀ j x,j<i→l.bms[j]?=some x→zCm l x=true) (fun i=>[(4,.int .i64 (i:Int))]) (fun i=>[.blk b1 [.slice l.TA l.t.length l.tc,.int .i64 l.fast,.slice (some ⟨bc,oc,none⟩) l.cks.length l.cc,.slice (some ⟨bb,ob,none⟩) l.bms.length l.bc,.int .i64 l.finish,.int .i64 l.fakes,.int .i64 l.misses]]) (fun i=>l.bms.length - i) 0 ⟨Nat.zero_le _,fun j _ hj=>by omega⟩ (by (repeat first|exact lK1|refine za rfl ?_)) (by (repeat constructor)) ?_
 rintro i ⟨hi2,hall2⟩
 simp only [zAu,List.cons_append,List.nil_append]
 by_cases hlt:i<l.bms.length
 ·obtain ⟨x,hx⟩:∃ s,l.bms[i]?=some s:=⟨_,List.getElem?_eq_getElem hlt⟩
  have hm:=List.mem_of_getElem? hx
  have:zA5 l.bms i x:=⟨hx⟩
  have hG:=fun W (hW:Below w.heap.size w W)=>zBj l.t l.TA l.tc x.spot W (hT.below hW) (zAy hv) (by omega)
  unfold zAl at hG
  have hno:zCm l x=false→zBI l=false:=fun h9=>by
   rw [e0];cases h8:l.bms.all (zCm l) with
   | false=>rfl
   | true=>have:=List.all_eq_true.1 h8 x hm;rw [h9] at this;cases this
  have hb:zCm l x=(zj l.t x.spot && inB 0 ((l.cks.length:Int) - 1) x.clock):=rfl
  rw [hb] at hno
  have hyes:=fun (h:(zj l.t x.spot && inB 0 ((l.cks.length:Int) - 1) x.clock)=true) (j:Nat) s' (hj:j<i+1) (h1:l.bms[j]?=some s')=>(show zCm l s'=true from by
   by_cases e:j=i
   ·subst e;rw [hx] at h1;cases h1;exact hb.trans h
   ·exact hall2 j s' (by omega) h1)
  generalize zj l.t x.spot=g at *
  (repeat' (first|((with_reducible refine zH ?_);first|refine zF rfl rfl rfl ?_|(refine zM rfl rfl rfl ?_;refine ⟨_,rfl,?_⟩)|refine zP rfl rfl rfl ?_|(refine zS rfl rfl rfl rfl rfl (fun h=>?_) (fun h=>?_)<;>(dsimp only [cmpP] at h;(try (exfalso;omega))))|refine zz rfl rfl rfl ?_)|(with_reducible first|refine zK ?_|refine zB ?_|refine zG ?_|refine zA ?_|refine zU ?_|refine zT ?_)|((with_reducible refine zO ?_ ?_);(· exact rfl))))
  (refine zBv (by kernel_rfl) (by kernel_rfl) (by kernel_rfl) ?_)
  (repeat' (first|((with_reducible refine zCj ?_);first|refine zp (zAi rfl rfl) rfl ?_|refine zp (zAC rfl rfl (by exact rfl)) rfl ?_|refine zp (zAd rfl rfl) rfl ?_|refine zp (zCA rfl rfl rfl) rfl ?_|refine zBd rfl rfl rfl ?_|refine zp (zAV (I:=i) rfl rfl rfl (by omega) (by first|omega|(dsimp only;omega))) rfl ?_|(refine zDH rfl rfl rfl rfl (fun _ _ q=>hG _ q.below) (fun h=>?_) (fun h=>?_)<;>(try (exfalso;omega)))|(refine zDH rfl rfl rfl rfl (fun _ _ q=>zw _ _ _ _) (fun h=>?_) (fun h=>?_)<;>(try (exfalso;omega)))|refine zp (zF3 rfl rfl) rfl ?_|refine zp (zDy rfl rfl rfl (IntWalk.i64_in _ (by omega))) rfl ?_|refine zp (zF4 rfl rfl) rfl ?_)|(with_reducible refine zDt ?_)))
  all_goals (repeat' (first|((with_reducible refine zH ?_);first|refine zF rfl rfl rfl ?_|refine zC rfl rfl rfl ?_|refine zAD rfl rfl rfl rfl (by omega) ?_)|(with_reducible first|refine zK ?_|refine zB ?_|refine zG ?_|refine zA ?_|refine zR ?_|refine zU ?_|refine zb ?_|refine zu ?_|refine zAw ?_)|((with_reducible refine zO ?_ ?_);(· exact rfl))|((with_reducible refine zI ?_ ?_);(· exact rfl))))
  all_goals first|(refine zN (by exact rTm rfl) () trivial ?_ (fun _ h=>h.sub (by (repeat constructor)));refine congrArg Value.bool (hno ?_);simp_all;done)|skip
  all_goals exact zl (ι:=Nat) (i+1) ⟨by omega,hyes (by simp_all)⟩ (by omega) (by (repeat first|exact lK1|refine za rfl ?_)) (by (repeat constructor))
 obtain rfl:i=l.bms.length:=by omega
 have e2:l.bms.all (zCm l)=true:=List.all_eq_true.2 fun x hx=>by
  obtain ⟨j,hj⟩:=List.getElem?_of_mem hx
  exact hall2 j x (List.getElem?_eq_some_iff.1 hj).1 hj
 rw [e2,Bool.true_and] at e0
 (repeat' (first|((with_reducible refine zH ?_);first|refine zF rfl rfl rfl ?_|refine zC rfl rfl rfl ?_|(refine zM rfl rfl rfl ?_;refine ⟨_,rfl,?_⟩)|refine zP rfl rfl rfl ?_|(refine zS rfl rfl rfl rfl rfl (fun h=>?_) (fun h=>?_)<;>(dsimp only [cmpP] at h;(try (exfalso;omega))))|refine zz rfl rfl rfl ?_)|(with_reducible first|refine zK ?_|refine zB ?_|refine zG ?_|refine zA ?_|refine zT ?_|refine zr ?_|refine zZ ?_|refine ze ?_)|((with_reducible refine zI ?_ ?_);(· exact rfl))))
 refine z9 (ι:=Nat) [1,2] rfl (fun i=>i≤l.bms.length∧∀ j,j<i→1≤zAv l j) (fun i=>[(5,.int .i64 (i:Int))]) (fun i=>[.blk b1 [.slice l.TA l.t.length l.tc,.int .i64 l.fast,.slice (some ⟨bc,oc,none⟩) l.cks.length l.cc,.slice (some ⟨bb,ob,none⟩) l.bms.length l.bc,.int .i64 l.finish,.int .i64 l.fakes,.int .i64 l.misses]]) (fun i=>l.bms.length - i) 0 ⟨Nat.zero_le _,fun j hj=>by omega⟩ (by (repeat first|exact lK1|refine za rfl ?_)) (by (repeat constructor)) ?_
 rintro i ⟨hi3,hall3⟩
 simp only [zAu,List.cons_append,List.nil_append]
 by_cases hlt:i<l.bms.length
 ·have h2:=fun W hW=>hway W hW i hlt
  by_cases hw:1≤zAv l i
  ·generalize hwv:zAv l i=v at *
   (repeat' (first|((with_reducible refine zH ?_);first|refine zF rfl rfl rfl ?_|refine zC rfl rfl rfl ?_|(refine zM rfl rfl rfl ?_;refine ⟨_,rfl,?_⟩)|refine zP rfl rfl rfl ?_|(refine zS rfl rfl rfl rfl rfl (fun h=>?_) (fun h=>?_)<;>(dsimp only [cmpP] at h;(try (exfalso;omega))))|refine zE rfl rfl rfl rfl (fun _ _ q=>h2 _ q.below) ?_|refine zAD rfl rfl rfl rfl (by omega) ?_|refine zz rfl rfl rfl ?_)|(with_reducible first|refine zK ?_|refine zB ?_|refine zG ?_|refine zA ?_|refine zU ?_|refine zT ?_|refine zu ?_)|((with_reducible refine zO ?_ ?_);(· exact rfl))|((with_reducible refine zI ?_ ?_);(· exact rfl))))
   exact zl (ι:=Nat) (i+1) ⟨by omega,fun j hj=>by
    by_cases e:j=i
    ·subst e;omega
    ·exact hall3 j (by omega)⟩ (by omega) (by (repeat first|exact lK1|refine za rfl ?_)) (by (repeat constructor))
  ·have e:((List.range l.bms.length).all fun i=>decide (1≤zAv l i))=false:=List.all_eq_false.2 ⟨i,List.mem_range.2 hlt,by simpa using hw⟩
   rw [e0,e]
   generalize hwv:zAv l i=v at *
   (repeat' (first|((with_reducible refine zH ?_);first|refine zF rfl rfl rfl ?_|refine zC rfl rfl rfl ?_|(refine zM rfl rfl rfl ?_;refine ⟨_,rfl,?_⟩)|refine zP rfl rfl rfl ?_|(refine zS rfl rfl rfl rfl rfl (fun h=>?_) (fun h=>?_)<;>(dsimp only [cmpP] at h;(try (exfalso;omega))))|refine zE rfl rfl rfl rfl (fun _ _ q=>h2 _ q.below) ?_|refine zz rfl rfl rfl ?_)|(with_reducible first|refine zK ?_|refine zB ?_|refine zG ?_|refine zA ?_|refine zR ?_|refine zU ?_|refine zb ?_|refine zT ?_|refine zAw ?_)|((with_reducible refine zO ?_ ?_);(· exact rfl))))
   exact zN (by exact rTm rfl) () trivial rfl (fun _ h=>h.sub (by (repeat constructor)))
 ·obtain rfl:i=l.bms.length:=by omega
  have e:((List.range l.bms.length).all fun i=>decide (1≤zAv l i))=true:=List.all_eq_true.2 fun j hj=>by simpa using hall3 j (List.mem_range.1 hj)
  rw [e0,e]
  (repeat' (first|((with_reducible refine zH ?_);first|refine zF rfl rfl rfl ?_|refine zC rfl rfl rfl ?_|(refine zM rfl rfl rfl ?_;refine ⟨_,rfl,?_⟩)|refine zP rfl rfl rfl ?_|(refine zS rfl rfl rfl rfl rfl (fun h=>?_) (fun h=>?_)<;>(dsimp only [cmpP] at h;(try (exfalso;omega))))|refine zz rfl rfl rfl ?_)|(with_reducible first|refine zK ?_|refine zB ?_|refine zG ?_|refine zA ?_|refine zR ?_|refine zr ?_|refine zZ ?_|refine ze ?_)|((with_reducible refine zI ?_ ?_);(· exact rfl))))
  exact zN (by exact rTm rfl) () trivial rfl (fun _ h=>h.sub (by (repeat constructor)))
theorem zFt (l:LnM) (w:World) (h:zDT w l) (hs:zBa l):Gv Tryz.prog 28 [vLn l] w (.int .i64 (zCv l)):=by
 have h6:=hs.t
 have hC:=fun W (hW:Below w.heap.size w W)=>zDD l.t l.TA l.tc W (h.t.below hW) hs.fit (by omega)
 unfold Gv
 cases hv:valid l.t
 ·have e:zCv l=10:=by unfold zCv;rw [hv];rfl
  rw [hv] at hC
  rw [e]
  unfold vLn
  (refine zD (n:=10) Tryz.func28 rfl rfl rfl ?_)
  (repeat' (first|((with_reducible refine zH ?_);first|refine zC rfl rfl rfl ?_|(refine zM rfl rfl rfl ?_;refine ⟨_,rfl,?_⟩)|refine zP rfl rfl rfl ?_|refine zE rfl rfl rfl rfl (fun _ _ q=>hC _ q.below) ?_|refine zAB rfl rfl rfl ?_|(refine zf rfl rfl rfl rfl (fun b=>?_)))|(with_reducible first|refine zK ?_|refine zB ?_|refine zG ?_|refine zA ?_|refine zR ?_|refine zb ?_)|((with_reducible refine zO ?_ ?_);(· exact rfl))))
  exact zN (by exact rTm rfl) () trivial rfl (fun _ h=>h.sub (by (repeat constructor)))
 ·rw [hv] at hC
  have hL:=fun W (hW:Below w.heap.size w W)=>zHC l W (h.below hW) hs hv
  have e:zCv l=if zBI l then 0 else 50:=by unfold zCv;rw [hv];rfl
  rw [e]
  unfold vLn at hL ⊢
  generalize zBI l=g at *
  cases g
  all_goals
   (refine zD (n:=10) Tryz.func28 rfl rfl rfl ?_)
   (repeat' (first|((with_reducible refine zH ?_);first|refine zC rfl rfl rfl ?_|(refine zM rfl rfl rfl ?_;refine ⟨_,rfl,?_⟩)|refine zP rfl rfl rfl ?_|refine zE rfl rfl rfl rfl (fun _ _ q=>hC _ q.below) ?_|refine zE rfl rfl rfl rfl (fun _ _ q=>hL _ q.below) ?_|refine zAB rfl rfl rfl ?_|(refine zf rfl rfl rfl rfl (fun b=>?_)))|(with_reducible first|refine zK ?_|refine zB ?_|refine zG ?_|refine zA ?_|refine zR ?_|refine zU ?_|refine zb ?_)|((with_reducible refine zO ?_ ?_);(· exact rfl))|((with_reducible refine zI ?_ ?_);(· exact rfl))))
   exact zN (by exact rTm rfl) () trivial rfl (fun _ h=>h.sub (by (repeat constructor)))
end Go.Proofs.YtcpdjamlhhfbhaaGreat.Two
namespace Go.Proofs.YtcpdjamlhhfbhaaGreat
variable {ro : Option Nat}
open Go.RowKit
set_option maxRecDepth 20000
section
variable {P : Program} {w0:World} {n:Nat} {d:List Deferred} {R:List (Nat × Value)} {H:List Ent} {Q:Exit→Act→World→Prop} {ops:Array Oper} {rest:List Oper} {o:Oper} {t:Tmp} {x y:Operand}
theorem u_eqb {T T':TypeId} {s:Nat} {g:Bool} {a b:Bool} (hop:o.op = .binOp .eql T x y T') [i1:TyI P T .bool s g] (hrd:rdy R ops n o=some t) (hx:evR R x=some (.bool a)) (hy:evR R y=some (.bool b))
  (h:U w0 n d ((t,.bool (a == b))::R) H (wpL ro P ops Q rest)):U w0 n d R H (wpL ro P ops Q (o::rest)) :=
 zAI hrd (fun a' w q=>by
  have e:=zEm (P:=P) (T:=T) a b w
  unfold execOp;rw [hop]
  cases a<;>cases b<;>simp [q.ev hx,q.ev hy,eqGuard,binOp,Op.equal,e]) h
end
structure RiM where
 s:SlM
 t:List St
 A:Option Addr
 c:Nat
 b:Bool
def zCu (r:RiM):List Value:=[.int .u8 r.s.cls,.int .i64 r.s.start.lo,.int .i64 r.s.start.hi,.int .i64 r.s.rub.lo,.int .i64 r.s.rub.hi,.int .i64 r.s.drag.lo,.int .i64 r.s.drag.hi,.int .i64 r.s.weight.lo,.int .i64 r.s.weight.hi,.int .i64 r.s.steer.lo,.int .i64 r.s.steer.hi,.slice r.A r.t.length r.c,.bool r.b]
def vRi (r:RiM):Value:=.agg #[.int .u8 r.s.cls,.int .i64 r.s.start.lo,.int .i64 r.s.start.hi,.int .i64 r.s.rub.lo,.int .i64 r.s.rub.hi,.int .i64 r.s.drag.lo,.int .i64 r.s.drag.hi,.int .i64 r.s.weight.lo,.int .i64 r.s.weight.hi,.int .i64 r.s.steer.lo,.int .i64 r.s.steer.hi,.slice r.A r.t.length r.c,.bool r.b]
theorem okSp_iff {s:Sp} {lo hi:Int} (h:lo≤hi):(s.lo=max lo (min s.lo s.hi)∧s.hi=min hi (max s.lo s.hi))↔(lo≤s.lo∧s.lo≤s.hi∧s.hi≤hi):=by
 constructor
 ·rintro ⟨h1,h2⟩;omega
 ·rintro ⟨h1,h2,h3⟩;omega
set_option maxHeartbeats 1000000 in
theorem zFj (s:Sp) (lo hi:Int) (A:Option Addr) (c:Nat) (w:World) (h:lo≤hi) (hA:zg zAM 2 w A [s]):Gv Tryz.prog 109 [.int .i64 lo,.int .i64 hi,.slice A 1 c] w (.bool (zAh s lo hi)):=by
 have hiff:=okSp_iff (s:=s) h
 obtain ⟨bA,oA,rfl,_,_⟩:=hA.at_ (show 0 < [s].length by simp)
 have:InS w bA oA zAM 2 [s]:=⟨hA⟩
 have:zA5 [s] 0 s:=⟨rfl⟩
 unfold Gv
 (refine zD (n:=33) Tryz.func109 rfl rfl rfl ?_)
 (repeat' (first|((with_reducible refine zH ?_);first|refine zF rfl rfl rfl ?_|refine zC rfl rfl rfl ?_|refine zz rfl rfl rfl ?_)|(with_reducible first|refine zK ?_|refine zB ?_|refine zG ?_|refine zA ?_|refine zT ?_)))
 refine z9 (ι:=Nat) [0,1,9,10] rfl (fun i=>i≤1∧(1≤i→zAh s lo hi=true)) (fun i=>[(11,.int .i64 (i:Int))]) (fun _=>[]) (fun i=>1 - i) 0 ⟨by omega,by omega⟩ (by (repeat first|exact lK1|refine za rfl ?_)) (by (repeat constructor)) ?_
 rintro i ⟨hi',hk⟩
 simp only [zAu,List.cons_append,List.nil_append]
 by_cases hlt:i<1
 ·obtain rfl:i=0:=by omega
  (repeat' (first|((with_reducible refine zH ?_);first|refine zF rfl rfl rfl ?_|refine zC rfl rfl rfl ?_|(refine zM rfl rfl rfl ?_;refine ⟨_,rfl,?_⟩)|refine zP rfl rfl rfl ?_|(refine zS rfl rfl rfl rfl rfl (fun h=>?_) (fun h=>?_)<;>(dsimp only [cmpP] at h;(try (exfalso;omega))))|refine zAN (I:=0) rfl rfl rfl rfl rfl (by decide) ?_|(refine u_nesp rfl rfl rfl rfl (fun h=>?_) (fun h=>?_)<;>(try (exfalso;omega)))|refine zAD rfl rfl rfl rfl (by omega) ?_|(refine zV rfl rfl rfl rfl rfl ?_;refine ⟨rfl,by first|decide|exact Nat.le_of_ble_eq_true rfl|(simp;omega),_,rfl,?_⟩)|(refine zX rfl rfl (fun b=>?_))|(refine zAJ rfl rfl rfl ?_;refine ⟨_,rfl,?_⟩)|refine u_min rfl rfl rfl rfl ?_|refine zFb rfl rfl rfl rfl ?_)|(with_reducible first|refine zK ?_|refine zB ?_|refine zG ?_|refine zA ?_|refine zR ?_|refine zU ?_|refine zb ?_|refine zT ?_|refine zu ?_|refine zAw ?_)|((with_reducible refine zO ?_ ?_);(· exact rfl))|((with_reducible refine zI ?_ ?_);(· exact rfl))))
  ·exact zl (ι:=Nat) 1 ⟨by omega,fun _=>zx.2 (hiff.1 h)⟩ (by omega) (by (repeat first|exact lK1|refine za rfl ?_)) (by (repeat constructor))
  ·have e:zAh s lo hi=false:=zAQ.2 (fun h9=>h (hiff.2 h9))
   rw [e]
   exact zN (by exact rTm rfl) () trivial rfl (fun _ h=>h.sub (by (repeat constructor)))
 ·obtain rfl:i=1:=by omega
  rw [hk (by omega)]
  (repeat' (first|((with_reducible refine zH ?_);first|refine zC rfl rfl rfl ?_|(refine zS rfl rfl rfl rfl rfl (fun h=>?_) (fun h=>?_)<;>(dsimp only [cmpP] at h;(try (exfalso;omega)))))|(with_reducible first|refine zK ?_|refine zB ?_|refine zG ?_|refine zA ?_|refine zR ?_|refine zr ?_|refine zZ ?_|refine ze ?_)|((with_reducible refine zI ?_ ?_);(· exact rfl))))
  exact zN (by exact rTm rfl) () trivial rfl (fun _ h=>h.sub (by (repeat constructor)))
set_option maxHeartbeats 2000000 in
theorem zGH (s:SlM) (w:World):Gv Tryz.prog 65 [vSl s] w (.int .i64 (if zCg s then 0 else 30)):=by
 obtain ⟨E,hE⟩:∃ E:Int,E=if zCg s then 0 else 30:=⟨_,rfl⟩
 have hno:(zCO s→False)→E=30:=fun h=>by rw [hE,if_neg (fun h9=>h (zBm.1 h9))]
 have hyes:zCO s→E=0:=fun h=>by rw [hE,if_pos (zBm.2 h)]
 rw [← hE]
 clear hE
 obtain ⟨cls,st,ru,dr,we,se⟩:=s
 unfold Gv vSl
 simp only
 (refine zD (n:=46) Tryz.func65 rfl rfl rfl ?_)
 (repeat' (first|((with_reducible refine zH ?_);first|refine zF rfl rfl rfl ?_|refine zC rfl rfl rfl ?_|(refine zM rfl rfl rfl ?_;refine ⟨_,rfl,?_⟩)|refine zP rfl rfl rfl ?_|refine zn rfl rfl rfl rfl ?_|refine zd rfl rfl rfl ?_|(refine zS rfl rfl rfl rfl rfl (fun h=>?_) (fun h=>?_)<;>(dsimp only [cmpP] at h;(try (exfalso;omega))))|(refine zAO rfl rfl rfl rfl (fun _ _ q=>zFj _ _ _ _ _ _ (by decide) (zo (enc:=zAM) (by exact rfl) _ q.below q.own)) (fun h=>?_) (fun h=>?_)<;>(simp only [zx,zAQ] at h)<;>(try (exfalso;omega)))|refine zAB rfl rfl rfl ?_|(refine zf rfl rfl rfl rfl (fun b=>?_))|(refine zc rfl rfl rfl ?_;refine ⟨rfl,_,rfl,fun b=>?_⟩))|(with_reducible first|refine zK ?_|refine zB ?_|refine zG ?_|refine zA ?_|refine zR ?_|refine zU ?_|refine zb ?_)|((with_reducible refine zO ?_ ?_);(· exact rfl))|((with_reducible refine zI ?_ ?_);(· exact rfl))))
 all_goals first|(refine zN (by exact rTm rfl) () trivial ?_ (fun _ h=>h.sub (by (repeat constructor)));refine congrArg (Value.int .i64) (hyes ⟨by simp only;omega,by simp only;omega,by simp only;omega,by simp only;omega,by simp only;omega,by simp only;omega⟩);done)|(refine zN (by exact rTm rfl) () trivial ?_ (fun _ h=>h.sub (by (repeat constructor)));refine congrArg (Value.int .i64) (hno fun hF=>?_);have h1:=hF.cls;have h2:=hF.start;have h3:=hF.rub;have h4:=hF.drag;have h5:=hF.weight;have h6:=hF.steer;simp only at h1 h2 h3 h4 h5 h6;omega)
theorem zEK (r:RiM) (s:Sp) (f:Bool) (w:World):Gv Tryz.prog 85 [vRi r,.agg #[.int .i64 s.lo,.int .i64 s.hi],.bool f] w (.int .i64 (zBN r.b s f)):=by
 obtain ⟨sl,t,A,c,b9⟩:=r
 unfold Gv vRi zBN
 simp only
 cases b9<;>cases f<;>simp only [if_true,if_false,Bool.false_eq_true,Bool.true_eq_false]
 all_goals
  (refine zD (n:=15) Tryz.func85 rfl rfl rfl ?_)
  (repeat' (first|((with_reducible refine zH ?_);first|refine zF rfl rfl rfl ?_|refine zC rfl rfl rfl ?_|(refine zM rfl rfl rfl ?_;refine ⟨_,rfl,?_⟩)|refine zP rfl rfl rfl ?_|refine u_eqb rfl rfl rfl rfl ?_|(refine zf rfl rfl rfl rfl (fun b=>?_)))|(with_reducible first|refine zK ?_|refine zB ?_|refine zG ?_|refine zA ?_|refine zR ?_|refine zU ?_|refine zb ?_)|((with_reducible refine zO ?_ ?_);(· exact rfl))|((with_reducible refine zI ?_ ?_);(· exact rfl))))
  exact zN (by exact rTm rfl) () trivial rfl (fun _ h=>h.sub (by (repeat constructor)))
set_option maxHeartbeats 1000000 in
theorem sair_any (r:RiM) (h long:Int) (w:World) (hs:zCO r.s) (h1:0≤h∧h≤400000) (h2:0≤long∧long≤30000):Gv Tryz.prog 122 [vRi r,.int .i64 h,.int .i64 long] w (.int .i64 (airI r.b r.s h long)):=by
 have hO:=fun s f W=>zEK r s f W
 have a1:=zBM (b:=r.b) (f:=false) hs.drag.1 hs.drag.2.1 hs.drag.2.2
 have a2:=zBM (b:=r.b) (f:=true) hs.weight.1 hs.weight.2.1 hs.weight.2.2
 have a3:=zDh h1.1 h1.2 a1.1 a1.2
 have a4:=zDh a3.1 a3.2 h2.1 h2.2
 have a5:=Int.ediv_nonneg a4.1 (show 0≤100 * zBN r.b r.s.weight true by omega)
 have a6:=Int.ediv_le_self (100 * zBN r.b r.s.weight true) a4.1
 have e:airI r.b r.s h long=min h (h * zBN r.b r.s.drag false * long / (100 * zBN r.b r.s.weight true)):=rfl
 rw [e]
 clear e hs
 obtain ⟨⟨cls,st,ru,dr,we,se⟩,t,A,c,b9⟩:=r
 unfold Gv
 unfold vRi at *
 simp only at *
 (refine zD (n:=25) Tryz.func122 rfl rfl rfl ?_)
 (repeat' (first|((with_reducible refine zH ?_);first|refine zC rfl rfl rfl ?_|(refine zf rfl rfl rfl rfl (fun b=>?_)))|(with_reducible first|refine zK ?_|refine zB ?_|refine zG ?_|refine zA ?_)))
 (refine zBv (by kernel_rfl) (by kernel_rfl) (by kernel_rfl) ?_)
 (repeat' (first|((with_reducible refine zCj ?_);first|refine zp (zAi rfl rfl) rfl ?_|refine zp (zAC rfl rfl (by exact rfl)) rfl ?_|refine zp (zAd rfl rfl) rfl ?_|refine zp (zAa rfl rfl) rfl ?_|refine zBy rfl rfl rfl rfl (fun _ _ q=>hO dr false _) ?_|refine zBy rfl rfl rfl rfl (fun _ _ q=>hO we true _) ?_|refine zp (e_mul rfl rfl rfl (IntWalk.i64_in _ (by omega))) rfl ?_|refine zp (e_quo rfl rfl rfl (by omega) (by omega) (IntWalk.i64_in _ (by omega))) rfl ?_|refine zp (e_mul rfl rfl rfl (IntWalk.i64_in _ (by omega))) rfl ?_|refine zp (e_quo rfl rfl rfl (by omega) (by omega) (IntWalk.i64_in _ (by omega))) rfl ?_|refine zp (e_min rfl rfl rfl) rfl ?_)|(with_reducible refine zDt ?_)))
 all_goals (repeat' (first|(with_reducible first|refine zA ?_|refine zR ?_)))
 all_goals exact zN (by exact rTm rfl) () trivial rfl (fun _ h=>h.sub (by (repeat constructor)))
theorem sice_any (r:RiM) (h long:Int) (w:World) (hs:zCO r.s) (h2:0≤long∧long≤30000):Gv Tryz.prog 123 [vRi r,.int .i64 h,.int .i64 long] w (.int .i64 (iceI r.b r.s long)):=by
 have hO:=fun s f W=>zEK r s f W
 have a1:=zBM (b:=r.b) (f:=false) hs.rub.1 hs.rub.2.1 hs.rub.2.2
 have a3:=zDh a1.1 a1.2 h2.1 h2.2
 have e:iceI r.b r.s long=zBN r.b r.s.rub false * long / 100:=rfl
 rw [e]
 clear e hs
 obtain ⟨⟨cls,st,ru,dr,we,se⟩,t,A,c,b9⟩:=r
 unfold Gv
 unfold vRi at *
 simp only at *
 (refine zD (n:=15) Tryz.func123 rfl rfl rfl ?_)
 (repeat' (first|((with_reducible refine zH ?_);first|refine zF rfl rfl rfl ?_|refine zC rfl rfl rfl ?_|(refine zM rfl rfl rfl ?_;refine ⟨_,rfl,?_⟩)|refine zP rfl rfl rfl ?_|refine zE rfl rfl rfl rfl (fun _ _ q=>hO ru false _) ?_|refine zDC rfl rfl rfl rfl (IntWalk.i64_in _ (by omega)) ?_|refine zED rfl rfl rfl rfl (by omega) (by omega) (IntWalk.i64_in _ (by omega)) ?_|refine zDC rfl rfl rfl rfl (IntWalk.i64_in _ (by omega)) ?_|(refine zf rfl rfl rfl rfl (fun b=>?_))|refine zED rfl rfl rfl rfl (by omega) (by omega) (IntWalk.i64_in _ (by omega)) ?_)|(with_reducible first|refine zK ?_|refine zB ?_|refine zG ?_|refine zA ?_|refine zR ?_)))
 exact zN (by exact rTm rfl) () trivial rfl (fun _ h=>h.sub (by (repeat constructor)))
theorem zFm (w:World):Gv Tryz.prog 84 [] w (.agg #[.func (.func 122) #[] #[],.func (.func 123) #[] #[]]):=by
 unfold Gv
 (refine zD (n:=4) Tryz.func84 rfl rfl rfl ?_)
 (repeat' (first|((with_reducible refine zH ?_);first|(refine zFY rfl rfl rfl ?_;refine ⟨_,rfl,?_⟩)|(refine zV rfl rfl rfl rfl rfl ?_;refine ⟨rfl,by first|decide|exact Nat.le_of_ble_eq_true rfl|(simp;omega),_,rfl,?_⟩)|(refine zX rfl rfl (fun b=>?_))|(refine zAJ rfl rfl rfl ?_;refine ⟨_,rfl,?_⟩))|(with_reducible first|refine zK ?_|refine zB ?_|refine zG ?_|refine zA ?_|refine zR ?_)))
 exact zN (by (exact zi.cons (by exact res1c rfl (by exact rfl)) zi.nil)) () trivial rfl (fun _ h=>h.sub (by (repeat constructor)))
end Go.Proofs.YtcpdjamlhhfbhaaGreat
