/- A16 -/
import Derived.Test.YtfiekidciiighaaGreatA15
import Derived.Test.YtfiekidciiighaaGreatA14
set_option linter.unusedSimpArgs false
set_option linter.unusedVariables false
namespace Go.Proofs.YtfiekidciiighaaGreat.Two
variable {ro : Option Nat}
open Go.RowKit
set_option maxRecDepth 20000
theorem zF4 {c:Clk} {i:Nat} (h:∀ j s,j<i→c.syncs[j]?=some s→zEa (zBf c j) s=true) (hi:i≤c.syncs.length):-1≤zBf c i∧zBf c i≤86400000∧∀ j s,j<i→c.syncs[j]?=some s→0≤s.at_∧s.at_≤zBf c i∧-10000≤s.ah.lo∧s.ah.lo≤s.ah.hi∧s.ah.hi≤10000:=by
 induction i with
 | zero=>exact ⟨Int.le_refl _,by simp [zBf],fun j s hj=>by omega⟩
 | succ i ih =>
  obtain ⟨h1,h2,h3⟩:=ih (fun j s hj=>h j s (by omega)) (by omega)
  obtain ⟨s,hs⟩:∃ s,c.syncs[i]?=some s:=⟨_,List.getElem?_eq_getElem (by omega)⟩
  have h5:=zDC.1 (h i s (by omega) hs)
  rw [zDs hs]
  refine ⟨by omega,by omega,fun j s' hj hs'=>?_⟩
  by_cases e:j=i
  ·subst e;rw [hs] at hs';cases hs';omega
  ·have:=h3 j s' (by omega) hs';omega
theorem zKG {c:Clk} {i j:Nat} {s y:Sy} (h:∀ j s,j<c.syncs.length→c.syncs[j]?=some s→zEa (zBf c j) s=true) (hj:j<i) (hs:c.syncs[i]?=some s) (hy:c.syncs[j]?=some y):y.at_<s.at_:=by
 have hi:=(List.getElem?_eq_some_iff.1 hs).1
 have h1:=(zF4 (i:=i) (fun j s hj=>h j s (by omega)) (by omega)).2.2 j y hj hy
 have h2:=zDC.1 (h i s hi hs)
 omega
theorem zL4 {c:Clk} {i:Nat} {s:Sy} (hs:c.syncs[i]?=some s) (h:zEa (zBf c i) s=false):zBg c=false:=by
 cases hg:zBg c with
 | false=>rfl
 | true=>have:=(zCB.1 hg).2.2 i (List.getElem?_eq_some_iff.1 hs).1;rw [zEh hs,h] at this;cases this
theorem zL3 {c:Clk} {i j:Nat} {s y:Sy} (hj:j<i) (hs:c.syncs[i]?=some s) (hy:c.syncs[j]?=some y) (h:zDd c s y=false):zBg c=false:=by
 cases hg:zBg c with
 | false=>rfl
 | true =>
  have:=(zCB.1 hg).2.2 i (List.getElem?_eq_some_iff.1 hs).1
  rw [zEh hs,Bool.and_eq_true] at this
  have h2:=List.all_eq_true.1 this.2 y (List.mem_of_getElem? (i:=j) (by rw [List.getElem?_take,if_pos hj];exact hy))
  rw [h] at h2;cases h2
set_option maxHeartbeats 8000000 in
theorem zKQ (x:CkM) (w:World) (hs:zAC zBV 3 w x.A x.c.syncs) (hl:x.c.syncs.length≤10) (hcap:x.c.syncs.length≤x.cap):Gv Tryz.prog 64 [vCk x] w (.bool (zBg x.c)):=by
 unfold Gv vCk
 by_cases h0:inB 0 1000 x.c.drift=true∧inB 1 5 x.c.syncs.length=true
 rotate_left
 ·have e:zBg x.c=false:=by
   cases hg:zBg x.c with
   | false=>rfl
   | true=>exact absurd ⟨(zCB.1 hg).1,(zCB.1 hg).2.1⟩ h0
  rw [e]
  have h0':inB 0 1000 x.c.drift=true→inB 1 5 (x.c.syncs.length:Int)=false:=fun h1=>by
   cases h2:inB 1 5 (x.c.syncs.length:Int) with
   | false=>rfl
   | true=>exact absurd ⟨h1,h2⟩ h0
  cases h1:inB 0 1000 x.c.drift with
  | false =>
   (refine zK (n:=124) Tryz.func64 rfl rfl rfl ?_)
   (repeat' (first|((with_reducible refine zG ?_);first|refine zD rfl rfl rfl ?_|refine zC rfl rfl rfl ?_|(refine zJ rfl rfl rfl ?_;refine ⟨_,rfl,?_⟩)|refine zL rfl rfl rfl ?_|refine z7 rfl rfl rfl rfl ?_|refine zf rfl rfl rfl ?_|(refine zO rfl rfl rfl rfl (fun _ _ q=>h1 ▸ zAX _ _ _ _) ?_)|refine zAI rfl rfl rfl ?_|(refine zp rfl rfl rfl rfl (fun b=>?_)))|(with_reducible first|refine zI ?_|refine zB ?_|refine zE ?_|refine zA ?_|refine zV ?_|refine zU ?_)|((with_reducible refine zH ?_ ?_);(· exact rfl))))
   exact zP (by exact rTm rfl) () trivial rfl (fun _ h=>h.sub (by (repeat constructor)))
  | true =>
   have h2:=h0' h1
   (refine zK (n:=124) Tryz.func64 rfl rfl rfl ?_)
   (repeat' (first|((with_reducible refine zG ?_);first|refine zD rfl rfl rfl ?_|refine zC rfl rfl rfl ?_|(refine zJ rfl rfl rfl ?_;refine ⟨_,rfl,?_⟩)|refine zL rfl rfl rfl ?_|refine z7 rfl rfl rfl rfl ?_|(refine zO rfl rfl rfl rfl (fun _ _ q=>h1 ▸ zAX _ _ _ _) ?_)|(refine zO rfl rfl rfl rfl (fun _ _ q=>h2 ▸ zAX _ _ _ _) ?_)|refine zAI rfl rfl rfl ?_|refine zn rfl rfl rfl ?_|(refine zp rfl rfl rfl rfl (fun b=>?_)))|(with_reducible first|refine zI ?_|refine zB ?_|refine zE ?_|refine zA ?_|refine zV ?_|refine zU ?_)|((with_reducible refine zH ?_ ?_);(· exact rfl))))
   exact zP (by exact rTm rfl) () trivial rfl (fun _ h=>h.sub (by (repeat constructor)))
 obtain ⟨h1,h2⟩:=h0
 have hd:=zAA.1 h1
 have hn:=zAA.1 h2
 have hpos:0<x.c.syncs.length:=by omega
 obtain ⟨bb,o,hA,hblt,hc⟩:=hs.at_ hpos
 rw [hA] at hs
 have:InS w bb o zBV 3 x.c.syncs:=⟨hs⟩
 rw [hA]
 (refine zK (n:=124) Tryz.func64 rfl rfl rfl ?_)
 (repeat' (first|((with_reducible refine zG ?_);first|refine zD rfl rfl rfl ?_|refine zC rfl rfl rfl ?_|(refine zJ rfl rfl rfl ?_;refine ⟨_,rfl,?_⟩)|refine zL rfl rfl rfl ?_|refine z7 rfl rfl rfl rfl ?_|(refine zO rfl rfl rfl rfl (fun _ _ q=>h1 ▸ zAX _ _ _ _) ?_)|(refine zO rfl rfl rfl rfl (fun _ _ q=>h2 ▸ zAX _ _ _ _) ?_)|refine zAI rfl rfl rfl ?_|refine zn rfl rfl rfl ?_|(refine zp rfl rfl rfl rfl (fun b=>?_)))|(with_reducible first|refine zI ?_|refine zB ?_|refine zE ?_|refine zA ?_|refine zR ?_|refine zQ ?_)|((with_reducible refine zF ?_ ?_);(· exact rfl))))
 obtain ⟨b1,hb1⟩:∃ b1,b1=b:=⟨_,rfl⟩
 subst hb1
 refine zAB (ι:=Nat) [1,2] rfl (fun i=>i≤x.c.syncs.length∧∀ j s,j<i→x.c.syncs[j]?=some s→zEa (zBf x.c j) s=true) (fun i=>[(3,.int .i64 (i:Int))]) (fun i=>[.blk b1 [.int .i64 x.c.drift,.slice (some ⟨bb,o,none⟩) x.c.syncs.length x.cap]]) (fun i=>x.c.syncs.length - i) 0 ⟨Nat.zero_le _,fun j _ hj=>by omega⟩ (by (repeat first|exact lK1|refine zT rfl ?_)) (by (repeat constructor)) ?_
 rintro i ⟨hi,hall⟩
 simp only [zAk,List.cons_append,List.nil_append]
 by_cases hlt:i<x.c.syncs.length
 ·obtain ⟨s,hx⟩:∃ s,x.c.syncs[i]?=some s:=⟨_,List.getElem?_eq_getElem hlt⟩
  have:zAT x.c.syncs i s:=⟨hx⟩
  have hno:=fun h=>zL4 hx h
  have hyes:=fun (h:zEa (zBf x.c i) s=true) (j:Nat) s' (hj:j<i+1) (h1:x.c.syncs[j]?=some s')=>(show zEa (zBf x.c j) s'=true from by
   by_cases e:j=i
   ·subst e;rw [hx] at h1;cases h1;exact h
   ·exact hall j s' (by omega) h1)
  by_cases hi0:0<i
  ·obtain ⟨y,hy⟩:∃ y,x.c.syncs[i - 1]?=some y:=⟨_,List.getElem?_eq_getElem (by omega)⟩
   have:zAT x.c.syncs (i - 1) y:=⟨hy⟩
   have el:zBf x.c i=y.at_:=by have:=zDs hy;rwa [show i - 1+1=i by omega] at this
   have hy0:=((zF4 hall hi).2.2 (i - 1) y (by omega) hy).1
   rw [el] at hno hyes
   (repeat' (first|((with_reducible refine zG ?_);first|refine zD rfl rfl rfl ?_|(refine zJ rfl rfl rfl ?_;refine ⟨_,rfl,?_⟩)|refine zL rfl rfl rfl ?_|(refine zS rfl rfl rfl rfl rfl (fun h=>?_) (fun h=>?_)<;>(dsimp only [cmpP] at h;(try (exfalso;omega))))|refine zo rfl rfl rfl rfl rfl (by omega) ?_|refine zn rfl rfl rfl ?_|(refine zX rfl rfl rfl rfl rfl ?_;refine ⟨rfl,by first|decide|exact Nat.le_of_ble_eq_true rfl|(simp;omega),_,rfl,?_⟩)|(refine zb rfl rfl (fun b=>?_)))|(with_reducible first|refine zI ?_|refine zB ?_|refine zE ?_|refine zA ?_|refine zR ?_|refine zQ ?_)|((with_reducible refine zH ?_ ?_);(· exact rfl))))
   (refine zAD (by kernel_rfl) (by kernel_rfl) (by kernel_rfl) ?_)
   (repeat' (first|((with_reducible refine zAP ?_);first|refine zM (zl rfl rfl) rfl ?_|refine zM (zW rfl rfl (by exact rfl)) rfl ?_|refine zM (zY rfl rfl) rfl ?_|refine zM (zAh rfl rfl rfl) rfl ?_|refine zAJ rfl rfl rfl ?_|(refine zAu rfl rfl rfl rfl rfl (fun h=>?_) (fun h=>?_)<;>(dsimp only [cmpP] at h;(try (exfalso;omega))))|refine zM (zw (I:=(i - 1)) rfl rfl rfl (by omega) (by first|omega|(dsimp only;omega))) rfl ?_|(refine zCb rfl rfl rfl rfl (fun _ _ q=>zAX _ _ _ _) (fun h=>?_) (fun h=>?_)<;>(try (exfalso;omega)))|refine zM (zDt rfl rfl) rfl ?_|refine zM (zBW rfl rfl rfl (IntWalk.i64_in _ (by omega))) rfl ?_)|(with_reducible refine zAe ?_)))
   all_goals (repeat' (first|((with_reducible refine zG ?_);first|refine zD rfl rfl rfl ?_|refine zC rfl rfl rfl ?_|refine zu rfl rfl rfl rfl (by omega) ?_)|(with_reducible first|refine zI ?_|refine zB ?_|refine zE ?_|refine zA ?_|refine zV ?_|refine zR ?_|refine zU ?_|refine zj ?_|refine zAV ?_)|((with_reducible refine zH ?_ ?_);(· exact rfl))|((with_reducible refine zF ?_ ?_);(· exact rfl))))
   all_goals first|(refine zP (by exact rTm rfl) () trivial ?_ (fun _ h=>h.sub (by (repeat constructor)));refine congrArg Value.bool (hno ?_);refine Bool.eq_false_iff.2 (fun h9=>?_);have h8:=zDC.1 h9;have h7:inB 0 86400000 s.at_=true:=zAA.2 (by omega);first|omega|(simp_all;done))|skip
   all_goals exact zd (ι:=Nat) (i+1) ⟨by omega,hyes (zDC.2 (by have h7:=zAA.1 (show inB 0 86400000 s.at_=true by assumption);omega))⟩ (by omega) (by (repeat first|exact lK1|refine zT rfl ?_)) (by (repeat constructor))
  ·obtain rfl:i=0:=by omega
   (repeat' (first|((with_reducible refine zG ?_);first|refine zD rfl rfl rfl ?_|(refine zJ rfl rfl rfl ?_;refine ⟨_,rfl,?_⟩)|refine zL rfl rfl rfl ?_|(refine zS rfl rfl rfl rfl rfl (fun h=>?_) (fun h=>?_)<;>(dsimp only [cmpP] at h;(try (exfalso;omega))))|refine zo rfl rfl rfl rfl rfl (by omega) ?_|refine zn rfl rfl rfl ?_|(refine zX rfl rfl rfl rfl rfl ?_;refine ⟨rfl,by first|decide|exact Nat.le_of_ble_eq_true rfl|(simp;omega),_,rfl,?_⟩)|(refine zb rfl rfl (fun b=>?_)))|(with_reducible first|refine zI ?_|refine zB ?_|refine zE ?_|refine zA ?_|refine zR ?_|refine zQ ?_)|((with_reducible refine zH ?_ ?_);(· exact rfl))))
   (refine zAD (by kernel_rfl) (by kernel_rfl) (by kernel_rfl) ?_)
   (repeat' (first|((with_reducible refine zAP ?_);first|refine zM (zl rfl rfl) rfl ?_|refine zM (zW rfl rfl (by exact rfl)) rfl ?_|refine zM (zY rfl rfl) rfl ?_|refine zM (zAh rfl rfl rfl) rfl ?_|refine zAJ rfl rfl rfl ?_|(refine zAu rfl rfl rfl rfl rfl (fun h=>?_) (fun h=>?_)<;>(dsimp only [cmpP] at h;(try (exfalso;omega))))|(refine zCb rfl rfl rfl rfl (fun _ _ q=>zAX _ _ _ _) (fun h=>?_) (fun h=>?_)<;>(try (exfalso;omega)))|refine zM (zDt rfl rfl) rfl ?_)|(with_reducible refine zAe ?_)))
   all_goals (repeat' (first|((with_reducible refine zG ?_);first|refine zD rfl rfl rfl ?_|refine zC rfl rfl rfl ?_|refine zu rfl rfl rfl rfl (by omega) ?_)|(with_reducible first|refine zI ?_|refine zB ?_|refine zE ?_|refine zA ?_|refine zV ?_|refine zR ?_|refine zU ?_|refine zj ?_|refine zAV ?_)|((with_reducible refine zH ?_ ?_);(· exact rfl))|((with_reducible refine zF ?_ ?_);(· exact rfl))))
   all_goals first|(refine zP (by exact rTm rfl) () trivial ?_ (fun _ h=>h.sub (by (repeat constructor)));refine congrArg Value.bool (hno ?_);refine Bool.eq_false_iff.2 (fun h9=>?_);have h8:=zDC.1 h9;simp only [zBf] at h8;have h7:inB 0 86400000 s.at_=true:=zAA.2 (by omega);first|omega|(simp_all;done))|skip
   all_goals exact zd (ι:=Nat) (0+1) ⟨by omega,hyes (zDC.2 (by have h7:=zAA.1 (show inB 0 86400000 s.at_=true by assumption);simp only [zBf];omega))⟩ (by omega) (by (repeat first|exact lK1|refine zT rfl ?_)) (by (repeat constructor))
 obtain rfl:i=x.c.syncs.length:=by omega
 obtain ⟨l1,l2,l3⟩:=zF4 hall (Nat.le_refl _)
 (repeat' (first|((with_reducible refine zG ?_);first|refine zD rfl rfl rfl ?_|refine zC rfl rfl rfl ?_|(refine zJ rfl rfl rfl ?_;refine ⟨_,rfl,?_⟩)|refine zL rfl rfl rfl ?_|(refine zS rfl rfl rfl rfl rfl (fun h=>?_) (fun h=>?_)<;>(dsimp only [cmpP] at h;(try (exfalso;omega))))|refine zn rfl rfl rfl ?_)|(with_reducible first|refine zI ?_|refine zB ?_|refine zE ?_|refine zA ?_|refine zQ ?_|refine zz ?_|refine zZ ?_|refine ze ?_)|((with_reducible refine zF ?_ ?_);(· exact rfl))))
 refine zAB (ι:=Nat) [1,2] rfl (fun i=>i≤x.c.syncs.length∧∀ j s,j<i→x.c.syncs[j]?=some s→(x.c.syncs.take j).all (zDd x.c s)=true) (fun i=>[(5,.int .i64 (i:Int))]) (fun i=>[.blk b1 [.int .i64 x.c.drift,.slice (some ⟨bb,o,none⟩) x.c.syncs.length x.cap]]) (fun i=>x.c.syncs.length - i) 0 ⟨Nat.zero_le _,fun j _ hj=>by omega⟩ (by (repeat first|exact lK1|refine zT rfl ?_)) (by (repeat constructor)) ?_
 rintro i ⟨hi2,hall2⟩
 simp only [zAk,List.cons_append,List.nil_append]
 by_cases hlt:i<x.c.syncs.length
 ·obtain ⟨s,hx⟩:∃ s,x.c.syncs[i]?=some s:=⟨_,List.getElem?_eq_getElem hlt⟩
  have:zAT x.c.syncs i s:=⟨hx⟩
  (repeat' (first|((with_reducible refine zG ?_);first|refine zD rfl rfl rfl ?_|refine zC rfl rfl rfl ?_|(refine zJ rfl rfl rfl ?_;refine ⟨_,rfl,?_⟩)|refine zL rfl rfl rfl ?_|(refine zS rfl rfl rfl rfl rfl (fun h=>?_) (fun h=>?_)<;>(dsimp only [cmpP] at h;(try (exfalso;omega))))|refine zn rfl rfl rfl ?_)|(with_reducible first|refine zI ?_|refine zB ?_|refine zE ?_|refine zA ?_|refine zR ?_|refine zQ ?_)|((with_reducible refine zH ?_ ?_);(· exact rfl))))
  refine zAB (ι:=Nat) [1,2,5] rfl (fun k=>k≤i∧(x.c.syncs.take k).all (zDd x.c s)=true) (fun k=>[(6,.int .i64 (k:Int))]) (fun i=>[.blk b1 [.int .i64 x.c.drift,.slice (some ⟨bb,o,none⟩) x.c.syncs.length x.cap]]) (fun k=>i - k) 0 ⟨Nat.zero_le _,rfl⟩ (by (repeat first|exact lK1|refine zT rfl ?_)) (by (repeat constructor)) ?_
  rintro k ⟨hk,hall3⟩
  simp only [zAk,List.cons_append,List.nil_append]
  by_cases hki:k<i
  ·obtain ⟨y,hy⟩:∃ y,x.c.syncs[k]?=some y:=⟨_,List.getElem?_eq_getElem (by omega)⟩
   have:zAT x.c.syncs k y:=⟨hy⟩
   have hrise:=zKG hall hki hx hy
   have hsa:=l3 i s hlt hx
   have hya:=l3 k y (by omega) hy
   obtain ⟨m1,m2⟩:=zJg (c:=x.c) (s:=s) (o:=y) hd (by omega) (by omega)
   have hU:=fun W=>zGQ x.c.drift (s.at_ - y.at_) W m1 (by omega)
   have hm:=zKA (b:=1000000) m1 (by decide)
   have e3:upI (x.c.drift * (s.at_ - y.at_)) 1000000=zFH x.c s y:=rfl
   rw [e3] at hU hm
   have e4:zDd x.c s y=(decide (s.ah.lo - y.ah.hi≤zFH x.c s y) && decide (y.ah.lo - s.ah.hi≤zFH x.c s y)):=rfl
   have hno:=fun h=>zL3 hki hx hy h
   have e:=zFE (c:=x.c) (s:=s) hy
   rw [e4] at e hno
   rw [hall3,Bool.true_and] at e
   generalize zFH x.c s y=mo at *
   (repeat' (first|((with_reducible refine zG ?_);first|refine zD rfl rfl rfl ?_|(refine zS rfl rfl rfl rfl rfl (fun h=>?_) (fun h=>?_)<;>(dsimp only [cmpP] at h;(try (exfalso;omega)))))|(with_reducible first|refine zI ?_|refine zB ?_|refine zE ?_|refine zA ?_|refine zR ?_|refine zQ ?_)|((with_reducible refine zH ?_ ?_);(· exact rfl))))
   (refine z9 [(10,12),(11,13)] [] [] rfl (by decide) (fun _ h=>h) (by kernel_rfl) [[],[Z],[Y,Y],[Z,Z,Z],[Z,Z,Z,Z],[Y,Y,Y,Y,Y],[Z,Y,Y,Y,Y,Y],[Y,Y,Y,Y,Y,Y,Y],[Z,Z,Z,Y,Y,Y,Y,Y],[Z,Z,Z,Z,Y,Y,Y,Y,Y],[Y,Y,Y,Y,Y,Y,Y,Y,Y,Y],[Y,Y,Y,Y,Y,Y,Y,Y,Y,Y,Y],[Z,Z,Y,Y,Y,Y,Y,Z,Z,Z,Z,Z],[Z,Z,Z,Z,Z,Z,Z,Z,Z,Z,Z,Z,Z]] (by kernel_rfl) (by kernel_rfl) (by kernel_rfl) (by kernel_rfl) (by kernel_rfl) ?_)
   (repeat' (first|(((with_reducible refine zA0 ?_ ?_);(· exact rfl);refine ⟨_,fun G=>(by (try simp (decide:=true) only [vis,see,fltT,zq,Nat.reduceAdd,Nat.reduceSub,if_true,if_false,List.set_cons_zero,List.set_cons_succ,List.set_nil,List.nil_append,List.cons_append]);rfl),?_⟩);first|refine zN _ (fun _=>zl rfl rfl) (fun _=>rfl) rfl (by intro G G' h;simp (decide:=true) only [h]) ?_|refine zN _ (fun _=>zW rfl rfl (by exact rfl)) (fun _=>rfl) rfl (by intro G G' h;simp (decide:=true) only [h]) ?_|(refine zm rfl ?_;refine zN _ (fun _=>zY rfl rfl) (fun _=>rfl) rfl (by intro G G' h;simp (decide:=true) only [h]) ?_)|refine zN _ (fun _=>zw (I:=k) rfl rfl rfl rfl (by omega)) (fun _=>rfl) rfl (by exact fun _ _ _=>rfl) ?_|refine zN _ (fun _=>zw (I:=i) rfl rfl rfl rfl (by omega)) (fun _=>rfl) rfl (by exact fun _ _ _=>rfl) ?_|refine zA1 rfl (fun _=>rfl) rfl ?_)|(refine zAo (gx:=fun G=>(G 10).g) (cs:=fun _=>[.int .i64 0,.int .i64 0,.int .i64 0]) (cs':=fun _=>zBV y) 10 (by decide) rfl rfl (fun _=>rfl) rfl (fun _=>rfl) (fun _=>rfl) (fun _=>rfl) (fun _=>rfl) (fun _=>rfl) (fun _=>rfl) (fun _=>rfl) (by intro G G' h;simp (decide:=true) only [h]) (by exact fun _ _ _=>rfl) ?_)|(refine zAo (gx:=fun G=>(G 11).g) (cs:=fun _=>[.int .i64 0,.int .i64 0,.int .i64 0]) (cs':=fun _=>zBV s) 11 (by decide) rfl rfl (fun _=>rfl) rfl (fun _=>rfl) (fun _=>rfl) (fun _=>rfl) (fun _=>rfl) (fun _=>rfl) (fun _=>rfl) (fun _=>rfl) (by intro G G' h;simp (decide:=true) only [h]) (by exact fun _ _ _=>rfl) ?_)|(with_reducible refine zAx ?_)))
   intro G
   simp only [regsT,List.nil_append,List.cons_append]
   refine zBF (H':=[.blk (G 11).g (zBV s),.blk (G 10).g (zBV y),.blk b1 [.int .i64 x.c.drift,.slice (some ⟨bb,o,none⟩) x.c.syncs.length x.cap]]) (fun _ h=>h) ?_
   unfold zBV
   (repeat' (first|((with_reducible refine zG ?_);first|refine zD rfl rfl rfl ?_|refine zC rfl rfl rfl ?_|(refine zJ rfl rfl rfl ?_;refine ⟨_,rfl,?_⟩)|refine zL rfl rfl rfl ?_|refine z7 rfl rfl rfl rfl ?_|refine zf rfl rfl rfl ?_|(refine zS rfl rfl rfl rfl rfl (fun h=>?_) (fun h=>?_)<;>(dsimp only [cmpP] at h;(try (exfalso;omega))))|refine zO rfl rfl rfl rfl (fun _ _ q=>hU _) ?_|refine zu rfl rfl rfl rfl (by omega) ?_|refine zAc rfl rfl rfl rfl (IntWalk.i64_in _ (by omega)) ?_)|(with_reducible first|refine zI ?_|refine zB ?_|refine zE ?_|refine zA ?_|refine zV ?_|refine zR ?_|refine zU ?_|refine zj ?_|refine zAV ?_)|((with_reducible refine zH ?_ ?_);(· exact rfl))|((with_reducible refine zF ?_ ?_);(· exact rfl))))
   all_goals first|(refine zP (by exact rTm rfl) () trivial ?_ (fun _ h=>h.sub (by (repeat constructor)));refine congrArg Value.bool (hno ?_);simp only [Bool.and_eq_false_iff,decide_eq_false_iff_not];omega)|skip
   all_goals exact zd (ι:=Nat) (k+1) ⟨by omega,by rw [e];simp only [Bool.and_eq_true,decide_eq_true_eq];omega⟩ (by omega) (by (repeat first|exact lK1|refine zT rfl ?_)) (by (repeat constructor))
  ·obtain rfl:k=i:=by omega
   (repeat' (first|((with_reducible refine zG ?_);first|refine zD rfl rfl rfl ?_|refine zC rfl rfl rfl ?_|(refine zS rfl rfl rfl rfl rfl (fun h=>?_) (fun h=>?_)<;>(dsimp only [cmpP] at h;(try (exfalso;omega))))|refine zu rfl rfl rfl rfl (by omega) ?_)|(with_reducible first|refine zI ?_|refine zB ?_|refine zE ?_|refine zA ?_|refine zz ?_|refine zj ?_|refine zZ ?_|refine ze ?_)|((with_reducible refine zF ?_ ?_);(· exact rfl))))
   exact zd (ι:=Nat) (k+1) ⟨by omega,fun j s' hj hs'=>by
    by_cases e:j=k
    ·subst e;rw [hx] at hs';cases hs';exact hall3
    ·exact hall2 j s' (by omega) hs'⟩ (by omega) (by (repeat first|exact lK1|refine zT rfl ?_)) (by (repeat constructor))
 obtain rfl:i=x.c.syncs.length:=by omega
 rw [zCB.2 ⟨h1,h2,fun j hj=>by
  obtain ⟨s,hx⟩:∃ s,x.c.syncs[j]?=some s:=⟨_,List.getElem?_eq_getElem hj⟩
  rw [zEh hx,hall j s hj hx,hall2 j s hj hx];rfl⟩]
 (repeat' (first|((with_reducible refine zG ?_);first|refine zD rfl rfl rfl ?_|refine zC rfl rfl rfl ?_|(refine zJ rfl rfl rfl ?_;refine ⟨_,rfl,?_⟩)|refine zL rfl rfl rfl ?_|(refine zS rfl rfl rfl rfl rfl (fun h=>?_) (fun h=>?_)<;>(dsimp only [cmpP] at h;(try (exfalso;omega))))|refine zn rfl rfl rfl ?_)|(with_reducible first|refine zI ?_|refine zB ?_|refine zE ?_|refine zA ?_|refine zV ?_|refine zz ?_|refine zZ ?_|refine ze ?_)|((with_reducible refine zF ?_ ?_);(· exact rfl))))
 exact zP (by exact rTm rfl) () trivial rfl (fun _ h=>h.sub (by (repeat constructor)))
theorem zJ3 {l:LnM}:ask1 l=true↔inB 1 5000 l.fast=true∧inB 1 4 l.cks.length=true∧inB 1 6 l.bms.length=true∧inB 0 ((l.bms.length:Int) - 1) l.finish=true∧inB 0 3 l.fakes=true∧inB 0 3 l.misses=true:=by
 unfold ask1;simp only [Bool.and_eq_true,and_assoc]
set_option maxHeartbeats 4000000 in
theorem zLq (l:LnM) (w:World) (h:zCY w l) (hs:zBA l) (hv:valid l.t=true):Gv Tryz.prog 50 [vLn l] w (.bool (zCh l)):=by
 have c1:=hs.c;have c2:=hs.b;have c3:=hs.t;have hT:=h.t;have hS:=h.s;have hCp:=h.cap
 unfold Gv
 by_cases h1:ask1 l=true
 rotate_left
 ·have e:zCh l=false:=by unfold zCh;rw [Bool.eq_false_iff.2 h1];rfl
  rw [e]
  rw [zJ3] at h1
  unfold vLn
  (refine zK (n:=102) Tryz.func50 rfl rfl rfl ?_)
  (repeat' (first|((with_reducible refine zG ?_);first|refine zD rfl rfl rfl ?_|refine zC rfl rfl rfl ?_|(refine zJ rfl rfl rfl ?_;refine ⟨_,rfl,?_⟩)|refine zL rfl rfl rfl ?_|refine z7 rfl rfl rfl rfl ?_|refine zf rfl rfl rfl ?_|(refine zAf rfl rfl rfl rfl (fun _ _ q=>zAX _ _ _ _) (fun h=>?_) (fun h=>?_)<;>(try (exfalso;omega)))|refine zAI rfl rfl rfl ?_|refine zAc rfl rfl rfl rfl (IntWalk.i64_in _ (by omega)) ?_|refine zn rfl rfl rfl ?_|(refine zp rfl rfl rfl rfl (fun b=>?_)))|(with_reducible first|refine zI ?_|refine zB ?_|refine zE ?_|refine zA ?_|refine zV ?_|refine zR ?_|refine zU ?_|refine zQ ?_)|((with_reducible refine zH ?_ ?_);(· exact rfl))|((with_reducible refine zF ?_ ?_);(· exact rfl))))
  all_goals first|exact zP (by exact rTm rfl) () trivial rfl (fun _ h=>h.sub (by (repeat constructor)))|(exfalso;simp_all;done)
 obtain ⟨a1,a2,a3,a4,a5,a6⟩:=zJ3.1 h1
 have e0:zCh l=(l.cks.all (fun x=>zBg x.c) && (l.bms.all (zEv l) && (List.range l.bms.length).all fun i=>decide (1≤zBo l i))):=by unfold zCh;rw [h1,Bool.true_and]
 have n1:=zAA.1 a2
 have n2:=zAA.1 a3
 have hway:=fun W (hW:Below w.heap.size w W) i hi=>zJO l i W (h.below hW) hs hi
 unfold vLn at hway ⊢
 obtain ⟨bc,oc,hCA,hcl,hcc⟩:=h.c.at_ (show 0<l.cks.length by omega)
 obtain ⟨bb,ob,hBA,hbl,hbc⟩:=h.b.at_ (show 0<l.bms.length by omega)
 have hc:=h.c;have hb:=h.b
 rw [hCA] at hc;rw [hBA] at hb
 have:InS w bc oc zB8 2 l.cks:=⟨hc⟩
 have:InS w bb ob zDj 4 l.bms:=⟨hb⟩
 rw [hCA,hBA] at hway ⊢
 (refine zK (n:=102) Tryz.func50 rfl rfl rfl ?_)
 (repeat' (first|((with_reducible refine zG ?_);first|refine zD rfl rfl rfl ?_|refine zC rfl rfl rfl ?_|(refine zJ rfl rfl rfl ?_;refine ⟨_,rfl,?_⟩)|refine zL rfl rfl rfl ?_|refine z7 rfl rfl rfl rfl ?_|(refine zO rfl rfl rfl rfl (fun _ _ q=>a1 ▸ zAX _ _ _ _) ?_)|(refine zO rfl rfl rfl rfl (fun _ _ q=>a2 ▸ zAX _ _ _ _) ?_)|(refine zO rfl rfl rfl rfl (fun _ _ q=>a3 ▸ zAX _ _ _ _) ?_)|(refine zO rfl rfl rfl rfl (fun _ _ q=>a4 ▸ zAX _ _ _ _) ?_)|(refine zO rfl rfl rfl rfl (fun _ _ q=>a5 ▸ zAX _ _ _ _) ?_)|(refine zO rfl rfl rfl rfl (fun _ _ q=>a6 ▸ zAX _ _ _ _) ?_)|refine zAI rfl rfl rfl ?_|refine zAc rfl rfl rfl rfl (IntWalk.i64_in _ (by omega)) ?_|refine zn rfl rfl rfl ?_|(refine zp rfl rfl rfl rfl (fun b=>?_)))|(with_reducible first|refine zI ?_|refine zB ?_|refine zE ?_|refine zA ?_|refine zR ?_|refine zQ ?_)|((with_reducible refine zF ?_ ?_);(· exact rfl))))
 obtain ⟨b1,hb1⟩:∃ b1,b1=b:=⟨_,rfl⟩
 subst hb1
 refine zAB (ι:=Nat) [1,2] rfl (fun i=>i≤l.cks.length∧∀ j x,j<i→l.cks[j]?=some x→zBg x.c=true) (fun i=>[(3,.int .i64 (i:Int))]) (fun i=>[.blk b1 [.slice l.TA l.t.length l.tc,.int .i64 l.fast,.slice (some ⟨bc,oc,none⟩) l.cks.length l.cc,.slice (some ⟨bb,ob,none⟩) l.bms.length l.bc,.int .i64 l.finish,.int .i64 l.fakes,.int .i64 l.misses]]) (fun i=>l.cks.length - i) 0 ⟨Nat.zero_le _,fun j _ hj=>by omega⟩ (by (repeat first|exact lK1|refine zT rfl ?_)) (by (repeat constructor)) ?_
 rintro i ⟨hi,hall⟩
 simp only [zAk,List.cons_append,List.nil_append]
 by_cases hlt:i<l.cks.length
 ·obtain ⟨x,hx⟩:∃ s,l.cks[i]?=some s:=⟨_,List.getElem?_eq_getElem hlt⟩
  have hm:=List.mem_of_getElem? hx
  have:zAT l.cks i x:=⟨hx⟩
  have hG:=fun W (hW:Below w.heap.size w W)=>zKQ x W ((hS x hm).below hW) (hs.s x hm) (hCp x hm)
  unfold vCk at hG
  have hno:zBg x.c=false→zCh l=false:=fun h9=>by
   rw [e0];cases h8:l.cks.all (fun x=>zBg x.c) with
   | false=>rfl
   | true=>have:=List.all_eq_true.1 h8 x hm;rw [h9] at this;cases this
  cases hg:zBg x.c with
  | false =>
   rw [hno hg]
   rw [hg] at hG
   (repeat' (first|((with_reducible refine zG ?_);first|refine zD rfl rfl rfl ?_|refine zC rfl rfl rfl ?_|(refine zJ rfl rfl rfl ?_;refine ⟨_,rfl,?_⟩)|refine zL rfl rfl rfl ?_|(refine zS rfl rfl rfl rfl rfl (fun h=>?_) (fun h=>?_)<;>(dsimp only [cmpP] at h;(try (exfalso;omega))))|refine zO rfl rfl rfl rfl (fun _ _ q=>hG _ q.below) ?_|refine zAI rfl rfl rfl ?_|refine zo rfl rfl rfl rfl rfl (by omega) ?_|refine zn rfl rfl rfl ?_)|(with_reducible first|refine zI ?_|refine zB ?_|refine zE ?_|refine zA ?_|refine zV ?_|refine zR ?_|refine zU ?_|refine zQ ?_|refine zAV ?_)|((with_reducible refine zH ?_ ?_);(· exact rfl))))
   exact zP (by exact rTm rfl) () trivial rfl (fun _ h=>h.sub (by (repeat constructor)))
  | true =>
   rw [hg] at hG
   (repeat' (first|((with_reducible refine zG ?_);first|refine zD rfl rfl rfl ?_|refine zC rfl rfl rfl ?_|(refine zJ rfl rfl rfl ?_;refine ⟨_,rfl,?_⟩)|refine zL rfl rfl rfl ?_|(refine zS rfl rfl rfl rfl rfl (fun h=>?_) (fun h=>?_)<;>(dsimp only [cmpP] at h;(try (exfalso;omega))))|refine zO rfl rfl rfl rfl (fun _ _ q=>hG _ q.below) ?_|refine zAI rfl rfl rfl ?_|refine zu rfl rfl rfl rfl (by omega) ?_|refine zo rfl rfl rfl rfl rfl (by omega) ?_|refine zn rfl rfl rfl ?_)|(with_reducible first|refine zI ?_|refine zB ?_|refine zE ?_|refine zA ?_|refine zR ?_|refine zQ ?_|refine zj ?_)|((with_reducible refine zH ?_ ?_);(· exact rfl))|((with_reducible refine zF ?_ ?_);(· exact rfl))))
   exact zd (ι:=Nat) (i+1) ⟨by omega,fun j s' hj hs'=>by
    by_cases e:j=i
    ·subst e;rw [hx] at hs';cases hs';exact hg
    ·exact hall j s' (by omega) hs'⟩ (by omega) (by (repeat first|exact lK1|refine zT rfl ?_)) (by (repeat constructor))
 obtain rfl:i=l.cks.length:=by omega
 have e1:l.cks.all (fun x=>zBg x.c)=true:=List.all_eq_true.2 fun x hx=>by
  obtain ⟨j,hj⟩:=List.getElem?_of_mem hx
  exact hall j x (List.getElem?_eq_some_iff.1 hj).1 hj
 rw [e1,Bool.true_and] at e0
 (repeat' (first|((with_reducible refine zG ?_);first|refine zD rfl rfl rfl ?_|refine zC rfl rfl rfl ?_|(refine zJ rfl rfl rfl ?_;refine ⟨_,rfl,?_⟩)|refine zL rfl rfl rfl ?_|(refine zS rfl rfl rfl rfl rfl (fun h=>?_) (fun h=>?_)<;>(dsimp only [cmpP] at h;(try (exfalso;omega))))|refine zn rfl rfl rfl ?_)|(with_reducible first|refine zI ?_|refine zB ?_|refine zE ?_|refine zA ?_|refine zQ ?_|refine zz ?_|refine zZ ?_|refine ze ?_)|((with_reducible refine zF ?_ ?_);(· exact rfl))))
 refine zAB (ι:=Nat) [1,2] rfl (fun i=>i≤l.bms.length∧∀ j x,j<i→l.bms[j]?=some x→zEv l x=true) (fun i=>[(4,.int .i64 (i:Int))]) (fun i=>[.blk b1 [.slice l.TA l.t.length l.tc,.int .i64 l.fast,.slice (some ⟨bc,oc,none⟩) l.cks.length l.cc,.slice (some ⟨bb,ob,none⟩) l.bms.length l.bc,.int .i64 l.finish,.int .i64 l.fakes,.int .i64 l.misses]]) (fun i=>l.bms.length - i) 0 ⟨Nat.zero_le _,fun j _ hj=>by omega⟩ (by (repeat first|exact lK1|refine zT rfl ?_)) (by (repeat constructor)) ?_
 rintro i ⟨hi2,hall2⟩
 simp only [zAk,List.cons_append,List.nil_append]
 by_cases hlt:i<l.bms.length
 ·obtain ⟨x,hx⟩:∃ s,l.bms[i]?=some s:=⟨_,List.getElem?_eq_getElem hlt⟩
  have hm:=List.mem_of_getElem? hx
  have:zAT l.bms i x:=⟨hx⟩
  have hG:=fun W (hW:Below w.heap.size w W)=>zDX l.t l.TA l.tc x.spot W (hT.below hW) (zCK hv) (by omega)
  unfold zBx at hG
  have hno:zEv l x=false→zCh l=false:=fun h9=>by
   rw [e0];cases h8:l.bms.all (zEv l) with
   | false=>rfl
   | true=>have:=List.all_eq_true.1 h8 x hm;rw [h9] at this;cases this
  have hb:zEv l x=(zAd l.t x.spot && inB 0 ((l.cks.length:Int) - 1) x.clock):=rfl
  rw [hb] at hno
  have hyes:=fun (h:(zAd l.t x.spot && inB 0 ((l.cks.length:Int) - 1) x.clock)=true) (j:Nat) s' (hj:j<i+1) (h1:l.bms[j]?=some s')=>(show zEv l s'=true from by
   by_cases e:j=i
   ·subst e;rw [hx] at h1;cases h1;exact hb.trans h
   ·exact hall2 j s' (by omega) h1)
  generalize zAd l.t x.spot=g at *
  (repeat' (first|((with_reducible refine zG ?_);first|refine zD rfl rfl rfl ?_|(refine zJ rfl rfl rfl ?_;refine ⟨_,rfl,?_⟩)|refine zL rfl rfl rfl ?_|(refine zS rfl rfl rfl rfl rfl (fun h=>?_) (fun h=>?_)<;>(dsimp only [cmpP] at h;(try (exfalso;omega))))|refine zn rfl rfl rfl ?_)|(with_reducible first|refine zI ?_|refine zB ?_|refine zE ?_|refine zA ?_|refine zR ?_|refine zQ ?_)|((with_reducible refine zH ?_ ?_);(· exact rfl))))
  (refine zAD (by kernel_rfl) (by kernel_rfl) (by kernel_rfl) ?_)
  (repeat' (first|((with_reducible refine zAP ?_);first|refine zM (zl rfl rfl) rfl ?_|refine zM (zW rfl rfl (by exact rfl)) rfl ?_|refine zM (zY rfl rfl) rfl ?_|refine zM (zAh rfl rfl rfl) rfl ?_|refine zAJ rfl rfl rfl ?_|refine zM (zw (I:=i) rfl rfl rfl (by omega) (by first|omega|(dsimp only;omega))) rfl ?_|(refine zCb rfl rfl rfl rfl (fun _ _ q=>hG _ q.below) (fun h=>?_) (fun h=>?_)<;>(try (exfalso;omega)))|(refine zCb rfl rfl rfl rfl (fun _ _ q=>zAX _ _ _ _) (fun h=>?_) (fun h=>?_)<;>(try (exfalso;omega)))|refine zM (zDt rfl rfl) rfl ?_|refine zM (zBW rfl rfl rfl (IntWalk.i64_in _ (by omega))) rfl ?_|refine zM (zEu rfl rfl) rfl ?_)|(with_reducible refine zAe ?_)))
  all_goals (repeat' (first|((with_reducible refine zG ?_);first|refine zD rfl rfl rfl ?_|refine zC rfl rfl rfl ?_|refine zu rfl rfl rfl rfl (by omega) ?_)|(with_reducible first|refine zI ?_|refine zB ?_|refine zE ?_|refine zA ?_|refine zV ?_|refine zR ?_|refine zU ?_|refine zj ?_|refine zAV ?_)|((with_reducible refine zH ?_ ?_);(· exact rfl))|((with_reducible refine zF ?_ ?_);(· exact rfl))))
  all_goals first|(refine zP (by exact rTm rfl) () trivial ?_ (fun _ h=>h.sub (by (repeat constructor)));refine congrArg Value.bool (hno ?_);simp_all;done)|skip
  all_goals exact zd (ι:=Nat) (i+1) ⟨by omega,hyes (by simp_all)⟩ (by omega) (by (repeat first|exact lK1|refine zT rfl ?_)) (by (repeat constructor))
 obtain rfl:i=l.bms.length:=by omega
 have e2:l.bms.all (zEv l)=true:=List.all_eq_true.2 fun x hx=>by
  obtain ⟨j,hj⟩:=List.getElem?_of_mem hx
  exact hall2 j x (List.getElem?_eq_some_iff.1 hj).1 hj
 rw [e2,Bool.true_and] at e0
 (repeat' (first|((with_reducible refine zG ?_);first|refine zD rfl rfl rfl ?_|refine zC rfl rfl rfl ?_|(refine zJ rfl rfl rfl ?_;refine ⟨_,rfl,?_⟩)|refine zL rfl rfl rfl ?_|(refine zS rfl rfl rfl rfl rfl (fun h=>?_) (fun h=>?_)<;>(dsimp only [cmpP] at h;(try (exfalso;omega))))|refine zn rfl rfl rfl ?_)|(with_reducible first|refine zI ?_|refine zB ?_|refine zE ?_|refine zA ?_|refine zQ ?_|refine zz ?_|refine zZ ?_|refine ze ?_)|((with_reducible refine zF ?_ ?_);(· exact rfl))))
 refine zAB (ι:=Nat) [1,2] rfl (fun i=>i≤l.bms.length∧∀ j,j<i→1≤zBo l j) (fun i=>[(5,.int .i64 (i:Int))]) (fun i=>[.blk b1 [.slice l.TA l.t.length l.tc,.int .i64 l.fast,.slice (some ⟨bc,oc,none⟩) l.cks.length l.cc,.slice (some ⟨bb,ob,none⟩) l.bms.length l.bc,.int .i64 l.finish,.int .i64 l.fakes,.int .i64 l.misses]]) (fun i=>l.bms.length - i) 0 ⟨Nat.zero_le _,fun j hj=>by omega⟩ (by (repeat first|exact lK1|refine zT rfl ?_)) (by (repeat constructor)) ?_
 rintro i ⟨hi3,hall3⟩
 simp only [zAk,List.cons_append,List.nil_append]
 by_cases hlt:i<l.bms.length
 ·have h2:=fun W hW=>hway W hW i hlt
  by_cases hw:1≤zBo l i
  ·generalize hwv:zBo l i=v at *
   (repeat' (first|((with_reducible refine zG ?_);first|refine zD rfl rfl rfl ?_|refine zC rfl rfl rfl ?_|(refine zJ rfl rfl rfl ?_;refine ⟨_,rfl,?_⟩)|refine zL rfl rfl rfl ?_|(refine zS rfl rfl rfl rfl rfl (fun h=>?_) (fun h=>?_)<;>(dsimp only [cmpP] at h;(try (exfalso;omega))))|refine zO rfl rfl rfl rfl (fun _ _ q=>h2 _ q.below) ?_|refine zu rfl rfl rfl rfl (by omega) ?_|refine zn rfl rfl rfl ?_)|(with_reducible first|refine zI ?_|refine zB ?_|refine zE ?_|refine zA ?_|refine zR ?_|refine zQ ?_|refine zj ?_)|((with_reducible refine zH ?_ ?_);(· exact rfl))|((with_reducible refine zF ?_ ?_);(· exact rfl))))
   exact zd (ι:=Nat) (i+1) ⟨by omega,fun j hj=>by
    by_cases e:j=i
    ·subst e;omega
    ·exact hall3 j (by omega)⟩ (by omega) (by (repeat first|exact lK1|refine zT rfl ?_)) (by (repeat constructor))
  ·have e:((List.range l.bms.length).all fun i=>decide (1≤zBo l i))=false:=List.all_eq_false.2 ⟨i,List.mem_range.2 hlt,by simpa using hw⟩
   rw [e0,e]
   generalize hwv:zBo l i=v at *
   (repeat' (first|((with_reducible refine zG ?_);first|refine zD rfl rfl rfl ?_|refine zC rfl rfl rfl ?_|(refine zJ rfl rfl rfl ?_;refine ⟨_,rfl,?_⟩)|refine zL rfl rfl rfl ?_|(refine zS rfl rfl rfl rfl rfl (fun h=>?_) (fun h=>?_)<;>(dsimp only [cmpP] at h;(try (exfalso;omega))))|refine zO rfl rfl rfl rfl (fun _ _ q=>h2 _ q.below) ?_|refine zn rfl rfl rfl ?_)|(with_reducible first|refine zI ?_|refine zB ?_|refine zE ?_|refine zA ?_|refine zV ?_|refine zR ?_|refine zU ?_|refine zQ ?_|refine zAV ?_)|((with_reducible refine zH ?_ ?_);(· exact rfl))))
   exact zP (by exact rTm rfl) () trivial rfl (fun _ h=>h.sub (by (repeat constructor)))
 ·obtain rfl:i=l.bms.length:=by omega
  have e:((List.range l.bms.length).all fun i=>decide (1≤zBo l i))=true:=List.all_eq_true.2 fun j hj=>by simpa using hall3 j (List.mem_range.1 hj)
  rw [e0,e]
  (repeat' (first|((with_reducible refine zG ?_);first|refine zD rfl rfl rfl ?_|refine zC rfl rfl rfl ?_|(refine zJ rfl rfl rfl ?_;refine ⟨_,rfl,?_⟩)|refine zL rfl rfl rfl ?_|(refine zS rfl rfl rfl rfl rfl (fun h=>?_) (fun h=>?_)<;>(dsimp only [cmpP] at h;(try (exfalso;omega))))|refine zn rfl rfl rfl ?_)|(with_reducible first|refine zI ?_|refine zB ?_|refine zE ?_|refine zA ?_|refine zV ?_|refine zz ?_|refine zZ ?_|refine ze ?_)|((with_reducible refine zF ?_ ?_);(· exact rfl))))
  exact zP (by exact rTm rfl) () trivial rfl (fun _ h=>h.sub (by (repeat constructor)))
theorem zGS (l:LnM) (w:World) (h:zCY w l) (hs:zBA l):Gv Tryz.prog 33 [vLn l] w (.int .i64 (zCd l)):=by
 have h6:=hs.t
 have hC:=fun W (hW:Below w.heap.size w W)=>zGi l.t l.TA l.tc W (h.t.below hW) hs.fit (by omega)
 unfold Gv
 cases hv:valid l.t
 ·have e:zCd l=10:=by unfold zCd;rw [hv];rfl
  rw [hv] at hC
  rw [e]
  unfold vLn
  (refine zK (n:=10) Tryz.func33 rfl rfl rfl ?_)
  (repeat' (first|((with_reducible refine zG ?_);first|refine zC rfl rfl rfl ?_|(refine zJ rfl rfl rfl ?_;refine ⟨_,rfl,?_⟩)|refine zL rfl rfl rfl ?_|refine zO rfl rfl rfl rfl (fun _ _ q=>hC _ q.below) ?_|refine zAI rfl rfl rfl ?_|(refine zp rfl rfl rfl rfl (fun b=>?_)))|(with_reducible first|refine zI ?_|refine zB ?_|refine zE ?_|refine zA ?_|refine zV ?_|refine zU ?_)|((with_reducible refine zH ?_ ?_);(· exact rfl))))
  exact zP (by exact rTm rfl) () trivial rfl (fun _ h=>h.sub (by (repeat constructor)))
 ·rw [hv] at hC
  have hL:=fun W (hW:Below w.heap.size w W)=>zLq l W (h.below hW) hs hv
  have e:zCd l=if zCh l then 0 else 50:=by unfold zCd;rw [hv];rfl
  rw [e]
  unfold vLn at hL ⊢
  generalize zCh l=g at *
  cases g
  all_goals
   (refine zK (n:=10) Tryz.func33 rfl rfl rfl ?_)
   (repeat' (first|((with_reducible refine zG ?_);first|refine zC rfl rfl rfl ?_|(refine zJ rfl rfl rfl ?_;refine ⟨_,rfl,?_⟩)|refine zL rfl rfl rfl ?_|refine zO rfl rfl rfl rfl (fun _ _ q=>hC _ q.below) ?_|refine zO rfl rfl rfl rfl (fun _ _ q=>hL _ q.below) ?_|refine zAI rfl rfl rfl ?_|(refine zp rfl rfl rfl rfl (fun b=>?_)))|(with_reducible first|refine zI ?_|refine zB ?_|refine zE ?_|refine zA ?_|refine zV ?_|refine zR ?_|refine zU ?_)|((with_reducible refine zH ?_ ?_);(· exact rfl))|((with_reducible refine zF ?_ ?_);(· exact rfl))))
   exact zP (by exact rTm rfl) () trivial rfl (fun _ h=>h.sub (by (repeat constructor)))
end Go.Proofs.YtfiekidciiighaaGreat.Two
namespace Go.Proofs.YtfiekidciiighaaGreat
variable {ro : Option Nat}
open Go.RowKit
set_option maxRecDepth 20000
set_option maxHeartbeats 2000000 in
theorem zIJ (p:Int→Bool) (f:Nat) (lo hi:Int) (kf:FuncId) [zr Tryz.prog kf] (cs:Array Value) (w:World) (h1:lo≤hi) (h2:hi - lo<2 ^ f) (h3:-1000000000≤lo) (h4:hi≤1000000000)
  (hp:∀ m W,lo≤m→m<hi→Below w.heap.size w W→Gv Tryz.prog kf ([.int .i64 m]++cs.toList) W (.bool (p m))) :
  Gv Tryz.prog 107 [.int .i64 lo,.int .i64 hi,.func (.func kf) #[] cs] w (.int .i64 (bsF p f lo hi)):=by
 unfold Gv
 (refine zK (n:=24) Tryz.func107 rfl rfl rfl ?_)
 (repeat' (first|((with_reducible refine zG ?_);first|refine zC rfl rfl rfl ?_)|(with_reducible first|refine zI ?_|refine zB ?_|refine zE ?_|refine zA ?_|refine zQ ?_)))
 refine zAB (ι:=Nat × Int × Int) [2] rfl (fun z=>lo≤z.2.1∧z.2.1≤z.2.2∧z.2.2≤hi∧z.2.2 - z.2.1<2 ^ z.1∧bsF p z.1 z.2.1 z.2.2=bsF p f lo hi) (fun z=>[(0,.int .i64 z.2.1),(1,.int .i64 z.2.2)]) (fun _=>[]) (fun z=>z.1) (f,lo,hi) ⟨Int.le_refl _,h1,Int.le_refl _,h2,rfl⟩ (by (repeat first|exact lK1|refine zT rfl ?_)) (by (repeat constructor)) ?_
 rintro ⟨g,a,b⟩ ⟨a1,a2,a3,a4,a5⟩
 simp only at a1 a2 a3 a4 a5
 simp only [zAk,List.cons_append,List.nil_append]
 by_cases hlt:a<b
 ·obtain ⟨g,rfl⟩:∃ g',g=g'+1:=by
   cases g with
   | zero=>simp only [Int.pow_zero] at a4;omega
   | succ g=>exact ⟨g,rfl⟩
  rw [Int.pow_succ] at a4
  rw [bsF_step hlt] at a5
  have hq:=fun W (hW:Below w.heap.size w W)=>hp (a+(b - a) / 2) W (by omega) (by omega) hW
  cases hpm:p (a+(b - a) / 2)
  ·rw [hpm] at hq a5
   simp only [Bool.false_eq_true,if_false] at a5
   (repeat' (first|((with_reducible refine zG ?_);first|refine zD rfl rfl rfl ?_|refine zC rfl rfl rfl ?_|(refine zS rfl rfl rfl rfl rfl (fun h=>?_) (fun h=>?_)<;>(dsimp only [cmpP] at h;(try (exfalso;omega))))|refine zO rfl rfl rfl rfl (fun _ _ q=>hq _ q.below) ?_|refine zBp rfl rfl rfl rfl (IntWalk.i64_in _ (by omega)) ?_|refine zAc rfl rfl rfl rfl (IntWalk.i64_in _ (by omega)) ?_|refine zJD rfl rfl rfl rfl (by omega) (by omega) (IntWalk.i64_in _ (by omega)) ?_)|(with_reducible first|refine zI ?_|refine zB ?_|refine zE ?_|refine zA ?_|refine zR ?_|refine zQ ?_|refine zj ?_)|((with_reducible refine zH ?_ ?_);(· exact rfl))|((with_reducible refine zF ?_ ?_);(· exact rfl))))
   exact zd (ι:=Nat × Int × Int) (g,a+(b - a) / 2+1,b) ⟨by simp only;omega,by simp only;omega,by simp only;omega,by simp only;omega,a5⟩ (by simp only;omega) (by (repeat first|exact lK1|refine zT rfl ?_)) (by (repeat constructor))
  ·rw [hpm] at hq a5
   simp only [if_true] at a5
   (repeat' (first|((with_reducible refine zG ?_);first|refine zD rfl rfl rfl ?_|refine zC rfl rfl rfl ?_|(refine zS rfl rfl rfl rfl rfl (fun h=>?_) (fun h=>?_)<;>(dsimp only [cmpP] at h;(try (exfalso;omega))))|refine zO rfl rfl rfl rfl (fun _ _ q=>hq _ q.below) ?_|refine zBp rfl rfl rfl rfl (IntWalk.i64_in _ (by omega)) ?_|refine zAc rfl rfl rfl rfl (IntWalk.i64_in _ (by omega)) ?_|refine zJD rfl rfl rfl rfl (by omega) (by omega) (IntWalk.i64_in _ (by omega)) ?_)|(with_reducible first|refine zI ?_|refine zB ?_|refine zE ?_|refine zA ?_|refine zR ?_|refine zQ ?_|refine zj ?_)|((with_reducible refine zH ?_ ?_);(· exact rfl))))
   exact zd (ι:=Nat × Int × Int) (g,a,a+(b - a) / 2) ⟨by simp only;omega,by simp only;omega,by simp only;omega,by simp only;omega,a5⟩ (by simp only;omega) (by (repeat first|exact lK1|refine zT rfl ?_)) (by (repeat constructor))
 ·obtain rfl:a=b:=by omega
  rw [bsF_done] at a5
  subst a5
  (repeat' (first|((with_reducible refine zG ?_);first|refine zD rfl rfl rfl ?_|refine zC rfl rfl rfl ?_|(refine zS rfl rfl rfl rfl rfl (fun h=>?_) (fun h=>?_)<;>(dsimp only [cmpP] at h;(try (exfalso;omega)))))|(with_reducible first|refine zI ?_|refine zB ?_|refine zE ?_|refine zA ?_|refine zV ?_|refine zz ?_|refine zZ ?_|refine ze ?_)|((with_reducible refine zF ?_ ?_);(· exact rfl))))
  exact zP (by exact rTm rfl) () trivial rfl (fun _ h=>h.sub (by (repeat constructor)))
end Go.Proofs.YtfiekidciiighaaGreat
