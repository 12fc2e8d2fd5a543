/- A17 -/
import Derived.Test.YtfiekidciiighaaGreatA16
set_option linter.unusedSimpArgs false
set_option linter.unusedVariables false
namespace Go.Proofs.YtfiekidciiighaaGreat.Two
variable {ro : Option Nat}
open Go.RowKit
set_option maxRecDepth 20000
def rahd (c:Clk) (t:Int) (i:Nat):Sp:=if i=0 then ⟨0,0⟩ else zBQ c t i
set_option maxHeartbeats 2000000 in
theorem zKR (x:CkM) (t:Int) (w:World) (hs:zAC zBV 3 w x.A x.c.syncs) (hok:x.c.Ok) (hp:1≤x.c.syncs.length) (hl:x.c.syncs.length≤10) (ht:-86400002≤t∧t≤86400002) :
  Gv Tryz.prog 98 [vCk x,.int .i64 t] w (vSp (zAb x.c t)):=by
 have hin:=zC9 hok ht
 have e0:rahd x.c t 0=⟨0,0⟩:=rfl
 have eN:zAb x.c t=rahd x.c t x.c.syncs.length:=by rw [← zDM];unfold rahd;rw [if_neg (by omega)]
 rw [eN]
 obtain ⟨bb,o,hA,hblt,hc⟩:=hs.at_ (show 0<x.c.syncs.length by omega)
 rw [hA] at hs
 have:InS w bb o zBV 3 x.c.syncs:=⟨hs⟩
 unfold Gv vCk vSp
 rw [hA]
 (refine zK (n:=60) Tryz.func98 rfl rfl rfl ?_)
 (repeat' (first|((with_reducible refine zG ?_);first|refine zC rfl rfl rfl ?_|(refine zb rfl rfl (fun b=>?_))|(refine zp rfl rfl rfl rfl (fun b=>?_)))|(with_reducible first|refine zI ?_|refine zB ?_|refine zE ?_|refine zA ?_|refine zQ ?_)))
 rename_i b2 b4
 refine zAB (ι:=Nat) [1,2,4,5] rfl (fun i=>i≤x.c.syncs.length) (fun i=>[(6,.int .i64 (i:Int))]) (fun i=>[.blk b (zAr (rahd x.c t i)),.blk b4 [.int .i64 0,.int .i64 0],.blk b2 [.int .i64 x.c.drift,.slice (some ⟨bb,o,none⟩) x.c.syncs.length x.cap]]) (fun i=>x.c.syncs.length - i) 0 (Nat.zero_le _) (by (repeat first|exact lK1|refine zT rfl ?_)) (by rw [e0];(repeat constructor)) ?_
 rintro i hi
 simp only [zAk,zAr,List.cons_append,List.nil_append]
 by_cases hlt:i<x.c.syncs.length
 ·obtain ⟨s,hx⟩:∃ s,x.c.syncs[i]?=some s:=⟨_,List.getElem?_eq_getElem hlt⟩
  have hm:=List.mem_of_getElem? hx
  obtain ⟨d1,d2,d3,d4⟩:=zHY hok ht (hok.ats s hm)
  have h2:=hok.ahs s hm
  have h3:=hok.ats s hm
  have h4:=hin i
  have e1:=zEV (t:=t) hx
  have hU:=fun W=>zGQ x.c.drift (max (t - s.at_) (s.at_ - t)) W (by omega) (by omega)
  have e2:upI (x.c.drift * max (t - s.at_) (s.at_ - t)) 1000000=zBI x.c t s.at_:=rfl
  rw [e2] at hU
  have:zAT x.c.syncs i s:=⟨hx⟩
  have e3:rahd x.c t (i+1)=zBQ x.c t (i+1):=by unfold rahd;rw [if_neg (by omega)]
  rw [e1] at e3
  cases i with
  | zero =>
   have e5:zBQ x.c t 0=⟨-1099511627776,1099511627776⟩:=rfl
   rw [e5] at e3
   generalize zBI x.c t s.at_=dr at *
   have e6:rahd x.c t (0+1)=⟨max (s.ah.lo - dr) (s.ah.lo - dr),min (s.ah.hi+dr) (s.ah.hi+dr)⟩:=by rw [e3];congr 1<;>simp only<;>omega
   simp only [e0]
   (repeat' (first|((with_reducible refine zG ?_);first|refine zD rfl rfl rfl ?_|refine zC rfl rfl rfl ?_|(refine zJ rfl rfl rfl ?_;refine ⟨_,rfl,?_⟩)|refine zL rfl rfl rfl ?_|(refine zS rfl rfl rfl rfl rfl (fun h=>?_) (fun h=>?_)<;>(dsimp only [cmpP] at h;(try (exfalso;omega))))|refine zO rfl rfl rfl rfl (fun _ _ q=>hU _) ?_|refine zu rfl rfl rfl rfl (by omega) ?_|refine zBp rfl rfl rfl rfl (IntWalk.i64_in _ (by omega)) ?_|refine zAc rfl rfl rfl rfl (IntWalk.i64_in _ (by omega)) ?_|refine zo rfl rfl rfl rfl rfl (by omega) ?_|refine zn rfl rfl rfl ?_|(refine zX rfl rfl rfl rfl rfl ?_;refine ⟨rfl,by first|decide|exact Nat.le_of_ble_eq_true rfl|(simp;omega),_,rfl,?_⟩)|(refine zb rfl rfl (fun b=>?_))|(refine zAZ rfl rfl rfl ?_;refine ⟨_,rfl,?_⟩)|refine zCF rfl rfl rfl rfl ?_|refine zGJ rfl rfl rfl rfl ?_)|(with_reducible first|refine zI ?_|refine zB ?_|refine zE ?_|refine zA ?_|refine zR ?_|refine zQ ?_|refine zj ?_)|((with_reducible refine zH ?_ ?_);(· exact rfl))))
   exact zd (ι:=Nat) (0+1) (by omega) (by omega) (by (repeat first|exact lK1|refine zT rfl ?_)) (by (try simp only [e6,zAr]);(repeat constructor))
  | succ k =>
   have e4:rahd x.c t (k+1)=zBQ x.c t (k+1):=by unfold rahd;rw [if_neg (by omega)]
   rw [← e4] at e3 h4
   generalize zBI x.c t s.at_=dr at *
   generalize rahd x.c t (k+1)=a at *
   (repeat' (first|((with_reducible refine zG ?_);first|refine zD rfl rfl rfl ?_|refine zC rfl rfl rfl ?_|(refine zJ rfl rfl rfl ?_;refine ⟨_,rfl,?_⟩)|refine zL rfl rfl rfl ?_|(refine zS rfl rfl rfl rfl rfl (fun h=>?_) (fun h=>?_)<;>(dsimp only [cmpP] at h;(try (exfalso;omega))))|refine zO rfl rfl rfl rfl (fun _ _ q=>hU _) ?_|refine zu rfl rfl rfl rfl (by omega) ?_|refine zBp rfl rfl rfl rfl (IntWalk.i64_in _ (by omega)) ?_|refine zAc rfl rfl rfl rfl (IntWalk.i64_in _ (by omega)) ?_|refine zo rfl rfl rfl rfl rfl (by omega) ?_|refine zn rfl rfl rfl ?_|(refine zX rfl rfl rfl rfl rfl ?_;refine ⟨rfl,by first|decide|exact Nat.le_of_ble_eq_true rfl|(simp;omega),_,rfl,?_⟩)|(refine zb rfl rfl (fun b=>?_))|(refine zAZ rfl rfl rfl ?_;refine ⟨_,rfl,?_⟩)|refine zCF rfl rfl rfl rfl ?_|refine zGJ rfl rfl rfl rfl ?_)|(with_reducible first|refine zI ?_|refine zB ?_|refine zE ?_|refine zA ?_|refine zR ?_|refine zQ ?_|refine zj ?_)|((with_reducible refine zH ?_ ?_);(· exact rfl))|((with_reducible refine zF ?_ ?_);(· exact rfl))))
   exact zd (ι:=Nat) (k+1+1) (by omega) (by omega) (by (repeat first|exact lK1|refine zT rfl ?_)) (by (try simp only [e3,zAr]);(repeat constructor))
 ·obtain rfl:i=x.c.syncs.length:=by omega
  (repeat' (first|((with_reducible refine zG ?_);first|refine zD rfl rfl rfl ?_|(refine zJ rfl rfl rfl ?_;refine ⟨_,rfl,?_⟩)|refine zL rfl rfl rfl ?_|(refine zS rfl rfl rfl rfl rfl (fun h=>?_) (fun h=>?_)<;>(dsimp only [cmpP] at h;(try (exfalso;omega))))|refine zn rfl rfl rfl ?_|(refine zX rfl rfl rfl rfl rfl ?_;refine ⟨rfl,by first|decide|exact Nat.le_of_ble_eq_true rfl|(simp;omega),_,rfl,?_⟩))|(with_reducible first|refine zI ?_|refine zB ?_|refine zE ?_|refine zA ?_|refine zV ?_|refine zz ?_|refine zZ ?_|refine ze ?_)|((with_reducible refine zF ?_ ?_);(· exact rfl))))
  exact zP (by (exact zh.cons (by exact res1c rfl (by exact rfl)) zh.nil)) () trivial rfl (fun _ h=>h.sub (by (repeat constructor)))
theorem zLX (x:CkM) (s:Sgn) (t:Int) (g1 g2:Nat) (w:World) (h1:InC w g1 0 (zB8 x)) (h2:InC w g2 0 (zAw s)) (hs:zAC zBV 3 w x.A x.c.syncs) (hok:x.c.Ok) (hl:x.c.syncs.length≤10) (ht:-86400002≤t∧t≤86400002) :
  Gv Tryz.prog 108 [.int .i64 t,.pointer (some ⟨g1,0,none⟩),.pointer (some ⟨g2,0,none⟩)] w (.bool (decide (s.read≤t+(zAb x.c t).hi))):=by
 have hA:=fun W (hW:Below w.heap.size w W)=>zIW x t W (hs.below hW) hok hl ht
 have hin:=zC9 hok ht x.c.syncs.length
 rw [zDM] at hin
 unfold Gv
 unfold vCk vSp at hA
 unfold zB8 at h1
 unfold zAw at h2
 generalize zAb x.c t=a at *
 (refine zK (n:=14) Tryz.func108 rfl rfl rfl ?_)
 (repeat' (first|((with_reducible refine zG ?_);first|refine zC rfl rfl rfl ?_)|(with_reducible first|refine zI ?_|refine zB ?_|refine zE ?_|refine zA ?_)))
 (refine zAD (by kernel_rfl) (by kernel_rfl) (by kernel_rfl) ?_)
 (repeat' (first|((with_reducible refine zAP ?_);first|refine zM (zl rfl rfl) rfl ?_|refine zM (zW rfl rfl (by exact rfl)) rfl ?_|refine zM (zY rfl rfl) rfl ?_|refine zM (zt rfl rfl) rfl ?_|(refine zAu rfl rfl rfl rfl rfl (fun h=>?_) (fun h=>?_)<;>(dsimp only [cmpP] at h;(try (exfalso;omega))))|refine zCV rfl rfl rfl rfl (fun _ _ q=>hA _ q.below) ?_|refine zM (zFq (vs:=[_,_]) rfl rfl rfl (show TyI Tryz.prog 3 _ _ _ from inferInstance) rfl) rfl ?_|refine zM (zHX rfl rfl rfl (IntWalk.i64_in _ (by omega))) rfl ?_)|(with_reducible refine zAe ?_)))
 all_goals (repeat' (first|(with_reducible first|refine zA ?_|refine zV ?_)))
 all_goals exact zP (by exact rTm rfl) () trivial (by simp [resV];omega) (fun _ h=>h.sub (by (repeat constructor)))
theorem zLW (x:CkM) (s:Sgn) (t:Int) (g1 g2:Nat) (w:World) (h1:InC w g1 0 (zB8 x)) (h2:InC w g2 0 (zAw s)) (hs:zAC zBV 3 w x.A x.c.syncs) (hok:x.c.Ok) (hl:x.c.syncs.length≤10) (ht:-86400002≤t∧t≤86400002) :
  Gv Tryz.prog 110 [.int .i64 t,.pointer (some ⟨g1,0,none⟩),.pointer (some ⟨g2,0,none⟩)] w (.bool (decide (s.read<t+(zAb x.c t).lo))):=by
 have hA:=fun W (hW:Below w.heap.size w W)=>zIW x t W (hs.below hW) hok hl ht
 have hin:=zC9 hok ht x.c.syncs.length
 rw [zDM] at hin
 unfold Gv
 unfold vCk vSp at hA
 unfold zB8 at h1
 unfold zAw at h2
 generalize zAb x.c t=a at *
 (refine zK (n:=14) Tryz.func110 rfl rfl rfl ?_)
 (repeat' (first|((with_reducible refine zG ?_);first|refine zC rfl rfl rfl ?_)|(with_reducible first|refine zI ?_|refine zB ?_|refine zE ?_|refine zA ?_)))
 (refine zAD (by kernel_rfl) (by kernel_rfl) (by kernel_rfl) ?_)
 (repeat' (first|((with_reducible refine zAP ?_);first|refine zM (zl rfl rfl) rfl ?_|refine zM (zW rfl rfl (by exact rfl)) rfl ?_|refine zM (zY rfl rfl) rfl ?_|refine zM (zt rfl rfl) rfl ?_|(refine zAu rfl rfl rfl rfl rfl (fun h=>?_) (fun h=>?_)<;>(dsimp only [cmpP] at h;(try (exfalso;omega))))|refine zCV rfl rfl rfl rfl (fun _ _ q=>hA _ q.below) ?_|refine zM (zFq (vs:=[_,_]) rfl rfl rfl (show TyI Tryz.prog 3 _ _ _ from inferInstance) rfl) rfl ?_|refine zM (zHX rfl rfl rfl (IntWalk.i64_in _ (by omega))) rfl ?_)|(with_reducible refine zAe ?_)))
 all_goals (repeat' (first|(with_reducible first|refine zA ?_|refine zV ?_)))
 all_goals exact zP (by exact rTm rfl) () trivial (by simp [resV];omega) (fun _ h=>h.sub (by (repeat constructor)))
def clkI (l:LnM) (b:Nat):CkM:=l.cks.getD (bmOf l b).clock.toNat default
def zAm (l:LnM) (s:Sgn):Sp:=zBd (clkI l s.beam.toNat).c s.read
theorem clk_at {l:LnM} (hf:zDo l) {I:Nat} (hI:I<l.bms.length):∃ b J x,l.bms[I]?=some b∧bmOf l I=b∧b.clock=((J:Nat):Int)∧J<l.cks.length∧l.cks[J]?=some x∧clkI l I=x∧x∈l.cks:=by
 obtain ⟨b,hb⟩:∃ b,l.bms[I]?=some b:=⟨_,List.getElem?_eq_getElem hI⟩
 have h1:=hf.bm b (List.mem_of_getElem? hb)
 obtain ⟨J,hJ⟩:∃ J:Nat,b.clock=J:=⟨b.clock.toNat,by omega⟩
 obtain ⟨x,hx⟩:∃ x,l.cks[J]?=some x:=⟨_,List.getElem?_eq_getElem (by omega)⟩
 exact ⟨b,J,x,hb,zDT hb,hJ,by omega,hx,by unfold clkI;rw [zDT hb,hJ];simp [List.getD_eq_getElem?_getD,hx],List.mem_of_getElem? hx⟩
set_option maxHeartbeats 2000000 in
theorem zL9 (l:LnM) (s:Sgn) (w:World) (h:zCY w l) (hs:zBA l) (hf:zDo l) (hb:0≤s.beam∧s.beam<l.bms.length) :
  Gv Tryz.prog 87 [vLn l,vSg s] w (vSp (zAm l s)):=by
 obtain ⟨I,hI⟩:∃ I:Nat,s.beam=I:=⟨s.beam.toNat,by omega⟩
 obtain ⟨b,J,x,hb1,hb2,hJ,hJl,hx,hx2,hm⟩:=clk_at hf (show I<l.bms.length by omega)
 have c1:=hs.c;have c2:=hs.b
 obtain ⟨hok,hp1,hp5⟩:=zJr (hf.goes x hm)
 have e:zAm l s=zBd x.c s.read:=by unfold zAm;rw [hI,Int.toNat_natCast,hx2]
 rw [e]
 have hS:=h.s x hm
 obtain ⟨bc,oc,hCA,hcl,hcc⟩:=h.c.at_ hJl
 obtain ⟨bb,ob,hBA,hbl,hbc⟩:=h.b.at_ (show I<l.bms.length by omega)
 have hc:=h.c;have hbb:=h.b
 rw [hCA] at hc;rw [hBA] at hbb
 have:InS w bc oc zB8 2 l.cks:=⟨hc⟩
 have:InS w bb ob zDj 4 l.bms:=⟨hbb⟩
 have:zAT l.bms I b:=⟨hb1⟩
 have:zAT l.cks J x:=⟨hx⟩
 have hF1:=fun W g1 g2 (hW:Below w.heap.size w W) (h1:InC W g1 0 (zB8 x)) (h2:InC W g2 0 (zAw s))=>zIJ (fun t=>decide (s.read≤t+(zAb x.c t).hi)) 32 0 86400001 108 #[.pointer (some ⟨g1,0,none⟩),.pointer (some ⟨g2,0,none⟩)] W (by decide) (by decide) (by decide) (by decide) (fun m W' q1 q2 q3=>zLX x s m g1 g2 W' (h1.below q3) (h2.below q3) (hS.below (hW.trans (q3.mono hW.size))) hok (by omega) (by omega))
 have hF2:=fun W g1 g2 (hW:Below w.heap.size w W) (h1:InC W g1 0 (zB8 x)) (h2:InC W g2 0 (zAw s))=>zIJ (fun t=>decide (s.read<t+(zAb x.c t).lo)) 32 0 86400001 110 #[.pointer (some ⟨g1,0,none⟩),.pointer (some ⟨g2,0,none⟩)] W (by decide) (by decide) (by decide) (by decide) (fun m W' q1 q2 q3=>zLW x s m g1 g2 W' (h1.below q3) (h2.below q3) (hS.below (hW.trans (q3.mono hW.size))) hok (by omega) (by omega))
 have hin:=zF3 x.c s.read
 unfold zBd at hin ⊢
 unfold Gv vLn vSg vSp
 rw [hCA,hBA]
 obtain ⟨sb,sr⟩:=s
 simp only at hI
 subst hI
 obtain ⟨bs,bcl⟩:=b
 simp only at hJ
 subst hJ
 have hIl:I<l.bms.length:=by simp only at hb;omega
 simp only at hin
 generalize bsF (fun t=>decide (sr≤t+(zAb x.c t).hi)) 32 0 86400001=r1 at *
 generalize bsF (fun t=>decide (sr<t+(zAb x.c t).lo)) 32 0 86400001=r2 at *
 (refine zK (n:=23) Tryz.func87 rfl rfl rfl ?_)
 (repeat' (first|((with_reducible refine zG ?_);first|(refine zb rfl rfl (fun b=>?_))|(refine zp rfl rfl rfl rfl (fun b=>?_)))|(with_reducible first|refine zI ?_|refine zB ?_|refine zE ?_|refine zA ?_)))
 rename_i b2 b3
 (refine z9 [(11,12)] [] [] rfl (by decide) (fun _ h=>h) (by kernel_rfl) [[],[Z],[Y,Y],[Z,Y,Y],[Y,Y,Y,Y],[Z,Y,Y,Y,Y],[Z,Z,Z,Z,Y,Y],[Z,Z,Z,Z,Z,Y,Y],[Z,Z,Z,Z,Z,Z,Y,Y],[Z,Z,Z,Z,Z,Z,Z,Z,Z],[Z,Z,Z,Z,Z,Z,Z,Z,Z,Z],[Y,Y,Y,Y,Y,Y,Y,Y,Y,Y,Y],[Z,Z,Z,Z,Z,Z,Z,Z,Z,Z,Z,Z]] (by kernel_rfl) (by kernel_rfl) (by kernel_rfl) (by kernel_rfl) (by kernel_rfl) ?_)
 (repeat' (first|(((with_reducible refine zA0 ?_ ?_);(· exact rfl);refine ⟨_,fun G=>(by (try simp (decide:=true) only [vis,see,fltT,zq,Nat.reduceAdd,Nat.reduceSub,if_true,if_false,List.set_cons_zero,List.set_cons_succ,List.set_nil,List.nil_append,List.cons_append]);rfl),?_⟩);first|refine zN _ (fun _=>zW rfl rfl (by exact rfl)) (fun _=>rfl) rfl (by intro G G' h;simp (decide:=true) only [h]) ?_|(refine zm rfl ?_;refine zN _ (fun _=>zY rfl rfl) (fun _=>rfl) rfl (by intro G G' h;simp (decide:=true) only [h]) ?_)|refine zN _ (fun _=>zw (I:=I) rfl rfl rfl rfl (by omega)) (fun _=>rfl) rfl (by exact fun _ _ _=>rfl) ?_|refine zN _ (fun _=>zw (I:=J) rfl rfl rfl rfl (by omega)) (fun _=>rfl) rfl (by exact fun _ _ _=>rfl) ?_|refine zA1 rfl (fun _=>rfl) rfl ?_)|(refine zAo (gx:=fun G=>(G 11).g) (cs:=fun _=>[.int .i64 0,.slice none 0 0]) (cs':=fun _=>zB8 x) 11 (by decide) rfl rfl (fun _=>rfl) rfl (fun _=>rfl) (fun _=>rfl) (fun _=>rfl) (fun _=>rfl) (fun _=>rfl) (fun _=>rfl) (fun _=>rfl) (by intro G G' h;simp (decide:=true) only [h]) (by exact fun _ _ _=>rfl) ?_)|(with_reducible refine zAx ?_)))
 intro G
 simp only [regsT,List.nil_append,List.cons_append]
 refine zBF (H':=[.blk (G 11).g (zB8 x),.blk b [.int .i64 0,.int .i64 0],.blk b3 (zAw ⟨I,sr⟩),.blk b2 [.slice l.TA l.t.length l.tc,.int .i64 l.fast,.slice (some ⟨bc,oc,none⟩) l.cks.length l.cc,.slice (some ⟨bb,ob,none⟩) l.bms.length l.bc,.int .i64 l.finish,.int .i64 l.fakes,.int .i64 l.misses]]) (fun _ h=>h) ?_
 (repeat' (first|((with_reducible refine zG ?_);first|refine zO rfl rfl rfl rfl (fun _ _ q=>hF1 _ _ _ q.below (zA7 q.own (Below.refl _ _) rfl) (zA7 q.own (Below.refl _ _) rfl)) ?_|refine zO rfl rfl rfl rfl (fun _ _ q=>hF2 _ _ _ q.below (zA7 q.own (Below.refl _ _) rfl) (zA7 q.own (Below.refl _ _) rfl)) ?_|refine zAc rfl rfl rfl rfl (IntWalk.i64_in _ (by omega)) ?_|(refine zX rfl rfl rfl rfl rfl ?_;refine ⟨rfl,by first|decide|exact Nat.le_of_ble_eq_true rfl|(simp;omega),_,rfl,?_⟩)|(refine zAZ rfl rfl rfl ?_;refine ⟨_,rfl,?_⟩)|refine zB2 rfl rfl rfl rfl ?_)|(with_reducible first|refine zI ?_|refine zB ?_|refine zE ?_|refine zA ?_|refine zV ?_)))
 exact zP (by (exact zh.cons (by exact res1c rfl (by exact rfl)) zh.nil)) () trivial rfl (fun _ h=>h.sub (by (repeat constructor)))
set_option maxHeartbeats 4000000 in
theorem zLm (l:LnM) (s:Sgn) (w:World) (h:zCY w l) (hs:zBA l) (hf:zDo l) (hb:0≤s.beam∧s.beam<l.bms.length) :
  Gv Tryz.prog 72 [vLn l,vSg s] w (.tuple #[vSp (zAm l s),.bool (decide ((zAm l s).lo≤(zAm l s).hi))]):=by
 obtain ⟨I,hI⟩:∃ I:Nat,s.beam=I:=⟨s.beam.toNat,by omega⟩
 obtain ⟨b,J,x,hb1,hb2,hJ,hJl,hx,hx2,hm⟩:=clk_at hf (show I<l.bms.length by omega)
 have c1:=hs.c;have c2:=hs.b
 obtain ⟨hok,hp1,hp5⟩:=zJr (hf.goes x hm)
 have e:zAm l s=zBd x.c s.read:=by unfold zAm;rw [hI,Int.toNat_natCast,hx2]
 rw [e]
 have hS:=h.s x hm
 obtain ⟨bc,oc,hCA,hcl,hcc⟩:=h.c.at_ hJl
 obtain ⟨bb,ob,hBA,hbl,hbc⟩:=h.b.at_ (show I<l.bms.length by omega)
 have hc:=h.c;have hbb:=h.b
 rw [hCA] at hc;rw [hBA] at hbb
 have:InS w bc oc zB8 2 l.cks:=⟨hc⟩
 have:InS w bb ob zDj 4 l.bms:=⟨hbb⟩
 have:zAT l.bms I b:=⟨hb1⟩
 have:zAT l.cks J x:=⟨hx⟩
 have hin:=zF3 x.c s.read
 have hA:=fun t W (hW:Below w.heap.size w W) (h1:-86400002≤t) (h2:t≤86400002)=>zKR x t W (hS.below hW) hok hp1 (by omega) ⟨h1,h2⟩
 have hbd:=fun t (h1:-86400002≤t) (h2:t≤86400002)=>zC9 hok (show -86400002≤t∧t≤86400002 by omega) x.c.syncs.length
 simp only [zDM] at hbd
 unfold zBd at hin ⊢
 unfold vCk vSp at hA
 unfold Gv vLn vSg vSp
 rw [hCA,hBA]
 obtain ⟨sb,sr⟩:=s
 simp only at hI
 subst hI
 obtain ⟨bs,bcl⟩:=b
 simp only at hJ
 subst hJ
 have hIl:I<l.bms.length:=by simp only at hb;omega
 simp only at hin
 have u1:∀ r:Int,0≤r→r≤86400001→(∀ a,0≤a→a<r→decide (sr≤a+(zAb x.c a).hi)=false)→(∀ a,r≤a→a<86400001→decide (sr≤a+(zAb x.c a).hi)=true)→bsF (fun t=>decide (sr≤t+(zAb x.c t).hi)) 32 0 86400001=r:=fun r q1 q2 q3 q4=>zJ1 (by decide) (by decide) q1 q2 q3 q4
 have u2:∀ r:Int,0≤r→r≤86400001→(∀ a,0≤a→a<r→decide (sr<a+(zAb x.c a).lo)=false)→(∀ a,r≤a→a<86400001→decide (sr<a+(zAb x.c a).lo)=true)→bsF (fun t=>decide (sr<t+(zAb x.c t).lo)) 32 0 86400001=r:=fun r q1 q2 q3 q4=>zJ1 (by decide) (by decide) q1 q2 q3 q4
 simp only
 generalize bsF (fun t=>decide (sr≤t+(zAb x.c t).hi)) 32 0 86400001=r1 at *
 generalize bsF (fun t=>decide (sr<t+(zAb x.c t).lo)) 32 0 86400001=r2 at *
 (refine zK (n:=69) Tryz.func72 rfl rfl rfl ?_)
 (repeat' (first|((with_reducible refine zG ?_);first|refine zC rfl rfl rfl ?_|(refine zb rfl rfl (fun b=>?_))|(refine zp rfl rfl rfl rfl (fun b=>?_)))|(with_reducible first|refine zI ?_|refine zB ?_|refine zE ?_|refine zA ?_)))
 rename_i b2 b3
 obtain ⟨b4,hb4⟩:∃ b4,b4=b:=⟨_,rfl⟩
 subst hb4
 (refine z9 [(11,12)] [] [] rfl (by decide) (fun _ h=>h) (by kernel_rfl) [[],[Z],[Y,Y],[Z,Y,Y],[Y,Y,Y,Y],[Z,Y,Y,Y,Y],[Z,Z,Z,Z,Y,Y],[Z,Z,Z,Z,Z,Y,Y],[Z,Z,Z,Z,Z,Z,Y,Y],[Z,Z,Z,Z,Z,Z,Z,Z,Z],[Z,Z,Z,Z,Z,Z,Z,Z,Z,Z],[Y,Y,Y,Y,Y,Y,Y,Y,Y,Y,Y],[Z,Z,Z,Z,Z,Z,Z,Z,Z,Z,Z,Z]] (by kernel_rfl) (by kernel_rfl) (by kernel_rfl) (by kernel_rfl) (by kernel_rfl) ?_)
 (repeat' (first|(((with_reducible refine zA0 ?_ ?_);(· exact rfl);refine ⟨_,fun G=>(by (try simp (decide:=true) only [vis,see,fltT,zq,Nat.reduceAdd,Nat.reduceSub,if_true,if_false,List.set_cons_zero,List.set_cons_succ,List.set_nil,List.nil_append,List.cons_append]);rfl),?_⟩);first|refine zN _ (fun _=>zW rfl rfl (by exact rfl)) (fun _=>rfl) rfl (by intro G G' h;simp (decide:=true) only [h]) ?_|(refine zm rfl ?_;refine zN _ (fun _=>zY rfl rfl) (fun _=>rfl) rfl (by intro G G' h;simp (decide:=true) only [h]) ?_)|refine zN _ (fun _=>zw (I:=I) rfl rfl rfl rfl (by omega)) (fun _=>rfl) rfl (by exact fun _ _ _=>rfl) ?_|refine zN _ (fun _=>zw (I:=J) rfl rfl rfl rfl (by omega)) (fun _=>rfl) rfl (by exact fun _ _ _=>rfl) ?_|refine zA1 rfl (fun _=>rfl) rfl ?_)|(refine zAo (gx:=fun G=>(G 11).g) (cs:=fun _=>[.int .i64 0,.slice none 0 0]) (cs':=fun _=>zB8 x) 11 (by decide) rfl rfl (fun _=>rfl) rfl (fun _=>rfl) (fun _=>rfl) (fun _=>rfl) (fun _=>rfl) (fun _=>rfl) (fun _=>rfl) (fun _=>rfl) (by intro G G' h;simp (decide:=true) only [h]) (by exact fun _ _ _=>rfl) ?_)|(with_reducible refine zAx ?_)))
 intro G
 simp only [regsT,List.nil_append,List.cons_append]
 generalize hg:(G (0+1+1+1+1+1+1+1+1+1+1+1)).g=bk
 refine zBF (H':=[.blk bk (zB8 x),.blk b4 [.int .i64 0,.int .i64 0],.blk b3 (zAw ⟨I,sr⟩),.blk b2 [.slice l.TA l.t.length l.tc,.int .i64 l.fast,.slice (some ⟨bc,oc,none⟩) l.cks.length l.cc,.slice (some ⟨bb,ob,none⟩) l.bms.length l.bc,.int .i64 l.finish,.int .i64 l.fakes,.int .i64 l.misses]]) (fun _ h=>hg ▸ h) ?_
 unfold zB8 zAw
 (repeat' (first|((with_reducible refine zG ?_);first|refine zC rfl rfl rfl ?_)|(with_reducible first|refine zI ?_|refine zB ?_|refine zE ?_|refine zA ?_|refine zQ ?_)))
 refine zAB (ι:=Int × Int) [2,3,4,5,6] rfl (fun z=>0≤z.1∧z.1≤z.2∧z.2≤86400001∧(∀ a,0≤a→a<z.1→decide (sr≤a+(zAb x.c a).hi)=false)∧∀ a,z.2≤a→a<86400001→decide (sr≤a+(zAb x.c a).hi)=true) (fun z=>[(7,.int .i64 z.1),(8,.int .i64 z.2)]) (fun _=>[.blk bk [.int .i64 x.c.drift,.slice x.A x.c.syncs.length x.cap],.blk b4 [.int .i64 0,.int .i64 0],.blk b3 [.int .i64 I,.int .i64 sr],.blk b2 [.slice l.TA l.t.length l.tc,.int .i64 l.fast,.slice (some ⟨bc,oc,none⟩) l.cks.length l.cc,.slice (some ⟨bb,ob,none⟩) l.bms.length l.bc,.int .i64 l.finish,.int .i64 l.fakes,.int .i64 l.misses]]) (fun z=>(z.2 - z.1).toNat) (0,86400001) ⟨by decide,by decide,by decide,fun a _ _=>by omega,fun a _ _=>by omega⟩ (by (repeat first|exact lK1|refine zT rfl ?_)) (by (repeat constructor)) ?_
 rintro ⟨lo,hi⟩ ⟨a1,a2,a3,a4,a5⟩
 simp only at a1 a2 a3 a4 a5
 simp only [zAk,List.cons_append,List.nil_append]
 by_cases hlt:lo<hi
 ·have hA1:=fun W hW=>hA ((lo+hi) / 2) W hW (by omega) (by omega)
  have hb1:=hbd ((lo+hi) / 2) (by omega) (by omega)
  have k1:∀ a,0≤a→a≤(lo+hi) / 2→decide (sr≤(lo+hi) / 2+(zAb x.c ((lo+hi) / 2)).hi)=false→decide (sr≤a+(zAb x.c a).hi)=false:=fun a q1 q2 q3=>by
   have:=(zEU hok q2).1
   simp only [decide_eq_false_iff_not] at q3 ⊢;omega
  have k2:∀ a,(lo+hi) / 2≤a→a<86400001→decide (sr≤(lo+hi) / 2+(zAb x.c ((lo+hi) / 2)).hi)=true→decide (sr≤a+(zAb x.c a).hi)=true:=fun a q1 q2 q3=>by
   have:=(zEU hok q1).1
   simp only [decide_eq_true_eq] at q3 ⊢;omega
  generalize zAb x.c ((lo+hi) / 2)=ah at *
  (repeat' (first|((with_reducible refine zG ?_);first|refine zD rfl rfl rfl ?_|refine zC rfl rfl rfl ?_|(refine zS rfl rfl rfl rfl rfl (fun h=>?_) (fun h=>?_)<;>(dsimp only [cmpP] at h;(try (exfalso;omega))))|refine zBp rfl rfl rfl rfl (IntWalk.i64_in _ (by omega)) ?_|refine zJD rfl rfl rfl rfl (by omega) (by omega) (IntWalk.i64_in _ (by omega)) ?_)|(with_reducible first|refine zI ?_|refine zB ?_|refine zE ?_|refine zA ?_|refine zR ?_|refine zQ ?_)|((with_reducible refine zH ?_ ?_);(· exact rfl))))
  (refine zAD (by kernel_rfl) (by kernel_rfl) (by kernel_rfl) ?_)
  (repeat' (first|((with_reducible refine zAP ?_);first|refine zM (zl rfl rfl) rfl ?_|refine zM (zW rfl rfl (by exact rfl)) rfl ?_|refine zM (zY rfl rfl) rfl ?_|(refine zAu rfl rfl rfl rfl rfl (fun h=>?_) (fun h=>?_)<;>(dsimp only [cmpP] at h;(try (exfalso;omega))))|refine zCV rfl rfl rfl rfl (fun _ _ q=>hA1 _ q.below) ?_|refine zM (zFq (vs:=[_,_]) rfl rfl rfl (show TyI Tryz.prog 3 _ _ _ from inferInstance) rfl) rfl ?_|refine zM (zHX rfl rfl rfl (IntWalk.i64_in _ (by omega))) rfl ?_)|(with_reducible refine zAe ?_)))
  all_goals (repeat' (first|((with_reducible refine zG ?_);first|refine zD rfl rfl rfl ?_|refine zC rfl rfl rfl ?_|refine zBp rfl rfl rfl rfl (IntWalk.i64_in _ (by omega)) ?_)|(with_reducible first|refine zB ?_|refine zE ?_|refine zA ?_|refine zj ?_)|((with_reducible refine zH ?_ ?_);(· exact rfl))|((with_reducible refine zF ?_ ?_);(· exact rfl))))
  all_goals first
   | exact zd (ι:=Int × Int) (lo,(lo+hi) / 2) ⟨by simp only;omega,by simp only;omega,by simp only;omega,a4,fun a q1 q2=>k2 a q1 q2 (decide_eq_true (by omega))⟩ (by simp only;omega) (by (repeat first|exact lK1|refine zT rfl ?_)) (by (repeat constructor))
   | exact zd (ι:=Int × Int) ((lo+hi) / 2+1,hi) ⟨by simp only;omega,by simp only;omega,by simp only;omega,fun a q1 q2=>k1 a q1 (by simp only at q2;omega) (decide_eq_false (by omega)),a5⟩ (by simp only;omega) (by (repeat first|exact lK1|refine zT rfl ?_)) (by (repeat constructor))
 obtain rfl:lo=hi:=by omega
 obtain rfl:=u1 lo a1 a3 a4 a5
 (repeat' (first|((with_reducible refine zG ?_);first|refine zD rfl rfl rfl ?_|refine zC rfl rfl rfl ?_|(refine zS rfl rfl rfl rfl rfl (fun h=>?_) (fun h=>?_)<;>(dsimp only [cmpP] at h;(try (exfalso;omega)))))|(with_reducible first|refine zI ?_|refine zB ?_|refine zE ?_|refine zA ?_|refine zQ ?_|refine zz ?_|refine zZ ?_|refine ze ?_)|((with_reducible refine zF ?_ ?_);(· exact rfl))))
 refine zAB (ι:=Int × Int) [2,3,4,5,6,10] rfl (fun z=>-1≤z.1∧z.1≤z.2∧z.2≤86400000∧(∀ a,0≤a→a<z.1+1→decide (sr<a+(zAb x.c a).lo)=false)∧∀ a,z.2+1≤a→a<86400001→decide (sr<a+(zAb x.c a).lo)=true) (fun z=>[(7,.int .i64 z.1),(8,.int .i64 z.2)]) (fun _=>[.blk bk [.int .i64 x.c.drift,.slice x.A x.c.syncs.length x.cap],.blk b4 [.int .i64 0,.int .i64 0],.blk b3 [.int .i64 I,.int .i64 sr],.blk b2 [.slice l.TA l.t.length l.tc,.int .i64 l.fast,.slice (some ⟨bc,oc,none⟩) l.cks.length l.cc,.slice (some ⟨bb,ob,none⟩) l.bms.length l.bc,.int .i64 l.finish,.int .i64 l.fakes,.int .i64 l.misses]]) (fun z=>(z.2 - z.1).toNat) (-1,86400000) ⟨by decide,by decide,by decide,fun a _ _=>by omega,fun a _ _=>by omega⟩ (by (repeat first|exact lK1|refine zT rfl ?_)) (by (repeat constructor)) ?_
 rintro ⟨lo,hi⟩ ⟨g1,g2,g3,g4,g5⟩
 simp only at g1 g2 g3 g4 g5
 simp only [zAk,List.cons_append,List.nil_append]
 by_cases hlt:lo<hi
 ·have hA1:=fun W hW=>hA ((lo+hi+1) / 2) W hW (by omega) (by omega)
  have hb1:=hbd ((lo+hi+1) / 2) (by omega) (by omega)
  have k1:∀ a,0≤a→a≤(lo+hi+1) / 2→decide (sr<(lo+hi+1) / 2+(zAb x.c ((lo+hi+1) / 2)).lo)=false→decide (sr<a+(zAb x.c a).lo)=false:=fun a q1 q2 q3=>by
   have:=(zEU hok q2).2
   simp only [decide_eq_false_iff_not] at q3 ⊢;omega
  have k2:∀ a,(lo+hi+1) / 2≤a→a<86400001→decide (sr<(lo+hi+1) / 2+(zAb x.c ((lo+hi+1) / 2)).lo)=true→decide (sr<a+(zAb x.c a).lo)=true:=fun a q1 q2 q3=>by
   have:=(zEU hok q1).2
   simp only [decide_eq_true_eq] at q3 ⊢;omega
  generalize zAb x.c ((lo+hi+1) / 2)=ah at *
  (repeat' (first|((with_reducible refine zG ?_);first|refine zD rfl rfl rfl ?_|refine zC rfl rfl rfl ?_|(refine zS rfl rfl rfl rfl rfl (fun h=>?_) (fun h=>?_)<;>(dsimp only [cmpP] at h;(try (exfalso;omega))))|refine zBp rfl rfl rfl rfl (IntWalk.i64_in _ (by omega)) ?_|refine zJD rfl rfl rfl rfl (by omega) (by omega) (IntWalk.i64_in _ (by omega)) ?_)|(with_reducible first|refine zI ?_|refine zB ?_|refine zE ?_|refine zA ?_|refine zR ?_|refine zQ ?_)|((with_reducible refine zH ?_ ?_);(· exact rfl))))
  (refine zAD (by kernel_rfl) (by kernel_rfl) (by kernel_rfl) ?_)
  (repeat' (first|((with_reducible refine zAP ?_);first|refine zM (zl rfl rfl) rfl ?_|refine zM (zW rfl rfl (by exact rfl)) rfl ?_|refine zM (zY rfl rfl) rfl ?_|(refine zAu rfl rfl rfl rfl rfl (fun h=>?_) (fun h=>?_)<;>(dsimp only [cmpP] at h;(try (exfalso;omega))))|refine zCV rfl rfl rfl rfl (fun _ _ q=>hA1 _ q.below) ?_|refine zM (zFq (vs:=[_,_]) rfl rfl rfl (show TyI Tryz.prog 3 _ _ _ from inferInstance) rfl) rfl ?_|refine zM (zHX rfl rfl rfl (IntWalk.i64_in _ (by omega))) rfl ?_)|(with_reducible refine zAe ?_)))
  all_goals (repeat' (first|((with_reducible refine zG ?_);first|refine zD rfl rfl rfl ?_|refine zC rfl rfl rfl ?_|refine zAc rfl rfl rfl rfl (IntWalk.i64_in _ (by omega)) ?_)|(with_reducible first|refine zB ?_|refine zE ?_|refine zA ?_|refine zj ?_)|((with_reducible refine zH ?_ ?_);(· exact rfl))|((with_reducible refine zF ?_ ?_);(· exact rfl))))
  all_goals first
   | exact zd (ι:=Int × Int) ((lo+hi+1) / 2,hi) ⟨by simp only;omega,by simp only;omega,by simp only;omega,fun a q1 q2=>k1 a q1 (by simp only at q2;omega) (decide_eq_false (by omega)),g5⟩ (by simp only;omega) (by (repeat first|exact lK1|refine zT rfl ?_)) (by (repeat constructor))
   | exact zd (ι:=Int × Int) (lo,(lo+hi+1) / 2 - 1) ⟨by simp only;omega,by simp only;omega,by simp only;omega,g4,fun a q1 q2=>k2 a (by simp only at q1;omega) q2 (decide_eq_true (by omega))⟩ (by simp only;omega) (by (repeat first|exact lK1|refine zT rfl ?_)) (by (repeat constructor))
 obtain rfl:lo=hi:=by omega
 obtain rfl:=u2 (lo+1) (by omega) (by omega) g4 g5
 rw [Int.add_sub_cancel]
 (repeat' (first|((with_reducible refine zG ?_);first|refine zD rfl rfl rfl ?_|refine zC rfl rfl rfl ?_|(refine zS rfl rfl rfl rfl rfl (fun h=>?_) (fun h=>?_)<;>(dsimp only [cmpP] at h;(try (exfalso;omega))))|(refine zX rfl rfl rfl rfl rfl ?_;refine ⟨rfl,by first|decide|exact Nat.le_of_ble_eq_true rfl|(simp;omega),_,rfl,?_⟩)|(refine zAZ rfl rfl rfl ?_;refine ⟨_,rfl,?_⟩))|(with_reducible first|refine zI ?_|refine zB ?_|refine zE ?_|refine zA ?_|refine zV ?_|refine zz ?_|refine zZ ?_|refine ze ?_)|((with_reducible refine zF ?_ ?_);(· exact rfl))))
 all_goals exact zP (by (exact zh.cons (by exact res1c rfl (by exact rfl)) (zh.cons (by exact zAO.tmp rfl) zh.nil))) () trivial (by first|(rw [decide_eq_true (show r1≤lo by omega)];rfl)|(rw [decide_eq_false (show ¬ r1≤lo by omega)];rfl)) (fun _ h=>h.sub (by (repeat constructor)))
end Go.Proofs.YtfiekidciiighaaGreat.Two
namespace Go.Proofs.YtfiekidciiighaaGreat.Two
variable {ro : Option Nat}
open Go.RowKit
set_option maxRecDepth 20000
structure RdM where
 r:Rid
 A:Option Addr
 c:Nat
def zAN (x:RdM):List Value:=[.int .i64 x.r.start,.int .i64 x.r.now,.slice x.A x.r.sigs.length x.c]
def vRd (x:RdM):Value:=.agg #[.int .i64 x.r.start,.int .i64 x.r.now,.slice x.A x.r.sigs.length x.c]
def zD7 (r:Rid) (i:Nat):Sgn:=match i with | 0=>⟨-1,0⟩|i+1=>r.sigs.getD i default
theorem zHQ {r:Rid} {i:Nat} {s:Sgn} (h:r.sigs[i]?=some s):zD7 r (i+1)=s:=by simp [zD7,List.getD_eq_getElem?_getD,h]
def zG8 (n:Nat) (p s:Sgn):Bool:=inB 0 ((n:Int) - 1) s.beam && inB 0 86400000 s.read && (decide (p.beam<s.beam) || decide (p.beam=s.beam) && decide (p.read<s.read))
def sgB (n:Nat) (r:Rid) (i:Nat):Bool:=match r.sigs[i]? with|some s=>zG8 n (zD7 r i) s|none=>true
def zCC (n:Nat) (r:Rid):Bool:=inB 0 86400000 r.start && inB r.start 86400000 r.now && decide (r.sigs.length≤10) && (List.range r.sigs.length).all (sgB n r)
theorem zIk {n:Nat} {r:Rid} {i:Nat} {s:Sgn} (h:r.sigs[i]?=some s):sgB n r i=zG8 n (zD7 r i) s:=by unfold sgB;rw [h]
theorem zBM {n:Nat} {r:Rid}:zCC n r=true↔(inB 0 86400000 r.start=true∧inB r.start 86400000 r.now=true∧r.sigs.length≤10)∧∀ i,i<r.sigs.length→sgB n r i=true:=by
 unfold zCC
 simp only [Bool.and_eq_true,List.all_eq_true,List.mem_range,decide_eq_true_eq,and_assoc]
theorem zCl {n:Nat} {p s:Sgn}:zG8 n p s=true↔(inB 0 ((n:Int) - 1) s.beam=true∧inB 0 86400000 s.read=true)∧(p.beam<s.beam∨p.beam=s.beam∧p.read<s.read):=by
 unfold zG8
 simp only [Bool.and_eq_true,Bool.or_eq_true,decide_eq_true_eq]
theorem zH4 {n:Nat} {r:Rid} {i:Nat} {s:Sgn} (hs:r.sigs[i]?=some s) (h:zG8 n (zD7 r i) s=false):zCC n r=false:=by
 cases hg:zCC n r with
 | false=>rfl
 | true=>have:=(zBM.1 hg).2 i (List.getElem?_eq_some_iff.1 hs).1;rw [zIk hs,h] at this;cases this
set_option maxHeartbeats 4000000 in
theorem zLp (l:LnM) (x:RdM) (w:World) (hs:zBA l) (hS:zAC zAw 2 w x.A x.r.sigs) (hn:x.r.sigs.length≤1000):Gv Tryz.prog 54 [vLn l,vRd x] w (.bool (zCC l.bms.length x.r)):=by
 have c2:=hs.b
 unfold Gv
 by_cases h1:inB 0 86400000 x.r.start=true∧inB x.r.start 86400000 x.r.now=true∧x.r.sigs.length≤10
 rotate_left
 ·have e:zCC l.bms.length x.r=false:=by
   cases hg:zCC l.bms.length x.r with
   | false=>rfl
   | true=>exact absurd (zBM.1 hg).1 h1
  rw [e]
  unfold vLn vRd
  (refine zK (n:=89) Tryz.func54 rfl rfl rfl ?_)
  (repeat' (first|((with_reducible refine zG ?_);first|refine zD rfl rfl rfl ?_|refine zC rfl rfl rfl ?_|(refine zJ rfl rfl rfl ?_;refine ⟨_,rfl,?_⟩)|refine zL rfl rfl rfl ?_|refine z7 rfl rfl rfl rfl ?_|refine zf rfl rfl rfl ?_|(refine zS rfl rfl rfl rfl rfl (fun h=>?_) (fun h=>?_)<;>(dsimp only [cmpP] at h;(try (exfalso;omega))))|(refine zAf rfl rfl rfl rfl (fun _ _ q=>zAX _ _ _ _) (fun h=>?_) (fun h=>?_)<;>(try (exfalso;omega)))|refine zAI rfl rfl rfl ?_|refine zn rfl rfl rfl ?_|(refine zp rfl rfl rfl rfl (fun b=>?_)))|(with_reducible first|refine zI ?_|refine zB ?_|refine zE ?_|refine zA ?_|refine zV ?_|refine zR ?_|refine zU ?_|refine zQ ?_)|((with_reducible refine zH ?_ ?_);(· exact rfl))|((with_reducible refine zF ?_ ?_);(· exact rfl))))
  all_goals first|exact zP (by exact rTm rfl) () trivial rfl (fun _ h=>h.sub (by (repeat constructor)))|(exfalso;apply h1;refine ⟨by assumption,by assumption,by omega⟩;done)
 obtain ⟨a1,a2,a3⟩:=h1
 unfold vLn vRd
 (refine zK (n:=89) Tryz.func54 rfl rfl rfl ?_)
 (repeat' (first|((with_reducible refine zG ?_);first|refine zD rfl rfl rfl ?_|refine zC rfl rfl rfl ?_|(refine zJ rfl rfl rfl ?_;refine ⟨_,rfl,?_⟩)|refine zL rfl rfl rfl ?_|refine z7 rfl rfl rfl rfl ?_|(refine zS rfl rfl rfl rfl rfl (fun h=>?_) (fun h=>?_)<;>(dsimp only [cmpP] at h;(try (exfalso;omega))))|(refine zO rfl rfl rfl rfl (fun _ _ q=>a1 ▸ zAX _ _ _ _) ?_)|(refine zO rfl rfl rfl rfl (fun _ _ q=>a2 ▸ zAX _ _ _ _) ?_)|refine zAI rfl rfl rfl ?_|refine zn rfl rfl rfl ?_|(refine zp rfl rfl rfl rfl (fun b=>?_)))|(with_reducible first|refine zI ?_|refine zB ?_|refine zE ?_|refine zA ?_|refine zR ?_|refine zQ ?_)|((with_reducible refine zF ?_ ?_);(· exact rfl))))
 obtain ⟨b1,hb1⟩:∃ b1,b1=b:=⟨_,rfl⟩
 subst hb1
 obtain ⟨b2,hb2⟩:∃ b2,b2=b:=⟨_,rfl⟩
 subst hb2
 refine zAB (ι:=Nat) [2,3,4] rfl (fun i=>i≤x.r.sigs.length∧∀ j,j<i→sgB l.bms.length x.r j=true) (fun i=>[(5,.int .i64 (i:Int))]) (fun i=>[.blk b1 [.int .i64 x.r.start,.int .i64 x.r.now,.slice x.A x.r.sigs.length x.c],.blk b2 [.slice l.TA l.t.length l.tc,.int .i64 l.fast,.slice l.CA l.cks.length l.cc,.slice l.BA l.bms.length l.bc,.int .i64 l.finish,.int .i64 l.fakes,.int .i64 l.misses]]) (fun i=>x.r.sigs.length - i) 0 ⟨Nat.zero_le _,fun j hj=>by omega⟩ (by (repeat first|exact lK1|refine zT rfl ?_)) (by (repeat constructor)) ?_
 rintro i ⟨hi,hall⟩
 simp only [zAk,List.cons_append,List.nil_append]
 by_cases hlt:i<x.r.sigs.length
 ·obtain ⟨s,hx⟩:∃ s,x.r.sigs[i]?=some s:=⟨_,List.getElem?_eq_getElem hlt⟩
  have:zAT x.r.sigs i s:=⟨hx⟩
  obtain ⟨bb,o,hA,hblt,hc⟩:=hS.at_ hlt
  rw [hA] at hS
  have:InS w bb o zAw 2 x.r.sigs:=⟨hS⟩
  rw [hA]
  have hno:=fun h=>zH4 (n:=l.bms.length) hx h
  have hyes:=fun (h:zG8 l.bms.length (zD7 x.r i) s=true) (j:Nat) (hj:j<i+1)=>(show sgB l.bms.length x.r j=true from by
   by_cases e:j=i
   ·subst e;rw [zIk hx];exact h
   ·exact hall j (by omega))
  by_cases hi0:0<i
  ·obtain ⟨y,hy⟩:∃ y,x.r.sigs[i - 1]?=some y:=⟨_,List.getElem?_eq_getElem (by omega)⟩
   have:zAT x.r.sigs (i - 1) y:=⟨hy⟩
   have el:zD7 x.r i=y:=by have:=zHQ hy;rwa [show i - 1+1=i by omega] at this
   rw [el] at hno hyes
   (repeat' (first|((with_reducible refine zG ?_);first|refine zD rfl rfl rfl ?_|refine zC rfl rfl rfl ?_|(refine zJ rfl rfl rfl ?_;refine ⟨_,rfl,?_⟩)|refine zL rfl rfl rfl ?_|refine z7 rfl rfl rfl rfl ?_|refine zf rfl rfl rfl ?_|(refine zS rfl rfl rfl rfl rfl (fun h=>?_) (fun h=>?_)<;>(dsimp only [cmpP] at h;(try (exfalso;omega))))|(refine zAf rfl rfl rfl rfl (fun _ _ q=>zAX _ _ _ _) (fun h=>?_) (fun h=>?_)<;>(try (exfalso;omega)))|refine zAI rfl rfl rfl ?_|refine zAc rfl rfl rfl rfl (IntWalk.i64_in _ (by omega)) ?_|refine zo rfl rfl rfl rfl rfl (by omega) ?_|refine zn rfl rfl rfl ?_|(refine zX rfl rfl rfl rfl rfl ?_;refine ⟨rfl,by first|decide|exact Nat.le_of_ble_eq_true rfl|(simp;omega),_,rfl,?_⟩)|(refine zb rfl rfl (fun b=>?_)))|(with_reducible first|refine zI ?_|refine zB ?_|refine zE ?_|refine zA ?_|refine zV ?_|refine zR ?_|refine zU ?_|refine zQ ?_|refine zAV ?_)|((with_reducible refine zH ?_ ?_);(· exact rfl))|((with_reducible refine zF ?_ ?_);(· exact rfl))))
   all_goals first|(refine zP (by exact rTm rfl) () trivial ?_ (fun _ h=>h.sub (by (repeat constructor)));refine congrArg Value.bool (hno ?_);refine Bool.eq_false_iff.2 (fun h9=>?_);have h8:=zCl.1 h9;simp_all;done)|skip
   all_goals (refine zAD (by kernel_rfl) (by kernel_rfl) (by kernel_rfl) ?_)
   all_goals (repeat' (first|((with_reducible refine zAP ?_);first|refine zM (zl rfl rfl) rfl ?_|refine zM (zW rfl rfl (by exact rfl)) rfl ?_|refine zM (zY rfl rfl) rfl ?_|refine zM (zAh rfl rfl rfl) rfl ?_|refine zAJ rfl rfl rfl ?_|(refine zAu rfl rfl rfl rfl rfl (fun h=>?_) (fun h=>?_)<;>(dsimp only [cmpP] at h;(try (exfalso;omega))))|refine zM (zw (I:=(i - 1)) rfl rfl rfl (by omega) (by first|omega|(dsimp only;omega))) rfl ?_|refine zM (zBW rfl rfl rfl (IntWalk.i64_in _ (by omega))) rfl ?_)|(with_reducible refine zAe ?_)))
   all_goals (repeat' (first|((with_reducible refine zG ?_);first|refine zD rfl rfl rfl ?_|refine zC rfl rfl rfl ?_|refine zu rfl rfl rfl rfl (by omega) ?_)|(with_reducible first|refine zI ?_|refine zB ?_|refine zE ?_|refine zA ?_|refine zV ?_|refine zR ?_|refine zU ?_|refine zj ?_|refine zAV ?_)|((with_reducible refine zH ?_ ?_);(· exact rfl))|((with_reducible refine zF ?_ ?_);(· exact rfl))))
   all_goals first|(refine zP (by exact rTm rfl) () trivial ?_ (fun _ h=>h.sub (by (repeat constructor)));refine congrArg Value.bool (hno ?_);refine Bool.eq_false_iff.2 (fun h9=>?_);have h8:=(zCl.1 h9).2;omega)|skip
   all_goals exact zd (ι:=Nat) (i+1) ⟨by omega,hyes (zCl.2 ⟨⟨by assumption,by assumption⟩,by omega⟩)⟩ (by omega) (by (repeat first|exact lK1|refine zT rfl ?_)) (by (repeat constructor))
  ·obtain rfl:i=0:=by omega
   (repeat' (first|((with_reducible refine zG ?_);first|refine zD rfl rfl rfl ?_|refine zC rfl rfl rfl ?_|(refine zJ rfl rfl rfl ?_;refine ⟨_,rfl,?_⟩)|refine zL rfl rfl rfl ?_|refine z7 rfl rfl rfl rfl ?_|refine zf rfl rfl rfl ?_|(refine zS rfl rfl rfl rfl rfl (fun h=>?_) (fun h=>?_)<;>(dsimp only [cmpP] at h;(try (exfalso;omega))))|(refine zAf rfl rfl rfl rfl (fun _ _ q=>zAX _ _ _ _) (fun h=>?_) (fun h=>?_)<;>(try (exfalso;omega)))|refine zAI rfl rfl rfl ?_|refine zAc rfl rfl rfl rfl (IntWalk.i64_in _ (by omega)) ?_|refine zo rfl rfl rfl rfl rfl (by omega) ?_|refine zn rfl rfl rfl ?_|(refine zX rfl rfl rfl rfl rfl ?_;refine ⟨rfl,by first|decide|exact Nat.le_of_ble_eq_true rfl|(simp;omega),_,rfl,?_⟩)|(refine zb rfl rfl (fun b=>?_)))|(with_reducible first|refine zI ?_|refine zB ?_|refine zE ?_|refine zA ?_|refine zV ?_|refine zR ?_|refine zU ?_|refine zQ ?_|refine zAV ?_)|((with_reducible refine zH ?_ ?_);(· exact rfl))|((with_reducible refine zF ?_ ?_);(· exact rfl))))
   all_goals first|(refine zP (by exact rTm rfl) () trivial ?_ (fun _ h=>h.sub (by (repeat constructor)));refine congrArg Value.bool (hno ?_);refine Bool.eq_false_iff.2 (fun h9=>?_);have h8:=zCl.1 h9;simp_all;done)|skip
   all_goals (refine zAD (by kernel_rfl) (by kernel_rfl) (by kernel_rfl) ?_)
   all_goals (repeat' (first|((with_reducible refine zAP ?_);first|refine zM (zl rfl rfl) rfl ?_|refine zM (zAh rfl rfl rfl) rfl ?_|refine zAJ rfl rfl rfl ?_|(refine zAu rfl rfl rfl rfl rfl (fun h=>?_) (fun h=>?_)<;>(dsimp only [cmpP] at h;(try (exfalso;omega)))))|(with_reducible refine zAe ?_)))
   all_goals (repeat' (first|((with_reducible refine zG ?_);first|refine zD rfl rfl rfl ?_|refine zC rfl rfl rfl ?_|refine zu rfl rfl rfl rfl (by omega) ?_)|(with_reducible first|refine zB ?_|refine zE ?_|refine zA ?_|refine zR ?_|refine zj ?_)|((with_reducible refine zF ?_ ?_);(· exact rfl))))
   all_goals exact zd (ι:=Nat) (0+1) ⟨by omega,hyes (zCl.2 ⟨⟨by assumption,by assumption⟩,.inl (by have:=zAA.1 (show inB 0 ((l.bms.length:Int) - 1) s.beam=true by assumption);simp only [zD7];omega)⟩)⟩ (by omega) (by (repeat first|exact lK1|refine zT rfl ?_)) (by (repeat constructor))
 obtain rfl:i=x.r.sigs.length:=by omega
 rw [zBM.2 ⟨⟨a1,a2,a3⟩,hall⟩]
 (repeat' (first|((with_reducible refine zG ?_);first|refine zD rfl rfl rfl ?_|refine zC rfl rfl rfl ?_|(refine zJ rfl rfl rfl ?_;refine ⟨_,rfl,?_⟩)|refine zL rfl rfl rfl ?_|(refine zS rfl rfl rfl rfl rfl (fun h=>?_) (fun h=>?_)<;>(dsimp only [cmpP] at h;(try (exfalso;omega))))|refine zn rfl rfl rfl ?_)|(with_reducible first|refine zI ?_|refine zB ?_|refine zE ?_|refine zA ?_|refine zV ?_|refine zz ?_|refine zZ ?_|refine ze ?_)|((with_reducible refine zF ?_ ?_);(· exact rfl))))
 exact zP (by exact rTm rfl) () trivial rfl (fun _ h=>h.sub (by (repeat constructor)))
def zAY (l:LnM) (i:Nat):Int:=upI (1000 * zBo l i) l.fast
theorem apT_le {t:List St} {a b:Spot} (hv:valid t=true) (ha:zAd t a=true) (hb:zAd t b=true):(apT t a b).lo≤1000000:=by
 have hl:=zC3 hv
 have ho:=zCK hv
 have a5:=zBy ha ho
 have b5:=zBy hb ho
 obtain ⟨I,hI,hlI⟩:=zBU ha
 obtain ⟨J,hJ,hlJ⟩:=zBU hb
 have e:apT t a b=if b.st<a.st then zCc (ap0 t b a) else ap0 t a b:=by unfold apT;rw [hv,ha,hb];rfl
 rw [e,hI,hJ]
 split
 ·have h:=zBj ho (show J≤I by omega) (by omega)
  unfold zCc ap0
  rw [hI,hJ,Int.toNat_natCast,Int.toNat_natCast]
  simp only;omega
 ·have h:=zBj ho (show I≤J by omega) (by omega)
  unfold ap0
  rw [hI,hJ,Int.toNat_natCast,Int.toNat_natCast]
  simp only;omega
theorem atT_le {t:List St} {a:Spot} (hv:valid t=true) (ha:zAd t a=true):(atT t a).lo≤1000000:=by
 have hl:=zC3 hv
 have ho:=zCK hv
 have a5:=zBy ha ho
 obtain ⟨I,hI,hlI⟩:=zBU ha
 have e:atT t a=zBE (mark t a.st.toNat) a.off:=by unfold atT;rw [hv,ha];rfl
 have h:=zBj ho (Nat.zero_le I) (by omega)
 rw [e,hI,Int.toNat_natCast]
 unfold zBE mark
 simp only;omega
theorem zIZ {l:LnM} (hf:zDo l) {i:Nat} (hi:i<l.bms.length):1≤zBo l i∧zBo l i≤1000000:=by
 refine ⟨hf.way i hi,?_⟩
 have hb:∀ j,j<l.bms.length→zAd l.t (bmOf l j).spot=true:=fun j hj=>by
  obtain ⟨b,hb⟩:∃ b,l.bms[j]?=some b:=⟨_,List.getElem?_eq_getElem hj⟩
  rw [zDT hb];exact (hf.bm b (List.mem_of_getElem? hb)).1
 unfold zBo
 split
 ·exact atT_le hf.valid (hb 0 (by omega))
 ·exact apT_le hf.valid (hb _ (by omega)) (hb _ hi)
theorem zCo {l:LnM} (hf:zDo l) {i:Nat} (hi:i<l.bms.length):1≤zAY l i∧zAY l i≤1000000000:=by
 have h1:=zIZ hf hi
 have h2:=hf.fast
 have h3:=zKA (n:=1000 * zBo l i) (b:=l.fast) (by omega) h2.1
 unfold zAY
 refine ⟨?_,by omega⟩
 unfold upI
 refine (Int.le_ediv_iff_mul_le (by omega)).2 (by omega)
set_option maxHeartbeats 2000000 in
theorem zKN (l:LnM) (i:Nat) (w:World) (h:zCY w l) (hs:zBA l) (hf:zDo l) (hi:i<l.bms.length):Gv Tryz.prog 71 [vLn l,.int .i64 (i:Int)] w (.int .i64 (zAY l i)):=by
 have hG:=fun W (hW:Below w.heap.size w W)=>zJO l i W (h.below hW) hs hi
 have h1:=zIZ hf hi
 have h2:=hf.fast
 have e:zAY l i=(zBo l i * 1000+l.fast - 1) / l.fast:=by unfold zAY upI;rw [Int.mul_comm]
 rw [e]
 have h3:IntKind.i64.wrap ((zBo l i * 1000+l.fast - 1) / l.fast)=(zBo l i * 1000+l.fast - 1) / l.fast:=by
  have h4:0≤(zBo l i * 1000+l.fast - 1) / l.fast:=Int.ediv_nonneg (by omega) (by omega)
  have h5:=Int.ediv_le_self (l.fast) (show 0≤zBo l i * 1000+l.fast - 1 by omega)
  exact IntWalk.i64_in _ (by omega)
 unfold Gv
 unfold vLn at hG ⊢
 generalize zBo l i=v at *
 (refine zK (n:=16) Tryz.func71 rfl rfl rfl ?_)
 (repeat' (first|((with_reducible refine zG ?_);first|refine zC rfl rfl rfl ?_|(refine zp rfl rfl rfl rfl (fun b=>?_)))|(with_reducible first|refine zI ?_|refine zB ?_|refine zE ?_|refine zA ?_)))
 (refine zAD (by kernel_rfl) (by kernel_rfl) (by kernel_rfl) ?_)
 (repeat' (first|((with_reducible refine zAP ?_);first|refine zM (zl rfl rfl) rfl ?_|refine zM (zW rfl rfl (by exact rfl)) rfl ?_|refine zM (zY rfl rfl) rfl ?_|refine zM (zt rfl rfl) rfl ?_|refine zCV rfl rfl rfl rfl (fun _ _ q=>hG _ q.below) ?_|refine zM (e_quo rfl rfl rfl (by omega) (by omega) h3) rfl ?_|refine zM (zHX rfl rfl rfl (IntWalk.i64_in _ (by omega))) rfl ?_|refine zM (zBW rfl rfl rfl (IntWalk.i64_in _ (by omega))) rfl ?_|refine zM (e_mul rfl rfl rfl (IntWalk.i64_in _ (by omega))) rfl ?_)|(with_reducible refine zAe ?_)))
 all_goals (repeat' (first|(with_reducible first|refine zA ?_|refine zV ?_)))
 exact zP (by exact rTm rfl) () trivial rfl (fun _ h=>h.sub (by (repeat constructor)))
end Go.Proofs.YtfiekidciiighaaGreat.Two
