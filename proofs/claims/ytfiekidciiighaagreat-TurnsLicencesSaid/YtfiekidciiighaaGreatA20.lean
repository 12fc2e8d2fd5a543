/- A20 -/
import Derived.Test.YtfiekidciiighaaGreatA19
import Derived.Test.YtfiekidciiighaaGreatA10
set_option linter.unusedSimpArgs false
set_option linter.unusedVariables false
namespace Go.Proofs.YtfiekidciiighaaGreat.Two
variable {ro : Option Nat}
open Go.RowKit
set_option maxRecDepth 20000
structure Wa where
 l:LnM
 x:RdM
 LA:Option Addr
 lc:Nat
 gt:Nat
def zy (z:Wa) (vF vB:Value):List Value:=[.slice z.l.TA z.l.t.length z.l.tc,.int .i64 z.l.fast,.slice z.l.CA z.l.cks.length z.l.cc,.slice z.l.BA z.l.bms.length z.l.bc,.int .i64 z.l.finish,.int .i64 z.l.fakes,.int .i64 z.l.misses,.int .i64 z.x.r.start,.int .i64 z.x.r.now,.slice z.x.A z.x.r.sigs.length z.x.c,.slice z.LA z.l.bms.length z.lc,.slice (some ⟨z.gt,0,none⟩) z.l.bms.length z.l.bms.length,vF,vB]
def zAS (m:Option Nat):List Value:=[.map m]
instance encI_om : zCZ zAS 1:=⟨fun _=>rfl,fun x v hv=>by simp [zAS] at hv;subst hv;rfl⟩
def zEZ (o:Opn):List Value:=[.int .i64 o.sig,vSp ⟨o.lo,o.hi⟩]
def Wa.k (z:Wa):RdK:=krd z.l z.x.r
theorem zE2 (s t:Tal) (w:World) (h1:-1000000≤s.right∧s.right≤1000000∧-1000000≤s.missed∧s.missed≤1000000) (h2:-1000000≤t.right∧t.right≤1000000∧-1000000≤t.missed∧t.missed≤1000000):Gv Tryz.prog 96 [vTl s,vTl t] w (vTl (s.plus t)):=by
 unfold Gv vTl
 (refine zK (n:=16) Tryz.func96 rfl rfl rfl ?_)
 (repeat' (first|((with_reducible refine zG ?_);first|(refine zJ rfl rfl rfl ?_;refine ⟨_,rfl,?_⟩)|refine zL rfl rfl rfl ?_|refine zBp rfl rfl rfl rfl (IntWalk.i64_in _ (by omega)) ?_|(refine zX rfl rfl rfl rfl rfl ?_;refine ⟨rfl,by first|decide|exact Nat.le_of_ble_eq_true rfl|(simp;omega),_,rfl,?_⟩)|(refine zb rfl rfl (fun b=>?_))|(refine zp rfl rfl rfl rfl (fun b=>?_))|(refine zAZ rfl rfl rfl ?_;refine ⟨_,rfl,?_⟩))|(with_reducible first|refine zI ?_|refine zB ?_|refine zE ?_|refine zA ?_|refine zV ?_)))
 exact zP (by (exact zh.cons (by exact res1c rfl (by exact rfl)) zh.nil)) () trivial rfl (fun _ h=>h.sub (by (repeat constructor)))
theorem zLH (z:Wa) (vF vB:Value) (g:Nat) (t:Tal) (w:World) (hg:InC w g 0 (zy z vF vB)) (h1:-1000000≤t.right∧t.right≤1000000) (hn:z.x.r.sigs.length≤1000):Gv Tryz.prog 89 [.pointer (some ⟨g,0,none⟩),vTl t] w (.bool (zEN z.k t)):=by
 have e:zEN z.k t=(decide (t.missed≤z.l.misses) && decide ((z.x.r.sigs.length:Int) - t.right≤z.l.fakes)):=rfl
 rw [e]
 unfold Gv vTl
 unfold zy at hg
 (refine zK (n:=30) Tryz.func89 rfl rfl rfl ?_)
 (repeat' (first|((with_reducible refine zG ?_);first|refine zC rfl rfl rfl ?_|(refine zp rfl rfl rfl rfl (fun b=>?_)))|(with_reducible first|refine zI ?_|refine zB ?_|refine zE ?_|refine zA ?_)))
 (refine zAD (by kernel_rfl) (by kernel_rfl) (by kernel_rfl) ?_)
 (repeat' (first|((with_reducible refine zAP ?_);first|refine zM (zl rfl rfl) rfl ?_|refine zM (zW rfl rfl (by exact rfl)) rfl ?_|refine zM (zY rfl rfl) rfl ?_|refine zM (zAh rfl rfl rfl) rfl ?_|refine zM (zt rfl rfl) rfl ?_|refine zAJ rfl rfl rfl ?_|(refine zAu rfl rfl rfl rfl rfl (fun h=>?_) (fun h=>?_)<;>(dsimp only [cmpP] at h;(try (exfalso;omega))))|refine zM (zBW rfl rfl rfl (IntWalk.i64_in _ (by omega))) rfl ?_|refine zM (zEu rfl rfl) rfl ?_|refine zM (z8 rfl rfl) rfl ?_)|(with_reducible refine zAe ?_)))
 all_goals (repeat' (first|(with_reducible first|refine zA ?_|refine zV ?_)))
 all_goals exact zP (by exact rTm rfl) () trivial (by simp [resV];omega) (fun _ h=>h.sub (by (repeat constructor)))
theorem zEn (g j:Nat) (w:World):Ret Tryz.prog 95 [.pointer (some ⟨g,0,none⟩),.int .i64 (j:Int)] w (fun p:Nat × Nat=>.func (.func 113) #[] #[.pointer (some ⟨p.1,0,none⟩),.pointer (some ⟨p.2,0,none⟩)]) (fun p=>[.blk p.1 [.pointer (some ⟨g,0,none⟩)],.blk p.2 [.int .i64 (j:Int)]]) (fun _=>True):=by
 (refine zK (n:=6) Tryz.func95 rfl rfl rfl ?_)
 (repeat' (first|((with_reducible refine zG ?_);first|refine zC rfl rfl rfl ?_|(refine zp rfl rfl rfl rfl (fun b=>?_))|refine zB2 rfl rfl rfl rfl ?_)|(with_reducible first|refine zI ?_|refine zB ?_|refine zE ?_|refine zA ?_|refine zV ?_)))
 rename_i b2
 exact zP (by exact rTm rfl) (b2,b) trivial rfl (fun _ h=>h.sub (by (repeat constructor)))
def zDO (z:Wa) (vF vB:Value) (g b1 b2 b:Nat) (TL:List (Option Nat)) (mt:Nat) (ml:List (Int × Sp × Nat)) (mc:Nat):List Ent:=[.blk b1 [.pointer (some ⟨g,0,none⟩)],.blk b2 [.int .i64 (b:Int)],.blk g (zy z vF vB),.arr zAS 1 z.gt TL,.ml mt vI vSp ml mc]
set_option maxHeartbeats 4000000 in
theorem zEm (z:Wa) (vF vB:Value) (g b1 b2 j mt mc:Nat) (TL:List (Option Nat)) (ml:List (Int × Sp × Nat)) (wb:World) (hTL:TL.length=z.l.bms.length) (hb:TL[j]?=some (some mt)) (hM:MOk ml mc) (hl:look ml=zBr z.l z.x.r j z.x.r.sigs.length) :
  SeqG Tryz.prog 113 [.pointer (some ⟨b1,0,none⟩),.pointer (some ⟨b2,0,none⟩)] (fun _=>zDO z vF vB g b1 b2 j TL mt ml mc) zEZ (fun _ x=>x∈z.k.opts j) (fun ys=>∀ x∈z.k.opts j,x∈ys) wb:=by
 intro ι ly I Cx s0 w hwb hI0 hO hround
 have:zAT TL j (some mt):=⟨hb⟩
 have hbl:=(List.getElem?_eq_some_iff.1 hb).1
 have hop:∀ x,x∈z.k.opts j↔x=⟨-1,z.x.r.start,z.x.r.now⟩∨∃ i t,look ml i=some t∧x=⟨i,t.lo,t.hi⟩:=fun x=>by rw [hl];exact zHI
 unfold zDO zy zEZ at *
 dsimp only at hround hO ⊢
 refine zEJ (n:=38) hwb hO Tryz.func113 rfl rfl rfl ?_
 refine zBF (fun _ h=>zDA.1 h) ?_
 simp only [List.cons_append,List.nil_append]
 (repeat' (first|(with_reducible first|refine zI ?_)))
 (refine z9 [] [] [] rfl (show ([]:List Nat).Nodup by decide) (fun _ h=>h) (by kernel_rfl) [[],[Y],[Z,Y],[Z,Z,Y],[Z,Z,Z,Y],[Z,Z,Z,Z,Y],[Y,Y,Y,Y,Y,Y],[Z,Y,Y,Y,Y,Y,Y],[Z,Z,Y,Y,Y,Y,Y,Y],[Z,Z,Z,Y,Y,Y,Y,Y,Y],[Z,Z,Z,Z,Y,Y,Y,Y,Y,Y],[Z,Z,Z,Z,Z,Z,Z,Z,Z,Z,Y],[Z,Z,Z,Z,Z,Z,Z,Z,Z,Z,Z,Z],[Z,Z,Z,Z,Z,Z,Z,Z,Z,Z,Z,Z,Z]] (by kernel_rfl) (by kernel_rfl) (by kernel_rfl) (by kernel_rfl) (by kernel_rfl) ?_)
 (repeat' (first|(((with_reducible refine zA0 ?_ ?_);(· exact rfl);refine ⟨_,fun G=>(by (try simp (decide:=true) only [vis,see,fltT,zq,Nat.reduceAdd,Nat.reduceSub,if_true,if_false,List.set_cons_zero,List.set_cons_succ,List.set_nil,List.nil_append,List.cons_append]);rfl),?_⟩);first|refine zN _ (fun _=>zl rfl rfl) (fun _=>rfl) rfl (by intro G G' h;simp (decide:=true) only [h]) ?_|refine zN _ (fun _=>zW rfl rfl (by exact rfl)) (fun _=>rfl) rfl (by intro G G' h;simp (decide:=true) only [h]) ?_|(refine zm rfl ?_;refine zN _ (fun _=>zY rfl rfl) (fun _=>rfl) rfl (by intro G G' h;simp (decide:=true) only [h]) ?_)|refine zN _ (fun _=>z8 rfl rfl) (fun _=>rfl) rfl (by intro G G' h;simp (decide:=true) only [h]) ?_|refine zN _ (fun _=>zDK rfl rfl (by exact rfl)) (fun _=>rfl) rfl (by intro G G' h;simp (decide:=true) only [h]) ?_)|((with_reducible refine zBi ?_ ?_);(· exact rfl))))
 (intro G;simp only [regsT,zq,zAa,ini,List.nil_append,List.cons_append])
 have h0m:(⟨-1,z.x.r.start,z.x.r.now⟩:Opn)∈z.k.opts j:=(hop _).2 (.inl rfl)
 (repeat' (first|((with_reducible refine zG ?_);first|(refine zId (D:=zDO z vF vB g b1 b2 j TL mt ml mc) (L:=Cx s0) (C:=Cx) (p:=I [⟨-1,z.x.r.start,z.x.r.now⟩]) (go:=true) rfl rfl rfl rfl [.oldx w wb.heap.size (feet (zDO z vF vB g b1 b2 j TL mt ml mc++Cx s0))] (by (repeat constructor)) (fun _ W q=>hround [] ⟨-1,z.x.r.start,z.x.r.now⟩ s0 W h0m hI0 q.below (Own.append.1 (zDA.2 q.own)).1) ?_;rintro s1 hs1;simp only [zDO,zy,List.cons_append,List.nil_append])|refine zAI rfl rfl rfl ?_)|(with_reducible first|refine zI ?_|refine zE ?_|refine zA ?_|refine zR ?_)|((with_reducible refine zF ?_ ?_);(· exact rfl))))
 (refine z9 [] [] [] rfl (show ([]:List Nat).Nodup by decide) (fun _ h=>h) (by kernel_rfl) [[],[Z],[Z,Z],[Z,Z,Z],[Y,Y,Y,Y],[Z,Z,Z,Z,Z],[Z,Z,Z,Z,Z,Z],[Z,Z,Z,Z,Z,Z,Z]] (by kernel_rfl) (by kernel_rfl) (by kernel_rfl) (by kernel_rfl) (by kernel_rfl) ?_)
 (repeat' (first|(((with_reducible refine zA0 ?_ ?_);(· exact rfl);refine ⟨_,fun G=>(by (try simp (decide:=true) only [vis,see,fltT,zq,Nat.reduceAdd,Nat.reduceSub,if_true,if_false,List.set_cons_zero,List.set_cons_succ,List.set_nil,List.nil_append,List.cons_append]);rfl),?_⟩);first|refine zN _ (fun _=>zW rfl rfl (by exact rfl)) (fun _=>rfl) rfl (by intro G G' h;simp (decide:=true) only [h]) ?_|(refine zm rfl ?_;refine zN _ (fun _=>zY rfl rfl) (fun _=>rfl) rfl (by intro G G' h;simp (decide:=true) only [h]) ?_)|refine zN _ (fun _=>zw (I:=j) rfl rfl rfl rfl (by omega)) (fun _=>rfl) rfl (by exact fun _ _ _=>rfl) ?_|refine zN _ (fun _=>z8 rfl rfl) (fun _=>rfl) rfl (by intro G G' h;simp (decide:=true) only [h]) ?_)|((with_reducible refine zBi ?_ ?_);(· exact rfl))))
 (intro G;simp only [regsT,zq,zAa,ini,List.nil_append,List.cons_append])
 (repeat' (first|((with_reducible refine zG ?_);first|refine zD1 (kv:=vI) (vv:=vSp) rfl rfl rfl (by (repeat constructor)) (fun r=>?_))|(with_reducible first|refine zE ?_|refine zA ?_|refine zQ ?_)))
 refine zAB (ι:=List Nat × List Opn × ι) [0,27] rfl (fun q=>I q.2.1 q.2.2∧(⟨-1,z.x.r.start,z.x.r.now⟩:Opn)∈q.2.1∧∀ p∈ml,p.2.2∈q.1→(⟨p.1,p.2.1.lo,p.2.1.hi⟩:Opn)∈q.2.1) (fun _=>[]) (fun q=>.itl r mt mc q.1::(zDO z vF vB g b1 b2 j TL mt ml mc++[.all (Cx q.2.2),.oldx w wb.heap.size (feet (zDO z vF vB g b1 b2 j TL mt ml mc++Cx s0))])) (fun q=>zFi ml q.1) ([],[⟨-1,z.x.r.start,z.x.r.now⟩],s1) ⟨hs1,by simp,fun p _ hp=>by cases hp⟩ (by (repeat first|exact lK1|refine zT rfl ?_)) (by (repeat constructor)) ?_
 rintro ⟨seen,ys,s⟩ ⟨hIs,hm0,hms⟩
 simp only at hIs hm0 hms
 simp only [zAk,zDO,zy,List.cons_append,List.nil_append]
 (repeat' (first|((with_reducible refine zG ?_);first|(refine zEz (kv:=vI) (vv:=vSp) rfl rfl rfl (by (repeat constructor)) (by (repeat constructor)) hM (fun hend=>?_) (fun p hp hpn=>?_)<;>skip)|refine zk rfl rfl rfl rfl ?_)|(with_reducible first|refine zI ?_|refine zB ?_|refine zE ?_|refine zA ?_|refine zR ?_|refine zQ ?_|refine zz ?_|refine zZ ?_|refine ze ?_)|((with_reducible refine zH ?_ ?_);(· exact rfl))|((with_reducible refine zF ?_ ?_);(· exact rfl))))
 ·refine zKE ?_
  refine zIf (vs:=[]) zh.nil (ys,s) ⟨fun x hx=>?_,hIs⟩ rfl hwb (fun W9 h=>zDA.2 (show Own wb.heap.size W9 (zDO z vF vB g b1 b2 j TL mt ml mc ++ .all (Cx s)::[.oldx w wb.heap.size (feet (zDO z vF vB g b1 b2 j TL mt ml mc++Cx s0))]) from h.sub (by (repeat constructor))))
  rcases (hop x).1 hx with rfl | ⟨i,t,h1,rfl⟩
  ·exact hm0
  ·obtain ⟨_,bn,_,h2⟩:=zCn 0 h1
   have h3:=List.mem_of_getElem? h2
   exact hms _ h3 (hend _ h3)
 ·have hpm:(⟨p.1,p.2.1.lo,p.2.1.hi⟩:Opn)∈z.k.opts j:=(hop _).2 (.inr ⟨p.1,p.2.1,zDg hM.keys (show (p.1,p.2.1,p.2.2)∈ml from hp),rfl⟩)
  (repeat' (first|((with_reducible refine zG ?_);first|refine zD rfl rfl rfl ?_|refine zC rfl rfl rfl ?_|(refine zJ rfl rfl rfl ?_;refine ⟨_,rfl,?_⟩)|refine zDa (kv:=vI) (vv:=vSp) (p:=p) rfl rfl rfl (by (repeat constructor)) (by (repeat constructor)) hM hp ?_|refine zk rfl rfl rfl rfl ?_|(refine zX rfl rfl rfl rfl rfl ?_;refine ⟨rfl,by first|decide|exact Nat.le_of_ble_eq_true rfl|(simp;omega),_,rfl,?_⟩)|(refine zb rfl rfl (fun b=>?_)))|(with_reducible first|refine zI ?_|refine zB ?_|refine zE ?_|refine zA ?_)))
  obtain ⟨p1,⟨p2,p3⟩,p4⟩:=p
  dsimp only [vSp,vI] at hpm hpn ⊢
  have hY:=fun W h3 h4=>hround ys ⟨p1,p2,p3⟩ s W hpm hIs h3 h4
  dsimp only at hY
  obtain ⟨b5,hb5⟩:∃ y,y=b:=⟨_,rfl⟩
  subst hb5
  (repeat' (first|((with_reducible refine zG ?_);first|(refine zId (D:=zDO z vF vB g b1 b2 j TL mt ml mc) (L:=Cx s) (C:=Cx) (p:=I (ys++([⟨p1,p2,p3⟩]:List Opn))) (go:=true) rfl rfl rfl rfl [.itl r mt mc (seen++[p4]),.oldx w wb.heap.size (feet (zDO z vF vB g b1 b2 j TL mt ml mc++Cx s0))] (by (repeat constructor)) (fun _ W q=>hY W q.below (Own.append.1 (zDA.2 q.own)).1) ?_;rintro s2 hs2;simp only [zDO,zy,List.cons_append,List.nil_append])|refine zAI rfl rfl rfl ?_)|(with_reducible first|refine zE ?_|refine zA ?_|refine zR ?_|refine zj ?_)|((with_reducible refine zF ?_ ?_);(· exact rfl))))
  refine zd (ι:=List Nat × List Opn × ι) (seen++[p4],ys++[⟨p1,p2,p3⟩],s2) ⟨hs2,by simp [hm0],fun p' hp' hs'=>?_⟩ (zDF hp hpn) (by (repeat first|exact lK1|refine zT rfl ?_)) (by (repeat constructor))
  rcases List.mem_append.1 hs' with h9|h9
  ·exact List.mem_append_left _ (hms p' hp' h9)
  ·have h9:p'.2.2=p4:=by simpa using h9
   have h8:=zDf hM hp' hp h9
   rw [h8]
   exact List.mem_append_right _ (by simp)
end Go.Proofs.YtfiekidciiighaaGreat.Two
