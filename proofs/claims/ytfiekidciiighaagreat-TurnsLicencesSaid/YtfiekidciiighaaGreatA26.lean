/- A26 -/
import Derived.Test.YtfiekidciiighaaGreatA25
import Derived.Test.YtfiekidciiighaaGreatA18
set_option linter.unusedSimpArgs false
set_option linter.unusedVariables false
namespace Go.Proofs.YtfiekidciiighaaGreat.Two
variable {ro : Option Nat}
open Go.RowKit
set_option maxRecDepth 20000
theorem zK2 (l:LnM) (bl bb j:Nat) (w:World) (hl:InC w bl 0 (zAH l)) (hb:InC w bb 0 [.int .i64 (j:Int)]) (hj:j<l.bms.length) (hm:l.bms.length≤1000):Gv Tryz.prog 67 [.pointer (some ⟨bl,0,none⟩),.pointer (some ⟨bb,0,none⟩)] w (.int .i64 0):=by
 have e:inB 0 ((l.bms.length:Int) - 1) (j:Int)=true:=by rw [zAA];omega
 unfold Gv
 unfold zAH at hl
 (refine zK (n:=11) Tryz.func67 rfl rfl rfl ?_)
 (repeat' (first|((with_reducible refine zG ?_);first|refine zC rfl rfl rfl ?_|(refine zJ rfl rfl rfl ?_;refine ⟨_,rfl,?_⟩)|refine zL rfl rfl rfl ?_|(refine zO rfl rfl rfl rfl (fun _ _ q=>e ▸ bin1 _ _ _ _ _ _ (zAF (enc:=encI) (by exact rfl) _ q.below q.own)) ?_)|refine zAI rfl rfl rfl ?_|refine zAc rfl rfl rfl rfl (IntWalk.i64_in _ (by omega)) ?_|refine zn rfl rfl rfl ?_|(refine zi rfl rfl rfl ?_;refine ⟨rfl,_,rfl,fun b=>?_⟩))|(with_reducible first|refine zI ?_|refine zB ?_|refine zE ?_|refine zA ?_|refine zV ?_|refine zR ?_)|((with_reducible refine zF ?_ ?_);(· exact rfl))))
 exact zP (by exact rTm rfl) () trivial rfl (fun _ h=>h.sub (by (repeat constructor)))
def zFG (l:LnM) (r:Rid):Sp × Int:=if zAt l r=0 then zFe (zCG (krd l r) l.finish.toNat) else (⟨0,0⟩,zAt l r)
def spN (s:Option (Int × Int)):Sp:=match s with|some p=>⟨p.1,p.2⟩|none=>⟨1,0⟩
set_option maxHeartbeats 4000000 in
theorem zJ2 (l:LnM) (x:RdM) (w:World) (h:zCY w l) (hs:zBA l) (hS:zAC zAw 2 w x.A x.r.sigs) (hn:x.r.sigs.length≤1000):Gv Tryz.prog 51 [vLn l,vRd x,.int .i64 l.finish] w (.tuple #[vSp (zFG l x.r).1,.int .i64 (zFG l x.r).2]):=by
 have hb:=hs.b
 have hOp:=fun W (hW:Below w.heap.size w W) b3 b5 A c (h3:InC W b3 0 (zAH l)) (h5:InC W b5 0 [.int .i64 l.finish]) (hA:zAC zHW 1 W A [(b3,b5)])=>zFf l x [(b3,b5)] A c W (h.below hW) hs (hS.below hW) hn hA (show [(b3,b5)].length≤10 from by simp) (fun he p hp W2 hW2=>by
  obtain rfl:=List.mem_singleton.1 hp
  have hf:=zDI he
  obtain ⟨fin,hfin⟩:∃ fin:Nat,l.finish=fin:=⟨l.finish.toNat,by have:=hf.finish;omega⟩
  rw [hfin] at h5
  exact zK2 l b3 b5 fin W2 (h3.below hW2) (h5.below hW2) (by have:=hf.finish;omega) (by omega))
 unfold Gv
 unfold vLn vRd zAH at *
 by_cases h0:zAt l x.r=0
 rotate_left
 ·have e:zFG l x.r=(⟨0,0⟩,zAt l x.r):=by unfold zFG;rw [if_neg h0]
  rw [e]
  generalize zAt l x.r=er at *
  (refine zK (n:=53) Tryz.func51 rfl rfl rfl ?_)
  (repeat' (first|((with_reducible refine zG ?_);first|refine zC rfl rfl rfl ?_|(refine zJ rfl rfl rfl ?_;refine ⟨_,rfl,?_⟩)|(refine zb rfl rfl (fun b=>?_))|(refine zp rfl rfl rfl rfl (fun b=>?_))|(refine zi rfl rfl rfl ?_;refine ⟨rfl,_,rfl,fun b=>?_⟩)|refine zB2 rfl rfl rfl rfl ?_)|(with_reducible first|refine zI ?_|refine zB ?_|refine zE ?_|refine zA ?_)))
  rename_i b3 b4 b5 b6
  (repeat' (first|((with_reducible refine zG ?_);first|refine zD rfl rfl rfl ?_|refine zC rfl rfl rfl ?_|(refine zS rfl rfl rfl rfl rfl (fun h=>?_) (fun h=>?_)<;>(dsimp only [cmpP] at h;(try (exfalso;omega))))|(refine zBL rfl rfl rfl rfl (fun _ _ q=>hOp _ q.below b3 b5 _ _ (zA7 q.own (Below.refl _ _) rfl) (zA7 q.own (Below.refl _ _) rfl) (zAF (enc:=zHW) (by exact rfl) _ q.below q.own)) ?_;rintro (_|d) hp;rotate_left;(exact absurd hp.1 h0);dsimp only [List.cons_append,List.nil_append])|refine zk rfl rfl rfl rfl ?_|(refine zX rfl rfl rfl rfl rfl ?_;refine ⟨rfl,by first|decide|exact Nat.le_of_ble_eq_true rfl|(simp;omega),_,rfl,?_⟩)|(refine zAZ rfl rfl rfl ?_;refine ⟨_,rfl,?_⟩))|(with_reducible first|refine zI ?_|refine zB ?_|refine zE ?_|refine zA ?_|refine zV ?_|refine zU ?_)|((with_reducible refine zH ?_ ?_);(· exact rfl))))
  exact zP (by (exact zh.cons (by exact res1c rfl (by exact rfl)) (zh.cons (by exact zAO.tmp rfl) zh.nil))) () trivial rfl (fun _ h=>h.sub (by (repeat constructor)))
 obtain ⟨q1,q2,q3⟩:=zGD.1 h0
 have hf:=zDI q1
 obtain ⟨fin,hfin⟩:∃ fin:Nat,l.finish=fin:=⟨l.finish.toNat,by have:=hf.finish;omega⟩
 have hfb:=hf.finish
 have e:zFG l x.r=zFe (zCG (krd l x.r) fin):=by unfold zFG;rw [if_pos h0,hfin,Int.toNat_natCast]
 rw [e]
 rw [h0] at hOp
 rw [hfin] at hOp hfb ⊢
 (refine zK (n:=53) Tryz.func51 rfl rfl rfl ?_)
 (repeat' (first|((with_reducible refine zG ?_);first|refine zC rfl rfl rfl ?_|(refine zJ rfl rfl rfl ?_;refine ⟨_,rfl,?_⟩)|(refine zb rfl rfl (fun b=>?_))|(refine zp rfl rfl rfl rfl (fun b=>?_))|(refine zi rfl rfl rfl ?_;refine ⟨rfl,_,rfl,fun b=>?_⟩)|refine zB2 rfl rfl rfl rfl ?_)|(with_reducible first|refine zI ?_|refine zB ?_|refine zE ?_|refine zA ?_)))
 rename_i b3 b4 b5 b6
 (repeat' (first|((with_reducible refine zG ?_);first|refine zD rfl rfl rfl ?_|refine zC rfl rfl rfl ?_|(refine zJ rfl rfl rfl ?_;refine ⟨_,rfl,?_⟩)|(refine zS rfl rfl rfl rfl rfl (fun h=>?_) (fun h=>?_)<;>(dsimp only [cmpP] at h;(try (exfalso;omega))))|(refine zBL rfl rfl rfl rfl (fun _ _ q=>hOp _ q.below b3 b5 _ _ (zA7 q.own (Below.refl _ _) rfl) (zA7 q.own (Below.refl _ _) rfl) (zAF (enc:=zHW) (by exact rfl) _ q.below q.own)) ?_;rintro (_|d) hp;(exact absurd rfl hp);dsimp only [Option.map,List.cons_append,List.nil_append])|refine zk rfl rfl rfl rfl ?_|(refine zX rfl rfl rfl rfl rfl ?_;refine ⟨rfl,by first|decide|exact Nat.le_of_ble_eq_true rfl|(simp;omega),_,rfl,?_⟩)|(refine zb rfl rfl (fun b=>?_))|(refine zAZ rfl rfl rfl ?_;refine ⟨_,rfl,?_⟩))|(with_reducible first|refine zI ?_|refine zB ?_|refine zE ?_|refine zA ?_|refine zR ?_)|((with_reducible refine zF ?_ ?_);(· exact rfl))))
 rename_i b18
 obtain ⟨⟨l1,x1,LA,lc1,gt⟩,g,gf,gb,T,F,B⟩:=d
 obtain ⟨-,rfl,rfl,hz,hT,hF,hB⟩:=hp
 simp only at hF hB hT
 unfold WH
 simp only [List.cons_append,List.nil_append]
 (repeat' (first|((with_reducible refine zG ?_);first|(refine zJ rfl rfl rfl ?_;refine ⟨_,rfl,?_⟩))))
 obtain ⟨b11,hb11⟩:∃ y,y=b:=⟨_,rfl⟩
 subst hb11
 simp only at hs hb q1 q3 hf hfb
 obtain ⟨hin,hsg,hm1,hm6⟩:=hz.in_
 simp only at hin hsg hm1 hm6
 refine zLb (by (repeat constructor)) (by rw [zCR];omega) (fun bl ol hLA=>?_)
 subst hLA
 obtain ⟨⟨mt,ft⟩,hTn⟩:∃ p,T[fin]?=some p:=⟨_,List.getElem?_eq_getElem (by have:=hT.1;simp only at this;omega)⟩
 obtain ⟨⟨mF,fF⟩,hFn⟩:∃ p,F[fin]?=some p:=⟨_,List.getElem?_eq_getElem (by have:=hF.1;omega)⟩
 obtain ⟨⟨mB,fB⟩,hBn⟩:∃ p,B[fin+1]?=some p:=⟨_,List.getElem?_eq_getElem (by have:=hB.1;omega)⟩
 have hTM:=hT.2 fin _ hTn
 have hFM:=hF.2 fin _ hFn
 have hBM:=hB.2 (fin+1) _ hBn
 simp only [Wa.k] at hTM hFM hBM
 refine zDQ fin hTn (by (repeat constructor)) ?_
 refine zCt (kv:=vI) (vv:=vSp) (by (repeat constructor)) (fun ml c1 hml hle=>?_)
 subst hle
 refine zDQ fin hFn (by (repeat constructor)) ?_
 refine zCt (kv:=vTl) (vv:=vI) (by (repeat constructor)) (fun lF cF hlF hle=>?_)
 subst hle
 refine zDQ (fin+1) hBn (by (repeat constructor)) ?_
 refine zCt (kv:=vTl) (vv:=vI) (by (repeat constructor)) (fun lB cB hlB hle=>?_)
 subst hle
 have hTA:(T.map fun p=>some p.1)[fin]?=some (some mt):=by rw [List.getElem?_map,hTn];rfl
 have hFA:(F.map fun p=>some p.1)[fin]?=some (some mF):=by rw [List.getElem?_map,hFn];rfl
 have hBA:(B.map fun p=>some p.1)[fin+1]?=some (some mB):=by rw [List.getElem?_map,hBn];rfl
 have hsl:=zIo (k:=krd l1 x1.r) (fun b hb'=>by have:=zCo hf hb';show 0≤zAY l1 b;omega) (by show x1.r.start≤x1.r.now;omega) (b:=fin) (by show fin<l1.bms.length;omega) hFM hBM
 (repeat' (first|((with_reducible refine zG ?_);first|(refine zBL rfl rfl rfl rfl (fun _ _ q=>zKX g fin _) ?_;rintro ⟨o1,o2⟩ -;dsimp only [List.cons_append,List.nil_append]))|(with_reducible first|refine zE ?_|refine zA ?_|refine zQ ?_)))
 refine zKF ?_
 refine U.sub (R':=[(30,.func (.func 94) #[] #[.pointer (some ⟨o1,0,none⟩),.pointer (some ⟨o2,0,none⟩)]),(6,.pointer (some ⟨b6,0,none⟩)),(10,.pointer (some ⟨b18,0,none⟩)),(11,.pointer (some ⟨b11,0,none⟩))]) (by (repeat first|exact lK1|refine zT rfl ?_)) (Out.all _) ?_
 refine zFX (ι:=Option (Int × Int)) (α:=Opn) (gf:=94) (lb:=[.pointer (some ⟨o1,0,none⟩),.pointer (some ⟨o2,0,none⟩)]) (bs:=[]) (fun _=>zEX l1 x1 bl ol lc1 gt gf gb g o1 o2 fin (T.map fun p=>some p.1) (F.map fun p=>some p.1) (B.map fun p=>some p.1) mt ml c1 mF lF cF mB lB cB) zEZ (fun _ o=>zDv (krd l1 x1.r) (look lF) (look lB) fin o.sig o.lo o.hi) (fun ys=>∀ sg lo hi,zDv (krd l1 x1.r) (look lF) (look lB) fin sg lo hi→(⟨sg,lo,hi⟩:Opn)∈ys) (fun zs st=>zBn (fun lo hi=>∃ sg,(⟨sg,lo,hi⟩:Opn)∈zs) st∧(∀ p,st=some p→p.1≤p.2)∧∀ y∈zs,zDv (krd l1 x1.r) (look lF) (look lB) fin y.sig y.lo y.hi) (fun st=>[.blk b11 (zAr (spN st)),.blk b18 [.int .i64 1,.int .i64 0],.blk b6 [.int .i64 0,.int .i64 0]]) none rfl (by unfold zEX zy;simp only [List.cons_append,List.nil_append];(repeat constructor)) ⟨(fun a b h=>by obtain ⟨_,h⟩:=h;cases h),(fun p h=>by cases h),(fun y h=>by cases h)⟩ (fun _=>rfl) (by decide) (zKW l1 x1 bl ol lc1 gt gf gb g o1 o2 fin _ _ _ mt ml c1 mF lF cF mB lB cB _ hz (by omega) (by rw [List.length_map];exact hT.1) hTA hml hTM hFA hlF hFM hBA hlB hBM) ?_ ?_
 rotate_left
 ·rintro bd zs st hE ⟨hsp,hle,hPX⟩
  simp only [zEX,zy,List.cons_append,List.nil_append]
  obtain rfl:st=zCG (krd l1 x1.r) fin:=zBn.uniq (hsp.congr fun lo hi=>⟨fun ⟨sg,h⟩=>⟨sg,hPX _ h⟩,fun ⟨sg,h⟩=>⟨sg,hE _ _ _ h⟩⟩) hsl
  cases hst:zCG (krd l1 x1.r) fin with
  | none =>
   simp only [zAr,spN]
   (repeat' (first|((with_reducible refine zG ?_);first|refine zC rfl rfl rfl ?_|(refine zJ rfl rfl rfl ?_;refine ⟨_,rfl,?_⟩)|(refine u_eqsp rfl rfl rfl rfl (fun h=>?_) (fun h=>?_)<;>(try (exfalso;omega)))|(refine zX rfl rfl rfl rfl rfl ?_;refine ⟨rfl,by first|decide|exact Nat.le_of_ble_eq_true rfl|(simp;omega),_,rfl,?_⟩)|(refine zAZ rfl rfl rfl ?_;refine ⟨_,rfl,?_⟩))|(with_reducible first|refine zI ?_|refine zB ?_|refine zE ?_|refine zA ?_|refine zV ?_|refine zU ?_|refine zj ?_)|((with_reducible refine zH ?_ ?_);(· exact rfl))))
   exact zK9 (by (repeat constructor)) (by (exact zh.cons (by exact res1c rfl (by exact rfl)) (zh.cons (by exact zAO.tmp rfl) zh.nil))) () trivial rfl (fun _ h=>h.sub (by (repeat constructor)))
  | some p =>
   obtain ⟨p1,p2⟩:=p
   have h12:=hle _ hst
   simp only at h12
   simp only [zAr,spN]
   (repeat' (first|((with_reducible refine zG ?_);first|refine zC rfl rfl rfl ?_|(refine zJ rfl rfl rfl ?_;refine ⟨_,rfl,?_⟩)|(refine u_eqsp rfl rfl rfl rfl (fun h=>?_) (fun h=>?_)<;>(try (exfalso;omega)))|(refine zX rfl rfl rfl rfl rfl ?_;refine ⟨rfl,by first|decide|exact Nat.le_of_ble_eq_true rfl|(simp;omega),_,rfl,?_⟩))|(with_reducible first|refine zI ?_|refine zB ?_|refine zE ?_|refine zA ?_|refine zV ?_|refine zR ?_|refine zj ?_)|((with_reducible refine zF ?_ ?_);(· exact rfl))))
   exact zK9 (by (repeat constructor)) (by (exact zh.cons (by exact res1c rfl (by exact rfl)) (zh.cons (by exact zAO.tmp rfl) zh.nil))) () trivial rfl (fun _ h=>h.sub (by (repeat constructor)))
 rintro ly zs o st ⟨r1,r2,rfn,rtm,rps,ras,rbo,rde⟩ W HH hN ⟨hsp,hle,hPX⟩ hr hrp hW
 simp only at hr hrp hN
 subst hr hrp
 obtain ⟨sg,lo,hi⟩:=o
 simp only at hN
 have hlh:lo≤hi:=by obtain ⟨_,_,_,_,_,_,_,_,_,_,_,h,_⟩:=hN;exact h
 have hsp2:zBn (fun c d=>∃ s,(⟨s,c,d⟩:Opn)∈zs++[⟨sg,lo,hi⟩]) (addS st lo hi):=(hsp.add lo hi).congr fun c d=>by
  constructor
  ·rintro (⟨s,h⟩ | ⟨rfl,rfl⟩)
   ·exact ⟨s,List.mem_append_left _ h⟩
   ·exact ⟨sg,List.mem_append_right _ (List.mem_singleton.2 rfl)⟩
  ·rintro ⟨s,h⟩
   rcases List.mem_append.1 h with h|h
   ·exact .inl ⟨s,h⟩
   ·cases List.mem_singleton.1 h;exact .inr ⟨rfl,rfl⟩
 have hP2:∀ y∈zs++[⟨sg,lo,hi⟩],zDv (krd l1 x1.r) (look lF) (look lB) fin y.sig y.lo y.hi:=fun y hy=>by
  rcases List.mem_append.1 hy with h|h
  ·exact hPX y h
  ·rw [List.mem_singleton.1 h];exact hN
 simp only [zEZ,zHF,zEX,zy,vSp,List.cons_append,List.nil_append]
 cases st with
 | none =>
  simp only [zAr,spN]
  (repeat' (first|((with_reducible refine zG ?_);first|(refine zX rfl rfl rfl rfl rfl ?_;refine ⟨rfl,by first|decide|exact Nat.le_of_ble_eq_true rfl|(simp;omega),_,rfl,?_⟩)|(refine zb rfl rfl (fun b=>?_)))|(with_reducible first|refine zB ?_|refine zE ?_)))
  refine zFa (by (repeat constructor)) rfl ?_
  (repeat' (first|((with_reducible refine zG ?_);first|(refine zJ rfl rfl rfl ?_;refine ⟨_,rfl,?_⟩)|(refine u_nesp rfl rfl rfl rfl (fun h=>?_) (fun h=>?_)<;>(try (exfalso;omega)))|(refine zX rfl rfl rfl rfl rfl ?_;refine ⟨rfl,by first|decide|exact Nat.le_of_ble_eq_true rfl|(simp;omega),_,rfl,?_⟩))|(with_reducible first|refine zI ?_|refine zB ?_|refine zE ?_|refine zA ?_|refine zR ?_|refine zQ ?_|refine zj ?_)|((with_reducible refine zF ?_ ?_);(· exact rfl))))
  exact zCM none (.inl ⟨rfl,rfl⟩) rfl (by (repeat constructor)) (some (lo,hi)) ⟨hsp2,(fun p h=>by cases h;exact hlh),hP2⟩ hW (fun _ h=>h.sub (by (repeat constructor)))
 | some p =>
  obtain ⟨p1,p2⟩:=p
  have h12:=hle _ rfl
  simp only at h12
  simp only [zAr,spN]
  (repeat' (first|((with_reducible refine zG ?_);first|(refine zX rfl rfl rfl rfl rfl ?_;refine ⟨rfl,by first|decide|exact Nat.le_of_ble_eq_true rfl|(simp;omega),_,rfl,?_⟩)|(refine zb rfl rfl (fun b=>?_)))|(with_reducible first|refine zB ?_|refine zE ?_)))
  refine zFa (by (repeat constructor)) rfl ?_
  (repeat' (first|((with_reducible refine zG ?_);first|(refine zJ rfl rfl rfl ?_;refine ⟨_,rfl,?_⟩)|refine zL rfl rfl rfl ?_|(refine u_nesp rfl rfl rfl rfl (fun h=>?_) (fun h=>?_)<;>(try (exfalso;omega)))|(refine zX rfl rfl rfl rfl rfl ?_;refine ⟨rfl,by first|decide|exact Nat.le_of_ble_eq_true rfl|(simp;omega),_,rfl,?_⟩)|(refine zAZ rfl rfl rfl ?_;refine ⟨_,rfl,?_⟩)|refine zCF rfl rfl rfl rfl ?_|refine zGJ rfl rfl rfl rfl ?_)|(with_reducible first|refine zI ?_|refine zB ?_|refine zE ?_|refine zA ?_|refine zQ ?_|refine zj ?_)|((with_reducible refine zH ?_ ?_);(· exact rfl))))
  exact zCM none (.inl ⟨rfl,rfl⟩) rfl (by (repeat constructor)) (some (min lo p1,max hi p2)) ⟨hsp2,(fun p h=>by cases h;simp only;omega),hP2⟩ hW (fun _ h=>h.sub (by (repeat constructor)))
set_option maxHeartbeats 2000000 in
theorem zHf (l:LnM) (x:RdM) (w:World) (h:zCY w l) (hs:zBA l) (hS:zAC zAw 2 w x.A x.r.sigs) (hn:x.r.sigs.length≤1000):Gv Tryz.prog 35 [vLn l,vRd x] w (.tuple #[vSp (zDR l x.r).1,.int .i64 (zDR l x.r).2]):=by
 have hP:=fun W (hW:Below w.heap.size w W)=>zJ2 l x W (h.below hW) hs (hS.below hW) hn
 unfold Gv
 unfold vLn vRd vSp at *
 by_cases h0:zAt l x.r=0
 rotate_left
 ·have e:zDR l x.r=(⟨0,0⟩,zAt l x.r):=by unfold zDR;rw [if_neg h0]
  have e2:zFG l x.r=(⟨0,0⟩,zAt l x.r):=by unfold zFG;rw [if_neg h0]
  rw [e]
  rw [e2] at hP
  generalize zAt l x.r=er at *
  (refine zK (n:=31) Tryz.func35 rfl rfl rfl ?_)
  (repeat' (first|((with_reducible refine zG ?_);first|refine zD rfl rfl rfl ?_|refine zC rfl rfl rfl ?_|(refine zJ rfl rfl rfl ?_;refine ⟨_,rfl,?_⟩)|refine zL rfl rfl rfl ?_|(refine zS rfl rfl rfl rfl rfl (fun h=>?_) (fun h=>?_)<;>(dsimp only [cmpP] at h;(try (exfalso;omega))))|refine zO rfl rfl rfl rfl (fun _ _ q=>hP _ q.below) ?_|refine zk rfl rfl rfl rfl ?_|(refine zX rfl rfl rfl rfl rfl ?_;refine ⟨rfl,by first|decide|exact Nat.le_of_ble_eq_true rfl|(simp;omega),_,rfl,?_⟩)|(refine zb rfl rfl (fun b=>?_))|(refine zp rfl rfl rfl rfl (fun b=>?_))|(refine zAZ rfl rfl rfl ?_;refine ⟨_,rfl,?_⟩))|(with_reducible first|refine zI ?_|refine zB ?_|refine zE ?_|refine zA ?_|refine zV ?_|refine zU ?_)|((with_reducible refine zH ?_ ?_);(· exact rfl))))
  exact zP (by (exact zh.cons (by exact res1c rfl (by exact rfl)) (zh.cons (by exact zAO.tmp rfl) zh.nil))) () trivial rfl (fun _ h=>h.sub (by (repeat constructor)))
 obtain ⟨q1,q2,q3⟩:=zGD.1 h0
 have hf:=zDI q1
 obtain ⟨⟨r1,r2,r3⟩,r4⟩:=zBM.1 q2
 rw [zAA] at r1 r2
 have e:zDR l x.r=ranV (zCG (krd l x.r) l.finish.toNat) x.r.start:=by unfold zDR;rw [if_pos h0]
 have e2:zFG l x.r=zFe (zCG (krd l x.r) l.finish.toNat):=by unfold zFG;rw [if_pos h0]
 have hbd:∀ p,zCG (krd l x.r) l.finish.toNat=some p→-100000000000≤p.1∧p.1≤100000000000∧-100000000000≤p.2∧p.2≤100000000000:=fun p hp=>zLA hf (by omega) (by omega) (by omega) hp
 rw [e]
 rw [e2] at hP
 cases hsp:zCG (krd l x.r) l.finish.toNat with
 | none =>
  rw [hsp] at hP
  simp only [zFe] at hP
  (refine zK (n:=31) Tryz.func35 rfl rfl rfl ?_)
  (repeat' (first|((with_reducible refine zG ?_);first|refine zD rfl rfl rfl ?_|refine zC rfl rfl rfl ?_|(refine zJ rfl rfl rfl ?_;refine ⟨_,rfl,?_⟩)|refine zL rfl rfl rfl ?_|(refine zS rfl rfl rfl rfl rfl (fun h=>?_) (fun h=>?_)<;>(dsimp only [cmpP] at h;(try (exfalso;omega))))|refine zO rfl rfl rfl rfl (fun _ _ q=>hP _ q.below) ?_|refine zk rfl rfl rfl rfl ?_|(refine zX rfl rfl rfl rfl rfl ?_;refine ⟨rfl,by first|decide|exact Nat.le_of_ble_eq_true rfl|(simp;omega),_,rfl,?_⟩)|(refine zb rfl rfl (fun b=>?_))|(refine zp rfl rfl rfl rfl (fun b=>?_))|(refine zAZ rfl rfl rfl ?_;refine ⟨_,rfl,?_⟩))|(with_reducible first|refine zI ?_|refine zB ?_|refine zE ?_|refine zA ?_|refine zV ?_|refine zU ?_)|((with_reducible refine zH ?_ ?_);(· exact rfl))))
  exact zP (by (exact zh.cons (by exact res1c rfl (by exact rfl)) (zh.cons (by exact zAO.tmp rfl) zh.nil))) () trivial rfl (fun _ h=>h.sub (by (repeat constructor)))
 | some p =>
  have hb9:=hbd p hsp
  rw [hsp] at hP
  obtain ⟨p1,p2⟩:=p
  simp only [zFe] at hP hb9
  (refine zK (n:=31) Tryz.func35 rfl rfl rfl ?_)
  (repeat' (first|((with_reducible refine zG ?_);first|refine zD rfl rfl rfl ?_|refine zC rfl rfl rfl ?_|(refine zJ rfl rfl rfl ?_;refine ⟨_,rfl,?_⟩)|refine zL rfl rfl rfl ?_|(refine zS rfl rfl rfl rfl rfl (fun h=>?_) (fun h=>?_)<;>(dsimp only [cmpP] at h;(try (exfalso;omega))))|refine zO rfl rfl rfl rfl (fun _ _ q=>hP _ q.below) ?_|refine zk rfl rfl rfl rfl ?_|refine zAc rfl rfl rfl rfl (IntWalk.i64_in _ (by omega)) ?_|(refine zX rfl rfl rfl rfl rfl ?_;refine ⟨rfl,by first|decide|exact Nat.le_of_ble_eq_true rfl|(simp;omega),_,rfl,?_⟩)|(refine zb rfl rfl (fun b=>?_))|(refine zp rfl rfl rfl rfl (fun b=>?_))|(refine zAZ rfl rfl rfl ?_;refine ⟨_,rfl,?_⟩))|(with_reducible first|refine zI ?_|refine zB ?_|refine zE ?_|refine zA ?_|refine zV ?_|refine zR ?_)|((with_reducible refine zF ?_ ?_);(· exact rfl))))
  exact zP (by (exact zh.cons (by exact res1c rfl (by exact rfl)) (zh.cons (by exact zAO.tmp rfl) zh.nil))) () trivial rfl (fun _ h=>h.sub (by (repeat constructor)))
end Go.Proofs.YtfiekidciiighaaGreat.Two
namespace Go.Proofs.YtfiekidciiighaaGreat.Two
variable {ro : Option Nat}
open Go.RowKit
set_option maxRecDepth 20000
def gr5B (l:LnM):Bool:=decide (20<l.t.length) || decide (8<l.cks.length) || decide (10<l.bms.length) || l.cks.any fun x=>decide (10<x.c.syncs.length)
theorem zL1 {l:LnM} (hf:zEx l.t) (h:gr5B l=false):zBA l:=by
 unfold gr5B at h
 simp only [Bool.or_eq_false_iff,decide_eq_false_iff_not,List.any_eq_false,decide_eq_true_eq] at h
 obtain ⟨⟨⟨h1,h2⟩,h3⟩,h4⟩:=h
 exact ⟨hf,by omega,by omega,fun x hx=>by have:=h4 x hx;omega,by omega⟩
set_option maxHeartbeats 2000000 in
theorem zJV (l:LnM) (w:World) (h:zCY w l):Gv Tryz.prog 12 [vLn l] w (.bool (gr5B l)):=by
 obtain ⟨t,TA,tc,fast,cks,CA,cc,bms,BA,bc,fin,fk,ms⟩:=l
 obtain ⟨h1,h2,h3,h4,h5⟩:=h
 simp only at h1 h2 h3 h4 h5
 have hg:=fun W=>(zLz TA t.length tc W).gv
 unfold vT at hg
 unfold Gv vLn gr5B
 simp only
 by_cases a1:20<t.length
 ·have e1:decide (20<t.length)=true:=by simp [a1]
  rw [e1] at hg
  simp only [e1,Bool.true_or]
  (refine zK (n:=34) Tryz.func12 rfl rfl rfl ?_)
  (repeat' (first|((with_reducible refine zG ?_);first|refine zD rfl rfl rfl ?_|refine zC rfl rfl rfl ?_|(refine zJ rfl rfl rfl ?_;refine ⟨_,rfl,?_⟩)|refine zL rfl rfl rfl ?_|refine z7 rfl rfl rfl rfl ?_|refine zf rfl rfl rfl ?_|refine zO rfl rfl rfl rfl (fun _ _ q=>hg _) ?_|(refine zp rfl rfl rfl rfl (fun b=>?_)))|(with_reducible first|refine zI ?_|refine zB ?_|refine zE ?_|refine zA ?_|refine zV ?_|refine zU ?_)|((with_reducible refine zH ?_ ?_);(· exact rfl))))
  exact zP (by exact rTm rfl) () trivial rfl (fun _ h=>h.sub (by (repeat constructor)))
 have e1:decide (20<t.length)=false:=by simp [a1]
 rw [e1] at hg
 simp only [e1,Bool.false_or]
 by_cases a2:8<cks.length
 ·have e2:decide (8<cks.length)=true:=by simp [a2]
  simp only [e2,Bool.true_or]
  (refine zK (n:=34) Tryz.func12 rfl rfl rfl ?_)
  (repeat' (first|((with_reducible refine zG ?_);first|refine zD rfl rfl rfl ?_|refine zC rfl rfl rfl ?_|(refine zJ rfl rfl rfl ?_;refine ⟨_,rfl,?_⟩)|refine zL rfl rfl rfl ?_|refine z7 rfl rfl rfl rfl ?_|refine zf rfl rfl rfl ?_|(refine zS rfl rfl rfl rfl rfl (fun h=>?_) (fun h=>?_)<;>(dsimp only [cmpP] at h;(try (exfalso;omega))))|refine zO rfl rfl rfl rfl (fun _ _ q=>hg _) ?_|refine zn rfl rfl rfl ?_|(refine zp rfl rfl rfl rfl (fun b=>?_)))|(with_reducible first|refine zI ?_|refine zB ?_|refine zE ?_|refine zA ?_|refine zV ?_|refine zU ?_)|((with_reducible refine zH ?_ ?_);(· exact rfl))))
  exact zP (by exact rTm rfl) () trivial rfl (fun _ h=>h.sub (by (repeat constructor)))
 have e2:decide (8<cks.length)=false:=by simp [a2]
 simp only [e2,Bool.false_or]
 by_cases a3:10<bms.length
 ·have e3:decide (10<bms.length)=true:=by simp [a3]
  simp only [e3,Bool.true_or]
  (refine zK (n:=34) Tryz.func12 rfl rfl rfl ?_)
  (repeat' (first|((with_reducible refine zG ?_);first|refine zD rfl rfl rfl ?_|refine zC rfl rfl rfl ?_|(refine zJ rfl rfl rfl ?_;refine ⟨_,rfl,?_⟩)|refine zL rfl rfl rfl ?_|refine z7 rfl rfl rfl rfl ?_|(refine zS rfl rfl rfl rfl rfl (fun h=>?_) (fun h=>?_)<;>(dsimp only [cmpP] at h;(try (exfalso;omega))))|refine zO rfl rfl rfl rfl (fun _ _ q=>hg _) ?_|refine zn rfl rfl rfl ?_|(refine zp rfl rfl rfl rfl (fun b=>?_)))|(with_reducible first|refine zI ?_|refine zB ?_|refine zE ?_|refine zA ?_|refine zV ?_|refine zU ?_)|((with_reducible refine zH ?_ ?_);(· exact rfl))))
  exact zP (by exact rTm rfl) () trivial rfl (fun _ h=>h.sub (by (repeat constructor)))
 have e3:decide (10<bms.length)=false:=by simp [a3]
 simp only [e3,Bool.false_or]
 (refine zK (n:=34) Tryz.func12 rfl rfl rfl ?_)
 (repeat' (first|((with_reducible refine zG ?_);first|refine zD rfl rfl rfl ?_|refine zC rfl rfl rfl ?_|(refine zJ rfl rfl rfl ?_;refine ⟨_,rfl,?_⟩)|refine zL rfl rfl rfl ?_|refine z7 rfl rfl rfl rfl ?_|(refine zS rfl rfl rfl rfl rfl (fun h=>?_) (fun h=>?_)<;>(dsimp only [cmpP] at h;(try (exfalso;omega))))|refine zO rfl rfl rfl rfl (fun _ _ q=>hg _) ?_|refine zn rfl rfl rfl ?_|(refine zp rfl rfl rfl rfl (fun b=>?_)))|(with_reducible first|refine zI ?_|refine zB ?_|refine zE ?_|refine zA ?_|refine zR ?_|refine zQ ?_)|((with_reducible refine zF ?_ ?_);(· exact rfl))))
 refine zAB (ι:=Nat) [1] rfl (fun i=>i≤cks.length∧∀ j x,j<i→cks[j]?=some x→x.c.syncs.length≤10) (fun i=>[(3,.int .i64 (i:Int))]) (fun _=>[.blk b (zAH ⟨t,TA,tc,fast,cks,CA,cc,bms,BA,bc,fin,fk,ms⟩)]) (fun i=>cks.length - i) 0 ⟨Nat.zero_le _,fun j x hj=>absurd hj (Nat.not_lt_zero _)⟩ (by (repeat first|exact lK1|refine zT rfl ?_)) (by unfold zAH;(repeat constructor)) ?_
 rintro i ⟨hi,hall⟩
 simp only [zAk,zAH,List.cons_append,List.nil_append]
 by_cases hlt:i<cks.length
 ·obtain ⟨x,hx⟩:∃ x,cks[i]?=some x:=⟨_,List.getElem?_eq_getElem hlt⟩
  have:zAT cks i x:=⟨hx⟩
  obtain ⟨bA,oA,hAe,hAl,hAc⟩:=h2.at_ hlt
  subst hAe
  have:InS w bA oA zB8 2 cks:=⟨h2⟩
  have hxm:=List.mem_of_getElem? hx
  obtain ⟨⟨dr,sy⟩,A,cap⟩:=x
  by_cases hs:10<sy.length
  ·have e4:(cks.any fun x=>decide (10<x.c.syncs.length))=true:=List.any_eq_true.2 ⟨_,hxm,by simpa using hs⟩
   rw [e4]
   (repeat' (first|((with_reducible refine zG ?_);first|refine zD rfl rfl rfl ?_|refine zC rfl rfl rfl ?_|(refine zJ rfl rfl rfl ?_;refine ⟨_,rfl,?_⟩)|refine zL rfl rfl rfl ?_|(refine zS rfl rfl rfl rfl rfl (fun h=>?_) (fun h=>?_)<;>(dsimp only [cmpP] at h;(try (exfalso;omega))))|refine zo (I:=i) rfl rfl rfl rfl rfl (by omega) ?_|refine zn rfl rfl rfl ?_)|(with_reducible first|refine zI ?_|refine zB ?_|refine zE ?_|refine zA ?_|refine zV ?_|refine zR ?_|refine zU ?_|refine zQ ?_|refine zAV ?_)|((with_reducible refine zH ?_ ?_);(· exact rfl))))
   exact zP (by exact rTm rfl) () trivial rfl (fun _ h=>h.sub (by (repeat constructor)))
  ·(repeat' (first|((with_reducible refine zG ?_);first|refine zD rfl rfl rfl ?_|refine zC rfl rfl rfl ?_|(refine zJ rfl rfl rfl ?_;refine ⟨_,rfl,?_⟩)|refine zL rfl rfl rfl ?_|(refine zS rfl rfl rfl rfl rfl (fun h=>?_) (fun h=>?_)<;>(dsimp only [cmpP] at h;(try (exfalso;omega))))|refine zo (I:=i) rfl rfl rfl rfl rfl (by omega) ?_|refine zu rfl rfl rfl rfl (by omega) ?_|refine zn rfl rfl rfl ?_)|(with_reducible first|refine zI ?_|refine zB ?_|refine zE ?_|refine zA ?_|refine zR ?_|refine zQ ?_|refine zj ?_)|((with_reducible refine zH ?_ ?_);(· exact rfl))|((with_reducible refine zF ?_ ?_);(· exact rfl))))
   refine zd (ι:=Nat) (i+1) ⟨by omega,fun j y hj hy=>?_⟩ (by omega) (by (repeat first|exact lK1|refine zT rfl ?_)) (by (repeat constructor))
   rcases Nat.lt_succ_iff_lt_or_eq.1 hj with h9|rfl
   ·exact hall j y h9 hy
   ·rw [hx] at hy;cases hy;simp only;omega
 ·have e4:(cks.any fun x=>decide (10<x.c.syncs.length))=false:=List.any_eq_false.2 fun x hx=>by
   obtain ⟨j,hj⟩:=List.getElem?_of_mem hx
   have:=hall j x (by have:=(List.getElem?_eq_some_iff.1 hj).1;omega) hj
   simp;omega
  rw [e4]
  (repeat' (first|((with_reducible refine zG ?_);first|refine zD rfl rfl rfl ?_|refine zC rfl rfl rfl ?_|(refine zJ rfl rfl rfl ?_;refine ⟨_,rfl,?_⟩)|refine zL rfl rfl rfl ?_|(refine zS rfl rfl rfl rfl rfl (fun h=>?_) (fun h=>?_)<;>(dsimp only [cmpP] at h;(try (exfalso;omega))))|refine zn rfl rfl rfl ?_)|(with_reducible first|refine zI ?_|refine zB ?_|refine zE ?_|refine zA ?_|refine zV ?_|refine zz ?_|refine zZ ?_|refine ze ?_)|((with_reducible refine zF ?_ ?_);(· exact rfl))))
  exact zP (by exact rTm rfl) () trivial rfl (fun _ h=>h.sub (by (repeat constructor)))
def gr8B (t:TrM):Bool:=gr5B t.l || decide (10<t.nas.length) || decide (10<t.gns.length) || decide (10<t.ats.length) || t.ats.any fun x=>decide (5<x.rides.length) || x.rides.any fun y=>decide (15<y.r.sigs.length)
theorem zL0 {t:TrM} (hf:zEx t.l.t) (h:gr8B t=false):zBR t:=by
 unfold gr8B at h
 simp only [Bool.or_eq_false_iff,decide_eq_false_iff_not,List.any_eq_false,decide_eq_true_eq,Bool.not_eq_true] at h
 obtain ⟨⟨⟨⟨h0,h1⟩,h2⟩,h3⟩,h4⟩:=h
 exact ⟨zL1 hf h0,by omega,by omega,by omega,fun x hx=>by have:=(h4 x hx).1;omega,fun x hx y hy=>by have:=(h4 x hx).2 y hy;omega⟩
set_option maxHeartbeats 4000000 in
theorem zJU (t:TrM) (w:World) (h:zCj w t):Gv Tryz.prog 4 [vTn t] w (.bool (gr8B t)):=by
 obtain ⟨l,nas,NA,nc,gns,GA,gc,total,gap,down,every,seats,pace,ats,AA,ac,p1,p2,p3⟩:=t
 obtain ⟨h1,h2,h3,h4,h5,h6⟩:=h
 simp only at h1 h2 h3 h4 h5 h6
 have hg:=fun W (hW:Below w.heap.size w W)=>zJV l W (h1.below hW)
 unfold vLn at hg
 unfold Gv vTn zg gr8B
 simp only
 generalize gr5B l=g5 at *
 cases g5 with
 | true =>
  simp only [Bool.true_or]
  (refine zK (n:=64) Tryz.func4 rfl rfl rfl ?_)
  (repeat' (first|((with_reducible refine zG ?_);first|refine zD rfl rfl rfl ?_|refine zC rfl rfl rfl ?_|(refine zJ rfl rfl rfl ?_;refine ⟨_,rfl,?_⟩)|refine zL rfl rfl rfl ?_|refine z7 rfl rfl rfl rfl ?_|refine zf rfl rfl rfl ?_|refine zO rfl rfl rfl rfl (fun _ _ q=>hg _ q.below) ?_|(refine zp rfl rfl rfl rfl (fun b=>?_)))|(with_reducible first|refine zI ?_|refine zB ?_|refine zE ?_|refine zA ?_|refine zV ?_|refine zU ?_)|((with_reducible refine zH ?_ ?_);(· exact rfl))))
  exact zP (by exact rTm rfl) () trivial rfl (fun _ h=>h.sub (by (repeat constructor)))
 | false =>
 simp only [Bool.false_or]
 by_cases a1:10<nas.length
 ·have e1:decide (10<nas.length)=true:=by simp [a1]
  simp only [e1,Bool.true_or]
  (refine zK (n:=64) Tryz.func4 rfl rfl rfl ?_)
  (repeat' (first|((with_reducible refine zG ?_);first|refine zD rfl rfl rfl ?_|refine zC rfl rfl rfl ?_|(refine zJ rfl rfl rfl ?_;refine ⟨_,rfl,?_⟩)|refine zL rfl rfl rfl ?_|refine z7 rfl rfl rfl rfl ?_|refine zf rfl rfl rfl ?_|(refine zS rfl rfl rfl rfl rfl (fun h=>?_) (fun h=>?_)<;>(dsimp only [cmpP] at h;(try (exfalso;omega))))|refine zO rfl rfl rfl rfl (fun _ _ q=>hg _ q.below) ?_|refine zn rfl rfl rfl ?_|(refine zp rfl rfl rfl rfl (fun b=>?_)))|(with_reducible first|refine zI ?_|refine zB ?_|refine zE ?_|refine zA ?_|refine zV ?_|refine zU ?_)|((with_reducible refine zH ?_ ?_);(· exact rfl))))
  exact zP (by exact rTm rfl) () trivial rfl (fun _ h=>h.sub (by (repeat constructor)))
 have e1:decide (10<nas.length)=false:=by simp [a1]
 simp only [e1,Bool.false_or]
 by_cases a2:10<gns.length
 ·have e2:decide (10<gns.length)=true:=by simp [a2]
  simp only [e2,Bool.true_or]
  (refine zK (n:=64) Tryz.func4 rfl rfl rfl ?_)
  (repeat' (first|((with_reducible refine zG ?_);first|refine zD rfl rfl rfl ?_|refine zC rfl rfl rfl ?_|(refine zJ rfl rfl rfl ?_;refine ⟨_,rfl,?_⟩)|refine zL rfl rfl rfl ?_|refine z7 rfl rfl rfl rfl ?_|refine zf rfl rfl rfl ?_|(refine zS rfl rfl rfl rfl rfl (fun h=>?_) (fun h=>?_)<;>(dsimp only [cmpP] at h;(try (exfalso;omega))))|refine zO rfl rfl rfl rfl (fun _ _ q=>hg _ q.below) ?_|refine zn rfl rfl rfl ?_|(refine zp rfl rfl rfl rfl (fun b=>?_)))|(with_reducible first|refine zI ?_|refine zB ?_|refine zE ?_|refine zA ?_|refine zV ?_|refine zU ?_)|((with_reducible refine zH ?_ ?_);(· exact rfl))))
  exact zP (by exact rTm rfl) () trivial rfl (fun _ h=>h.sub (by (repeat constructor)))
 have e2:decide (10<gns.length)=false:=by simp [a2]
 simp only [e2,Bool.false_or]
 by_cases a3:10<ats.length
 ·have e3:decide (10<ats.length)=true:=by simp [a3]
  simp only [e3,Bool.true_or]
  (refine zK (n:=64) Tryz.func4 rfl rfl rfl ?_)
  (repeat' (first|((with_reducible refine zG ?_);first|refine zD rfl rfl rfl ?_|refine zC rfl rfl rfl ?_|(refine zJ rfl rfl rfl ?_;refine ⟨_,rfl,?_⟩)|refine zL rfl rfl rfl ?_|refine z7 rfl rfl rfl rfl ?_|(refine zS rfl rfl rfl rfl rfl (fun h=>?_) (fun h=>?_)<;>(dsimp only [cmpP] at h;(try (exfalso;omega))))|refine zO rfl rfl rfl rfl (fun _ _ q=>hg _ q.below) ?_|refine zn rfl rfl rfl ?_|(refine zp rfl rfl rfl rfl (fun b=>?_)))|(with_reducible first|refine zI ?_|refine zB ?_|refine zE ?_|refine zA ?_|refine zV ?_|refine zU ?_)|((with_reducible refine zH ?_ ?_);(· exact rfl))))
  exact zP (by exact rTm rfl) () trivial rfl (fun _ h=>h.sub (by (repeat constructor)))
 have e3:decide (10<ats.length)=false:=by simp [a3]
 simp only [e3,Bool.false_or]
 obtain ⟨pB,hpB⟩:∃ f:AtM→Bool,f=fun x=>decide (5<x.rides.length) || x.rides.any fun y=>decide (15<y.r.sigs.length):=⟨_,rfl⟩
 rw [← hpB]
 (refine zK (n:=64) Tryz.func4 rfl rfl rfl ?_)
 (repeat' (first|((with_reducible refine zG ?_);first|refine zD rfl rfl rfl ?_|refine zC rfl rfl rfl ?_|(refine zJ rfl rfl rfl ?_;refine ⟨_,rfl,?_⟩)|refine zL rfl rfl rfl ?_|refine z7 rfl rfl rfl rfl ?_|(refine zS rfl rfl rfl rfl rfl (fun h=>?_) (fun h=>?_)<;>(dsimp only [cmpP] at h;(try (exfalso;omega))))|refine zO rfl rfl rfl rfl (fun _ _ q=>hg _ q.below) ?_|refine zn rfl rfl rfl ?_|(refine zp rfl rfl rfl rfl (fun b=>?_)))|(with_reducible first|refine zI ?_|refine zB ?_|refine zE ?_|refine zA ?_|refine zR ?_|refine zQ ?_)|((with_reducible refine zF ?_ ?_);(· exact rfl))))
 refine zAB (ι:=Nat) [1] rfl (fun i=>i≤ats.length∧∀ j x,j<i→ats[j]?=some x→pB x=false) (fun i=>[(3,.int .i64 (i:Int))]) (fun _=>[.blk b (zg ⟨l,nas,NA,nc,gns,GA,gc,total,gap,down,every,seats,pace,ats,AA,ac,p1,p2,p3⟩)]) (fun i=>ats.length - i) 0 ⟨Nat.zero_le _,fun j x hj=>absurd hj (Nat.not_lt_zero _)⟩ (by (repeat first|exact lK1|refine zT rfl ?_)) (by unfold zg;(repeat constructor)) ?_
 rintro i ⟨hi,hall⟩
 simp only [zAk,zg,List.cons_append,List.nil_append]
 by_cases hlt:i<ats.length
 rotate_left
 ·have e4:(ats.any pB)=false:=List.any_eq_false.2 fun x hx=>by
   obtain ⟨j,hj⟩:=List.getElem?_of_mem hx
   rw [hall j x (by have:=(List.getElem?_eq_some_iff.1 hj).1;omega) hj];simp
  rw [e4]
  (repeat' (first|((with_reducible refine zG ?_);first|refine zD rfl rfl rfl ?_|refine zC rfl rfl rfl ?_|(refine zJ rfl rfl rfl ?_;refine ⟨_,rfl,?_⟩)|refine zL rfl rfl rfl ?_|(refine zS rfl rfl rfl rfl rfl (fun h=>?_) (fun h=>?_)<;>(dsimp only [cmpP] at h;(try (exfalso;omega))))|refine zn rfl rfl rfl ?_)|(with_reducible first|refine zI ?_|refine zB ?_|refine zE ?_|refine zA ?_|refine zV ?_|refine zz ?_|refine zZ ?_|refine ze ?_)|((with_reducible refine zF ?_ ?_);(· exact rfl))))
  exact zP (by exact rTm rfl) () trivial rfl (fun _ h=>h.sub (by (repeat constructor)))
 obtain ⟨x,hx⟩:∃ x,ats[i]?=some x:=⟨_,List.getElem?_eq_getElem hlt⟩
 have:zAT ats i x:=⟨hx⟩
 obtain ⟨bA,oA,hAe,hAl,hAc⟩:=h4.at_ hlt
 subst hAe
 have:InS w bA oA zB1 4 ats:=⟨h4⟩
 have hxm:=List.mem_of_getElem? hx
 have h5x:=h5 x hxm
 obtain ⟨id,na,ag,RA,rides,rc⟩:=x
 simp only at h5x
 by_cases hs:5<rides.length
 ·have e4:(ats.any pB)=true:=List.any_eq_true.2 ⟨_,hxm,by rw [hpB];simp [hs]⟩
  rw [e4]
  (repeat' (first|((with_reducible refine zG ?_);first|refine zD rfl rfl rfl ?_|refine zC rfl rfl rfl ?_|(refine zJ rfl rfl rfl ?_;refine ⟨_,rfl,?_⟩)|refine zL rfl rfl rfl ?_|(refine zS rfl rfl rfl rfl rfl (fun h=>?_) (fun h=>?_)<;>(dsimp only [cmpP] at h;(try (exfalso;omega))))|refine zo (I:=i) rfl rfl rfl rfl rfl (by omega) ?_|refine zn rfl rfl rfl ?_)|(with_reducible first|refine zI ?_|refine zB ?_|refine zE ?_|refine zA ?_|refine zV ?_|refine zR ?_|refine zU ?_|refine zQ ?_|refine zAV ?_)|((with_reducible refine zH ?_ ?_);(· exact rfl))))
  exact zP (by exact rTm rfl) () trivial rfl (fun _ h=>h.sub (by (repeat constructor)))
 (repeat' (first|((with_reducible refine zG ?_);first|refine zD rfl rfl rfl ?_|refine zC rfl rfl rfl ?_|(refine zJ rfl rfl rfl ?_;refine ⟨_,rfl,?_⟩)|refine zL rfl rfl rfl ?_|(refine zS rfl rfl rfl rfl rfl (fun h=>?_) (fun h=>?_)<;>(dsimp only [cmpP] at h;(try (exfalso;omega))))|refine zo (I:=i) rfl rfl rfl rfl rfl (by omega) ?_|refine zn rfl rfl rfl ?_)|(with_reducible first|refine zI ?_|refine zB ?_|refine zE ?_|refine zA ?_|refine zR ?_|refine zQ ?_)|((with_reducible refine zH ?_ ?_);(· exact rfl))|((with_reducible refine zF ?_ ?_);(· exact rfl))))
 refine zAB (ι:=Nat) [1,3] rfl (fun k=>k≤rides.length∧∀ j y,j<k→rides[j]?=some y→y.r.sigs.length≤15) (fun k=>[(4,.int .i64 (k:Int))]) (fun _=>[.blk b (zg ⟨l,nas,NA,nc,gns,GA,gc,total,gap,down,every,seats,pace,ats,some ⟨bA,oA,none⟩,ac,p1,p2,p3⟩)]) (fun k=>rides.length - k) 0 ⟨Nat.zero_le _,fun j x hj=>absurd hj (Nat.not_lt_zero _)⟩ (by (repeat first|exact lK1|refine zT rfl ?_)) (by unfold zg;(repeat constructor)) ?_
 rintro k ⟨hk,hal⟩
 simp only [zAk,zg,List.cons_append,List.nil_append]
 by_cases hkl:k<rides.length
 ·obtain ⟨y,hy⟩:∃ y,rides[k]?=some y:=⟨_,List.getElem?_eq_getElem hkl⟩
  have:zAT rides k y:=⟨hy⟩
  obtain ⟨bR,oR,hRe,hRl,hRc⟩:=h5x.at_ hkl
  subst hRe
  have:InS w bR oR zAN 3 rides:=⟨h5x⟩
  have hym:=List.mem_of_getElem? hy
  obtain ⟨⟨sa,no,sg⟩,SA,sc⟩:=y
  by_cases hq:15<sg.length
  ·have e4:(ats.any pB)=true:=List.any_eq_true.2 ⟨_,hxm,by rw [hpB];exact Bool.or_eq_true _ _ ▸ .inr (List.any_eq_true.2 ⟨_,hym,by simpa using hq⟩)⟩
   rw [e4]
   (repeat' (first|((with_reducible refine zG ?_);first|refine zD rfl rfl rfl ?_|refine zC rfl rfl rfl ?_|(refine zJ rfl rfl rfl ?_;refine ⟨_,rfl,?_⟩)|refine zL rfl rfl rfl ?_|(refine zS rfl rfl rfl rfl rfl (fun h=>?_) (fun h=>?_)<;>(dsimp only [cmpP] at h;(try (exfalso;omega))))|refine zo (I:=i) rfl rfl rfl rfl rfl (by omega) ?_|refine zo (I:=k) rfl rfl rfl rfl rfl (by omega) ?_|refine zn rfl rfl rfl ?_)|(with_reducible first|refine zI ?_|refine zB ?_|refine zE ?_|refine zA ?_|refine zV ?_|refine zR ?_|refine zU ?_|refine zQ ?_|refine zAV ?_)|((with_reducible refine zH ?_ ?_);(· exact rfl))))
   exact zP (by exact rTm rfl) () trivial rfl (fun _ h=>h.sub (by (repeat constructor)))
  ·(repeat' (first|((with_reducible refine zG ?_);first|refine zD rfl rfl rfl ?_|refine zC rfl rfl rfl ?_|(refine zJ rfl rfl rfl ?_;refine ⟨_,rfl,?_⟩)|refine zL rfl rfl rfl ?_|(refine zS rfl rfl rfl rfl rfl (fun h=>?_) (fun h=>?_)<;>(dsimp only [cmpP] at h;(try (exfalso;omega))))|refine zo (I:=i) rfl rfl rfl rfl rfl (by omega) ?_|refine zo (I:=k) rfl rfl rfl rfl rfl (by omega) ?_|refine zu rfl rfl rfl rfl (by omega) ?_|refine zn rfl rfl rfl ?_)|(with_reducible first|refine zI ?_|refine zB ?_|refine zE ?_|refine zA ?_|refine zR ?_|refine zQ ?_|refine zj ?_)|((with_reducible refine zH ?_ ?_);(· exact rfl))|((with_reducible refine zF ?_ ?_);(· exact rfl))))
   refine zd (ι:=Nat) (k+1) ⟨by omega,fun j y hj hy'=>?_⟩ (by omega) (by (repeat first|exact lK1|refine zT rfl ?_)) (by (repeat constructor))
   rcases Nat.lt_succ_iff_lt_or_eq.1 hj with h9|rfl
   ·exact hal j y h9 hy'
   ·rw [hy] at hy';cases hy';simp only;omega
 ·(repeat' (first|((with_reducible refine zG ?_);first|refine zD rfl rfl rfl ?_|refine zC rfl rfl rfl ?_|(refine zJ rfl rfl rfl ?_;refine ⟨_,rfl,?_⟩)|refine zL rfl rfl rfl ?_|(refine zS rfl rfl rfl rfl rfl (fun h=>?_) (fun h=>?_)<;>(dsimp only [cmpP] at h;(try (exfalso;omega))))|refine zo (I:=i) rfl rfl rfl rfl rfl (by omega) ?_|refine zu rfl rfl rfl rfl (by omega) ?_|refine zn rfl rfl rfl ?_)|(with_reducible first|refine zI ?_|refine zB ?_|refine zE ?_|refine zA ?_|refine zz ?_|refine zj ?_|refine zZ ?_|refine ze ?_)|((with_reducible refine zF ?_ ?_);(· exact rfl))))
  refine zd (ι:=Nat) (i+1) ⟨by omega,fun j y hj hy=>?_⟩ (by omega) (by (repeat first|exact lK1|refine zT rfl ?_)) (by (repeat constructor))
  rcases Nat.lt_succ_iff_lt_or_eq.1 hj with h9|rfl
  ·exact hall j y h9 hy
  ·rw [hx] at hy;cases hy
   rw [hpB]
   simp only [Bool.or_eq_false_iff,decide_eq_false_iff_not,List.any_eq_false,decide_eq_true_eq]
   exact ⟨hs,fun y hy=>by
    obtain ⟨j,hj⟩:=List.getElem?_of_mem hy
    have:=hal j y (by have:=(List.getElem?_eq_some_iff.1 hj).1;omega) hj
    omega⟩
end Go.Proofs.YtfiekidciiighaaGreat.Two
namespace Go.Proofs.YtfiekidciiighaaGreat.Two
variable {ro : Option Nat}
open Go.RowKit
theorem zCv {α:Type} {f:α→Int} {l:List α} {lo hi:Int}:zCm lo hi (l.map f)=true↔∀ (i:Nat) x,l[i]?=some x→lo≤f x∧f x≤hi∧∀ y,0<i→l[i - 1]?=some y→f y<f x:=by
 rw [zD5]
 constructor
 ·intro h
  have h1:∀ (i:Nat) x,l[i]?=some x→zC0 lo (l.map f) i≤f x∧f x≤hi:=fun i x hx=>zAA.1 (h i (f x) (by rw [List.getElem?_map,hx];rfl))
  have h2:∀ (i:Nat) x,l[i]?=some x→lo≤f x:=by
   intro i
   induction i with
   | zero=>intro x hx;exact (h1 0 x hx).1
   | succ i ih =>
    intro x hx
    obtain ⟨y,hy⟩:∃ y,l[i]?=some y:=⟨_,List.getElem?_eq_getElem (by have:=(List.getElem?_eq_some_iff.1 hx).1;omega)⟩
    have h3:=(h1 (i+1) x hx).1
    rw [zCq (x:=f y) (by rw [List.getElem?_map,hy];rfl)] at h3
    have:=ih y hy;omega
  intro i x hx
  refine ⟨h2 i x hx,(h1 i x hx).2,fun y hi hy=>?_⟩
  obtain ⟨k,rfl⟩:∃ k,i=k+1:=⟨i - 1,by omega⟩
  have h3:=(h1 (k+1) x hx).1
  rw [zCq (x:=f y) (by rw [List.getElem?_map,show l[k]?=some y from hy];rfl)] at h3
  omega
 ·intro h i v hv
  rw [List.getElem?_map] at hv
  cases hx:l[i]? with
  | none=>rw [hx] at hv;cases hv
  | some x =>
   rw [hx] at hv;cases hv
   obtain ⟨h1,h2,h3⟩:=h i x hx
   rw [zAA]
   cases i with
   | zero=>exact ⟨h1,h2⟩
   | succ i =>
    obtain ⟨y,hy⟩:∃ y,l[i]?=some y:=⟨_,List.getElem?_eq_getElem (by have:=(List.getElem?_eq_some_iff.1 hx).1;omega)⟩
    have:=h3 y (by omega) hy
    rw [zCq (x:=f y) (by rw [List.getElem?_map,hy];rfl)]
    omega
theorem zI4 {α:Type} {p:α→Bool} {l:List α}:l.all p=true↔∀ (i:Nat) x,l[i]?=some x→p x=true:=by
 rw [List.all_eq_true]
 exact ⟨fun h i x hx=>h x (List.mem_of_getElem? hx),fun h x hx=>by obtain ⟨i,hi⟩:=List.getElem?_of_mem hx;exact h i x hi⟩
def NaF (l:List Na) (i:Nat) (x:Na):Prop:=(0≤x.id∧x.id≤9999∧∀ y,0<i→l[i - 1]?=some y→y.id<x.id)∧(0≤x.wish∧x.wish≤10)∧1≤x.sleds∧x.sleds≤10
def GnF (n:Nat) (l:List Gn) (i:Nat) (x:Gn):Prop:=(0≤x.nation∧x.nation≤(n:Int) - 1∧∀ y,0<i→l[i - 1]?=some y→y.nation<x.nation)∧0≤x.after∧x.after≤40
def AtF (l:LnM) (n:Nat) (L:List AtM) (i:Nat) (x:AtM):Prop:=(0≤x.id∧x.id≤9999∧∀ y,0<i→L[i - 1]?=some y→y.id<x.id)∧(0≤x.nation∧x.nation≤(n:Int) - 1)∧(0≤x.age∧x.age≤99)∧x.rides.length≤3∧∀ (k:Nat) y,x.rides[k]?=some y→zAt l y.r=0
def PmF (x:Pm):Prop:=(0≤x.age∧x.age≤99)∧(0≤x.runs∧x.runs≤10)∧1≤x.time∧x.time≤86400000
def OneF (t:TrM):Prop:=(1≤(t.nas.length:Int)∧(t.nas.length:Int)≤6)∧t.ats.length≤6∧(0≤t.total∧t.total≤40)∧(1≤t.gap∧t.gap≤3600)∧(1≤t.down∧t.down≤3600)∧(1≤t.every∧t.every≤3600)∧(1≤t.seats∧t.seats≤6)∧0≤t.pace∧t.pace≤3600
structure TnF (t:TrM):Prop where
 one:OneF t
 na:∀ (i:Nat) x,t.nas[i]?=some x→NaF t.nas i x
 gn:∀ (i:Nat) x,t.gns[i]?=some x→GnF t.nas.length t.gns i x
 at_:∀ (i:Nat) x,t.ats[i]?=some x→AtF t.l t.nas.length t.ats i x
 p1:PmF t.p1
 p2:PmF t.p2
 p3:PmF t.p3
theorem zKV {x:Pm}:pmOk x=true↔PmF x:=by
 unfold pmOk PmF;simp only [Bool.and_eq_true,zAA,and_assoc]
theorem zF2 {t:TrM}:tnB t=true↔TnF t:=by
 rw [tnB_iff,zCv,zCv,zCv,zI4,zI4,zI4,zKV,zKV,zKV]
 have e1:tn1 t=true↔OneF t:=by
  unfold tn1 OneF;simp only [Bool.and_eq_true,zAA,decide_eq_true_eq]
  constructor
  ·rintro ⟨⟨⟨⟨⟨h1,h2⟩,h3⟩,⟨h4,h5⟩,h6⟩,h7⟩,h8⟩
   exact ⟨h1,h2,h3,h4,h5,h6,h7,h8⟩
  ·rintro ⟨h1,h2,h3,h4,h5,h6,h7,h8⟩
   exact ⟨⟨⟨⟨⟨h1,h2⟩,h3⟩,⟨h4,h5⟩,h6⟩,h7⟩,h8⟩
 rw [e1]
 have e2:∀ x,naOk x=true↔(0≤x.wish∧x.wish≤10)∧1≤x.sleds∧x.sleds≤10:=fun x=>by unfold naOk;simp only [Bool.and_eq_true,zAA]
 have e3:∀ x,gnOk x=true↔0≤x.after∧x.after≤40:=fun x=>by unfold gnOk;rw [zAA]
 have e4:∀ x,atOk t x=true↔(0≤x.nation∧x.nation≤(t.nas.length:Int) - 1)∧(0≤x.age∧x.age≤99)∧x.rides.length≤3∧∀ (k:Nat) y,x.rides[k]?=some y→zAt t.l y.r=0:=fun x=>by
  unfold atOk
  simp only [Bool.and_eq_true,zAA,decide_eq_true_eq,zI4,rdOk,and_assoc]
 constructor
 ·rintro ⟨h0,h1,h2,h3,h4,h5,h6,h7,h8,h9⟩
  exact ⟨h0,fun i x hx=>⟨h1 i x hx,(e2 x).1 (h4 i x hx)⟩,fun i x hx=>⟨h2 i x hx,(e3 x).1 (h5 i x hx)⟩,fun i x hx=>⟨h3 i x hx,(e4 x).1 (h9 i x hx)⟩,h6,h7,h8⟩
 ·rintro ⟨h0,h1,h2,h3,h6,h7,h8⟩
  exact ⟨h0,fun i x hx=>(h1 i x hx).1,fun i x hx=>(h2 i x hx).1,fun i x hx=>(h3 i x hx).1,fun i x hx=>(e2 x).2 (h1 i x hx).2,fun i x hx=>(e3 x).2 (h2 i x hx).2,h6,h7,h8,fun i x hx=>(e4 x).2 (h3 i x hx).2⟩
end Go.Proofs.YtfiekidciiighaaGreat.Two
