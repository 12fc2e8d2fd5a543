/- A31 -/
import Derived.Test.YtfiekidciiighaaGreatA30
set_option linter.unusedSimpArgs false
set_option linter.unusedVariables false
namespace Go.Proofs.YtfiekidciiighaaGreat.Two
variable {ro : Option Nat}
open Go.RowKit
set_option maxRecDepth 20000
theorem zKJ (t:TrM) (a k:Nat) (x:AtM) (w:World) (h:zCj w t) (hs:zBR t) (hF:TnF t) (hx:t.ats[a]?=some x) (hk:k<3):Gv Tryz.prog 16 [vTn t,.int .i64 (a:Int),.int .i64 ((k:Int)+1)] w (.tuple #[.int .i64 (zBw t x k).1,.int .i64 (zBw t x k).2]):=by
 obtain rfl|rfl|rfl:k=0∨k=1∨k=2:=by omega
 ·exact zJN t a x w h hs hF hx
 ·exact zJM t a x w h hs hF hx
 ·exact zJL t a x w h hs hF hx
theorem zIx {t:TrM} {a c:Int} (h:zBk t a c=0):TnF t∧∃ (i:Nat) (x:AtM) (k:Nat),a=i∧t.ats[i]?=some x∧k<3∧c=(k:Int)+1:=by
 unfold zBk zBu at h
 by_cases h1:zCd t.l=0
 ·rw [if_pos h1] at h
  by_cases h2:tnB t=true
  ·rw [if_pos h2,if_pos rfl] at h
   by_cases h3:(inB 0 ((t.ats.length:Int) - 1) a && inB 1 3 c)=true
   ·simp only [Bool.and_eq_true,zAA] at h3
    refine ⟨zF2.1 h2,a.toNat,_,(c - 1).toNat,by omega,List.getElem?_eq_getElem (by omega),by omega,by omega⟩
   ·rw [if_neg h3] at h;cases h
  ·rw [if_neg h2] at h;cases h
 ·rw [if_neg h1] at h
  rw [if_neg h1] at h
  exact absurd h h1
def zEd (t:TrM) (a c:Int):Int × Int:=if zBk t a c=0 then zBw t (t.ats.getD a.toNat default) (c - 1).toNat else (0,0)
theorem zI5 {t:TrM} {i k:Nat} {x:AtM} (h:zBk t i ((k:Int)+1)=0) (hx:t.ats[i]?=some x):zEd t i ((k:Int)+1)=zBw t x k:=by
 unfold zEd
 rw [if_pos h,Int.toNat_natCast,List.getD_eq_getElem?_getD,hx,show ((k:Int)+1 - 1).toNat=k by omega]
 rfl
def licT (t:TrM) (a c:Int):Int:=if zBk t a c=0 then zDS t (t.ats.getD a.toNat default) (c - 1).toNat else 0
theorem zLI {t:TrM} {i k:Nat} {x:AtM} (h:zBk t i ((k:Int)+1)=0) (hx:t.ats[i]?=some x):licT t i ((k:Int)+1)=zDS t x k:=by
 unfold licT
 rw [if_pos h,Int.toNat_natCast,List.getD_eq_getElem?_getD,hx,show ((k:Int)+1 - 1).toNat=k by omega]
 rfl
set_option maxHeartbeats 1000000 in
theorem zKS (t:TrM) (a c:Int) (w:World) (h:zCj w t) (hs:zBR t):Gv Tryz.prog 6 [vTn t,.int .i64 a,.int .i64 c] w (.tuple #[.int .i64 (zEd t a c).1,.int .i64 (zEd t a c).2,.int .i64 (zBk t a c)]):=by
 have hA:=fun W (hW:Below w.heap.size w W)=>zGT t a c W (h.below hW) hs
 by_cases h0:zBk t a c=0
 ·obtain ⟨hF,i,x,k,rfl,hx,hk,rfl⟩:=zIx h0
  rw [zI5 h0 hx]
  have hW:=fun W (hW:Below w.heap.size w W)=>zKJ t i k x W (h.below hW) hs hF hx hk
  rw [h0] at hA ⊢
  generalize zBw t x k=v at *
  obtain ⟨v1,v2⟩:=v
  simp only at hW
  unfold Gv
  unfold vTn zg at *
  (refine zK (n:=28) Tryz.func6 rfl rfl rfl ?_)
  (repeat' (first|((with_reducible refine zG ?_);first|refine zD rfl rfl rfl ?_|refine zC rfl rfl rfl ?_|(refine zJ rfl rfl rfl ?_;refine ⟨_,rfl,?_⟩)|(refine zS rfl rfl rfl rfl rfl (fun h=>?_) (fun h=>?_)<;>(dsimp only [cmpP] at h;(try (exfalso;omega))))|refine zO rfl rfl rfl rfl (fun _ _ q=>hA _ q.below) ?_|refine zO rfl rfl rfl rfl (fun _ _ q=>hW _ q.below) ?_|refine zk rfl rfl rfl rfl ?_|(refine zp rfl rfl rfl rfl (fun b=>?_)))|(with_reducible first|refine zI ?_|refine zB ?_|refine zE ?_|refine zA ?_|refine zV ?_|refine zR ?_)|((with_reducible refine zF ?_ ?_);(· exact rfl))))
  exact zP (by (exact zh.cons (by exact zAO.tmp rfl) (zh.cons (by exact zAO.tmp rfl) (zh.cons (by exact zAO.tmp rfl) zh.nil)))) () trivial rfl (fun _ h=>h.sub (by (repeat constructor)))
 ·have e:zEd t a c=(0,0):=by unfold zEd;rw [if_neg h0]
  rw [e]
  generalize zBk t a c=e9 at *
  unfold Gv
  unfold vTn zg at *
  (refine zK (n:=28) Tryz.func6 rfl rfl rfl ?_)
  (repeat' (first|((with_reducible refine zG ?_);first|refine zD rfl rfl rfl ?_|refine zC rfl rfl rfl ?_|(refine zJ rfl rfl rfl ?_;refine ⟨_,rfl,?_⟩)|(refine zS rfl rfl rfl rfl rfl (fun h=>?_) (fun h=>?_)<;>(dsimp only [cmpP] at h;(try (exfalso;omega))))|refine zO rfl rfl rfl rfl (fun _ _ q=>hA _ q.below) ?_|(refine zp rfl rfl rfl rfl (fun b=>?_)))|(with_reducible first|refine zI ?_|refine zB ?_|refine zE ?_|refine zA ?_|refine zV ?_|refine zU ?_)|((with_reducible refine zH ?_ ?_);(· exact rfl))))
  exact zP (by (exact zh.cons (by exact zAO.tmp rfl) (zh.cons (by exact zAO.tmp rfl) (zh.cons (by exact zAO.tmp rfl) zh.nil)))) () trivial rfl (fun _ h=>h.sub (by (repeat constructor)))
set_option maxHeartbeats 2000000 in
theorem rlic8_0 (t:TrM) (a:Nat) (x:AtM) (w:World) (h:zCj w t) (hs:zBR t) (hF:TnF t) (hx:t.ats[a]?=some x):Gv Tryz.prog 18 [vTn t,.int .i64 (a:Int),.int .i64 1] w (.int .u8 (zDS t x 0)):=by
 have hW:=fun W (hW:Below w.heap.size w W)=>zJN t a x W (h.below hW) hs hF hx
 obtain ⟨v,hv⟩:∃ v,v=zBw t x 0:=⟨_,rfl⟩
 have e:zDS t x 0=if x.age<t.p1.age∨v.2<t.p1.runs then 0 else if t.p1.runs≤v.1 then 2 else 1:=by rw [hv];rfl
 rw [e]
 rw [← hv] at hW
 clear hv e
 obtain ⟨l,nas,NA,nc,gns,GA,gc,total,gap,down,every,seats,pace,ats,AA,ac,p1,p2,p3⟩:=t
 have h4:=h.a
 have k4:=hs.a
 simp only at h4 k4 hx
 obtain ⟨v1,v2⟩:=v
 have hlt:=(List.getElem?_eq_some_iff.1 hx).1
 have:zAT ats a x:=⟨hx⟩
 obtain ⟨bA,oA,hAe,hAl,hAc⟩:=h4.at_ hlt
 subst hAe
 have:InS w bA oA zB1 4 ats:=⟨h4⟩
 obtain ⟨id,na,ag,RA,rides,rc⟩:=x
 unfold Gv
 unfold vTn zg at *
 simp only at hW ⊢
 (refine zK (n:=43) Tryz.func18 rfl rfl rfl ?_)
 (repeat' (first|((with_reducible refine zG ?_);first|refine zD rfl rfl rfl ?_|refine zC rfl rfl rfl ?_|(refine zJ rfl rfl rfl ?_;refine ⟨_,rfl,?_⟩)|refine zL rfl rfl rfl ?_|refine zBc (I:=0) rfl rfl rfl rfl rfl (by decide) ?_|refine zO rfl rfl rfl rfl (fun _ _ q=>hW _ q.below) ?_|refine zk rfl rfl rfl rfl ?_|refine zAc rfl rfl rfl rfl (IntWalk.i64_in _ (by omega)) ?_|(refine zX rfl rfl rfl rfl rfl ?_;refine ⟨rfl,by first|decide|exact Nat.le_of_ble_eq_true rfl|(simp;omega),_,rfl,?_⟩)|(refine zb rfl rfl (fun b=>?_))|(refine zp rfl rfl rfl rfl (fun b=>?_)))|(with_reducible first|refine zI ?_|refine zB ?_|refine zE ?_|refine zA ?_|refine zQ ?_)))
 (refine zAD (by kernel_rfl) (by kernel_rfl) (by kernel_rfl) ?_)
 (repeat' (first|((with_reducible refine zAP ?_);first|refine zM (zl rfl rfl) rfl ?_|refine zM (zW rfl rfl (by exact rfl)) rfl ?_|refine zM (zY rfl rfl) rfl ?_|refine zM (zAh rfl rfl rfl) rfl ?_|refine zM (zt rfl rfl) rfl ?_|refine zAJ rfl rfl rfl ?_|(refine zAu rfl rfl rfl rfl rfl (fun h=>?_) (fun h=>?_)<;>(dsimp only [cmpP] at h;(try (exfalso;omega))))|refine zM (zw (I:=a) rfl rfl rfl (by omega) (by first|omega|(dsimp only;omega))) rfl ?_)|(with_reducible refine zAe ?_)))
 all_goals (repeat' (first|((with_reducible refine zG ?_);first|refine zD rfl rfl rfl ?_|refine zC rfl rfl rfl ?_|(refine zJ rfl rfl rfl ?_;refine ⟨_,rfl,?_⟩)|refine zL rfl rfl rfl ?_|(refine zS rfl rfl rfl rfl rfl (fun h=>?_) (fun h=>?_)<;>(dsimp only [cmpP] at h;(try (exfalso;omega)))))|(with_reducible first|refine zI ?_|refine zB ?_|refine zE ?_|refine zA ?_|refine zV ?_|refine zR ?_|refine zU ?_|refine zj ?_|refine zAV ?_)|((with_reducible refine zH ?_ ?_);(· exact rfl))|((with_reducible refine zF ?_ ?_);(· exact rfl))))
 all_goals first|(refine zP (by exact rTm rfl) () trivial ?_ (fun _ h=>h.sub (by (repeat constructor)));rw [if_pos (by omega)];rfl)|(refine zP (by exact rTm rfl) () trivial ?_ (fun _ h=>h.sub (by (repeat constructor)));rw [if_neg (by omega),if_pos (by omega)];rfl)|(refine zP (by exact rTm rfl) () trivial ?_ (fun _ h=>h.sub (by (repeat constructor)));rw [if_neg (by omega),if_neg (by omega)];rfl)
set_option maxHeartbeats 2000000 in
theorem rlic8_1 (t:TrM) (a:Nat) (x:AtM) (w:World) (h:zCj w t) (hs:zBR t) (hF:TnF t) (hx:t.ats[a]?=some x):Gv Tryz.prog 18 [vTn t,.int .i64 (a:Int),.int .i64 2] w (.int .u8 (zDS t x 1)):=by
 have hW:=fun W (hW:Below w.heap.size w W)=>zJM t a x W (h.below hW) hs hF hx
 obtain ⟨v,hv⟩:∃ v,v=zBw t x 1:=⟨_,rfl⟩
 have e:zDS t x 1=if x.age<t.p2.age∨v.2<t.p2.runs then 0 else if t.p2.runs≤v.1 then 2 else 1:=by rw [hv];rfl
 rw [e]
 rw [← hv] at hW
 clear hv e
 obtain ⟨l,nas,NA,nc,gns,GA,gc,total,gap,down,every,seats,pace,ats,AA,ac,p1,p2,p3⟩:=t
 have h4:=h.a
 have k4:=hs.a
 simp only at h4 k4 hx
 obtain ⟨v1,v2⟩:=v
 have hlt:=(List.getElem?_eq_some_iff.1 hx).1
 have:zAT ats a x:=⟨hx⟩
 obtain ⟨bA,oA,hAe,hAl,hAc⟩:=h4.at_ hlt
 subst hAe
 have:InS w bA oA zB1 4 ats:=⟨h4⟩
 obtain ⟨id,na,ag,RA,rides,rc⟩:=x
 unfold Gv
 unfold vTn zg at *
 simp only at hW ⊢
 (refine zK (n:=43) Tryz.func18 rfl rfl rfl ?_)
 (repeat' (first|((with_reducible refine zG ?_);first|refine zD rfl rfl rfl ?_|refine zC rfl rfl rfl ?_|(refine zJ rfl rfl rfl ?_;refine ⟨_,rfl,?_⟩)|refine zL rfl rfl rfl ?_|refine zBc (I:=1) rfl rfl rfl rfl rfl (by decide) ?_|refine zO rfl rfl rfl rfl (fun _ _ q=>hW _ q.below) ?_|refine zk rfl rfl rfl rfl ?_|refine zAc rfl rfl rfl rfl (IntWalk.i64_in _ (by omega)) ?_|(refine zX rfl rfl rfl rfl rfl ?_;refine ⟨rfl,by first|decide|exact Nat.le_of_ble_eq_true rfl|(simp;omega),_,rfl,?_⟩)|(refine zb rfl rfl (fun b=>?_))|(refine zp rfl rfl rfl rfl (fun b=>?_)))|(with_reducible first|refine zI ?_|refine zB ?_|refine zE ?_|refine zA ?_|refine zQ ?_)))
 (refine zAD (by kernel_rfl) (by kernel_rfl) (by kernel_rfl) ?_)
 (repeat' (first|((with_reducible refine zAP ?_);first|refine zM (zl rfl rfl) rfl ?_|refine zM (zW rfl rfl (by exact rfl)) rfl ?_|refine zM (zY rfl rfl) rfl ?_|refine zM (zAh rfl rfl rfl) rfl ?_|refine zM (zt rfl rfl) rfl ?_|refine zAJ rfl rfl rfl ?_|(refine zAu rfl rfl rfl rfl rfl (fun h=>?_) (fun h=>?_)<;>(dsimp only [cmpP] at h;(try (exfalso;omega))))|refine zM (zw (I:=a) rfl rfl rfl (by omega) (by first|omega|(dsimp only;omega))) rfl ?_)|(with_reducible refine zAe ?_)))
 all_goals (repeat' (first|((with_reducible refine zG ?_);first|refine zD rfl rfl rfl ?_|refine zC rfl rfl rfl ?_|(refine zJ rfl rfl rfl ?_;refine ⟨_,rfl,?_⟩)|refine zL rfl rfl rfl ?_|(refine zS rfl rfl rfl rfl rfl (fun h=>?_) (fun h=>?_)<;>(dsimp only [cmpP] at h;(try (exfalso;omega)))))|(with_reducible first|refine zI ?_|refine zB ?_|refine zE ?_|refine zA ?_|refine zV ?_|refine zR ?_|refine zU ?_|refine zj ?_|refine zAV ?_)|((with_reducible refine zH ?_ ?_);(· exact rfl))|((with_reducible refine zF ?_ ?_);(· exact rfl))))
 all_goals first|(refine zP (by exact rTm rfl) () trivial ?_ (fun _ h=>h.sub (by (repeat constructor)));rw [if_pos (by omega)];rfl)|(refine zP (by exact rTm rfl) () trivial ?_ (fun _ h=>h.sub (by (repeat constructor)));rw [if_neg (by omega),if_pos (by omega)];rfl)|(refine zP (by exact rTm rfl) () trivial ?_ (fun _ h=>h.sub (by (repeat constructor)));rw [if_neg (by omega),if_neg (by omega)];rfl)
set_option maxHeartbeats 2000000 in
theorem rlic8_2 (t:TrM) (a:Nat) (x:AtM) (w:World) (h:zCj w t) (hs:zBR t) (hF:TnF t) (hx:t.ats[a]?=some x):Gv Tryz.prog 18 [vTn t,.int .i64 (a:Int),.int .i64 3] w (.int .u8 (zDS t x 2)):=by
 have hW:=fun W (hW:Below w.heap.size w W)=>zJL t a x W (h.below hW) hs hF hx
 obtain ⟨v,hv⟩:∃ v,v=zBw t x 2:=⟨_,rfl⟩
 have e:zDS t x 2=if x.age<t.p3.age∨v.2<t.p3.runs then 0 else if t.p3.runs≤v.1 then 2 else 1:=by rw [hv];rfl
 rw [e]
 rw [← hv] at hW
 clear hv e
 obtain ⟨l,nas,NA,nc,gns,GA,gc,total,gap,down,every,seats,pace,ats,AA,ac,p1,p2,p3⟩:=t
 have h4:=h.a
 have k4:=hs.a
 simp only at h4 k4 hx
 obtain ⟨v1,v2⟩:=v
 have hlt:=(List.getElem?_eq_some_iff.1 hx).1
 have:zAT ats a x:=⟨hx⟩
 obtain ⟨bA,oA,hAe,hAl,hAc⟩:=h4.at_ hlt
 subst hAe
 have:InS w bA oA zB1 4 ats:=⟨h4⟩
 obtain ⟨id,na,ag,RA,rides,rc⟩:=x
 unfold Gv
 unfold vTn zg at *
 simp only at hW ⊢
 (refine zK (n:=43) Tryz.func18 rfl rfl rfl ?_)
 (repeat' (first|((with_reducible refine zG ?_);first|refine zD rfl rfl rfl ?_|refine zC rfl rfl rfl ?_|(refine zJ rfl rfl rfl ?_;refine ⟨_,rfl,?_⟩)|refine zL rfl rfl rfl ?_|refine zBc (I:=2) rfl rfl rfl rfl rfl (by decide) ?_|refine zO rfl rfl rfl rfl (fun _ _ q=>hW _ q.below) ?_|refine zk rfl rfl rfl rfl ?_|refine zAc rfl rfl rfl rfl (IntWalk.i64_in _ (by omega)) ?_|(refine zX rfl rfl rfl rfl rfl ?_;refine ⟨rfl,by first|decide|exact Nat.le_of_ble_eq_true rfl|(simp;omega),_,rfl,?_⟩)|(refine zb rfl rfl (fun b=>?_))|(refine zp rfl rfl rfl rfl (fun b=>?_)))|(with_reducible first|refine zI ?_|refine zB ?_|refine zE ?_|refine zA ?_|refine zQ ?_)))
 (refine zAD (by kernel_rfl) (by kernel_rfl) (by kernel_rfl) ?_)
 (repeat' (first|((with_reducible refine zAP ?_);first|refine zM (zl rfl rfl) rfl ?_|refine zM (zW rfl rfl (by exact rfl)) rfl ?_|refine zM (zY rfl rfl) rfl ?_|refine zM (zAh rfl rfl rfl) rfl ?_|refine zM (zt rfl rfl) rfl ?_|refine zAJ rfl rfl rfl ?_|(refine zAu rfl rfl rfl rfl rfl (fun h=>?_) (fun h=>?_)<;>(dsimp only [cmpP] at h;(try (exfalso;omega))))|refine zM (zw (I:=a) rfl rfl rfl (by omega) (by first|omega|(dsimp only;omega))) rfl ?_)|(with_reducible refine zAe ?_)))
 all_goals (repeat' (first|((with_reducible refine zG ?_);first|refine zD rfl rfl rfl ?_|refine zC rfl rfl rfl ?_|(refine zJ rfl rfl rfl ?_;refine ⟨_,rfl,?_⟩)|refine zL rfl rfl rfl ?_|(refine zS rfl rfl rfl rfl rfl (fun h=>?_) (fun h=>?_)<;>(dsimp only [cmpP] at h;(try (exfalso;omega)))))|(with_reducible first|refine zI ?_|refine zB ?_|refine zE ?_|refine zA ?_|refine zV ?_|refine zR ?_|refine zU ?_|refine zj ?_|refine zAV ?_)|((with_reducible refine zH ?_ ?_);(· exact rfl))|((with_reducible refine zF ?_ ?_);(· exact rfl))))
 all_goals first|(refine zP (by exact rTm rfl) () trivial ?_ (fun _ h=>h.sub (by (repeat constructor)));rw [if_pos (by omega)];rfl)|(refine zP (by exact rTm rfl) () trivial ?_ (fun _ h=>h.sub (by (repeat constructor)));rw [if_neg (by omega),if_pos (by omega)];rfl)|(refine zP (by exact rTm rfl) () trivial ?_ (fun _ h=>h.sub (by (repeat constructor)));rw [if_neg (by omega),if_neg (by omega)];rfl)
theorem zH2 (t:TrM) (a k:Nat) (x:AtM) (w:World) (h:zCj w t) (hs:zBR t) (hF:TnF t) (hx:t.ats[a]?=some x) (hk:k<3):Gv Tryz.prog 18 [vTn t,.int .i64 (a:Int),.int .i64 ((k:Int)+1)] w (.int .u8 (zDS t x k)):=by
 obtain rfl|rfl|rfl:k=0∨k=1∨k=2:=by omega
 ·exact rlic8_0 t a x w h hs hF hx
 ·exact rlic8_1 t a x w h hs hF hx
 ·exact rlic8_2 t a x w h hs hF hx
set_option maxHeartbeats 1000000 in
theorem zHq (t:TrM) (a c:Int) (w:World) (h:zCj w t) (hs:zBR t):Gv Tryz.prog 8 [vTn t,.int .i64 a,.int .i64 c] w (.tuple #[.int .u8 (licT t a c),.int .i64 (zBk t a c)]):=by
 have hA:=fun W (hW:Below w.heap.size w W)=>zGT t a c W (h.below hW) hs
 by_cases h0:zBk t a c=0
 ·obtain ⟨hF,i,x,k,rfl,hx,hk,rfl⟩:=zIx h0
  rw [zLI h0 hx]
  have hW:=fun W (hW:Below w.heap.size w W)=>zH2 t i k x W (h.below hW) hs hF hx hk
  rw [h0] at hA ⊢
  generalize zDS t x k=v at *
  unfold Gv
  unfold vTn zg at *
  (refine zK (n:=20) Tryz.func8 rfl rfl rfl ?_)
  (repeat' (first|((with_reducible refine zG ?_);first|refine zD rfl rfl rfl ?_|refine zC rfl rfl rfl ?_|(refine zJ rfl rfl rfl ?_;refine ⟨_,rfl,?_⟩)|(refine zS rfl rfl rfl rfl rfl (fun h=>?_) (fun h=>?_)<;>(dsimp only [cmpP] at h;(try (exfalso;omega))))|refine zO rfl rfl rfl rfl (fun _ _ q=>hA _ q.below) ?_|refine zO rfl rfl rfl rfl (fun _ _ q=>hW _ q.below) ?_|(refine zp rfl rfl rfl rfl (fun b=>?_)))|(with_reducible first|refine zI ?_|refine zB ?_|refine zE ?_|refine zA ?_|refine zV ?_|refine zR ?_)|((with_reducible refine zF ?_ ?_);(· exact rfl))))
  exact zP (by (exact zh.cons (by exact zAO.tmp rfl) (zh.cons (by exact zAO.tmp rfl) zh.nil))) () trivial rfl (fun _ h=>h.sub (by (repeat constructor)))
 ·have e:licT t a c=0:=by unfold licT;rw [if_neg h0]
  rw [e]
  generalize zBk t a c=e9 at *
  unfold Gv
  unfold vTn zg at *
  (refine zK (n:=20) Tryz.func8 rfl rfl rfl ?_)
  (repeat' (first|((with_reducible refine zG ?_);first|refine zD rfl rfl rfl ?_|refine zC rfl rfl rfl ?_|(refine zJ rfl rfl rfl ?_;refine ⟨_,rfl,?_⟩)|(refine zS rfl rfl rfl rfl rfl (fun h=>?_) (fun h=>?_)<;>(dsimp only [cmpP] at h;(try (exfalso;omega))))|refine zO rfl rfl rfl rfl (fun _ _ q=>hA _ q.below) ?_|(refine zp rfl rfl rfl rfl (fun b=>?_)))|(with_reducible first|refine zI ?_|refine zB ?_|refine zE ?_|refine zA ?_|refine zV ?_|refine zU ?_)|((with_reducible refine zH ?_ ?_);(· exact rfl))))
  exact zP (by (exact zh.cons (by exact zAO.tmp rfl) (zh.cons (by exact zAO.tmp rfl) zh.nil))) () trivial rfl (fun _ h=>h.sub (by (repeat constructor)))
end Go.Proofs.YtfiekidciiighaaGreat.Two
namespace Go.Proofs.YtfiekidciiighaaGreat.Two
variable {ro : Option Nat}
open Go.RowKit
set_option maxRecDepth 20000
theorem zGK {t:TrM} {a:Int} {c:Nat}:zDb t a c 0=[]:=rfl
theorem zGL {t:TrM} {a:Int} {c i:Nat} {x:AtM} (h:t.ats[i]?=some x):zDb t a c (i+1)=zDb t a c i++if x.nation=a∧zDS t x c=2 then [(i:Int)] else []:=by
 unfold zDb
 rw [List.range_succ,List.filter_append,List.map_append]
 congr 1
 rw [List.filter_cons,List.filter_nil]
 simp only [h]
 by_cases h1:x.nation=a∧zDS t x c=2
 ·simp [h1]
 ·rw [if_neg h1]
  have:(decide (x.nation=a) && decide (zDS t x c=2))=false:=by
   rw [Bool.eq_false_iff];intro h9;simp only [Bool.and_eq_true,decide_eq_true_eq] at h9;exact h1 h9
  simp only [this]
  rfl
theorem zFL {t:TrM} {a:Int} {c i:Nat}:(zDb t a c i).length≤i:=by
 unfold zDb
 rw [List.length_map]
 exact Nat.le_trans (List.length_filter_le _ _) (by rw [List.length_range];omega)
def zD2 (t:TrM) (a c:Int):List Int:=if zC2 t a c=0 then zDb t a (c - 1).toNat t.ats.length else []
theorem zLJ {t:TrM} {a c:Int} (h:zC2 t a c=0):zBu t=0∧TnF t∧inB 0 ((t.nas.length:Int) - 1) a=true∧inB 1 3 c=true∧∃ k:Nat,k<3∧c=(k:Int)+1:=by
 unfold zC2 at h
 by_cases h1:zBu t=0
 ·rw [if_pos h1] at h
  by_cases h3:(inB 0 ((t.nas.length:Int) - 1) a && inB 1 3 c)=true
  ·have h4:=h3
   simp only [Bool.and_eq_true] at h3
   have h5:=zAA.1 h3.2
   refine ⟨h1,?_,h3.1,h3.2,(c - 1).toNat,by omega,by omega⟩
   unfold zBu at h1
   by_cases h6:zCd t.l=0
   ·rw [if_pos h6] at h1
    by_cases h7:tnB t=true
    ·exact zF2.1 h7
    ·rw [if_neg h7] at h1;cases h1
   ·rw [if_neg h6] at h1;exact absurd h1 h6
  ·rw [if_neg h3] at h;cases h
 ·rw [if_neg h1] at h;exact absurd h h1
set_option maxHeartbeats 4000000 in
theorem zKT (t:TrM) (a c:Int) (w:World) (h:zCj w t) (hs:zBR t):zCe encI 1 (zD2 t a c) (fun v=>.tuple #[v,.int .i64 (zC2 t a c)]) Tryz.prog 10 [vTn t,.int .i64 a,.int .i64 c] w:=by
 have hC:=fun W (hW:Below w.heap.size w W)=>zGR t W (h.below hW) hs
 have hsa:=hs.a
 have hsn:=hs.n
 unfold zCe
 by_cases h0:zC2 t a c=0
 rotate_left
 ·have e:zD2 t a c=[]:=by unfold zD2;rw [if_neg h0]
  rw [e]
  by_cases h1:zBu t=0
  rotate_left
  ·have e2:zC2 t a c=zBu t:=by unfold zC2;rw [if_neg h1]
   rw [e2]
   generalize zBu t=e8 at *
   unfold vTn zg at *
   (refine zK (n:=55) Tryz.func10 rfl rfl rfl ?_)
   (repeat' (first|((with_reducible refine zG ?_);first|refine zD rfl rfl rfl ?_|refine zC rfl rfl rfl ?_|(refine zJ rfl rfl rfl ?_;refine ⟨_,rfl,?_⟩)|(refine zS rfl rfl rfl rfl rfl (fun h=>?_) (fun h=>?_)<;>(dsimp only [cmpP] at h;(try (exfalso;omega))))|refine zO rfl rfl rfl rfl (fun _ _ q=>hC _ q.below) ?_|(refine zp rfl rfl rfl rfl (fun b=>?_)))|(with_reducible first|refine zI ?_|refine zB ?_|refine zE ?_|refine zA ?_|refine zV ?_|refine zU ?_)|((with_reducible refine zH ?_ ?_);(· exact rfl))))
   exact zP (by (exact zh.cons (by exact zAO.tmp rfl) (zh.cons (by exact zAO.tmp rfl) zh.nil))) (none,0) trivial rfl (fun _ h=>(zDN h).sub (by (repeat constructor)))
  have e2:zC2 t a c=2:=by
   unfold zC2 at h0 ⊢
   rw [if_pos h1] at h0 ⊢
   by_cases h3:(inB 0 ((t.nas.length:Int) - 1) a && inB 1 3 c)=true
   ·rw [if_pos h3] at h0;exact absurd rfl h0
   ·rw [if_neg h3]
  have h3:inB 0 ((t.nas.length:Int) - 1) a=true→inB 1 3 c=false:=fun h5=>by
   cases h4:inB 1 3 c with
   | false=>rfl
   | true =>
    unfold zC2 at h0
    rw [if_pos h1,h5,h4] at h0
    exact absurd rfl h0
  rw [e2]
  rw [h1] at hC
  unfold vTn zg at *
  cases i1:inB 0 ((t.nas.length:Int) - 1) a with
  | false =>
   (refine zK (n:=55) Tryz.func10 rfl rfl rfl ?_)
   (repeat' (first|((with_reducible refine zG ?_);first|refine zD rfl rfl rfl ?_|refine zC rfl rfl rfl ?_|(refine zJ rfl rfl rfl ?_;refine ⟨_,rfl,?_⟩)|refine zL rfl rfl rfl ?_|refine z7 rfl rfl rfl rfl ?_|refine zf rfl rfl rfl ?_|(refine zS rfl rfl rfl rfl rfl (fun h=>?_) (fun h=>?_)<;>(dsimp only [cmpP] at h;(try (exfalso;omega))))|refine zO rfl rfl rfl rfl (fun _ _ q=>hC _ q.below) ?_|(refine zO rfl rfl rfl rfl (fun _ _ q=>i1 ▸ zAW _ _ _ _) ?_)|refine zAI rfl rfl rfl ?_|refine zAc rfl rfl rfl rfl (IntWalk.i64_in _ (by omega)) ?_|refine zn rfl rfl rfl ?_|(refine zp rfl rfl rfl rfl (fun b=>?_)))|(with_reducible first|refine zI ?_|refine zB ?_|refine zE ?_|refine zA ?_|refine zV ?_|refine zR ?_|refine zU ?_)|((with_reducible refine zH ?_ ?_);(· exact rfl))|((with_reducible refine zF ?_ ?_);(· exact rfl))))
   exact zP (by (exact zh.cons (by exact zAO.tmp rfl) (zh.cons (by exact zAO.tmp rfl) zh.nil))) (none,0) trivial rfl (fun _ h=>(zDN h).sub (by (repeat constructor)))
  | true =>
   have i2:=h3 i1
   (refine zK (n:=55) Tryz.func10 rfl rfl rfl ?_)
   (repeat' (first|((with_reducible refine zG ?_);first|refine zD rfl rfl rfl ?_|refine zC rfl rfl rfl ?_|(refine zJ rfl rfl rfl ?_;refine ⟨_,rfl,?_⟩)|refine zL rfl rfl rfl ?_|refine z7 rfl rfl rfl rfl ?_|(refine zS rfl rfl rfl rfl rfl (fun h=>?_) (fun h=>?_)<;>(dsimp only [cmpP] at h;(try (exfalso;omega))))|refine zO rfl rfl rfl rfl (fun _ _ q=>hC _ q.below) ?_|(refine zO rfl rfl rfl rfl (fun _ _ q=>i1 ▸ zAW _ _ _ _) ?_)|(refine zO rfl rfl rfl rfl (fun _ _ q=>i2 ▸ zAW _ _ _ _) ?_)|refine zAI rfl rfl rfl ?_|refine zAc rfl rfl rfl rfl (IntWalk.i64_in _ (by omega)) ?_|refine zn rfl rfl rfl ?_|(refine zp rfl rfl rfl rfl (fun b=>?_)))|(with_reducible first|refine zI ?_|refine zB ?_|refine zE ?_|refine zA ?_|refine zV ?_|refine zR ?_|refine zU ?_)|((with_reducible refine zH ?_ ?_);(· exact rfl))|((with_reducible refine zF ?_ ?_);(· exact rfl))))
   exact zP (by (exact zh.cons (by exact zAO.tmp rfl) (zh.cons (by exact zAO.tmp rfl) zh.nil))) (none,0) trivial rfl (fun _ h=>(zDN h).sub (by (repeat constructor)))
 obtain ⟨h1,hF,i1,i2,k,hk,rfl⟩:=zLJ h0
 have e:zD2 t a ((k:Int)+1)=zDb t a k t.ats.length:=by unfold zD2;rw [if_pos h0,show ((k:Int)+1 - 1).toNat=k by omega]
 rw [e,h0]
 rw [h1] at hC
 have hLi:=fun (i:Nat) x (hx:t.ats[i]?=some x) W (hW:Below w.heap.size w W)=>zH2 t i k x W (h.below hW) hs hF hx hk
 have hT1:=fun (i:Nat) x (hx:t.ats[i]?=some x)=>zGL (a:=a) (c:=k) hx
 have hTl:=fun (i:Nat)=>zFL (t:=t) (a:=a) (c:=k) (i:=i)
 have hT0:=zGK (t:=t) (a:=a) (c:=k)
 generalize zDb t a k=tt at *
 have h4:=h.a
 obtain ⟨l,nas,NA,nc,gns,GA,gc,total,gap,down,every,seats,pace,ats,AA,ac,p1,p2,p3⟩:=t
 unfold vTn zg at *
 simp only at hsa hsn hC hLi hT1 h4 i1 ⊢
 (refine zK (n:=55) Tryz.func10 rfl rfl rfl ?_)
 (repeat' (first|((with_reducible refine zG ?_);first|refine zD rfl rfl rfl ?_|refine zC rfl rfl rfl ?_|(refine zJ rfl rfl rfl ?_;refine ⟨_,rfl,?_⟩)|refine zL rfl rfl rfl ?_|refine z7 rfl rfl rfl rfl ?_|(refine zS rfl rfl rfl rfl rfl (fun h=>?_) (fun h=>?_)<;>(dsimp only [cmpP] at h;(try (exfalso;omega))))|refine zO rfl rfl rfl rfl (fun _ _ q=>hC _ q.below) ?_|(refine zO rfl rfl rfl rfl (fun _ _ q=>i1 ▸ zAW _ _ _ _) ?_)|(refine zO rfl rfl rfl rfl (fun _ _ q=>i2 ▸ zAW _ _ _ _) ?_)|refine zAI rfl rfl rfl ?_|refine zAc rfl rfl rfl rfl (IntWalk.i64_in _ (by omega)) ?_|refine zn rfl rfl rfl ?_|(refine zp rfl rfl rfl rfl (fun b=>?_)))|(with_reducible first|refine zI ?_|refine zB ?_|refine zE ?_|refine zA ?_|refine zR ?_|refine zQ ?_)|((with_reducible refine zF ?_ ?_);(· exact rfl))))
 refine zBa encI 1 3 ?_
 refine zAB (ι:=Nat × Value) [1,2,3] rfl (fun q=>q.1≤ats.length) (fun q=>[(10,.int .i64 (q.1:Int)),(9,q.2)]) (fun q=>[.row encI 1 3 q.2 (tt q.1),.blk b (zg ⟨l,nas,NA,nc,gns,GA,gc,total,gap,down,every,seats,pace,ats,AA,ac,p1,p2,p3⟩)]) (fun q=>ats.length - q.1) (0,.slice none 0 0) (Nat.zero_le _) (by (repeat first|exact lK1|refine zT rfl ?_)) (by rw [hT0];unfold zg;(repeat constructor)) ?_
 rintro ⟨i,v⟩ hi
 simp only at hi
 simp only [zAk,zg,List.cons_append,List.nil_append]
 have htl:=hTl i
 by_cases hil:i<ats.length
 rotate_left
 ·obtain rfl:i=ats.length:=by omega
  (repeat' (first|((with_reducible refine zG ?_);first|refine zD rfl rfl rfl ?_|refine zC rfl rfl rfl ?_|(refine zJ rfl rfl rfl ?_;refine ⟨_,rfl,?_⟩)|refine zL rfl rfl rfl ?_|(refine zS rfl rfl rfl rfl rfl (fun h=>?_) (fun h=>?_)<;>(dsimp only [cmpP] at h;(try (exfalso;omega))))|refine zn rfl rfl rfl ?_)|(with_reducible first|refine zI ?_|refine zB ?_|refine zE ?_|refine zA ?_|refine zV ?_|refine zz ?_|refine zZ ?_|refine ze ?_)|((with_reducible refine zF ?_ ?_);(· exact rfl))))
  refine zBT (xs:=tt ats.length) (enc:=encI) (by (repeat constructor)) ?_
  rintro A9 c9 rfl
  exact zP (by (exact zh.cons (by exact zAO.tmp rfl) (zh.cons (by exact zAO.tmp rfl) zh.nil))) (A9,c9) trivial rfl (fun _ h=>(h.zCN (xs:=tt ats.length) (enc:=encI) (by (repeat constructor))).sub (by (repeat constructor)))
 obtain ⟨x,hx⟩:∃ x,ats[i]?=some x:=⟨_,List.getElem?_eq_getElem hil⟩
 have:zAT ats i x:=⟨hx⟩
 obtain ⟨bA,oA,hAe,hAl,hAc⟩:=h4.at_ hil
 subst hAe
 have:InS w bA oA zB1 4 ats:=⟨h4⟩
 have hL:=hLi i x hx
 have hT2:=hT1 i x hx
 generalize zDS ⟨l,nas,NA,nc,gns,GA,gc,total,gap,down,every,seats,pace,ats,some ⟨bA,oA,none⟩,ac,p1,p2,p3⟩ x k=li at *
 obtain ⟨id,na,ag,RA,rides,rc⟩:=x
 simp only at hT2
 by_cases hA:na=a∧li=2
 ·rw [if_pos hA] at hT2
  (repeat' (first|((with_reducible refine zG ?_);first|refine zD rfl rfl rfl ?_|refine zC rfl rfl rfl ?_|(refine zJ rfl rfl rfl ?_;refine ⟨_,rfl,?_⟩)|refine zL rfl rfl rfl ?_|refine z7 rfl rfl rfl rfl ?_|(refine zS rfl rfl rfl rfl rfl (fun h=>?_) (fun h=>?_)<;>(dsimp only [cmpP] at h;(try (exfalso;omega))))|refine zo (I:=i) rfl rfl rfl rfl rfl (by omega) ?_|refine zO rfl rfl rfl rfl (fun _ _ q=>hL _ q.below) ?_|(refine zB6 (enc:=encI) [_] rfl rfl rfl (by (repeat constructor)) rfl rfl (zAF (by exact rfl)) (by refine ⟨?_,by decide⟩;(try simp only [List.length_append,List.length_cons,List.length_nil]);omega) (fun A' c'=>?_))|refine zu rfl rfl rfl rfl (by omega) ?_|refine zn rfl rfl rfl ?_|(refine zi rfl rfl rfl ?_;refine ⟨rfl,_,rfl,fun b=>?_⟩))|(with_reducible first|refine zI ?_|refine zB ?_|refine zE ?_|refine zA ?_|refine zR ?_|refine zQ ?_|refine zj ?_)|((with_reducible refine zH ?_ ?_);(· exact rfl))))
  exact zd (ι:=Nat × Value) (i+1,.slice A' (tt i++[(i:Int)]).length c') (by simp only;omega) (by simp only;omega) (by (repeat first|exact lK1|refine zT rfl ?_)) (by rw [hT2];(repeat constructor))
 ·rw [if_neg hA,List.append_nil] at hT2
  (repeat' (first|((with_reducible refine zG ?_);first|refine zD rfl rfl rfl ?_|refine zC rfl rfl rfl ?_|(refine zJ rfl rfl rfl ?_;refine ⟨_,rfl,?_⟩)|refine zL rfl rfl rfl ?_|refine z7 rfl rfl rfl rfl ?_|refine zf rfl rfl rfl ?_|(refine zS rfl rfl rfl rfl rfl (fun h=>?_) (fun h=>?_)<;>(dsimp only [cmpP] at h;(try (exfalso;omega))))|refine zo (I:=i) rfl rfl rfl rfl rfl (by omega) ?_|refine zO rfl rfl rfl rfl (fun _ _ q=>hL _ q.below) ?_|refine zu rfl rfl rfl rfl (by omega) ?_|refine zn rfl rfl rfl ?_)|(with_reducible first|refine zI ?_|refine zB ?_|refine zE ?_|refine zA ?_|refine zR ?_|refine zQ ?_|refine zj ?_)|((with_reducible refine zH ?_ ?_);(· exact rfl))|((with_reducible refine zF ?_ ?_);(· exact rfl))))
  all_goals exact zd (ι:=Nat × Value) (i+1,v) (by simp only;omega) (by simp only;omega) (by (repeat first|exact lK1|refine zT rfl ?_)) (by rw [hT2];(repeat constructor))
end Go.Proofs.YtfiekidciiighaaGreat.Two
namespace Go.Proofs.YtfiekidciiighaaGreat.Two
variable {ro : Option Nat}
open Go.RowKit
set_option maxRecDepth 20000
theorem uin_fn (x lo hi:Int) (b c:Nat) (w:World) (h1:InC w b 0 [.int .i64 lo]) (h2:InC w c 0 [.int .i64 hi]):Gv Tryz.prog 32 [.int .i64 x,.pointer (some ⟨b,0,none⟩),.pointer (some ⟨c,0,none⟩)] w (.bool (!inB lo hi x)):=by
 unfold Gv
 (refine zK (n:=13) Tryz.func32 rfl rfl rfl ?_)
 (repeat' (first|((with_reducible refine zG ?_);first|refine zD rfl rfl rfl ?_|refine zC rfl rfl rfl ?_|(refine zJ rfl rfl rfl ?_;refine ⟨_,rfl,?_⟩)|refine z7 rfl rfl rfl rfl ?_|refine zf rfl rfl rfl ?_|(refine zS rfl rfl rfl rfl rfl (fun h=>?_) (fun h=>?_)<;>(dsimp only [cmpP] at h;(try (exfalso;omega)))))|(with_reducible first|refine zI ?_|refine zB ?_|refine zE ?_|refine zA ?_|refine zV ?_)))
 all_goals exact zP (by exact rTm rfl) () trivial (by simp [resV,inB];omega) (fun _ h=>h.sub (by (repeat constructor)))
theorem zK4 (lo hi:Int) (l:List Int) (A:Option Addr) (cap:Nat) (w:World) (hk:zAC encI 1 w A l) (hl:l.length≤1000000):Gv Tryz.prog 20 [.int .i64 lo,.int .i64 hi,.slice A l.length cap] w (.bool (l.all (inB lo hi))):=by
 unfold Gv
 rw [← zI3]
 (refine zK (n:=11) Tryz.func20 rfl rfl rfl ?_)
 (repeat' (first|((with_reducible refine zG ?_);first|refine zD rfl rfl rfl ?_|refine zC rfl rfl rfl ?_|refine zO rfl rfl rfl rfl (fun _ _ q=>ci_con l A cap _ _ (fun n=>!inB lo hi n) _ (hk.below q.below) hl (fun x W' _ hW'=>uin_fn x lo hi _ _ W' (zA7 q.own hW' rfl) (zA7 q.own hW' rfl))) ?_|refine zAI rfl rfl rfl ?_|(refine zp rfl rfl rfl rfl (fun b=>?_))|refine zB2 rfl rfl rfl rfl ?_)|(with_reducible first|refine zI ?_|refine zB ?_|refine zE ?_|refine zA ?_|refine zV ?_)))
 all_goals exact zP (by exact rTm rfl) () trivial rfl (fun _ h=>h.sub (by (repeat constructor)))
theorem uin1 (lo hi a:Int) (c:Nat) (A:Option Addr) (w:World) (hk:zAC encI 1 w A [a]):Gv Tryz.prog 20 [.int .i64 lo,.int .i64 hi,.slice A 1 c] w (.bool (inB lo hi a)):=by
 have:=zK4 lo hi [a] A c w hk (by simp)
 simpa using this
theorem uin3 (lo hi a b d:Int) (c:Nat) (A:Option Addr) (w:World) (hk:zAC encI 1 w A [a,b,d]):Gv Tryz.prog 20 [.int .i64 lo,.int .i64 hi,.slice A 3 c] w (.bool (inB lo hi a && inB lo hi b && inB lo hi d)):=by
 have:=zK4 lo hi [a,b,d] A c w hk (by simp)
 simpa [Bool.and_assoc] using this
theorem ck_na (a b d:Int) (w:World):Gv Tryz.prog 42 [.agg #[.int .i64 a,.int .i64 b,.int .i64 d]] w (.int .i64 a):=by
 unfold Gv
 (refine zK (n:=5) Tryz.func42 rfl rfl rfl ?_)
 (repeat' (first|((with_reducible refine zG ?_);first|refine zC rfl rfl rfl ?_|(refine zJ rfl rfl rfl ?_;refine ⟨_,rfl,?_⟩)|refine zL rfl rfl rfl ?_|(refine zp rfl rfl rfl rfl (fun b=>?_)))|(with_reducible first|refine zI ?_|refine zB ?_|refine zE ?_|refine zA ?_|refine zV ?_)))
 exact zP (by exact rTm rfl) () trivial rfl (fun _ h=>h.sub (by (repeat constructor)))
set_option maxHeartbeats 2000000 in
theorem zE0 (l:List Na) (A:Option Addr) (c:Nat) (lo hi:Int) (w:World) (hA:zAC zEs 3 w A l) (hl:l.length≤1000) (h0:0≤lo) (hh:hi≤1000000):Gv Tryz.prog 41 [.slice A l.length c,.int .i64 lo,.int .i64 hi,.func (.func 42) #[] #[]] w (.bool (zCm lo hi (l.map (·.id)))):=by
 have hiff:=zD5 (lo:=lo) (hi:=hi) (l:=l.map (·.id))
 have hah:=fun (i:Nat) x (hx:l[i]?=some x)=>zCq (lo:=lo) (l:=l.map (·.id)) (i:=i) (x:=x.id) (by rw [List.getElem?_map,hx];rfl)
 have ha0:zC0 lo (l.map (·.id)) 0=lo:=rfl
 obtain ⟨B,hB⟩:∃ B,B=zCm lo hi (l.map (·.id)):=⟨_,rfl⟩
 rw [← hB] at hiff ⊢
 clear hB
 have hat:∀ (i:Nat) x,l[i]?=some x→(l.map (·.id))[i]?=some x.id:=fun i x hx=>by rw [List.getElem?_map,hx];rfl
 have hml:(l.map (·.id)).length=l.length:=List.length_map _
 generalize l.map (·.id)=L at *
 generalize zC0 lo L=ah at *
 unfold Gv
 (refine zK (n:=30) Tryz.func41 rfl rfl rfl ?_)
 (repeat' (first|((with_reducible refine zG ?_);first|refine zD rfl rfl rfl ?_|refine zC rfl rfl rfl ?_|refine zn rfl rfl rfl ?_)|(with_reducible first|refine zI ?_|refine zB ?_|refine zE ?_|refine zA ?_|refine zQ ?_)))
 refine zAB (ι:=Nat) [2,3,11,12] rfl (fun i=>i≤l.length∧0≤ah i∧∀ (j:Nat) x,j<i→L[j]?=some x→inB (ah j) hi x=true) (fun i=>[(13,.int .i64 (i:Int)),(1,.int .i64 (ah i))]) (fun _=>[]) (fun i=>l.length - i) 0 ⟨Nat.zero_le _,by omega,fun j x hj=>absurd hj (Nat.not_lt_zero _)⟩ (by rw [ha0];(repeat first|exact lK1|refine zT rfl ?_)) (by (repeat constructor)) ?_
 rintro i ⟨hi',hp,hall⟩
 simp only [zAk,List.cons_append,List.nil_append]
 by_cases hlt:i<l.length
 ·obtain ⟨x,hx⟩:∃ x,l[i]?=some x:=⟨_,List.getElem?_eq_getElem hlt⟩
  have:zAT l i x:=⟨hx⟩
  obtain ⟨bA,oA,rfl,_,_⟩:=hA.at_ hlt
  have:InS w bA oA zEs 3 l:=⟨hA⟩
  have h1:=hah i x hx
  have h2:=hat i x hx
  obtain ⟨x1,x2,x3⟩:=x
  simp only at h1 h2
  cases hin:inB (ah i) hi x1 with
  | false =>
   have e:B=false:=by cases B with|false=>rfl|true=>have:=hiff.1 rfl i _ h2;rw [hin] at this;cases this
   subst e
   (repeat' (first|((with_reducible refine zG ?_);first|refine zD rfl rfl rfl ?_|refine zC rfl rfl rfl ?_|(refine zJ rfl rfl rfl ?_;refine ⟨_,rfl,?_⟩)|(refine zS rfl rfl rfl rfl rfl (fun h=>?_) (fun h=>?_)<;>(dsimp only [cmpP] at h;(try (exfalso;omega))))|refine zo (I:=i) rfl rfl rfl rfl rfl (by omega) ?_|refine zO rfl rfl rfl rfl (fun _ _ q=>ck_na x1 x2 x3 _) ?_|(refine zO rfl rfl rfl rfl (fun _ _ q=>hin ▸ uin1 _ _ _ _ _ _ (zAF (enc:=encI) (by exact rfl) _ q.below q.own)) ?_)|refine zAI rfl rfl rfl ?_|(refine zX rfl rfl rfl rfl rfl ?_;refine ⟨rfl,by first|decide|exact Nat.le_of_ble_eq_true rfl|(simp;omega),_,rfl,?_⟩)|(refine zb rfl rfl (fun b=>?_))|(refine zi rfl rfl rfl ?_;refine ⟨rfl,_,rfl,fun b=>?_⟩))|(with_reducible first|refine zI ?_|refine zB ?_|refine zE ?_|refine zA ?_|refine zV ?_|refine zR ?_|refine zU ?_|refine zQ ?_|refine zAV ?_)|((with_reducible refine zH ?_ ?_);(· exact rfl))))
   exact zP (by exact rTm rfl) () trivial rfl (fun _ h=>h.sub (by (repeat constructor)))
  | true =>
   have h3:=zAA.1 hin
   (repeat' (first|((with_reducible refine zG ?_);first|refine zD rfl rfl rfl ?_|refine zC rfl rfl rfl ?_|(refine zJ rfl rfl rfl ?_;refine ⟨_,rfl,?_⟩)|(refine zS rfl rfl rfl rfl rfl (fun h=>?_) (fun h=>?_)<;>(dsimp only [cmpP] at h;(try (exfalso;omega))))|refine zo (I:=i) rfl rfl rfl rfl rfl (by omega) ?_|refine zO rfl rfl rfl rfl (fun _ _ q=>ck_na x1 x2 x3 _) ?_|(refine zO rfl rfl rfl rfl (fun _ _ q=>hin ▸ uin1 _ _ _ _ _ _ (zAF (enc:=encI) (by exact rfl) _ q.below q.own)) ?_)|refine zAI rfl rfl rfl ?_|refine zu rfl rfl rfl rfl (by omega) ?_|refine zBp rfl rfl rfl rfl (IntWalk.i64_in _ (by omega)) ?_|(refine zX rfl rfl rfl rfl rfl ?_;refine ⟨rfl,by first|decide|exact Nat.le_of_ble_eq_true rfl|(simp;omega),_,rfl,?_⟩)|(refine zb rfl rfl (fun b=>?_))|(refine zi rfl rfl rfl ?_;refine ⟨rfl,_,rfl,fun b=>?_⟩))|(with_reducible first|refine zI ?_|refine zB ?_|refine zE ?_|refine zA ?_|refine zR ?_|refine zQ ?_|refine zj ?_)|((with_reducible refine zH ?_ ?_);(· exact rfl))|((with_reducible refine zF ?_ ?_);(· exact rfl))))
   refine zd (ι:=Nat) (i+1) ⟨by omega,by rw [h1];omega,fun j y hj hy=>?_⟩ (by omega) (by rw [h1];(repeat first|exact lK1|refine zT rfl ?_)) (by (repeat constructor))
   rcases Nat.lt_succ_iff_lt_or_eq.1 hj with h9|rfl
   ·exact hall j y h9 hy
   ·rw [h2] at hy;cases hy;exact hin
 ·have e:B=true:=hiff.2 fun i x hx=>hall i x (by have:=(List.getElem?_eq_some_iff.1 hx).1;omega) hx
  subst e
  (repeat' (first|((with_reducible refine zG ?_);first|refine zC rfl rfl rfl ?_|(refine zS rfl rfl rfl rfl rfl (fun h=>?_) (fun h=>?_)<;>(dsimp only [cmpP] at h;(try (exfalso;omega)))))|(with_reducible first|refine zI ?_|refine zB ?_|refine zE ?_|refine zA ?_|refine zV ?_|refine zz ?_|refine zZ ?_|refine ze ?_)|((with_reducible refine zF ?_ ?_);(· exact rfl))))
  exact zP (by exact rTm rfl) () trivial rfl (fun _ h=>h.sub (by (repeat constructor)))
theorem ck_gn (a b:Int) (w:World):Gv Tryz.prog 44 [.agg #[.int .i64 a,.int .i64 b]] w (.int .i64 a):=by
 unfold Gv
 (refine zK (n:=5) Tryz.func44 rfl rfl rfl ?_)
 (repeat' (first|((with_reducible refine zG ?_);first|refine zC rfl rfl rfl ?_|(refine zJ rfl rfl rfl ?_;refine ⟨_,rfl,?_⟩)|refine zL rfl rfl rfl ?_|(refine zp rfl rfl rfl rfl (fun b=>?_)))|(with_reducible first|refine zI ?_|refine zB ?_|refine zE ?_|refine zA ?_|refine zV ?_)))
 exact zP (by exact rTm rfl) () trivial rfl (fun _ h=>h.sub (by (repeat constructor)))
set_option maxHeartbeats 2000000 in
theorem zF8 (l:List Gn) (A:Option Addr) (c:Nat) (lo hi:Int) (w:World) (hA:zAC zEt 2 w A l) (hl:l.length≤1000) (h0:0≤lo) (hh:hi≤1000000):Gv Tryz.prog 43 [.slice A l.length c,.int .i64 lo,.int .i64 hi,.func (.func 44) #[] #[]] w (.bool (zCm lo hi (l.map (·.nation)))):=by
 have hiff:=zD5 (lo:=lo) (hi:=hi) (l:=l.map (·.nation))
 have hah:=fun (i:Nat) x (hx:l[i]?=some x)=>zCq (lo:=lo) (l:=l.map (·.nation)) (i:=i) (x:=x.nation) (by rw [List.getElem?_map,hx];rfl)
 have ha0:zC0 lo (l.map (·.nation)) 0=lo:=rfl
 obtain ⟨B,hB⟩:∃ B,B=zCm lo hi (l.map (·.nation)):=⟨_,rfl⟩
 rw [← hB] at hiff ⊢
 clear hB
 have hat:∀ (i:Nat) x,l[i]?=some x→(l.map (·.nation))[i]?=some x.nation:=fun i x hx=>by rw [List.getElem?_map,hx];rfl
 have hml:(l.map (·.nation)).length=l.length:=List.length_map _
 generalize l.map (·.nation)=L at *
 generalize zC0 lo L=ah at *
 unfold Gv
 (refine zK (n:=30) Tryz.func43 rfl rfl rfl ?_)
 (repeat' (first|((with_reducible refine zG ?_);first|refine zD rfl rfl rfl ?_|refine zC rfl rfl rfl ?_|refine zn rfl rfl rfl ?_)|(with_reducible first|refine zI ?_|refine zB ?_|refine zE ?_|refine zA ?_|refine zQ ?_)))
 refine zAB (ι:=Nat) [2,3,11,12] rfl (fun i=>i≤l.length∧0≤ah i∧∀ (j:Nat) x,j<i→L[j]?=some x→inB (ah j) hi x=true) (fun i=>[(13,.int .i64 (i:Int)),(1,.int .i64 (ah i))]) (fun _=>[]) (fun i=>l.length - i) 0 ⟨Nat.zero_le _,by omega,fun j x hj=>absurd hj (Nat.not_lt_zero _)⟩ (by rw [ha0];(repeat first|exact lK1|refine zT rfl ?_)) (by (repeat constructor)) ?_
 rintro i ⟨hi',hp,hall⟩
 simp only [zAk,List.cons_append,List.nil_append]
 by_cases hlt:i<l.length
 ·obtain ⟨x,hx⟩:∃ x,l[i]?=some x:=⟨_,List.getElem?_eq_getElem hlt⟩
  have:zAT l i x:=⟨hx⟩
  obtain ⟨bA,oA,rfl,_,_⟩:=hA.at_ hlt
  have:InS w bA oA zEt 2 l:=⟨hA⟩
  have h1:=hah i x hx
  have h2:=hat i x hx
  obtain ⟨x1,x2⟩:=x
  simp only at h1 h2
  cases hin:inB (ah i) hi x1 with
  | false =>
   have e:B=false:=by cases B with|false=>rfl|true=>have:=hiff.1 rfl i _ h2;rw [hin] at this;cases this
   subst e
   (repeat' (first|((with_reducible refine zG ?_);first|refine zD rfl rfl rfl ?_|refine zC rfl rfl rfl ?_|(refine zJ rfl rfl rfl ?_;refine ⟨_,rfl,?_⟩)|(refine zS rfl rfl rfl rfl rfl (fun h=>?_) (fun h=>?_)<;>(dsimp only [cmpP] at h;(try (exfalso;omega))))|refine zo (I:=i) rfl rfl rfl rfl rfl (by omega) ?_|refine zO rfl rfl rfl rfl (fun _ _ q=>ck_gn x1 x2 _) ?_|(refine zO rfl rfl rfl rfl (fun _ _ q=>hin ▸ uin1 _ _ _ _ _ _ (zAF (enc:=encI) (by exact rfl) _ q.below q.own)) ?_)|refine zAI rfl rfl rfl ?_|(refine zX rfl rfl rfl rfl rfl ?_;refine ⟨rfl,by first|decide|exact Nat.le_of_ble_eq_true rfl|(simp;omega),_,rfl,?_⟩)|(refine zb rfl rfl (fun b=>?_))|(refine zi rfl rfl rfl ?_;refine ⟨rfl,_,rfl,fun b=>?_⟩))|(with_reducible first|refine zI ?_|refine zB ?_|refine zE ?_|refine zA ?_|refine zV ?_|refine zR ?_|refine zU ?_|refine zQ ?_|refine zAV ?_)|((with_reducible refine zH ?_ ?_);(· exact rfl))))
   exact zP (by exact rTm rfl) () trivial rfl (fun _ h=>h.sub (by (repeat constructor)))
  | true =>
   have h3:=zAA.1 hin
   (repeat' (first|((with_reducible refine zG ?_);first|refine zD rfl rfl rfl ?_|refine zC rfl rfl rfl ?_|(refine zJ rfl rfl rfl ?_;refine ⟨_,rfl,?_⟩)|(refine zS rfl rfl rfl rfl rfl (fun h=>?_) (fun h=>?_)<;>(dsimp only [cmpP] at h;(try (exfalso;omega))))|refine zo (I:=i) rfl rfl rfl rfl rfl (by omega) ?_|refine zO rfl rfl rfl rfl (fun _ _ q=>ck_gn x1 x2 _) ?_|(refine zO rfl rfl rfl rfl (fun _ _ q=>hin ▸ uin1 _ _ _ _ _ _ (zAF (enc:=encI) (by exact rfl) _ q.below q.own)) ?_)|refine zAI rfl rfl rfl ?_|refine zu rfl rfl rfl rfl (by omega) ?_|refine zBp rfl rfl rfl rfl (IntWalk.i64_in _ (by omega)) ?_|(refine zX rfl rfl rfl rfl rfl ?_;refine ⟨rfl,by first|decide|exact Nat.le_of_ble_eq_true rfl|(simp;omega),_,rfl,?_⟩)|(refine zb rfl rfl (fun b=>?_))|(refine zi rfl rfl rfl ?_;refine ⟨rfl,_,rfl,fun b=>?_⟩))|(with_reducible first|refine zI ?_|refine zB ?_|refine zE ?_|refine zA ?_|refine zR ?_|refine zQ ?_|refine zj ?_)|((with_reducible refine zH ?_ ?_);(· exact rfl))|((with_reducible refine zF ?_ ?_);(· exact rfl))))
   refine zd (ι:=Nat) (i+1) ⟨by omega,by rw [h1];omega,fun j y hj hy=>?_⟩ (by omega) (by rw [h1];(repeat first|exact lK1|refine zT rfl ?_)) (by (repeat constructor))
   rcases Nat.lt_succ_iff_lt_or_eq.1 hj with h9|rfl
   ·exact hall j y h9 hy
   ·rw [h2] at hy;cases hy;exact hin
 ·have e:B=true:=hiff.2 fun i x hx=>hall i x (by have:=(List.getElem?_eq_some_iff.1 hx).1;omega) hx
  subst e
  (repeat' (first|((with_reducible refine zG ?_);first|refine zC rfl rfl rfl ?_|(refine zS rfl rfl rfl rfl rfl (fun h=>?_) (fun h=>?_)<;>(dsimp only [cmpP] at h;(try (exfalso;omega)))))|(with_reducible first|refine zI ?_|refine zB ?_|refine zE ?_|refine zA ?_|refine zV ?_|refine zz ?_|refine zZ ?_|refine ze ?_)|((with_reducible refine zF ?_ ?_);(· exact rfl))))
  exact zP (by exact rTm rfl) () trivial rfl (fun _ h=>h.sub (by (repeat constructor)))
theorem ck_at (a b d:Int) (v:Value) (w:World):Gv Tryz.prog 46 [.agg #[.int .i64 a,.int .i64 b,.int .i64 d,v]] w (.int .i64 a):=by
 unfold Gv
 (refine zK (n:=5) Tryz.func46 rfl rfl rfl ?_)
 (repeat' (first|((with_reducible refine zG ?_);first|refine zC rfl rfl rfl ?_|(refine zJ rfl rfl rfl ?_;refine ⟨_,rfl,?_⟩)|refine zL rfl rfl rfl ?_|(refine zp rfl rfl rfl rfl (fun b=>?_)))|(with_reducible first|refine zI ?_|refine zB ?_|refine zE ?_|refine zA ?_|refine zV ?_)))
 exact zP (by exact rTm rfl) () trivial rfl (fun _ h=>h.sub (by (repeat constructor)))
set_option maxHeartbeats 2000000 in
theorem zH3 (l:List AtM) (A:Option Addr) (c:Nat) (lo hi:Int) (w:World) (hA:zAC zB1 4 w A l) (hl:l.length≤1000) (h0:0≤lo) (hh:hi≤1000000):Gv Tryz.prog 45 [.slice A l.length c,.int .i64 lo,.int .i64 hi,.func (.func 46) #[] #[]] w (.bool (zCm lo hi (l.map (·.id)))):=by
 have hiff:=zD5 (lo:=lo) (hi:=hi) (l:=l.map (·.id))
 have hah:=fun (i:Nat) x (hx:l[i]?=some x)=>zCq (lo:=lo) (l:=l.map (·.id)) (i:=i) (x:=x.id) (by rw [List.getElem?_map,hx];rfl)
 have ha0:zC0 lo (l.map (·.id)) 0=lo:=rfl
 obtain ⟨B,hB⟩:∃ B,B=zCm lo hi (l.map (·.id)):=⟨_,rfl⟩
 rw [← hB] at hiff ⊢
 clear hB
 have hat:∀ (i:Nat) x,l[i]?=some x→(l.map (·.id))[i]?=some x.id:=fun i x hx=>by rw [List.getElem?_map,hx];rfl
 have hml:(l.map (·.id)).length=l.length:=List.length_map _
 generalize l.map (·.id)=L at *
 generalize zC0 lo L=ah at *
 unfold Gv
 (refine zK (n:=30) Tryz.func45 rfl rfl rfl ?_)
 (repeat' (first|((with_reducible refine zG ?_);first|refine zD rfl rfl rfl ?_|refine zC rfl rfl rfl ?_|refine zn rfl rfl rfl ?_)|(with_reducible first|refine zI ?_|refine zB ?_|refine zE ?_|refine zA ?_|refine zQ ?_)))
 refine zAB (ι:=Nat) [2,3,11,12] rfl (fun i=>i≤l.length∧0≤ah i∧∀ (j:Nat) x,j<i→L[j]?=some x→inB (ah j) hi x=true) (fun i=>[(13,.int .i64 (i:Int)),(1,.int .i64 (ah i))]) (fun _=>[]) (fun i=>l.length - i) 0 ⟨Nat.zero_le _,by omega,fun j x hj=>absurd hj (Nat.not_lt_zero _)⟩ (by rw [ha0];(repeat first|exact lK1|refine zT rfl ?_)) (by (repeat constructor)) ?_
 rintro i ⟨hi',hp,hall⟩
 simp only [zAk,List.cons_append,List.nil_append]
 by_cases hlt:i<l.length
 ·obtain ⟨x,hx⟩:∃ x,l[i]?=some x:=⟨_,List.getElem?_eq_getElem hlt⟩
  have:zAT l i x:=⟨hx⟩
  obtain ⟨bA,oA,rfl,_,_⟩:=hA.at_ hlt
  have:InS w bA oA zB1 4 l:=⟨hA⟩
  have h1:=hah i x hx
  have h2:=hat i x hx
  obtain ⟨x1,x2,x3,RA,rd,rc⟩:=x
  simp only at h1 h2
  cases hin:inB (ah i) hi x1 with
  | false =>
   have e:B=false:=by cases B with|false=>rfl|true=>have:=hiff.1 rfl i _ h2;rw [hin] at this;cases this
   subst e
   (repeat' (first|((with_reducible refine zG ?_);first|refine zD rfl rfl rfl ?_|refine zC rfl rfl rfl ?_|(refine zJ rfl rfl rfl ?_;refine ⟨_,rfl,?_⟩)|(refine zS rfl rfl rfl rfl rfl (fun h=>?_) (fun h=>?_)<;>(dsimp only [cmpP] at h;(try (exfalso;omega))))|refine zo (I:=i) rfl rfl rfl rfl rfl (by omega) ?_|refine zO rfl rfl rfl rfl (fun _ _ q=>ck_at x1 x2 x3 _ _) ?_|(refine zO rfl rfl rfl rfl (fun _ _ q=>hin ▸ uin1 _ _ _ _ _ _ (zAF (enc:=encI) (by exact rfl) _ q.below q.own)) ?_)|refine zAI rfl rfl rfl ?_|(refine zX rfl rfl rfl rfl rfl ?_;refine ⟨rfl,by first|decide|exact Nat.le_of_ble_eq_true rfl|(simp;omega),_,rfl,?_⟩)|(refine zb rfl rfl (fun b=>?_))|(refine zi rfl rfl rfl ?_;refine ⟨rfl,_,rfl,fun b=>?_⟩))|(with_reducible first|refine zI ?_|refine zB ?_|refine zE ?_|refine zA ?_|refine zV ?_|refine zR ?_|refine zU ?_|refine zQ ?_|refine zAV ?_)|((with_reducible refine zH ?_ ?_);(· exact rfl))))
   exact zP (by exact rTm rfl) () trivial rfl (fun _ h=>h.sub (by (repeat constructor)))
  | true =>
   have h3:=zAA.1 hin
   (repeat' (first|((with_reducible refine zG ?_);first|refine zD rfl rfl rfl ?_|refine zC rfl rfl rfl ?_|(refine zJ rfl rfl rfl ?_;refine ⟨_,rfl,?_⟩)|(refine zS rfl rfl rfl rfl rfl (fun h=>?_) (fun h=>?_)<;>(dsimp only [cmpP] at h;(try (exfalso;omega))))|refine zo (I:=i) rfl rfl rfl rfl rfl (by omega) ?_|refine zO rfl rfl rfl rfl (fun _ _ q=>ck_at x1 x2 x3 _ _) ?_|(refine zO rfl rfl rfl rfl (fun _ _ q=>hin ▸ uin1 _ _ _ _ _ _ (zAF (enc:=encI) (by exact rfl) _ q.below q.own)) ?_)|refine zAI rfl rfl rfl ?_|refine zu rfl rfl rfl rfl (by omega) ?_|refine zBp rfl rfl rfl rfl (IntWalk.i64_in _ (by omega)) ?_|(refine zX rfl rfl rfl rfl rfl ?_;refine ⟨rfl,by first|decide|exact Nat.le_of_ble_eq_true rfl|(simp;omega),_,rfl,?_⟩)|(refine zb rfl rfl (fun b=>?_))|(refine zi rfl rfl rfl ?_;refine ⟨rfl,_,rfl,fun b=>?_⟩))|(with_reducible first|refine zI ?_|refine zB ?_|refine zE ?_|refine zA ?_|refine zR ?_|refine zQ ?_|refine zj ?_)|((with_reducible refine zH ?_ ?_);(· exact rfl))|((with_reducible refine zF ?_ ?_);(· exact rfl))))
   refine zd (ι:=Nat) (i+1) ⟨by omega,by rw [h1];omega,fun j y hj hy=>?_⟩ (by omega) (by rw [h1];(repeat first|exact lK1|refine zT rfl ?_)) (by (repeat constructor))
   rcases Nat.lt_succ_iff_lt_or_eq.1 hj with h9|rfl
   ·exact hall j y h9 hy
   ·rw [h2] at hy;cases hy;exact hin
 ·have e:B=true:=hiff.2 fun i x hx=>hall i x (by have:=(List.getElem?_eq_some_iff.1 hx).1;omega) hx
  subst e
  (repeat' (first|((with_reducible refine zG ?_);first|refine zC rfl rfl rfl ?_|(refine zS rfl rfl rfl rfl rfl (fun h=>?_) (fun h=>?_)<;>(dsimp only [cmpP] at h;(try (exfalso;omega)))))|(with_reducible first|refine zI ?_|refine zB ?_|refine zE ?_|refine zA ?_|refine zV ?_|refine zz ?_|refine zZ ?_|refine ze ?_)|((with_reducible refine zF ?_ ?_);(· exact rfl))))
  exact zP (by exact rTm rfl) () trivial rfl (fun _ h=>h.sub (by (repeat constructor)))
end Go.Proofs.YtfiekidciiighaaGreat.Two
