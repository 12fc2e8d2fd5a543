/- A13 -/
import Derived.Test.YtfiekidciiighaaGreatA10
set_option linter.unusedSimpArgs false
set_option linter.unusedVariables false
namespace Go.Proofs.YtfiekidciiighaaGreat
open Go.RowKit
set_option maxRecDepth 20000
theorem zBy {t:List St} {s:Spot} (h:zAd t s=true) (ho:∀ s∈t,zFu s):0≤s.off.lo∧s.off.lo≤s.off.hi∧s.off.hi≤30000:=by
 obtain ⟨I,hI,hlt⟩:=zBU h
 obtain ⟨st,off⟩:=s
 simp only at hI ⊢
 subst hI
 rw [zF5 hlt,zBN] at h
 have:=(ho t[I] (List.getElem_mem hlt)).l1
 have:=(ho t[I] (List.getElem_mem hlt)).l2
 omega
theorem stand_1 (t:List St) (s:Spot):decide ((picks (zDD t) [s]).length=0)=zAd t s:=by
 have e:picks (zDD t) [s]=zB3 (zDD t) [s] (0+1):=rfl
 have h0:soAt (zDD t) [s] 0 = !zAd t s:=rfl
 rw [e]
 cases h:zAd t s
 ·rw [zDr (by rw [h0,h];rfl)];simp
 ·rw [zEL (by rw [h0,h];rfl)];simp [zB3]
theorem stand_2 (t:List St) (a b:Spot):decide ((picks (zDD t) [a,b]).length=0)=(zAd t a && zAd t b):=by
 have e:picks (zDD t) [a,b]=zB3 (zDD t) [a,b] (0+1+1):=rfl
 have h0:soAt (zDD t) [a,b] 0 = !zAd t a:=rfl
 have h1:soAt (zDD t) [a,b] (0+1) = !zAd t b:=rfl
 rw [e]
 cases h:zAd t b
 ·rw [zDr (by rw [h1,h];rfl)];simp
 ·rw [zEL (by rw [h1,h];rfl)]
  cases h2:zAd t a
  ·rw [zDr (by rw [h0,h2];rfl)];simp
  ·rw [zEL (by rw [h0,h2];rfl)];simp [zB3]
set_option maxHeartbeats 1000000 in
theorem zG4 (t:List St) (A:Option Addr) (cap:Nat) (ss:List Spot) (B:Option Addr) (c:Nat) (w:World) (ht:zAC zBq 9 w A t) (ho:∀ s∈t,zFu s) (hl:t.length≤1000) (hs:zAC zBv 3 w B ss) (hsl:ss.length≤1000) :
  Gv Tryz.prog 103 [.agg #[.slice A t.length cap],.slice B ss.length c] w (.bool (decide ((picks (zDD t) ss).length=0))):=by
 unfold Gv
 have hpl:(picks (zDD t) ss).length≤ss.length:=zGU _ _ _
 (refine zK (n:=10) Tryz.func103 rfl rfl rfl ?_)
 (repeat' (first|((with_reducible refine zG ?_);first|refine zD rfl rfl rfl ?_|refine zC rfl rfl rfl ?_|(refine zS rfl rfl rfl rfl rfl (fun h=>?_) (fun h=>?_)<;>(dsimp only [cmpP] at h;(try (exfalso;omega))))|refine zCf rfl rfl rfl rfl (fun _ _ q=>(pickSpot ss _ _ _ _ (zDD t) _ (hs.below q.below) (by omega) (fun k o W hx hW=>zJH t A cap k o _ W ((ht.below q.below).below hW) ho hl (zJy q.own hW)))) (fun A' c'=>?_)|refine zn rfl rfl rfl ?_|(refine zp rfl rfl rfl rfl (fun b=>?_))|refine zB2 rfl rfl rfl rfl ?_)|(with_reducible first|refine zI ?_|refine zB ?_|refine zE ?_|refine zA ?_|refine zV ?_)))
 all_goals exact zP (by exact rTm rfl) () trivial (by first|exact congrArg Value.bool (decide_eq_true (by omega))|exact congrArg Value.bool (decide_eq_false (by omega))) (fun _ h=>h.sub (by (repeat constructor)))
theorem stands_1 (t:List St) (A:Option Addr) (cap:Nat) (s:Spot) (B:Option Addr) (w:World) (ht:zAC zBq 9 w A t) (ho:∀ s∈t,zFu s) (hl:t.length≤1000) (hs:zAC zBv 3 w B [s]) :
  Gv Tryz.prog 103 [.agg #[.slice A t.length cap],.slice B 1 1] w (.bool (zAd t s)):=by
 rw [← stand_1];exact zG4 t A cap [s] B 1 w ht ho hl hs (by simp)
theorem stands_2 (t:List St) (A:Option Addr) (cap:Nat) (a b:Spot) (B:Option Addr) (w:World) (ht:zAC zBq 9 w A t) (ho:∀ s∈t,zFu s) (hl:t.length≤1000) (hs:zAC zBv 3 w B [a,b]) :
  Gv Tryz.prog 103 [.agg #[.slice A t.length cap],.slice B 2 2] w (.bool (zAd t a && zAd t b)):=by
 rw [← stand_2];exact zG4 t A cap [a,b] B 2 w ht ho hl hs (by simp)
set_option maxHeartbeats 1000000 in
theorem zDX (t:List St) (A:Option Addr) (cap:Nat) (s:Spot) (w:World) (ht:zAC zBq 9 w A t) (ho:∀ s∈t,zFu s) (hl:t.length≤1000) :
  Gv Tryz.prog 65 [.agg #[.slice A t.length cap],zBx s] w (.bool (zAd t s)):=by
 unfold Gv zBx
 obtain ⟨st,off⟩:=s
 by_cases h:0≤st∧st≤(t.length:Int) - 1
 ·obtain ⟨I,rfl⟩:∃ I:Nat,st=I:=⟨st.toNat,by omega⟩
  have hI:I<t.length:=by omega
  rw [zF5 hI]
  have:zAT t I t[I]:=⟨by simp [hI]⟩
  obtain ⟨bb,o,rfl,hblt,hc⟩:=ht.at_ hI
  have:InS w bb o zBq 9 t:=⟨ht⟩
  obtain ⟨y1,y2,y3,y4,y5,y6,y7,y8⟩:=ho t[I] (List.getElem_mem hI)
  generalize t[I]=z at *
  (refine zK (n:=26) Tryz.func65 rfl rfl rfl ?_)
  (repeat' (first|((with_reducible refine zG ?_);first|refine zC rfl rfl rfl ?_|(refine zp rfl rfl rfl rfl (fun b=>?_)))|(with_reducible first|refine zI ?_|refine zB ?_|refine zE ?_|refine zA ?_)))
  (refine Two.z9 [] [] [] rfl (show ([]:List Nat).Nodup by decide) (fun _ h=>h) (by kernel_rfl) [[],[Z],[Y,Y],[Z,Y,Y],[Z,Z,Y,Y],[Z,Z,Z,Y,Y],[Z,Z,Z,Z,Z,Z],[Z,Z,Z,Z,Z,Z,Z],[Z,Z,Z,Z,Z,Z,Z,Z],[Z,Z,Z,Z,Z,Z,Z,Z,Z],[Y,Y,Z,Z,Z,Z,Z,Z,Z,Z],[Z,Y,Y,Z,Z,Z,Z,Z,Z,Z,Z],[Y,Y,Y,Y,Z,Z,Z,Z,Z,Z,Z,Z],[Z,Y,Y,Y,Y,Z,Z,Z,Z,Z,Z,Z,Z],[Z,Z,Z,Z,Y,Y,Z,Z,Z,Z,Z,Z,Z,Z],[Z,Z,Z,Z,Z,Y,Y,Z,Z,Z,Z,Z,Z,Z,Z],[Z,Z,Z,Z,Z,Z,Y,Y,Z,Z,Z,Z,Z,Z,Z,Z],[Z,Z,Z,Z,Z,Z,Z,Y,Y,Z,Z,Z,Z,Z,Z,Z,Z],[Z,Z,Z,Z,Z,Z,Z,Z,Y,Y,Z,Z,Z,Z,Z,Z,Z,Z],[Z,Z,Z,Z,Z,Z,Z,Z,Z,Z,Z,Z,Z,Z,Z,Z,Z,Z,Z],[Z,Z,Z,Z,Z,Z,Z,Z,Z,Z,Z,Z,Z,Z,Z,Z,Z,Z,Z,Z],[Z,Z,Z,Z,Z,Z,Z,Z,Z,Z,Z,Z,Z,Z,Z,Z,Z,Z,Z,Z,Z]] (by kernel_rfl) (by kernel_rfl) (by kernel_rfl) (by kernel_rfl) (by kernel_rfl) ?_)
  (repeat' (first|(((with_reducible refine Two.zA0 ?_ ?_);(· exact rfl);refine ⟨_,fun G=>(by (try simp (decide:=true) only [Two.vis,Two.see,fltT,zq,Nat.reduceAdd,Nat.reduceSub,if_true,if_false,List.set_cons_zero,List.set_cons_succ,List.set_nil,List.nil_append,List.cons_append]);rfl),?_⟩);first|refine Two.zN _ (fun _=>zl rfl rfl) (fun _=>rfl) rfl (by intro G G' h;simp (decide:=true) only [h]) ?_|refine Two.zN _ (fun _=>zW rfl rfl (by exact rfl)) (fun _=>rfl) rfl (by intro G G' h;simp (decide:=true) only [h]) ?_|(refine Two.zm rfl ?_;refine Two.zN _ (fun _=>zY rfl rfl) (fun _=>rfl) rfl (by intro G G' h;simp (decide:=true) only [h]) ?_)|refine Two.zN _ (fun _=>zAh rfl rfl rfl) (fun _=>rfl) rfl (by intro G G' h;simp (decide:=true) only [h]) ?_|refine Two.zN _ (fun _=>zt rfl rfl) (fun _=>rfl) rfl (by intro G G' h;simp (decide:=true) only [h]) ?_|(refine Two.zEH rfl (fun _=>rfl) rfl (fun _=>rfl) (fun _=>rfl) (fun _ _ _ _=>(zCg _ _ _ _).gv) (fun h=>?_) (fun h=>?_)<;>((try simp only [zAA,zBO,zBN,zCA] at h);(try (exfalso;omega))))|(refine Two.zEH rfl (fun _=>rfl) rfl (fun _=>rfl) (fun _=>rfl) (fun _ _ _ _=>(zFd off 0 _ _).gv) (fun h=>?_) (fun h=>?_)<;>((try simp only [zAA,zBO,zBN,zCA] at h);(try (exfalso;omega))))|refine Two.zN _ (fun _=>zBW rfl rfl rfl (IntWalk.i64_in _ (by omega))) (fun _=>rfl) rfl (by intro G G' h;simp (decide:=true) only [h]) ?_|refine Two.zN _ (fun _=>zw rfl rfl rfl rfl (by omega)) (fun _=>rfl) rfl (by intro G G' h;simp (decide:=true) only [h]) ?_|refine Two.zN _ (fun _=>zEu rfl rfl) (fun _=>rfl) rfl (by intro G G' h;simp (decide:=true) only [h]) ?_)|(with_reducible refine Two.zAx ?_)))
  all_goals
   (intro G;simp only [regsT,zq,Two.zAa,Two.ini,List.nil_append,List.cons_append])
   (repeat' (first|(with_reducible first|refine zA ?_|refine zV ?_)))
   exact zP (by exact rTm rfl) () trivial (by first|exact congrArg Value.bool (by rw [zBN.2 (by omega)])|exact congrArg Value.bool (by rw [zCA.2 (by omega)])) (fun _ h=>h.sub (by (repeat constructor)))
 ·rw [zG6 h]
  (refine zK (n:=26) Tryz.func65 rfl rfl rfl ?_)
  (repeat' (first|((with_reducible refine zG ?_);first|refine zC rfl rfl rfl ?_|(refine zp rfl rfl rfl rfl (fun b=>?_)))|(with_reducible first|refine zI ?_|refine zB ?_|refine zE ?_|refine zA ?_)))
  (refine Two.z9 [] [] [] rfl (show ([]:List Nat).Nodup by decide) (fun _ h=>h) (by kernel_rfl) [[],[Z],[Y,Y],[Z,Y,Y],[Z,Z,Y,Y],[Z,Z,Z,Y,Y],[Z,Z,Z,Z,Z,Z],[Z,Z,Z,Z,Z,Z,Z],[Z,Z,Z,Z,Z,Z,Z,Z],[Z,Z,Z,Z,Z,Z,Z,Z,Z],[Y,Y,Z,Z,Z,Z,Z,Z,Z,Z],[Z,Y,Y,Z,Z,Z,Z,Z,Z,Z,Z],[Y,Y,Y,Y,Z,Z,Z,Z,Z,Z,Z,Z],[Z,Y,Y,Y,Y,Z,Z,Z,Z,Z,Z,Z,Z],[Z,Z,Z,Z,Y,Y,Z,Z,Z,Z,Z,Z,Z,Z],[Z,Z,Z,Z,Z,Y,Y,Z,Z,Z,Z,Z,Z,Z,Z],[Z,Z,Z,Z,Z,Z,Y,Y,Z,Z,Z,Z,Z,Z,Z,Z],[Z,Z,Z,Z,Z,Z,Z,Y,Y,Z,Z,Z,Z,Z,Z,Z,Z],[Z,Z,Z,Z,Z,Z,Z,Z,Y,Y,Z,Z,Z,Z,Z,Z,Z,Z],[Z,Z,Z,Z,Z,Z,Z,Z,Z,Z,Z,Z,Z,Z,Z,Z,Z,Z,Z],[Z,Z,Z,Z,Z,Z,Z,Z,Z,Z,Z,Z,Z,Z,Z,Z,Z,Z,Z,Z],[Z,Z,Z,Z,Z,Z,Z,Z,Z,Z,Z,Z,Z,Z,Z,Z,Z,Z,Z,Z,Z]] (by kernel_rfl) (by kernel_rfl) (by kernel_rfl) (by kernel_rfl) (by kernel_rfl) ?_)
  (repeat' (first|(((with_reducible refine Two.zA0 ?_ ?_);(· exact rfl);refine ⟨_,fun G=>(by (try simp (decide:=true) only [Two.vis,Two.see,fltT,zq,Nat.reduceAdd,Nat.reduceSub,if_true,if_false,List.set_cons_zero,List.set_cons_succ,List.set_nil,List.nil_append,List.cons_append]);rfl),?_⟩);first|refine Two.zN _ (fun _=>zl rfl rfl) (fun _=>rfl) rfl (by intro G G' h;simp (decide:=true) only [h]) ?_|refine Two.zN _ (fun _=>zW rfl rfl (by exact rfl)) (fun _=>rfl) rfl (by intro G G' h;simp (decide:=true) only [h]) ?_|(refine Two.zm rfl ?_;refine Two.zN _ (fun _=>zY rfl rfl) (fun _=>rfl) rfl (by intro G G' h;simp (decide:=true) only [h]) ?_)|refine Two.zN _ (fun _=>zAh rfl rfl rfl) (fun _=>rfl) rfl (by intro G G' h;simp (decide:=true) only [h]) ?_|refine Two.zN _ (fun _=>zt rfl rfl) (fun _=>rfl) rfl (by intro G G' h;simp (decide:=true) only [h]) ?_|refine Two.zFr (fun _=>rfl) rfl ?_|(refine Two.zEH rfl (fun _=>rfl) rfl (fun _=>rfl) (fun _=>rfl) (fun _ _ _ _=>(zCg _ _ _ _).gv) (fun h=>?_) (fun h=>?_)<;>((try simp only [zAA,zBO,zBN,zCA] at h);(try (exfalso;omega))))|refine Two.zN _ (fun _=>zBW rfl rfl rfl (IntWalk.i64_in _ (by omega))) (fun _=>rfl) rfl (by intro G G' h;simp (decide:=true) only [h]) ?_|refine Two.zN _ (fun _=>zEu rfl rfl) (fun _=>rfl) rfl (by intro G G' h;simp (decide:=true) only [h]) ?_)|(with_reducible refine Two.zAx ?_)))
  (intro G;simp only [regsT,zq,Two.zAa,Two.ini,List.nil_append,List.cons_append])
  (repeat' (first|(with_reducible first|refine zA ?_|refine zV ?_)))
  exact zP (by exact rTm rfl) () trivial rfl (fun _ h=>h.sub (by (repeat constructor)))
def zCc (s:Sp):Sp:=⟨-s.hi,-s.lo⟩
theorem zHP (s:Sp) (w:World) (h:near 1000000000000 s):Gv Tryz.prog 117 [vSp s] w (vSp (zCc s)):=by
 unfold Gv vSp
 obtain ⟨h1,h2,h3,h4⟩:=h
 (refine zK (n:=10) Tryz.func117 rfl rfl rfl ?_)
 (repeat' (first|((with_reducible refine zG ?_);first|(refine zJ rfl rfl rfl ?_;refine ⟨_,rfl,?_⟩)|refine zL rfl rfl rfl ?_|(refine zX rfl rfl rfl rfl rfl ?_;refine ⟨rfl,by first|decide|exact Nat.le_of_ble_eq_true rfl|(simp;omega),_,rfl,?_⟩)|(refine zb rfl rfl (fun b=>?_))|(refine zp rfl rfl rfl rfl (fun b=>?_))|(refine zAZ rfl rfl rfl ?_;refine ⟨_,rfl,?_⟩)|refine u_neg rfl rfl rfl (by rw [Int.zero_sub];exact IntWalk.i64_in _ (by omega)) ?_)|(with_reducible first|refine zI ?_|refine zB ?_|refine zE ?_|refine zA ?_|refine zV ?_)))
 exact zP (by (exact zh.cons (by exact res1c rfl (by exact rfl)) zh.nil)) () trivial rfl (fun _ h=>h.sub (by (repeat constructor)))
def atT (t:List St) (s:Spot):Sp:=if valid t && zAd t s then zBE (mark t s.st.toNat) s.off else ⟨0,0⟩
def zBk (t:List St) (s:Spot):Int:=if valid t then (if zAd t s then 0 else 12) else 10
set_option maxHeartbeats 1000000 in
theorem at_any (t:List St) (A:Option Addr) (cap:Nat) (s:Spot) (w:World) (ht:zAC zBq 9 w A t) (hf:zEx t) (hl:t.length≤1000) :
  Gv Tryz.prog 83 [.agg #[.slice A t.length cap],zBx s] w (.tuple #[vSp (atT t s),.int .i64 (zBk t s)]):=by
 unfold Gv zBx
 have h1:=fun W (h:Below w.heap.size w W)=>open_n t A cap W (ht.below h) hf (by omega)
 cases hv:valid t
 ·have e1:atT t s=⟨0,0⟩:=by simp [atT,hv]
  have e2:zBk t s=10:=by simp [zBk,hv]
  rw [e1,e2]
  rw [zLK hv] at h1
  (refine zK (n:=37) Tryz.func83 rfl rfl rfl ?_)
  (repeat' (first|((with_reducible refine zG ?_);first|refine zD rfl rfl rfl ?_|refine zC rfl rfl rfl ?_|(refine zJ rfl rfl rfl ?_;refine ⟨_,rfl,?_⟩)|(refine zS rfl rfl rfl rfl rfl (fun h=>?_) (fun h=>?_)<;>(dsimp only [cmpP] at h;(try (exfalso;omega))))|refine zO rfl rfl rfl rfl (fun _ _ q=>h1 _ q.below) ?_|refine zk rfl rfl rfl rfl ?_|(refine zX rfl rfl rfl rfl rfl ?_;refine ⟨rfl,by first|decide|exact Nat.le_of_ble_eq_true rfl|(simp;omega),_,rfl,?_⟩)|(refine zb rfl rfl (fun b=>?_))|(refine zp rfl rfl rfl rfl (fun b=>?_))|(refine zAZ rfl rfl rfl ?_;refine ⟨_,rfl,?_⟩))|(with_reducible first|refine zI ?_|refine zB ?_|refine zE ?_|refine zA ?_|refine zV ?_|refine zU ?_)|((with_reducible refine zH ?_ ?_);(· exact rfl))))
  exact zP (by (exact zh.cons (by exact res1c rfl (by exact rfl)) (zh.cons (by exact zAO.tmp rfl) zh.nil))) () trivial rfl (fun _ h=>h.sub (by (repeat constructor)))
 ·rw [zHU hv] at h1
  have ho:=zCK hv
  have h2:=fun B W (h:Below w.heap.size w W) hB=>stands_1 t A cap s B W (ht.below h) ho hl hB
  have hlen:=zC3 hv
  cases hs:zAd t s
  ·have e1:atT t s=⟨0,0⟩:=by simp [atT,hs]
   have e2:zBk t s=12:=by simp [zBk,hv,hs]
   rw [e1,e2]
   rw [hs] at h2
   (refine zK (n:=37) Tryz.func83 rfl rfl rfl ?_)
   (repeat' (first|((with_reducible refine zG ?_);first|refine zD rfl rfl rfl ?_|refine zC rfl rfl rfl ?_|(refine zJ rfl rfl rfl ?_;refine ⟨_,rfl,?_⟩)|(refine zS rfl rfl rfl rfl rfl (fun h=>?_) (fun h=>?_)<;>(dsimp only [cmpP] at h;(try (exfalso;omega))))|refine zO rfl rfl rfl rfl (fun _ _ q=>h1 _ q.below) ?_|refine zO rfl rfl rfl rfl (fun _ _ q=>h2 _ _ q.below (zAF (enc:=zBv) (by exact rfl) _ q.below q.own)) ?_|refine zk rfl rfl rfl rfl ?_|refine zAI rfl rfl rfl ?_|(refine zX rfl rfl rfl rfl rfl ?_;refine ⟨rfl,by first|decide|exact Nat.le_of_ble_eq_true rfl|(simp;omega),_,rfl,?_⟩)|(refine zb rfl rfl (fun b=>?_))|(refine zp rfl rfl rfl rfl (fun b=>?_))|(refine zAZ rfl rfl rfl ?_;refine ⟨_,rfl,?_⟩)|(refine zi rfl rfl rfl ?_;refine ⟨rfl,_,rfl,fun b=>?_⟩))|(with_reducible first|refine zI ?_|refine zB ?_|refine zE ?_|refine zA ?_|refine zV ?_|refine zR ?_|refine zU ?_)|((with_reducible refine zH ?_ ?_);(· exact rfl))|((with_reducible refine zF ?_ ?_);(· exact rfl))))
   exact zP (by (exact zh.cons (by exact res1c rfl (by exact rfl)) (zh.cons (by exact zAO.tmp rfl) zh.nil))) () trivial rfl (fun _ h=>h.sub (by (repeat constructor)))
  ·have hbd:=zBy hs ho
   obtain ⟨I,hI,hlt⟩:=zBU hs
   have e1:atT t s=zBE (zx t 0 I) s.off:=by simp [atT,hv,hs,hI,mark]
   have e2:zBk t s=0:=by simp [zBk,hv,hs]
   rw [e1,e2]
   rw [hs] at h2
   obtain ⟨st,off⟩:=s
   simp only at hI hbd h2 ⊢
   subst hI
   have h3:∀ W,Below w.heap.size w W→Gv Tryz.prog 104 [.agg #[.slice A t.length cap],.int .i64 0,.int .i64 I] W (.tuple #[vSp (zx t 0 I),vSp (zAG t 0 I)]):=fun W h=>(zF1 t A cap 0 I W (ht.below h) ho (by omega) (by omega) (by omega)).gv
   have hb:=zBj ho (Nat.zero_le I) (by omega)
   generalize zx t 0 I=L at *
   generalize zAG t 0 I=F at *
   have n1:near 1000000000000 L:=by unfold near;omega
   have n2:∀ x∈[off],near 1000000000 x:=by simp [near];omega
   (refine zK (n:=37) Tryz.func83 rfl rfl rfl ?_)
   (repeat' (first|((with_reducible refine zG ?_);first|refine zD rfl rfl rfl ?_|refine zC rfl rfl rfl ?_|(refine zJ rfl rfl rfl ?_;refine ⟨_,rfl,?_⟩)|refine zL rfl rfl rfl ?_|(refine zS rfl rfl rfl rfl rfl (fun h=>?_) (fun h=>?_)<;>(dsimp only [cmpP] at h;(try (exfalso;omega))))|refine zO rfl rfl rfl rfl (fun _ _ q=>h1 _ q.below) ?_|refine zO rfl rfl rfl rfl (fun _ _ q=>h2 _ _ q.below (zAF (enc:=zBv) (by exact rfl) _ q.below q.own)) ?_|refine zO rfl rfl rfl rfl (fun _ _ q=>h3 _ q.below) ?_|refine zO rfl rfl rfl rfl (fun _ _ q=>(zEl L [off] _ _ _ (zAF (enc:=zAr) (by exact rfl) _ q.below q.own) n1 n2 (by simp)).gv) ?_|refine zk rfl rfl rfl rfl ?_|refine zAI rfl rfl rfl ?_|(refine zX rfl rfl rfl rfl rfl ?_;refine ⟨rfl,by first|decide|exact Nat.le_of_ble_eq_true rfl|(simp;omega),_,rfl,?_⟩)|(refine zb rfl rfl (fun b=>?_))|(refine zp rfl rfl rfl rfl (fun b=>?_))|(refine zi rfl rfl rfl ?_;refine ⟨rfl,_,rfl,fun b=>?_⟩))|(with_reducible first|refine zI ?_|refine zB ?_|refine zE ?_|refine zA ?_|refine zV ?_|refine zR ?_)|((with_reducible refine zF ?_ ?_);(· exact rfl))))
   exact zP (by (exact zh.cons (by exact res1c rfl (by exact rfl)) (zh.cons (by exact zAO.tmp rfl) zh.nil))) () trivial rfl (fun _ h=>h.sub (by (repeat constructor)))
set_option maxHeartbeats 1000000 in
theorem rAt_any (t:List St) (A:Option Addr) (cap:Nat) (s:Spot) (w:World) (ht:zAC zBq 9 w A t) (hf:zEx t) (hl:t.length≤1000) :
  Gv Tryz.prog 91 [.agg #[.slice A t.length cap],zBx s] w (.tuple #[vSp (atT t s),.int .i64 (zBk t s)]):=by
 unfold Gv zBx
 have h1:=fun W (h:Below w.heap.size w W)=>zGi t A cap W (ht.below h) hf (by omega)
 cases hv:valid t
 ·have e1:atT t s=⟨0,0⟩:=by simp [atT,hv]
  have e2:zBk t s=10:=by simp [zBk,hv]
  rw [e1,e2]
  rw [hv] at h1
  (refine zK (n:=35) Tryz.func91 rfl rfl rfl ?_)
  (repeat' (first|((with_reducible refine zG ?_);first|refine zC rfl rfl rfl ?_|(refine zJ rfl rfl rfl ?_;refine ⟨_,rfl,?_⟩)|refine zO rfl rfl rfl rfl (fun _ _ q=>h1 _ q.below) ?_|refine zAI rfl rfl rfl ?_|(refine zX rfl rfl rfl rfl rfl ?_;refine ⟨rfl,by first|decide|exact Nat.le_of_ble_eq_true rfl|(simp;omega),_,rfl,?_⟩)|(refine zb rfl rfl (fun b=>?_))|(refine zp rfl rfl rfl rfl (fun b=>?_))|(refine zAZ rfl rfl rfl ?_;refine ⟨_,rfl,?_⟩))|(with_reducible first|refine zI ?_|refine zB ?_|refine zE ?_|refine zA ?_|refine zV ?_|refine zU ?_)|((with_reducible refine zH ?_ ?_);(· exact rfl))))
  exact zP (by (exact zh.cons (by exact res1c rfl (by exact rfl)) (zh.cons (by exact zAO.tmp rfl) zh.nil))) () trivial rfl (fun _ h=>h.sub (by (repeat constructor)))
 ·rw [hv] at h1
  have ho:=zCK hv
  have h2:=fun W (h:Below w.heap.size w W)=>zDX t A cap s W (ht.below h) ho hl
  have hlen:=zC3 hv
  cases hs:zAd t s
  ·have e1:atT t s=⟨0,0⟩:=by simp [atT,hs]
   have e2:zBk t s=12:=by simp [zBk,hv,hs]
   rw [e1,e2]
   rw [hs] at h2
   (refine zK (n:=35) Tryz.func91 rfl rfl rfl ?_)
   (repeat' (first|((with_reducible refine zG ?_);first|refine zC rfl rfl rfl ?_|(refine zJ rfl rfl rfl ?_;refine ⟨_,rfl,?_⟩)|refine zO rfl rfl rfl rfl (fun _ _ q=>h1 _ q.below) ?_|refine zO rfl rfl rfl rfl (fun _ _ q=>h2 _ q.below) ?_|refine zAI rfl rfl rfl ?_|(refine zX rfl rfl rfl rfl rfl ?_;refine ⟨rfl,by first|decide|exact Nat.le_of_ble_eq_true rfl|(simp;omega),_,rfl,?_⟩)|(refine zb rfl rfl (fun b=>?_))|(refine zp rfl rfl rfl rfl (fun b=>?_))|(refine zAZ rfl rfl rfl ?_;refine ⟨_,rfl,?_⟩))|(with_reducible first|refine zI ?_|refine zB ?_|refine zE ?_|refine zA ?_|refine zV ?_|refine zR ?_|refine zU ?_)|((with_reducible refine zH ?_ ?_);(· exact rfl))|((with_reducible refine zF ?_ ?_);(· exact rfl))))
   exact zP (by (exact zh.cons (by exact res1c rfl (by exact rfl)) (zh.cons (by exact zAO.tmp rfl) zh.nil))) () trivial rfl (fun _ h=>h.sub (by (repeat constructor)))
  ·have hbd:=zBy hs ho
   obtain ⟨I,hI,hlt⟩:=zBU hs
   have e1:atT t s=zBE (mark t I) s.off:=by simp [atT,hv,hs,hI]
   have e2:zBk t s=0:=by simp [zBk,hv,hs]
   rw [e1,e2]
   rw [hs] at h2
   obtain ⟨st,off⟩:=s
   simp only at hI hbd h2 ⊢
   subst hI
   have hb:=zBj ho (Nat.zero_le I) (by omega)
   have hml:(marks t).length=t.length+1:=by simp [marks]
   have:zAT (marks t) I (mark t I):=⟨by rw [marks,List.getElem?_map,List.getElem?_range (by omega)];rfl⟩
   have h3:=fun W (h:Below w.heap.size w W)=>rmarks_n t A cap W (ht.below h) ho hl
   generalize marks t=M at *
   rw [show zx t 0 I=mark t I from rfl] at hb
   generalize mark t I=L at *
   (refine zK (n:=35) Tryz.func91 rfl rfl rfl ?_)
   (repeat' (first|((with_reducible refine zG ?_);first|refine zC rfl rfl rfl ?_|(refine zJ rfl rfl rfl ?_;refine ⟨_,rfl,?_⟩)|refine zO rfl rfl rfl rfl (fun _ _ q=>h1 _ q.below) ?_|refine zO rfl rfl rfl rfl (fun _ _ q=>h2 _ q.below) ?_|refine zAI rfl rfl rfl ?_|(refine zb rfl rfl (fun b=>?_))|(refine zp rfl rfl rfl rfl (fun b=>?_)))|(with_reducible first|refine zI ?_|refine zB ?_|refine zE ?_|refine zA ?_|refine zR ?_)|((with_reducible refine zF ?_ ?_);(· exact rfl))))
   (refine Two.z9 [] [] [] rfl (show ([]:List Nat).Nodup by decide) (fun _ h=>h) (by kernel_rfl) [[],[Z],[Y,Y],[Z,Y,Y],[Z,Z,Z,Z],[Z,Z,Z,Z,Z],[Y,Y,Y,Y,Y,Y],[Z,Z,Z,Z,Z,Z,Z]] (by kernel_rfl) (by kernel_rfl) (by kernel_rfl) (by kernel_rfl) (by kernel_rfl) ?_)
   (repeat' (first|(((with_reducible refine Two.zA0 ?_ ?_);(· exact rfl);refine ⟨_,fun G=>(by (try simp (decide:=true) only [Two.vis,Two.see,fltT,zq,Nat.reduceAdd,Nat.reduceSub,if_true,if_false,List.set_cons_zero,List.set_cons_succ,List.set_nil,List.nil_append,List.cons_append]);rfl),?_⟩);first|refine Two.zN _ (fun _=>zW rfl rfl (by exact rfl)) (fun _=>rfl) rfl (by intro G G' h;simp (decide:=true) only [h]) ?_|(refine Two.zm rfl ?_;refine Two.zN _ (fun _=>zY rfl rfl) (fun _=>rfl) rfl (by intro G G' h;simp (decide:=true) only [h]) ?_)|refine Two.c_newslS rfl (fun _=>rfl) rfl (fun _=>rfl) (fun _=>rfl) (fun _ _ _ q=>h3 _ q.below) (by omega) ?_|refine Two.zN _ (fun _=>zw rfl rfl rfl rfl (by omega)) (fun _=>rfl) rfl (by intro G G' h;simp (decide:=true) only [h]) ?_|refine Two.zA1 rfl (fun _=>rfl) rfl ?_)|((with_reducible refine Two.zBi ?_ ?_);(· exact rfl))))
   (intro G;simp only [regsT,zq,Two.zAa,Two.ini,List.nil_append,List.cons_append])
   (repeat' (first|((with_reducible refine zG ?_);first|refine zC rfl rfl rfl ?_|(refine zJ rfl rfl rfl ?_;refine ⟨_,rfl,?_⟩)|refine zL rfl rfl rfl ?_|refine zBp rfl rfl rfl rfl (IntWalk.i64_in _ (by omega)) ?_|(refine zX rfl rfl rfl rfl rfl ?_;refine ⟨rfl,by first|decide|exact Nat.le_of_ble_eq_true rfl|(simp;omega),_,rfl,?_⟩)|(refine zAZ rfl rfl rfl ?_;refine ⟨_,rfl,?_⟩))|(with_reducible first|refine zI ?_|refine zB ?_|refine zE ?_|refine zA ?_|refine zV ?_)))
   exact zP (by (exact zh.cons (by exact res1c rfl (by exact rfl)) (zh.cons (by exact zAO.tmp rfl) zh.nil))) () trivial rfl (fun _ h=>h.sub (by (repeat constructor)))
end Go.Proofs.YtfiekidciiighaaGreat
namespace Go.Proofs.YtfiekidciiighaaGreat
open Go.RowKit
set_option maxRecDepth 20000
def ap0 (t:List St) (a b:Spot):Sp:=⟨(zx t a.st.toNat b.st.toNat).lo+b.off.lo - a.off.hi,(zx t a.st.toNat b.st.toNat).hi+b.off.hi - a.off.lo⟩
def apT (t:List St) (a b:Spot):Sp:=if valid t && (zAd t a && zAd t b) then (if b.st<a.st then zCc (ap0 t b a) else ap0 t a b) else ⟨0,0⟩
def zEb (t:List St) (a b:Spot):Int:=if valid t then (if zAd t a && zAd t b then 0 else 12) else 10
set_option maxHeartbeats 2000000 in
theorem zMC (t:List St) (A:Option Addr) (cap:Nat) (a b:Spot) (w:World) (ht:zAC zBq 9 w A t) (hf:zEx t) (hl:t.length≤1000) :
  Gv Tryz.prog 106 [.agg #[.slice A t.length cap],zBx a,zBx b] w (.tuple #[vSp (apT t a b),.int .i64 (zEb t a b)]):=by
 unfold Gv zBx
 have h1:=fun W (h:Below w.heap.size w W)=>open_n t A cap W (ht.below h) hf (by omega)
 cases hv:valid t
 ·have e1:apT t a b=⟨0,0⟩:=by simp [apT,hv]
  have e2:zEb t a b=10:=by simp [zEb,hv]
  rw [e1,e2]
  rw [zLK hv] at h1
  (refine zK (n:=58) Tryz.func106 rfl rfl rfl ?_)
  (repeat' (first|((with_reducible refine zG ?_);first|refine zD rfl rfl rfl ?_|refine zC rfl rfl rfl ?_|(refine zJ rfl rfl rfl ?_;refine ⟨_,rfl,?_⟩)|(refine zS rfl rfl rfl rfl rfl (fun h=>?_) (fun h=>?_)<;>(dsimp only [cmpP] at h;(try (exfalso;omega))))|refine zO rfl rfl rfl rfl (fun _ _ q=>h1 _ q.below) ?_|refine zk rfl rfl rfl rfl ?_|(refine zX rfl rfl rfl rfl rfl ?_;refine ⟨rfl,by first|decide|exact Nat.le_of_ble_eq_true rfl|(simp;omega),_,rfl,?_⟩)|(refine zb rfl rfl (fun b=>?_))|(refine zp rfl rfl rfl rfl (fun b=>?_))|(refine zAZ rfl rfl rfl ?_;refine ⟨_,rfl,?_⟩))|(with_reducible first|refine zI ?_|refine zB ?_|refine zE ?_|refine zA ?_|refine zV ?_|refine zU ?_)|((with_reducible refine zH ?_ ?_);(· exact rfl))))
  exact zP (by (exact zh.cons (by exact res1c rfl (by exact rfl)) (zh.cons (by exact zAO.tmp rfl) zh.nil))) () trivial rfl (fun _ h=>h.sub (by (repeat constructor)))
 ·rw [zHU hv] at h1
  have ho:=zCK hv
  have h2:=fun B W (h:Below w.heap.size w W) hB=>stands_2 t A cap a b B W (ht.below h) ho hl hB
  have hlen:=zC3 hv
  cases hs:(zAd t a && zAd t b)
  ·have e1:apT t a b=⟨0,0⟩:=by simp only [apT,hs,Bool.and_false];rfl
   have e2:zEb t a b=12:=by simp only [zEb,hv,hs];rfl
   rw [e1,e2]
   rw [hs] at h2
   (refine zK (n:=58) Tryz.func106 rfl rfl rfl ?_)
   (repeat' (first|((with_reducible refine zG ?_);first|refine zD rfl rfl rfl ?_|refine zC rfl rfl rfl ?_|(refine zJ rfl rfl rfl ?_;refine ⟨_,rfl,?_⟩)|(refine zS rfl rfl rfl rfl rfl (fun h=>?_) (fun h=>?_)<;>(dsimp only [cmpP] at h;(try (exfalso;omega))))|refine zO rfl rfl rfl rfl (fun _ _ q=>h1 _ q.below) ?_|refine zO rfl rfl rfl rfl (fun _ _ q=>h2 _ _ q.below (zDe (enc:=zBv) [_,_] (by exact rfl) _ q.below q.own)) ?_|refine zk rfl rfl rfl rfl ?_|refine zAI rfl rfl rfl ?_|(refine zX rfl rfl rfl rfl rfl ?_;refine ⟨rfl,by first|decide|exact Nat.le_of_ble_eq_true rfl|(simp;omega),_,rfl,?_⟩)|(refine zb rfl rfl (fun b=>?_))|(refine zp rfl rfl rfl rfl (fun b=>?_))|(refine zAZ rfl rfl rfl ?_;refine ⟨_,rfl,?_⟩)|(refine zi rfl rfl rfl ?_;refine ⟨rfl,_,rfl,fun b=>?_⟩))|(with_reducible first|refine zI ?_|refine zB ?_|refine zE ?_|refine zA ?_|refine zV ?_|refine zR ?_|refine zU ?_)|((with_reducible refine zH ?_ ?_);(· exact rfl))|((with_reducible refine zF ?_ ?_);(· exact rfl))))
   exact zP (by (exact zh.cons (by exact res1c rfl (by exact rfl)) (zh.cons (by exact zAO.tmp rfl) zh.nil))) () trivial rfl (fun _ h=>h.sub (by (repeat constructor)))
  ·have hs':=hs
   simp only [Bool.and_eq_true] at hs'
   have bda:=zBy hs'.1 ho
   have bdb:=zBy hs'.2 ho
   obtain ⟨I,hI,hlI⟩:=zBU hs'.1
   obtain ⟨J,hJ,hlJ⟩:=zBU hs'.2
   have e1:apT t a b=if b.st<a.st then zCc (ap0 t b a) else ap0 t a b:=by simp only [apT,hv,hs,Bool.and_true];rfl
   have e2:zEb t a b=0:=by simp only [zEb,hv,hs];rfl
   rw [e1,e2]
   rw [hs] at h2
   obtain ⟨st,off⟩:=a
   obtain ⟨st2,off2⟩:=b
   simp only at hI hJ bda bdb h2 ⊢
   subst hI hJ
   have nn:near 1000000000000 off:=by unfold near;omega
   by_cases hij:J<I
   ·have h3:∀ W,Below w.heap.size w W→Gv Tryz.prog 104 [.agg #[.slice A t.length cap],.int .i64 (min (I:Int) J),.int .i64 (max (I:Int) J)] W (.tuple #[vSp (zx t J I),vSp (zAG t J I)]):=fun W h=>by
     rw [show min (I:Int) J=J by omega,show max (I:Int) J=I by omega]
     exact (zF1 t A cap J I W (ht.below h) ho (by omega) (by omega) (by omega)).gv
    have hb:=zBj ho (Nat.le_of_lt hij) (by omega)
    have e3:ap0 t ⟨(J:Int),off2⟩ ⟨(I:Int),off⟩=⟨(zx t J I).lo+off.lo - off2.hi,(zx t J I).hi+off.hi - off2.lo⟩:=rfl
    rw [if_pos (by omega),e3]
    generalize zx t J I=L at *
    generalize zAG t J I=F at *
    have e9:zCc ⟨L.lo+off.lo - off2.hi,L.hi+off.hi - off2.lo⟩=[off2,zCc off].foldl zBE (zCc L):=by
     simp only [List.foldl_cons,List.foldl_nil,zBE,zCc,Sp.mk.injEq];omega
    rw [e9]
    have n1:near 1000000000000 L:=by unfold near;omega
    have n2:∀ x∈[off2,zCc off],near 1000000000 x:=by simp [near,zCc];omega
    have n3:near 1000000000000 (zCc L):=by simp only [near,zCc];omega
    (refine zK (n:=58) Tryz.func106 rfl rfl rfl ?_)
    (repeat' (first|((with_reducible refine zG ?_);first|refine zD rfl rfl rfl ?_|refine zC rfl rfl rfl ?_|(refine zJ rfl rfl rfl ?_;refine ⟨_,rfl,?_⟩)|refine zL rfl rfl rfl ?_|(refine zS rfl rfl rfl rfl rfl (fun h=>?_) (fun h=>?_)<;>(dsimp only [cmpP] at h;(try (exfalso;omega))))|refine zO rfl rfl rfl rfl (fun _ _ q=>h1 _ q.below) ?_|refine zO rfl rfl rfl rfl (fun _ _ q=>h2 _ _ q.below (zDe (enc:=zBv) [_,_] (by exact rfl) _ q.below q.own)) ?_|refine zO rfl rfl rfl rfl (fun _ _ q=>h3 _ q.below) ?_|refine zO rfl rfl rfl rfl (fun _ _ q=>zHP L _ n1) ?_|refine zk rfl rfl rfl rfl ?_|refine zAI rfl rfl rfl ?_|(refine zX rfl rfl rfl rfl rfl ?_;refine ⟨rfl,by first|decide|exact Nat.le_of_ble_eq_true rfl|(simp;omega),_,rfl,?_⟩)|(refine zb rfl rfl (fun b=>?_))|(refine zp rfl rfl rfl rfl (fun b=>?_))|(refine zi rfl rfl rfl ?_;refine ⟨rfl,_,rfl,fun b=>?_⟩)|refine zCF rfl rfl rfl rfl ?_|refine zGJ rfl rfl rfl rfl ?_)|(with_reducible first|refine zI ?_|refine zB ?_|refine zE ?_|refine zA ?_|refine zR ?_)|((with_reducible refine zH ?_ ?_);(· exact rfl))|((with_reducible refine zF ?_ ?_);(· exact rfl))))
    (refine Two.z9 [] [] [] rfl (show ([]:List Nat).Nodup by decide) (fun _ h=>h) (by kernel_rfl) [[],[Y],[Z,Y],[Y,Y,Y],[Z,Y,Y,Y],[Z,Z,Y,Y,Y],[Z,Z,Z,Z,Z,Y],[Z,Z,Z,Z,Z,Z,Z],[Z,Z,Z,Z,Z,Z,Z,Z],[Z,Z,Z,Z,Z,Z,Z,Z,Z]] (by kernel_rfl) (by kernel_rfl) (by kernel_rfl) (by kernel_rfl) (by kernel_rfl) ?_)
    (repeat' (first|(((with_reducible refine Two.zA0 ?_ ?_);(· exact rfl);refine ⟨_,fun G=>(by (try simp (decide:=true) only [Two.vis,Two.see,fltT,zq,Nat.reduceAdd,Nat.reduceSub,if_true,if_false,List.set_cons_zero,List.set_cons_succ,List.set_nil,List.nil_append,List.cons_append]);rfl),?_⟩);first|refine Two.zN _ (fun _=>zW rfl rfl (by exact rfl)) (fun _=>rfl) rfl (by intro G G' h;simp (decide:=true) only [h]) ?_|(refine Two.zm rfl ?_;refine Two.zN _ (fun _=>zY rfl rfl) (fun _=>rfl) rfl (by intro G G' h;simp (decide:=true) only [h]) ?_)|refine Two.zAR _ rfl (fun _=>rfl) rfl (fun _=>rfl) (fun _=>rfl) (fun _ _ _ q=>zHP off _ nn) (by intro G G' h;simp (decide:=true) only [h]) ?_|refine Two.zAR _ rfl (fun _=>rfl) rfl (fun _=>rfl) (fun _=>rfl) (fun _ _ _ q=>(zEl (zCc L) [off2,zCc off] _ _ _ (zDe (enc:=zAr) [_,_] (by exact rfl) _ q.below q.own) n3 n2 (by simp)).gv) (by intro G G' h;simp (decide:=true) only [h]) ?_|refine Two.zB5 rfl (fun _=>rfl) rfl (fun _=>rfl) (by exact rfl) (by exact fun _=>rfl) (by intro G G' h;simp (decide:=true) only [h]) ?_)|((with_reducible refine Two.zBi ?_ ?_);(· exact rfl))))
    (intro G;simp only [regsT,zq,Two.zAa,Two.ini,List.nil_append,List.cons_append])
    (repeat' (first|((with_reducible refine zG ?_);first|refine zC rfl rfl rfl ?_|(refine zX rfl rfl rfl rfl rfl ?_;refine ⟨rfl,by first|decide|exact Nat.le_of_ble_eq_true rfl|(simp;omega),_,rfl,?_⟩))|(with_reducible first|refine zE ?_|refine zA ?_|refine zV ?_)))
    exact zP (by (exact zh.cons (by exact res1c rfl (by exact rfl)) (zh.cons (by exact zAO.tmp rfl) zh.nil))) () trivial rfl (fun _ h=>h.sub (by (repeat constructor)))
   ·have h3:∀ W,Below w.heap.size w W→Gv Tryz.prog 104 [.agg #[.slice A t.length cap],.int .i64 (min (I:Int) J),.int .i64 (max (I:Int) J)] W (.tuple #[vSp (zx t I J),vSp (zAG t I J)]):=fun W h=>by
     rw [show min (I:Int) J=I by omega,show max (I:Int) J=J by omega]
     exact (zF1 t A cap I J W (ht.below h) ho (by omega) (by omega) (by omega)).gv
    have hb:=zBj ho (Nat.le_of_not_lt hij) (by omega)
    have e3:ap0 t ⟨(I:Int),off⟩ ⟨(J:Int),off2⟩=⟨(zx t I J).lo+off2.lo - off.hi,(zx t I J).hi+off2.hi - off.lo⟩:=rfl
    rw [if_neg (by omega),e3]
    generalize zx t I J=L at *
    generalize zAG t I J=F at *
    have e9:(⟨L.lo+off2.lo - off.hi,L.hi+off2.hi - off.lo⟩:Sp)=[off2,zCc off].foldl zBE L:=by
     simp only [List.foldl_cons,List.foldl_nil,zBE,zCc,Sp.mk.injEq];omega
    rw [e9]
    have n1:near 1000000000000 L:=by unfold near;omega
    have n2:∀ x∈[off2,zCc off],near 1000000000 x:=by simp [near,zCc];omega
    (refine zK (n:=58) Tryz.func106 rfl rfl rfl ?_)
    (repeat' (first|((with_reducible refine zG ?_);first|refine zD rfl rfl rfl ?_|refine zC rfl rfl rfl ?_|(refine zJ rfl rfl rfl ?_;refine ⟨_,rfl,?_⟩)|refine zL rfl rfl rfl ?_|(refine zS rfl rfl rfl rfl rfl (fun h=>?_) (fun h=>?_)<;>(dsimp only [cmpP] at h;(try (exfalso;omega))))|refine zO rfl rfl rfl rfl (fun _ _ q=>h1 _ q.below) ?_|refine zO rfl rfl rfl rfl (fun _ _ q=>h2 _ _ q.below (zDe (enc:=zBv) [_,_] (by exact rfl) _ q.below q.own)) ?_|refine zO rfl rfl rfl rfl (fun _ _ q=>h3 _ q.below) ?_|refine zk rfl rfl rfl rfl ?_|refine zAI rfl rfl rfl ?_|(refine zX rfl rfl rfl rfl rfl ?_;refine ⟨rfl,by first|decide|exact Nat.le_of_ble_eq_true rfl|(simp;omega),_,rfl,?_⟩)|(refine zb rfl rfl (fun b=>?_))|(refine zp rfl rfl rfl rfl (fun b=>?_))|(refine zi rfl rfl rfl ?_;refine ⟨rfl,_,rfl,fun b=>?_⟩)|refine zCF rfl rfl rfl rfl ?_|refine zGJ rfl rfl rfl rfl ?_)|(with_reducible first|refine zI ?_|refine zB ?_|refine zE ?_|refine zA ?_|refine zR ?_)|((with_reducible refine zF ?_ ?_);(· exact rfl))))
    (refine Two.z9 [] [] [] rfl (show ([]:List Nat).Nodup by decide) (fun _ h=>h) (by kernel_rfl) [[],[Y],[Z,Y],[Y,Y,Y],[Z,Y,Y,Y],[Z,Z,Y,Y,Y],[Z,Z,Z,Z,Z,Y],[Z,Z,Z,Z,Z,Z,Z],[Z,Z,Z,Z,Z,Z,Z,Z],[Z,Z,Z,Z,Z,Z,Z,Z,Z]] (by kernel_rfl) (by kernel_rfl) (by kernel_rfl) (by kernel_rfl) (by kernel_rfl) ?_)
    (repeat' (first|(((with_reducible refine Two.zA0 ?_ ?_);(· exact rfl);refine ⟨_,fun G=>(by (try simp (decide:=true) only [Two.vis,Two.see,fltT,zq,Nat.reduceAdd,Nat.reduceSub,if_true,if_false,List.set_cons_zero,List.set_cons_succ,List.set_nil,List.nil_append,List.cons_append]);rfl),?_⟩);first|refine Two.zN _ (fun _=>zW rfl rfl (by exact rfl)) (fun _=>rfl) rfl (by intro G G' h;simp (decide:=true) only [h]) ?_|(refine Two.zm rfl ?_;refine Two.zN _ (fun _=>zY rfl rfl) (fun _=>rfl) rfl (by intro G G' h;simp (decide:=true) only [h]) ?_)|refine Two.zAR _ rfl (fun _=>rfl) rfl (fun _=>rfl) (fun _=>rfl) (fun _ _ _ q=>zHP off _ nn) (by intro G G' h;simp (decide:=true) only [h]) ?_|refine Two.zAR _ rfl (fun _=>rfl) rfl (fun _=>rfl) (fun _=>rfl) (fun _ _ _ q=>(zEl L [off2,zCc off] _ _ _ (zDe (enc:=zAr) [_,_] (by exact rfl) _ q.below q.own) n1 n2 (by simp)).gv) (by intro G G' h;simp (decide:=true) only [h]) ?_|refine Two.zB5 rfl (fun _=>rfl) rfl (fun _=>rfl) (by exact rfl) (by exact fun _=>rfl) (by intro G G' h;simp (decide:=true) only [h]) ?_)|((with_reducible refine Two.zBi ?_ ?_);(· exact rfl))))
    (intro G;simp only [regsT,zq,Two.zAa,Two.ini,List.nil_append,List.cons_append])
    (repeat' (first|((with_reducible refine zG ?_);first|refine zC rfl rfl rfl ?_|(refine zX rfl rfl rfl rfl rfl ?_;refine ⟨rfl,by first|decide|exact Nat.le_of_ble_eq_true rfl|(simp;omega),_,rfl,?_⟩))|(with_reducible first|refine zE ?_|refine zA ?_|refine zV ?_)))
    exact zP (by (exact zh.cons (by exact res1c rfl (by exact rfl)) (zh.cons (by exact zAO.tmp rfl) zh.nil))) () trivial rfl (fun _ h=>h.sub (by (repeat constructor)))
set_option maxHeartbeats 2000000 in
theorem zH6 (t:List St) (A:Option Addr) (cap:Nat) (a b:Spot) (w:World) (ht:zAC zBq 9 w A t) (hf:zEx t) (hl:t.length≤1000) (hv:valid t=true) (hs1:zAd t a=true) (hs2:zAd t b=true) (hle:a.st≤b.st) :
  Gv Tryz.prog 92 [.agg #[.slice A t.length cap],zBx a,zBx b] w (.tuple #[vSp (ap0 t a b),.int .i64 0]):=by
 unfold Gv zBx
 have h1:=fun W (h:Below w.heap.size w W)=>zGi t A cap W (ht.below h) hf (by omega)
 rw [hv] at h1
 have ho:=zCK hv
 have h2:=fun W (h:Below w.heap.size w W)=>zDX t A cap a W (ht.below h) ho hl
 have h3:=fun W (h:Below w.heap.size w W)=>zDX t A cap b W (ht.below h) ho hl
 rw [hs1] at h2
 rw [hs2] at h3
 have hlen:=zC3 hv
 have bda:=zBy hs1 ho
 have bdb:=zBy hs2 ho
 obtain ⟨I,hI,hlI⟩:=zBU hs1
 obtain ⟨J,hJ,hlJ⟩:=zBU hs2
 obtain ⟨st,off⟩:=a
 obtain ⟨st2,off2⟩:=b
 simp only at hI hJ bda bdb h2 h3 hle ⊢
 subst hI hJ
 have h4:=fun W (h:Below w.heap.size w W)=>(zH5 t A cap I J W (ht.below h) ho (by omega) (by omega) (by omega)).gv
 unfold vT at h4
 have hb:=zBj ho (by omega:I≤J) (by omega)
 have e3:ap0 t ⟨(I:Int),off⟩ ⟨(J:Int),off2⟩=⟨(zx t I J).lo+off2.lo - off.hi,(zx t I J).hi+off2.hi - off.lo⟩:=rfl
 rw [e3]
 generalize zx t I J=L at *
 generalize zAG t I J=F at *
 (refine zK (n:=76) Tryz.func92 rfl rfl rfl ?_)
 (repeat' (first|((with_reducible refine zG ?_);first|refine zD rfl rfl rfl ?_|refine zC rfl rfl rfl ?_|(refine zJ rfl rfl rfl ?_;refine ⟨_,rfl,?_⟩)|refine zL rfl rfl rfl ?_|refine z7 rfl rfl rfl rfl ?_|(refine zS rfl rfl rfl rfl rfl (fun h=>?_) (fun h=>?_)<;>(dsimp only [cmpP] at h;(try (exfalso;omega))))|refine zO rfl rfl rfl rfl (fun _ _ q=>h1 _ q.below) ?_|refine zO rfl rfl rfl rfl (fun _ _ q=>h2 _ q.below) ?_|refine zO rfl rfl rfl rfl (fun _ _ q=>h3 _ q.below) ?_|refine zO rfl rfl rfl rfl (fun _ _ q=>h4 _ q.below) ?_|refine zk rfl rfl rfl rfl ?_|refine zAI rfl rfl rfl ?_|refine zBp rfl rfl rfl rfl (IntWalk.i64_in _ (by omega)) ?_|refine zAc rfl rfl rfl rfl (IntWalk.i64_in _ (by omega)) ?_|(refine zX rfl rfl rfl rfl rfl ?_;refine ⟨rfl,by first|decide|exact Nat.le_of_ble_eq_true rfl|(simp;omega),_,rfl,?_⟩)|(refine zb rfl rfl (fun b=>?_))|(refine zp rfl rfl rfl rfl (fun b=>?_))|(refine zAZ rfl rfl rfl ?_;refine ⟨_,rfl,?_⟩))|(with_reducible first|refine zI ?_|refine zB ?_|refine zE ?_|refine zA ?_|refine zV ?_|refine zR ?_)|((with_reducible refine zF ?_ ?_);(· exact rfl))))
 exact zP (by (exact zh.cons (by exact res1c rfl (by exact rfl)) (zh.cons (by exact zAO.tmp rfl) zh.nil))) () trivial rfl (fun _ h=>h.sub (by (repeat constructor)))
set_option maxHeartbeats 2000000 in
theorem zKU (t:List St) (A:Option Addr) (cap:Nat) (a b:Spot) (w:World) (ht:zAC zBq 9 w A t) (hf:zEx t) (hl:t.length≤1000) :
  Gv Tryz.prog 92 [.agg #[.slice A t.length cap],zBx a,zBx b] w (.tuple #[vSp (apT t a b),.int .i64 (zEb t a b)]):=by
 have h1:=fun W (h:Below w.heap.size w W)=>zGi t A cap W (ht.below h) hf (by omega)
 cases hv:valid t
 ·have e1:apT t a b=⟨0,0⟩:=by simp [apT,hv]
  have e2:zEb t a b=10:=by simp [zEb,hv]
  rw [e1,e2]
  rw [hv] at h1
  unfold Gv zBx
  (refine zK (n:=76) Tryz.func92 rfl rfl rfl ?_)
  (repeat' (first|((with_reducible refine zG ?_);first|refine zC rfl rfl rfl ?_|(refine zJ rfl rfl rfl ?_;refine ⟨_,rfl,?_⟩)|refine zO rfl rfl rfl rfl (fun _ _ q=>h1 _ q.below) ?_|refine zAI rfl rfl rfl ?_|(refine zX rfl rfl rfl rfl rfl ?_;refine ⟨rfl,by first|decide|exact Nat.le_of_ble_eq_true rfl|(simp;omega),_,rfl,?_⟩)|(refine zb rfl rfl (fun b=>?_))|(refine zp rfl rfl rfl rfl (fun b=>?_))|(refine zAZ rfl rfl rfl ?_;refine ⟨_,rfl,?_⟩))|(with_reducible first|refine zI ?_|refine zB ?_|refine zE ?_|refine zA ?_|refine zV ?_|refine zU ?_)|((with_reducible refine zH ?_ ?_);(· exact rfl))))
  exact zP (by (exact zh.cons (by exact res1c rfl (by exact rfl)) (zh.cons (by exact zAO.tmp rfl) zh.nil))) () trivial rfl (fun _ h=>h.sub (by (repeat constructor)))
 ·rw [hv] at h1
  have ho:=zCK hv
  have h2:=fun W (h:Below w.heap.size w W)=>zDX t A cap a W (ht.below h) ho hl
  have h3:=fun W (h:Below w.heap.size w W)=>zDX t A cap b W (ht.below h) ho hl
  have hlen:=zC3 hv
  cases hs1:zAd t a
  ·have e1:apT t a b=⟨0,0⟩:=by simp [apT,hs1]
   have e2:zEb t a b=12:=by simp [zEb,hv,hs1]
   rw [e1,e2]
   rw [hs1] at h2
   unfold Gv
   unfold zBx at h2 h3 ⊢
   (refine zK (n:=76) Tryz.func92 rfl rfl rfl ?_)
   (repeat' (first|((with_reducible refine zG ?_);first|refine zD rfl rfl rfl ?_|refine zC rfl rfl rfl ?_|(refine zJ rfl rfl rfl ?_;refine ⟨_,rfl,?_⟩)|refine z7 rfl rfl rfl rfl ?_|refine zf rfl rfl rfl ?_|refine zO rfl rfl rfl rfl (fun _ _ q=>h1 _ q.below) ?_|refine zO rfl rfl rfl rfl (fun _ _ q=>h2 _ q.below) ?_|refine zAI rfl rfl rfl ?_|(refine zX rfl rfl rfl rfl rfl ?_;refine ⟨rfl,by first|decide|exact Nat.le_of_ble_eq_true rfl|(simp;omega),_,rfl,?_⟩)|(refine zb rfl rfl (fun b=>?_))|(refine zp rfl rfl rfl rfl (fun b=>?_))|(refine zAZ rfl rfl rfl ?_;refine ⟨_,rfl,?_⟩))|(with_reducible first|refine zI ?_|refine zB ?_|refine zE ?_|refine zA ?_|refine zV ?_|refine zR ?_|refine zU ?_)|((with_reducible refine zH ?_ ?_);(· exact rfl))|((with_reducible refine zF ?_ ?_);(· exact rfl))))
   exact zP (by (exact zh.cons (by exact res1c rfl (by exact rfl)) (zh.cons (by exact zAO.tmp rfl) zh.nil))) () trivial rfl (fun _ h=>h.sub (by (repeat constructor)))
  cases hs2:zAd t b
  ·have e1:apT t a b=⟨0,0⟩:=by simp [apT,hs2]
   have e2:zEb t a b=12:=by simp [zEb,hv,hs2]
   rw [e1,e2]
   rw [hs1] at h2
   rw [hs2] at h3
   unfold Gv
   unfold zBx at h2 h3 ⊢
   (refine zK (n:=76) Tryz.func92 rfl rfl rfl ?_)
   (repeat' (first|((with_reducible refine zG ?_);first|refine zD rfl rfl rfl ?_|refine zC rfl rfl rfl ?_|(refine zJ rfl rfl rfl ?_;refine ⟨_,rfl,?_⟩)|refine z7 rfl rfl rfl rfl ?_|refine zO rfl rfl rfl rfl (fun _ _ q=>h1 _ q.below) ?_|refine zO rfl rfl rfl rfl (fun _ _ q=>h2 _ q.below) ?_|refine zO rfl rfl rfl rfl (fun _ _ q=>h3 _ q.below) ?_|refine zAI rfl rfl rfl ?_|(refine zX rfl rfl rfl rfl rfl ?_;refine ⟨rfl,by first|decide|exact Nat.le_of_ble_eq_true rfl|(simp;omega),_,rfl,?_⟩)|(refine zb rfl rfl (fun b=>?_))|(refine zp rfl rfl rfl rfl (fun b=>?_))|(refine zAZ rfl rfl rfl ?_;refine ⟨_,rfl,?_⟩))|(with_reducible first|refine zI ?_|refine zB ?_|refine zE ?_|refine zA ?_|refine zV ?_|refine zR ?_|refine zU ?_)|((with_reducible refine zH ?_ ?_);(· exact rfl))|((with_reducible refine zF ?_ ?_);(· exact rfl))))
   exact zP (by (exact zh.cons (by exact res1c rfl (by exact rfl)) (zh.cons (by exact zAO.tmp rfl) zh.nil))) () trivial rfl (fun _ h=>h.sub (by (repeat constructor)))
  have e1:apT t a b=if b.st<a.st then zCc (ap0 t b a) else ap0 t a b:=by simp [apT,hv,hs1,hs2]
  have e2:zEb t a b=0:=by simp [zEb,hv,hs1,hs2]
  rw [e1,e2]
  by_cases hij:b.st<a.st
  ·rw [if_pos hij]
   have h4:=fun W (h:Below w.heap.size w W)=>zH6 t A cap b a W (ht.below h) hf hl hv hs2 hs1 (by omega)
   rw [hs1] at h2
   rw [hs2] at h3
   have bda:=zBy hs1 ho
   have bdb:=zBy hs2 ho
   obtain ⟨I,hI,hlI⟩:=zBU hs1
   obtain ⟨J,hJ,hlJ⟩:=zBU hs2
   have hb:=zBj ho (by omega:J≤I) (by omega)
   have b1:-40000≤(ap0 t b a).lo∧(ap0 t b a).hi≤60000000∧(ap0 t b a).lo≤(ap0 t b a).hi:=by
    have i1:a.st.toNat=I:=by omega
    have i2:b.st.toNat=J:=by omega
    simp only [ap0,i1,i2]
    omega
   generalize ap0 t b a=L at *
   unfold Gv
   unfold zBx at h2 h3 h4 ⊢
   (refine zK (n:=76) Tryz.func92 rfl rfl rfl ?_)
   (repeat' (first|((with_reducible refine zG ?_);first|refine zD rfl rfl rfl ?_|refine zC rfl rfl rfl ?_|(refine zJ rfl rfl rfl ?_;refine ⟨_,rfl,?_⟩)|refine zL rfl rfl rfl ?_|refine z7 rfl rfl rfl rfl ?_|(refine zS rfl rfl rfl rfl rfl (fun h=>?_) (fun h=>?_)<;>(dsimp only [cmpP] at h;(try (exfalso;omega))))|refine zO rfl rfl rfl rfl (fun _ _ q=>h1 _ q.below) ?_|refine zO rfl rfl rfl rfl (fun _ _ q=>h2 _ q.below) ?_|refine zO rfl rfl rfl rfl (fun _ _ q=>h3 _ q.below) ?_|refine zO rfl rfl rfl rfl (fun _ _ q=>h4 _ q.below) ?_|refine zk rfl rfl rfl rfl ?_|refine zAI rfl rfl rfl ?_|(refine zX rfl rfl rfl rfl rfl ?_;refine ⟨rfl,by first|decide|exact Nat.le_of_ble_eq_true rfl|(simp;omega),_,rfl,?_⟩)|(refine zb rfl rfl (fun b=>?_))|(refine zp rfl rfl rfl rfl (fun b=>?_))|(refine zAZ rfl rfl rfl ?_;refine ⟨_,rfl,?_⟩)|refine u_neg rfl rfl rfl (by rw [Int.zero_sub];exact IntWalk.i64_in _ (by omega)) ?_)|(with_reducible first|refine zI ?_|refine zB ?_|refine zE ?_|refine zA ?_|refine zV ?_|refine zR ?_|refine zU ?_)|((with_reducible refine zH ?_ ?_);(· exact rfl))|((with_reducible refine zF ?_ ?_);(· exact rfl))))
   exact zP (by (exact zh.cons (by exact res1c rfl (by exact rfl)) (zh.cons (by exact zAO.tmp rfl) zh.nil))) () trivial rfl (fun _ h=>h.sub (by (repeat constructor)))
  ·rw [if_neg hij]
   exact zH6 t A cap a b w ht hf hl hv hs1 hs2 (by omega)
end Go.Proofs.YtfiekidciiighaaGreat
