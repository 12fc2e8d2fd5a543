/- S12 -/
import Derived.Test.YtcpdjamlhhfbhaaGreatS10
set_option linter.unusedSimpArgs false
set_option linter.unusedVariables false
namespace Go.Proofs.YtcpdjamlhhfbhaaGreat
open Go.RowKit
set_option maxRecDepth 20000
theorem zAm {t:List St} {s:Spot} (h:zj t s=true) (ho:∀ s∈t,zDS s):0≤s.off.lo∧s.off.lo≤s.off.hi∧s.off.hi≤30000:=by
 obtain ⟨I,hI,hlt⟩:=zAT h
 obtain ⟨st,off⟩:=s
 simp only at hI ⊢
 subst hI
 rw [zDb hlt,zx] at h
 have:=(ho t[I] (List.getElem_mem hlt)).l1
 have:=(ho t[I] (List.getElem_mem hlt)).l2
 omega
theorem stand_1 (t:List St) (s:Spot):decide ((picks (zBX t) [s]).length=0)=zj t s:=by
 have e:picks (zBX t) [s]=zAr (zBX t) [s] (0+1):=rfl
 have h0:soAt (zBX t) [s] 0 = !zj t s:=rfl
 rw [e]
 cases h:zj t s
 ·rw [zBz (by rw [h0,h];rfl)];simp
 ·rw [zCR (by rw [h0,h];rfl)];simp [zAr]
theorem stand_2 (t:List St) (a b:Spot):decide ((picks (zBX t) [a,b]).length=0)=(zj t a && zj t b):=by
 have e:picks (zBX t) [a,b]=zAr (zBX t) [a,b] (0+1+1):=rfl
 have h0:soAt (zBX t) [a,b] 0 = !zj t a:=rfl
 have h1:soAt (zBX t) [a,b] (0+1) = !zj t b:=rfl
 rw [e]
 cases h:zj t b
 ·rw [zBz (by rw [h1,h];rfl)];simp
 ·rw [zCR (by rw [h1,h];rfl)]
  cases h2:zj t a
  ·rw [zBz (by rw [h0,h2];rfl)];simp
  ·rw [zCR (by rw [h0,h2];rfl)];simp [zAr]
set_option maxHeartbeats 1000000 in
theorem zEI (t:List St) (A:Option Addr) (cap:Nat) (ss:List Spot) (B:Option Addr) (c:Nat) (w:World) (ht:zg zq 9 w A t) (ho:∀ s∈t,zDS s) (hl:t.length≤1000) (hs:zg zBA 3 w B ss) (hsl:ss.length≤1000) :
  Gv Tryz.prog 105 [.agg #[.slice A t.length cap],.slice B ss.length c] w (.bool (decide ((picks (zBX t) ss).length=0))):=by
 unfold Gv
 have hpl:(picks (zBX t) ss).length≤ss.length:=zDu _ _ _
 (refine zD (n:=10) Tryz.func105 rfl rfl rfl ?_)
 (repeat' (first|((with_reducible refine zH ?_);first|refine zF rfl rfl rfl ?_|refine zC rfl rfl rfl ?_|(refine zS rfl rfl rfl rfl rfl (fun h=>?_) (fun h=>?_)<;>(dsimp only [cmpP] at h;(try (exfalso;omega))))|refine zD5 rfl rfl rfl rfl (fun _ _ q=>(pickSpot ss _ _ _ _ (zBX t) _ (hs.below q.below) (by omega) (fun k o W hx hW=>zFl t A cap k o _ W ((ht.below q.below).below hW) ho hl (zF5 q.own hW)))) (fun A' c'=>?_)|refine zz rfl rfl rfl ?_|(refine zf rfl rfl rfl rfl (fun b=>?_))|refine zAq rfl rfl rfl rfl ?_)|(with_reducible first|refine zK ?_|refine zB ?_|refine zG ?_|refine zA ?_|refine zR ?_)))
 all_goals exact zN (by exact rTm rfl) () trivial (by first|exact congrArg Value.bool (decide_eq_true (by omega))|exact congrArg Value.bool (decide_eq_false (by omega))) (fun _ h=>h.sub (by (repeat constructor)))
theorem stands_1 (t:List St) (A:Option Addr) (cap:Nat) (s:Spot) (B:Option Addr) (w:World) (ht:zg zq 9 w A t) (ho:∀ s∈t,zDS s) (hl:t.length≤1000) (hs:zg zBA 3 w B [s]) :
  Gv Tryz.prog 105 [.agg #[.slice A t.length cap],.slice B 1 1] w (.bool (zj t s)):=by
 rw [← stand_1];exact zEI t A cap [s] B 1 w ht ho hl hs (by simp)
theorem stands_2 (t:List St) (A:Option Addr) (cap:Nat) (a b:Spot) (B:Option Addr) (w:World) (ht:zg zq 9 w A t) (ho:∀ s∈t,zDS s) (hl:t.length≤1000) (hs:zg zBA 3 w B [a,b]) :
  Gv Tryz.prog 105 [.agg #[.slice A t.length cap],.slice B 2 2] w (.bool (zj t a && zj t b)):=by
 rw [← stand_2];exact zEI t A cap [a,b] B 2 w ht ho hl hs (by simp)
set_option maxHeartbeats 1000000 in
theorem zBj (t:List St) (A:Option Addr) (cap:Nat) (s:Spot) (w:World) (ht:zg zq 9 w A t) (ho:∀ s∈t,zDS s) (hl:t.length≤1000) :
  Gv Tryz.prog 90 [.agg #[.slice A t.length cap],zAl s] w (.bool (zj t s)):=by
 unfold Gv zAl
 obtain ⟨st,off⟩:=s
 by_cases h:0≤st∧st≤(t.length:Int) - 1
 ·obtain ⟨I,rfl⟩:∃ I:Nat,st=I:=⟨st.toNat,by omega⟩
  have hI:I<t.length:=by omega
  rw [zDb hI]
  have:zA5 t I t[I]:=⟨by simp [hI]⟩
  obtain ⟨bb,o,rfl,hblt,hc⟩:=ht.at_ hI
  have:InS w bb o zq 9 t:=⟨ht⟩
  obtain ⟨y1,y2,y3,y4,y5,y6,y7,y8⟩:=ho t[I] (List.getElem_mem hI)
  generalize t[I]=z at *
  (refine zD (n:=26) Tryz.func90 rfl rfl rfl ?_)
  (repeat' (first|((with_reducible refine zH ?_);first|refine zC rfl rfl rfl ?_|(refine zf rfl rfl rfl rfl (fun b=>?_)))|(with_reducible first|refine zK ?_|refine zB ?_|refine zG ?_|refine zA ?_)))
  (refine Two.zAP [] [] [] rfl (show ([]:List Nat).Nodup by decide) (fun _ h=>h) (by kernel_rfl) [[],[Z],[Y,Y],[Z,Y,Y],[Z,Z,Y,Y],[Z,Z,Z,Y,Y],[Z,Z,Z,Z,Z,Z],[Z,Z,Z,Z,Z,Z,Z],[Z,Z,Z,Z,Z,Z,Z,Z],[Z,Z,Z,Z,Z,Z,Z,Z,Z],[Y,Y,Z,Z,Z,Z,Z,Z,Z,Z],[Z,Y,Y,Z,Z,Z,Z,Z,Z,Z,Z],[Y,Y,Y,Y,Z,Z,Z,Z,Z,Z,Z,Z],[Z,Y,Y,Y,Y,Z,Z,Z,Z,Z,Z,Z,Z],[Z,Z,Z,Z,Y,Y,Z,Z,Z,Z,Z,Z,Z,Z],[Z,Z,Z,Z,Z,Y,Y,Z,Z,Z,Z,Z,Z,Z,Z],[Z,Z,Z,Z,Z,Z,Y,Y,Z,Z,Z,Z,Z,Z,Z,Z],[Z,Z,Z,Z,Z,Z,Z,Y,Y,Z,Z,Z,Z,Z,Z,Z,Z],[Z,Z,Z,Z,Z,Z,Z,Z,Y,Y,Z,Z,Z,Z,Z,Z,Z,Z],[Z,Z,Z,Z,Z,Z,Z,Z,Z,Z,Z,Z,Z,Z,Z,Z,Z,Z,Z],[Z,Z,Z,Z,Z,Z,Z,Z,Z,Z,Z,Z,Z,Z,Z,Z,Z,Z,Z,Z],[Z,Z,Z,Z,Z,Z,Z,Z,Z,Z,Z,Z,Z,Z,Z,Z,Z,Z,Z,Z,Z]] (by kernel_rfl) (by kernel_rfl) (by kernel_rfl) (by kernel_rfl) (by kernel_rfl) ?_)
  (repeat' (first|(((with_reducible refine Two.zCL ?_ ?_);(· exact rfl);refine ⟨_,fun G=>(by (try simp (decide:=true) only [Two.vis,Two.see,fltT,z8,Nat.reduceAdd,Nat.reduceSub,if_true,if_false,List.set_cons_zero,List.set_cons_succ,List.set_nil,List.nil_append,List.cons_append]);rfl),?_⟩);first|refine Two.zW _ (fun _=>zAi rfl rfl) (fun _=>rfl) rfl (by intro G G' h;simp (decide:=true) only [h]) ?_|refine Two.zW _ (fun _=>zAC rfl rfl (by exact rfl)) (fun _=>rfl) rfl (by intro G G' h;simp (decide:=true) only [h]) ?_|(refine Two.zAj rfl ?_;refine Two.zW _ (fun _=>zAd rfl rfl) (fun _=>rfl) rfl (by intro G G' h;simp (decide:=true) only [h]) ?_)|refine Two.zW _ (fun _=>zCA rfl rfl rfl) (fun _=>rfl) rfl (by intro G G' h;simp (decide:=true) only [h]) ?_|refine Two.zW _ (fun _=>zAa rfl rfl) (fun _=>rfl) rfl (by intro G G' h;simp (decide:=true) only [h]) ?_|(refine Two.zCM rfl (fun _=>rfl) rfl (fun _=>rfl) (fun _=>rfl) (fun _ _ _ _=>(zBG _ _ _ _).gv) (fun h=>?_) (fun h=>?_)<;>((try simp only [zy,zBo,zx,zAQ] at h);(try (exfalso;omega))))|(refine Two.zCM rfl (fun _=>rfl) rfl (fun _=>rfl) (fun _=>rfl) (fun _ _ _ _=>(zDF off 0 _ _).gv) (fun h=>?_) (fun h=>?_)<;>((try simp only [zy,zBo,zx,zAQ] at h);(try (exfalso;omega))))|refine Two.zW _ (fun _=>zDy rfl rfl rfl (IntWalk.i64_in _ (by omega))) (fun _=>rfl) rfl (by intro G G' h;simp (decide:=true) only [h]) ?_|refine Two.zW _ (fun _=>zAV rfl rfl rfl rfl (by omega)) (fun _=>rfl) rfl (by intro G G' h;simp (decide:=true) only [h]) ?_|refine Two.zW _ (fun _=>zF4 rfl rfl) (fun _=>rfl) rfl (by intro G G' h;simp (decide:=true) only [h]) ?_)|(with_reducible refine Two.zB2 ?_)))
  all_goals
   (intro G;simp only [regsT,z8,Two.zA7,Two.ini,List.nil_append,List.cons_append])
   (repeat' (first|(with_reducible first|refine zA ?_|refine zR ?_)))
   exact zN (by exact rTm rfl) () trivial (by first|exact congrArg Value.bool (by rw [zx.2 (by omega)])|exact congrArg Value.bool (by rw [zAQ.2 (by omega)])) (fun _ h=>h.sub (by (repeat constructor)))
 ·rw [zEJ h]
  (refine zD (n:=26) Tryz.func90 rfl rfl rfl ?_)
  (repeat' (first|((with_reducible refine zH ?_);first|refine zC rfl rfl rfl ?_|(refine zf rfl rfl rfl rfl (fun b=>?_)))|(with_reducible first|refine zK ?_|refine zB ?_|refine zG ?_|refine zA ?_)))
  (refine Two.zAP [] [] [] rfl (show ([]:List Nat).Nodup by decide) (fun _ h=>h) (by kernel_rfl) [[],[Z],[Y,Y],[Z,Y,Y],[Z,Z,Y,Y],[Z,Z,Z,Y,Y],[Z,Z,Z,Z,Z,Z],[Z,Z,Z,Z,Z,Z,Z],[Z,Z,Z,Z,Z,Z,Z,Z],[Z,Z,Z,Z,Z,Z,Z,Z,Z],[Y,Y,Z,Z,Z,Z,Z,Z,Z,Z],[Z,Y,Y,Z,Z,Z,Z,Z,Z,Z,Z],[Y,Y,Y,Y,Z,Z,Z,Z,Z,Z,Z,Z],[Z,Y,Y,Y,Y,Z,Z,Z,Z,Z,Z,Z,Z],[Z,Z,Z,Z,Y,Y,Z,Z,Z,Z,Z,Z,Z,Z],[Z,Z,Z,Z,Z,Y,Y,Z,Z,Z,Z,Z,Z,Z,Z],[Z,Z,Z,Z,Z,Z,Y,Y,Z,Z,Z,Z,Z,Z,Z,Z],[Z,Z,Z,Z,Z,Z,Z,Y,Y,Z,Z,Z,Z,Z,Z,Z,Z],[Z,Z,Z,Z,Z,Z,Z,Z,Y,Y,Z,Z,Z,Z,Z,Z,Z,Z],[Z,Z,Z,Z,Z,Z,Z,Z,Z,Z,Z,Z,Z,Z,Z,Z,Z,Z,Z],[Z,Z,Z,Z,Z,Z,Z,Z,Z,Z,Z,Z,Z,Z,Z,Z,Z,Z,Z,Z],[Z,Z,Z,Z,Z,Z,Z,Z,Z,Z,Z,Z,Z,Z,Z,Z,Z,Z,Z,Z,Z]] (by kernel_rfl) (by kernel_rfl) (by kernel_rfl) (by kernel_rfl) (by kernel_rfl) ?_)
  (repeat' (first|(((with_reducible refine Two.zCL ?_ ?_);(· exact rfl);refine ⟨_,fun G=>(by (try simp (decide:=true) only [Two.vis,Two.see,fltT,z8,Nat.reduceAdd,Nat.reduceSub,if_true,if_false,List.set_cons_zero,List.set_cons_succ,List.set_nil,List.nil_append,List.cons_append]);rfl),?_⟩);first|refine Two.zW _ (fun _=>zAi rfl rfl) (fun _=>rfl) rfl (by intro G G' h;simp (decide:=true) only [h]) ?_|refine Two.zW _ (fun _=>zAC rfl rfl (by exact rfl)) (fun _=>rfl) rfl (by intro G G' h;simp (decide:=true) only [h]) ?_|(refine Two.zAj rfl ?_;refine Two.zW _ (fun _=>zAd rfl rfl) (fun _=>rfl) rfl (by intro G G' h;simp (decide:=true) only [h]) ?_)|refine Two.zW _ (fun _=>zCA rfl rfl rfl) (fun _=>rfl) rfl (by intro G G' h;simp (decide:=true) only [h]) ?_|refine Two.zW _ (fun _=>zAa rfl rfl) (fun _=>rfl) rfl (by intro G G' h;simp (decide:=true) only [h]) ?_|refine Two.zDN (fun _=>rfl) rfl ?_|(refine Two.zCM rfl (fun _=>rfl) rfl (fun _=>rfl) (fun _=>rfl) (fun _ _ _ _=>(zBG _ _ _ _).gv) (fun h=>?_) (fun h=>?_)<;>((try simp only [zy,zBo,zx,zAQ] at h);(try (exfalso;omega))))|refine Two.zW _ (fun _=>zDy rfl rfl rfl (IntWalk.i64_in _ (by omega))) (fun _=>rfl) rfl (by intro G G' h;simp (decide:=true) only [h]) ?_|refine Two.zW _ (fun _=>zF4 rfl rfl) (fun _=>rfl) rfl (by intro G G' h;simp (decide:=true) only [h]) ?_)|(with_reducible refine Two.zB2 ?_)))
  (intro G;simp only [regsT,z8,Two.zA7,Two.ini,List.nil_append,List.cons_append])
  (repeat' (first|(with_reducible first|refine zA ?_|refine zR ?_)))
  exact zN (by exact rTm rfl) () trivial rfl (fun _ h=>h.sub (by (repeat constructor)))
def zBC (s:Sp):Sp:=⟨-s.hi,-s.lo⟩
theorem zEU (s:Sp) (w:World) (h:near 1000000000000 s):Gv Tryz.prog 108 [vSp s] w (vSp (zBC s)):=by
 unfold Gv vSp
 obtain ⟨h1,h2,h3,h4⟩:=h
 (refine zD (n:=10) Tryz.func108 rfl rfl rfl ?_)
 (repeat' (first|((with_reducible refine zH ?_);first|(refine zM rfl rfl rfl ?_;refine ⟨_,rfl,?_⟩)|refine zP rfl rfl rfl ?_|(refine zV rfl rfl rfl rfl rfl ?_;refine ⟨rfl,by first|decide|exact Nat.le_of_ble_eq_true rfl|(simp;omega),_,rfl,?_⟩)|(refine zX rfl rfl (fun b=>?_))|(refine zf rfl rfl rfl rfl (fun b=>?_))|(refine zAJ rfl rfl rfl ?_;refine ⟨_,rfl,?_⟩)|refine u_neg rfl rfl rfl (by rw [Int.zero_sub];exact IntWalk.i64_in _ (by omega)) ?_)|(with_reducible first|refine zK ?_|refine zB ?_|refine zG ?_|refine zA ?_|refine zR ?_)))
 exact zN (by (exact zi.cons (by exact res1c rfl (by exact rfl)) zi.nil)) () trivial rfl (fun _ h=>h.sub (by (repeat constructor)))
def atT (t:List St) (s:Spot):Sp:=if valid t && zj t s then zAG (mark t s.st.toNat) s.off else ⟨0,0⟩
def zCV (t:List St) (s:Spot):Int:=if valid t then (if zj t s then 0 else 12) else 10
set_option maxHeartbeats 1000000 in
theorem at_any (t:List St) (A:Option Addr) (cap:Nat) (s:Spot) (w:World) (ht:zg zq 9 w A t) (hf:zBs t) (hl:t.length≤1000) :
  Gv Tryz.prog 63 [.agg #[.slice A t.length cap],zAl s] w (.tuple #[vSp (atT t s),.int .i64 (zCV t s)]):=by
 unfold Gv zAl
 have h1:=fun W (h:Below w.heap.size w W)=>open_n t A cap W (ht.below h) hf (by omega)
 cases hv:valid t
 ·have e1:atT t s=⟨0,0⟩:=by simp [atT,hv]
  have e2:zCV t s=10:=by simp [zCV,hv]
  rw [e1,e2]
  rw [zGt hv] at h1
  (refine zD (n:=37) Tryz.func63 rfl rfl rfl ?_)
  (repeat' (first|((with_reducible refine zH ?_);first|refine zF rfl rfl rfl ?_|refine zC rfl rfl rfl ?_|(refine zM rfl rfl rfl ?_;refine ⟨_,rfl,?_⟩)|(refine zS rfl rfl rfl rfl rfl (fun h=>?_) (fun h=>?_)<;>(dsimp only [cmpP] at h;(try (exfalso;omega))))|refine zE rfl rfl rfl rfl (fun _ _ q=>h1 _ q.below) ?_|refine zh rfl rfl rfl rfl ?_|(refine zV rfl rfl rfl rfl rfl ?_;refine ⟨rfl,by first|decide|exact Nat.le_of_ble_eq_true rfl|(simp;omega),_,rfl,?_⟩)|(refine zX rfl rfl (fun b=>?_))|(refine zf rfl rfl rfl rfl (fun b=>?_))|(refine zAJ rfl rfl rfl ?_;refine ⟨_,rfl,?_⟩))|(with_reducible first|refine zK ?_|refine zB ?_|refine zG ?_|refine zA ?_|refine zR ?_|refine zb ?_)|((with_reducible refine zO ?_ ?_);(· exact rfl))))
  exact zN (by (exact zi.cons (by exact res1c rfl (by exact rfl)) (zi.cons (by exact zAo.tmp rfl) zi.nil))) () trivial rfl (fun _ h=>h.sub (by (repeat constructor)))
 ·rw [zEa hv] at h1
  have ho:=zAy hv
  have h2:=fun B W (h:Below w.heap.size w W) hB=>stands_1 t A cap s B W (ht.below h) ho hl hB
  have hlen:=zBR hv
  cases hs:zj t s
  ·have e1:atT t s=⟨0,0⟩:=by simp [atT,hs]
   have e2:zCV t s=12:=by simp [zCV,hv,hs]
   rw [e1,e2]
   rw [hs] at h2
   (refine zD (n:=37) Tryz.func63 rfl rfl rfl ?_)
   (repeat' (first|((with_reducible refine zH ?_);first|refine zF rfl rfl rfl ?_|refine zC rfl rfl rfl ?_|(refine zM rfl rfl rfl ?_;refine ⟨_,rfl,?_⟩)|(refine zS rfl rfl rfl rfl rfl (fun h=>?_) (fun h=>?_)<;>(dsimp only [cmpP] at h;(try (exfalso;omega))))|refine zE rfl rfl rfl rfl (fun _ _ q=>h1 _ q.below) ?_|refine zE rfl rfl rfl rfl (fun _ _ q=>h2 _ _ q.below (zo (enc:=zBA) (by exact rfl) _ q.below q.own)) ?_|refine zh rfl rfl rfl rfl ?_|refine zAB rfl rfl rfl ?_|(refine zV rfl rfl rfl rfl rfl ?_;refine ⟨rfl,by first|decide|exact Nat.le_of_ble_eq_true rfl|(simp;omega),_,rfl,?_⟩)|(refine zX rfl rfl (fun b=>?_))|(refine zf rfl rfl rfl rfl (fun b=>?_))|(refine zAJ rfl rfl rfl ?_;refine ⟨_,rfl,?_⟩)|(refine zc rfl rfl rfl ?_;refine ⟨rfl,_,rfl,fun b=>?_⟩))|(with_reducible first|refine zK ?_|refine zB ?_|refine zG ?_|refine zA ?_|refine zR ?_|refine zU ?_|refine zb ?_)|((with_reducible refine zO ?_ ?_);(· exact rfl))|((with_reducible refine zI ?_ ?_);(· exact rfl))))
   exact zN (by (exact zi.cons (by exact res1c rfl (by exact rfl)) (zi.cons (by exact zAo.tmp rfl) zi.nil))) () trivial rfl (fun _ h=>h.sub (by (repeat constructor)))
  ·have hbd:=zAm hs ho
   obtain ⟨I,hI,hlt⟩:=zAT hs
   have e1:atT t s=zAG (zQ t 0 I) s.off:=by simp [atT,hv,hs,hI,mark]
   have e2:zCV t s=0:=by simp [zCV,hv,hs]
   rw [e1,e2]
   rw [hs] at h2
   obtain ⟨st,off⟩:=s
   simp only at hI hbd h2 ⊢
   subst hI
   have h3:∀ W,Below w.heap.size w W→Gv Tryz.prog 106 [.agg #[.slice A t.length cap],.int .i64 0,.int .i64 I] W (.tuple #[vSp (zQ t 0 I),vSp (zY t 0 I)]):=fun W h=>(zDY t A cap 0 I W (ht.below h) ho (by omega) (by omega) (by omega)).gv
   have hb:=zAb ho (Nat.zero_le I) (by omega)
   generalize zQ t 0 I=L at *
   generalize zY t 0 I=F at *
   have n1:near 1000000000000 L:=by unfold near;omega
   have n2:∀ x∈[off],near 1000000000 x:=by simp [near];omega
   (refine zD (n:=37) Tryz.func63 rfl rfl rfl ?_)
   (repeat' (first|((with_reducible refine zH ?_);first|refine zF rfl rfl rfl ?_|refine zC rfl rfl rfl ?_|(refine zM rfl rfl rfl ?_;refine ⟨_,rfl,?_⟩)|refine zP rfl rfl rfl ?_|(refine zS rfl rfl rfl rfl rfl (fun h=>?_) (fun h=>?_)<;>(dsimp only [cmpP] at h;(try (exfalso;omega))))|refine zE rfl rfl rfl rfl (fun _ _ q=>h1 _ q.below) ?_|refine zE rfl rfl rfl rfl (fun _ _ q=>h2 _ _ q.below (zo (enc:=zBA) (by exact rfl) _ q.below q.own)) ?_|refine zE rfl rfl rfl rfl (fun _ _ q=>h3 _ q.below) ?_|refine zE rfl rfl rfl rfl (fun _ _ q=>(zCi L [off] _ _ _ (zo (enc:=zAM) (by exact rfl) _ q.below q.own) n1 n2 (by simp)).gv) ?_|refine zh rfl rfl rfl rfl ?_|refine zAB rfl rfl rfl ?_|(refine zV rfl rfl rfl rfl rfl ?_;refine ⟨rfl,by first|decide|exact Nat.le_of_ble_eq_true rfl|(simp;omega),_,rfl,?_⟩)|(refine zX rfl rfl (fun b=>?_))|(refine zf rfl rfl rfl rfl (fun b=>?_))|(refine zc rfl rfl rfl ?_;refine ⟨rfl,_,rfl,fun b=>?_⟩))|(with_reducible first|refine zK ?_|refine zB ?_|refine zG ?_|refine zA ?_|refine zR ?_|refine zU ?_)|((with_reducible refine zI ?_ ?_);(· exact rfl))))
   exact zN (by (exact zi.cons (by exact res1c rfl (by exact rfl)) (zi.cons (by exact zAo.tmp rfl) zi.nil))) () trivial rfl (fun _ h=>h.sub (by (repeat constructor)))
set_option maxHeartbeats 1000000 in
theorem rAt_any (t:List St) (A:Option Addr) (cap:Nat) (s:Spot) (w:World) (ht:zg zq 9 w A t) (hf:zBs t) (hl:t.length≤1000) :
  Gv Tryz.prog 128 [.agg #[.slice A t.length cap],zAl s] w (.tuple #[vSp (atT t s),.int .i64 (zCV t s)]):=by
 unfold Gv zAl
 have h1:=fun W (h:Below w.heap.size w W)=>zDD t A cap W (ht.below h) hf (by omega)
 cases hv:valid t
 ·have e1:atT t s=⟨0,0⟩:=by simp [atT,hv]
  have e2:zCV t s=10:=by simp [zCV,hv]
  rw [e1,e2]
  rw [hv] at h1
  (refine zD (n:=35) Tryz.func128 rfl rfl rfl ?_)
  (repeat' (first|((with_reducible refine zH ?_);first|refine zC rfl rfl rfl ?_|(refine zM rfl rfl rfl ?_;refine ⟨_,rfl,?_⟩)|refine zE rfl rfl rfl rfl (fun _ _ q=>h1 _ q.below) ?_|refine zAB rfl rfl rfl ?_|(refine zV rfl rfl rfl rfl rfl ?_;refine ⟨rfl,by first|decide|exact Nat.le_of_ble_eq_true rfl|(simp;omega),_,rfl,?_⟩)|(refine zX rfl rfl (fun b=>?_))|(refine zf rfl rfl rfl rfl (fun b=>?_))|(refine zAJ rfl rfl rfl ?_;refine ⟨_,rfl,?_⟩))|(with_reducible first|refine zK ?_|refine zB ?_|refine zG ?_|refine zA ?_|refine zR ?_|refine zb ?_)|((with_reducible refine zO ?_ ?_);(· exact rfl))))
  exact zN (by (exact zi.cons (by exact res1c rfl (by exact rfl)) (zi.cons (by exact zAo.tmp rfl) zi.nil))) () trivial rfl (fun _ h=>h.sub (by (repeat constructor)))
 ·rw [hv] at h1
  have ho:=zAy hv
  have h2:=fun W (h:Below w.heap.size w W)=>zBj t A cap s W (ht.below h) ho hl
  have hlen:=zBR hv
  cases hs:zj t s
  ·have e1:atT t s=⟨0,0⟩:=by simp [atT,hs]
   have e2:zCV t s=12:=by simp [zCV,hv,hs]
   rw [e1,e2]
   rw [hs] at h2
   (refine zD (n:=35) Tryz.func128 rfl rfl rfl ?_)
   (repeat' (first|((with_reducible refine zH ?_);first|refine zC rfl rfl rfl ?_|(refine zM rfl rfl rfl ?_;refine ⟨_,rfl,?_⟩)|refine zE rfl rfl rfl rfl (fun _ _ q=>h1 _ q.below) ?_|refine zE rfl rfl rfl rfl (fun _ _ q=>h2 _ q.below) ?_|refine zAB rfl rfl rfl ?_|(refine zV rfl rfl rfl rfl rfl ?_;refine ⟨rfl,by first|decide|exact Nat.le_of_ble_eq_true rfl|(simp;omega),_,rfl,?_⟩)|(refine zX rfl rfl (fun b=>?_))|(refine zf rfl rfl rfl rfl (fun b=>?_))|(refine zAJ rfl rfl rfl ?_;refine ⟨_,rfl,?_⟩))|(with_reducible first|refine zK ?_|refine zB ?_|refine zG ?_|refine zA ?_|refine zR ?_|refine zU ?_|refine zb ?_)|((with_reducible refine zO ?_ ?_);(· exact rfl))|((with_reducible refine zI ?_ ?_);(· exact rfl))))
   exact zN (by (exact zi.cons (by exact res1c rfl (by exact rfl)) (zi.cons (by exact zAo.tmp rfl) zi.nil))) () trivial rfl (fun _ h=>h.sub (by (repeat constructor)))
  ·have hbd:=zAm hs ho
   obtain ⟨I,hI,hlt⟩:=zAT hs
   have e1:atT t s=zAG (mark t I) s.off:=by simp [atT,hv,hs,hI]
   have e2:zCV t s=0:=by simp [zCV,hv,hs]
   rw [e1,e2]
   rw [hs] at h2
   obtain ⟨st,off⟩:=s
   simp only at hI hbd h2 ⊢
   subst hI
   have hb:=zAb ho (Nat.zero_le I) (by omega)
   have hml:(marks t).length=t.length+1:=by simp [marks]
   have:zA5 (marks t) I (mark t I):=⟨by rw [marks,List.getElem?_map,List.getElem?_range (by omega)];rfl⟩
   have h3:=fun W (h:Below w.heap.size w W)=>rmarks_n t A cap W (ht.below h) ho hl
   generalize marks t=M at *
   rw [show zQ t 0 I=mark t I from rfl] at hb
   generalize mark t I=L at *
   (refine zD (n:=35) Tryz.func128 rfl rfl rfl ?_)
   (repeat' (first|((with_reducible refine zH ?_);first|refine zC rfl rfl rfl ?_|(refine zM rfl rfl rfl ?_;refine ⟨_,rfl,?_⟩)|refine zE rfl rfl rfl rfl (fun _ _ q=>h1 _ q.below) ?_|refine zE rfl rfl rfl rfl (fun _ _ q=>h2 _ q.below) ?_|refine zAB rfl rfl rfl ?_|(refine zX rfl rfl (fun b=>?_))|(refine zf rfl rfl rfl rfl (fun b=>?_)))|(with_reducible first|refine zK ?_|refine zB ?_|refine zG ?_|refine zA ?_|refine zU ?_)|((with_reducible refine zI ?_ ?_);(· exact rfl))))
   (refine Two.zAP [] [] [] rfl (show ([]:List Nat).Nodup by decide) (fun _ h=>h) (by kernel_rfl) [[],[Z],[Y,Y],[Z,Y,Y],[Z,Z,Z,Z],[Z,Z,Z,Z,Z],[Y,Y,Y,Y,Y,Y],[Z,Z,Z,Z,Z,Z,Z]] (by kernel_rfl) (by kernel_rfl) (by kernel_rfl) (by kernel_rfl) (by kernel_rfl) ?_)
   (repeat' (first|(((with_reducible refine Two.zCL ?_ ?_);(· exact rfl);refine ⟨_,fun G=>(by (try simp (decide:=true) only [Two.vis,Two.see,fltT,z8,Nat.reduceAdd,Nat.reduceSub,if_true,if_false,List.set_cons_zero,List.set_cons_succ,List.set_nil,List.nil_append,List.cons_append]);rfl),?_⟩);first|refine Two.zW _ (fun _=>zAC rfl rfl (by exact rfl)) (fun _=>rfl) rfl (by intro G G' h;simp (decide:=true) only [h]) ?_|(refine Two.zAj rfl ?_;refine Two.zW _ (fun _=>zAd rfl rfl) (fun _=>rfl) rfl (by intro G G' h;simp (decide:=true) only [h]) ?_)|refine Two.c_newslS rfl (fun _=>rfl) rfl (fun _=>rfl) (fun _=>rfl) (fun _ _ _ q=>h3 _ q.below) (by omega) ?_|refine Two.zW _ (fun _=>zAV rfl rfl rfl rfl (by omega)) (fun _=>rfl) rfl (by intro G G' h;simp (decide:=true) only [h]) ?_|refine Two.zDO rfl (fun _=>rfl) rfl ?_)|((with_reducible refine Two.zDl ?_ ?_);(· exact rfl))))
   (intro G;simp only [regsT,z8,Two.zA7,Two.ini,List.nil_append,List.cons_append])
   (repeat' (first|((with_reducible refine zH ?_);first|refine zC rfl rfl rfl ?_|(refine zM rfl rfl rfl ?_;refine ⟨_,rfl,?_⟩)|refine zP rfl rfl rfl ?_|refine zCx rfl rfl rfl rfl (IntWalk.i64_in _ (by omega)) ?_|(refine zV rfl rfl rfl rfl rfl ?_;refine ⟨rfl,by first|decide|exact Nat.le_of_ble_eq_true rfl|(simp;omega),_,rfl,?_⟩)|(refine zAJ rfl rfl rfl ?_;refine ⟨_,rfl,?_⟩))|(with_reducible first|refine zK ?_|refine zB ?_|refine zG ?_|refine zA ?_|refine zR ?_)))
   exact zN (by (exact zi.cons (by exact res1c rfl (by exact rfl)) (zi.cons (by exact zAo.tmp rfl) zi.nil))) () trivial rfl (fun _ h=>h.sub (by (repeat constructor)))
end Go.Proofs.YtcpdjamlhhfbhaaGreat
namespace Go.Proofs.YtcpdjamlhhfbhaaGreat
open Go.RowKit
set_option maxRecDepth 20000
def ap0 (t:List St) (a b:Spot):Sp:=⟨(zQ t a.st.toNat b.st.toNat).lo+b.off.lo - a.off.hi,(zQ t a.st.toNat b.st.toNat).hi+b.off.hi - a.off.lo⟩
def apT (t:List St) (a b:Spot):Sp:=if valid t && (zj t a && zj t b) then (if b.st<a.st then zBC (ap0 t b a) else ap0 t a b) else ⟨0,0⟩
def zCe (t:List St) (a b:Spot):Int:=if valid t then (if zj t a && zj t b then 0 else 12) else 10
set_option maxHeartbeats 2000000 in
theorem zHR (t:List St) (A:Option Addr) (cap:Nat) (a b:Spot) (w:World) (ht:zg zq 9 w A t) (hf:zBs t) (hl:t.length≤1000) :
  Gv Tryz.prog 64 [.agg #[.slice A t.length cap],zAl a,zAl b] w (.tuple #[vSp (apT t a b),.int .i64 (zCe t a b)]):=by
 unfold Gv zAl
 have h1:=fun W (h:Below w.heap.size w W)=>open_n t A cap W (ht.below h) hf (by omega)
 cases hv:valid t
 ·have e1:apT t a b=⟨0,0⟩:=by simp [apT,hv]
  have e2:zCe t a b=10:=by simp [zCe,hv]
  rw [e1,e2]
  rw [zGt hv] at h1
  (refine zD (n:=58) Tryz.func64 rfl rfl rfl ?_)
  (repeat' (first|((with_reducible refine zH ?_);first|refine zF rfl rfl rfl ?_|refine zC rfl rfl rfl ?_|(refine zM rfl rfl rfl ?_;refine ⟨_,rfl,?_⟩)|(refine zS rfl rfl rfl rfl rfl (fun h=>?_) (fun h=>?_)<;>(dsimp only [cmpP] at h;(try (exfalso;omega))))|refine zE rfl rfl rfl rfl (fun _ _ q=>h1 _ q.below) ?_|refine zh rfl rfl rfl rfl ?_|(refine zV rfl rfl rfl rfl rfl ?_;refine ⟨rfl,by first|decide|exact Nat.le_of_ble_eq_true rfl|(simp;omega),_,rfl,?_⟩)|(refine zX rfl rfl (fun b=>?_))|(refine zf rfl rfl rfl rfl (fun b=>?_))|(refine zAJ rfl rfl rfl ?_;refine ⟨_,rfl,?_⟩))|(with_reducible first|refine zK ?_|refine zB ?_|refine zG ?_|refine zA ?_|refine zR ?_|refine zb ?_)|((with_reducible refine zO ?_ ?_);(· exact rfl))))
  exact zN (by (exact zi.cons (by exact res1c rfl (by exact rfl)) (zi.cons (by exact zAo.tmp rfl) zi.nil))) () trivial rfl (fun _ h=>h.sub (by (repeat constructor)))
 ·rw [zEa hv] at h1
  have ho:=zAy hv
  have h2:=fun B W (h:Below w.heap.size w W) hB=>stands_2 t A cap a b B W (ht.below h) ho hl hB
  have hlen:=zBR hv
  cases hs:(zj t a && zj t b)
  ·have e1:apT t a b=⟨0,0⟩:=by simp only [apT,hs,Bool.and_false];rfl
   have e2:zCe t a b=12:=by simp only [zCe,hv,hs];rfl
   rw [e1,e2]
   rw [hs] at h2
   (refine zD (n:=58) Tryz.func64 rfl rfl rfl ?_)
   (repeat' (first|((with_reducible refine zH ?_);first|refine zF rfl rfl rfl ?_|refine zC rfl rfl rfl ?_|(refine zM rfl rfl rfl ?_;refine ⟨_,rfl,?_⟩)|(refine zS rfl rfl rfl rfl rfl (fun h=>?_) (fun h=>?_)<;>(dsimp only [cmpP] at h;(try (exfalso;omega))))|refine zE rfl rfl rfl rfl (fun _ _ q=>h1 _ q.below) ?_|refine zE rfl rfl rfl rfl (fun _ _ q=>h2 _ _ q.below (zBB (enc:=zBA) [_,_] (by exact rfl) _ q.below q.own)) ?_|refine zh rfl rfl rfl rfl ?_|refine zAB rfl rfl rfl ?_|(refine zV rfl rfl rfl rfl rfl ?_;refine ⟨rfl,by first|decide|exact Nat.le_of_ble_eq_true rfl|(simp;omega),_,rfl,?_⟩)|(refine zX rfl rfl (fun b=>?_))|(refine zf rfl rfl rfl rfl (fun b=>?_))|(refine zAJ rfl rfl rfl ?_;refine ⟨_,rfl,?_⟩)|(refine zc rfl rfl rfl ?_;refine ⟨rfl,_,rfl,fun b=>?_⟩))|(with_reducible first|refine zK ?_|refine zB ?_|refine zG ?_|refine zA ?_|refine zR ?_|refine zU ?_|refine zb ?_)|((with_reducible refine zO ?_ ?_);(· exact rfl))|((with_reducible refine zI ?_ ?_);(· exact rfl))))
   exact zN (by (exact zi.cons (by exact res1c rfl (by exact rfl)) (zi.cons (by exact zAo.tmp rfl) zi.nil))) () trivial rfl (fun _ h=>h.sub (by (repeat constructor)))
  ·have hs':=hs
   simp only [Bool.and_eq_true] at hs'
   have bda:=zAm hs'.1 ho
   have bdb:=zAm hs'.2 ho
   obtain ⟨I,hI,hlI⟩:=zAT hs'.1
   obtain ⟨J,hJ,hlJ⟩:=zAT hs'.2
   have e1:apT t a b=if b.st<a.st then zBC (ap0 t b a) else ap0 t a b:=by simp only [apT,hv,hs,Bool.and_true];rfl
   have e2:zCe t a b=0:=by simp only [zCe,hv,hs];rfl
   rw [e1,e2]
   rw [hs] at h2
   obtain ⟨st,off⟩:=a
   obtain ⟨st2,off2⟩:=b
   simp only at hI hJ bda bdb h2 ⊢
   subst hI hJ
   have nn:near 1000000000000 off:=by unfold near;omega
   by_cases hij:J<I
   ·have h3:∀ W,Below w.heap.size w W→Gv Tryz.prog 106 [.agg #[.slice A t.length cap],.int .i64 (min (I:Int) J),.int .i64 (max (I:Int) J)] W (.tuple #[vSp (zQ t J I),vSp (zY t J I)]):=fun W h=>by
     rw [show min (I:Int) J=J by omega,show max (I:Int) J=I by omega]
     exact (zDY t A cap J I W (ht.below h) ho (by omega) (by omega) (by omega)).gv
    have hb:=zAb ho (Nat.le_of_lt hij) (by omega)
    have e3:ap0 t ⟨(J:Int),off2⟩ ⟨(I:Int),off⟩=⟨(zQ t J I).lo+off.lo - off2.hi,(zQ t J I).hi+off.hi - off2.lo⟩:=rfl
    rw [if_pos (by omega),e3]
    generalize zQ t J I=L at *
    generalize zY t J I=F at *
    have e9:zBC ⟨L.lo+off.lo - off2.hi,L.hi+off.hi - off2.lo⟩=[off2,zBC off].foldl zAG (zBC L):=by
     simp only [List.foldl_cons,List.foldl_nil,zAG,zBC,Sp.mk.injEq];omega
    rw [e9]
    have n1:near 1000000000000 L:=by unfold near;omega
    have n2:∀ x∈[off2,zBC off],near 1000000000 x:=by simp [near,zBC];omega
    have n3:near 1000000000000 (zBC L):=by simp only [near,zBC];omega
    (refine zD (n:=58) Tryz.func64 rfl rfl rfl ?_)
    (repeat' (first|((with_reducible refine zH ?_);first|refine zF rfl rfl rfl ?_|refine zC rfl rfl rfl ?_|(refine zM rfl rfl rfl ?_;refine ⟨_,rfl,?_⟩)|refine zP rfl rfl rfl ?_|(refine zS rfl rfl rfl rfl rfl (fun h=>?_) (fun h=>?_)<;>(dsimp only [cmpP] at h;(try (exfalso;omega))))|refine zE rfl rfl rfl rfl (fun _ _ q=>h1 _ q.below) ?_|refine zE rfl rfl rfl rfl (fun _ _ q=>h2 _ _ q.below (zBB (enc:=zBA) [_,_] (by exact rfl) _ q.below q.own)) ?_|refine zE rfl rfl rfl rfl (fun _ _ q=>h3 _ q.below) ?_|refine zE rfl rfl rfl rfl (fun _ _ q=>zEU L _ n1) ?_|refine zh rfl rfl rfl rfl ?_|refine zAB rfl rfl rfl ?_|(refine zV rfl rfl rfl rfl rfl ?_;refine ⟨rfl,by first|decide|exact Nat.le_of_ble_eq_true rfl|(simp;omega),_,rfl,?_⟩)|(refine zX rfl rfl (fun b=>?_))|(refine zf rfl rfl rfl rfl (fun b=>?_))|(refine zc rfl rfl rfl ?_;refine ⟨rfl,_,rfl,fun b=>?_⟩)|refine u_min rfl rfl rfl rfl ?_|refine zFb rfl rfl rfl rfl ?_)|(with_reducible first|refine zK ?_|refine zB ?_|refine zG ?_|refine zA ?_|refine zU ?_)|((with_reducible refine zO ?_ ?_);(· exact rfl))|((with_reducible refine zI ?_ ?_);(· exact rfl))))
    (refine Two.zAP [] [] [] rfl (show ([]:List Nat).Nodup by decide) (fun _ h=>h) (by kernel_rfl) [[],[Y],[Z,Y],[Y,Y,Y],[Z,Y,Y,Y],[Z,Z,Y,Y,Y],[Z,Z,Z,Z,Z,Y],[Z,Z,Z,Z,Z,Z,Z],[Z,Z,Z,Z,Z,Z,Z,Z],[Z,Z,Z,Z,Z,Z,Z,Z,Z]] (by kernel_rfl) (by kernel_rfl) (by kernel_rfl) (by kernel_rfl) (by kernel_rfl) ?_)
    (repeat' (first|(((with_reducible refine Two.zCL ?_ ?_);(· exact rfl);refine ⟨_,fun G=>(by (try simp (decide:=true) only [Two.vis,Two.see,fltT,z8,Nat.reduceAdd,Nat.reduceSub,if_true,if_false,List.set_cons_zero,List.set_cons_succ,List.set_nil,List.nil_append,List.cons_append]);rfl),?_⟩);first|refine Two.zW _ (fun _=>zAC rfl rfl (by exact rfl)) (fun _=>rfl) rfl (by intro G G' h;simp (decide:=true) only [h]) ?_|(refine Two.zAj rfl ?_;refine Two.zW _ (fun _=>zAd rfl rfl) (fun _=>rfl) rfl (by intro G G' h;simp (decide:=true) only [h]) ?_)|refine Two.zAR _ rfl (fun _=>rfl) rfl (fun _=>rfl) (fun _=>rfl) (fun _ _ _ q=>zEU off _ nn) (by intro G G' h;simp (decide:=true) only [h]) ?_|refine Two.zAR _ rfl (fun _=>rfl) rfl (fun _=>rfl) (fun _=>rfl) (fun _ _ _ q=>(zCi (zBC L) [off2,zBC off] _ _ _ (zBB (enc:=zAM) [_,_] (by exact rfl) _ q.below q.own) n3 n2 (by simp)).gv) (by intro G G' h;simp (decide:=true) only [h]) ?_|refine Two.zBO rfl (fun _=>rfl) rfl (fun _=>rfl) (by exact rfl) (by exact fun _=>rfl) (by intro G G' h;simp (decide:=true) only [h]) ?_)|((with_reducible refine Two.zDl ?_ ?_);(· exact rfl))))
    (intro G;simp only [regsT,z8,Two.zA7,Two.ini,List.nil_append,List.cons_append])
    (repeat' (first|((with_reducible refine zH ?_);first|refine zC rfl rfl rfl ?_|(refine zV rfl rfl rfl rfl rfl ?_;refine ⟨rfl,by first|decide|exact Nat.le_of_ble_eq_true rfl|(simp;omega),_,rfl,?_⟩))|(with_reducible first|refine zG ?_|refine zA ?_|refine zR ?_)))
    exact zN (by (exact zi.cons (by exact res1c rfl (by exact rfl)) (zi.cons (by exact zAo.tmp rfl) zi.nil))) () trivial rfl (fun _ h=>h.sub (by (repeat constructor)))
   ·have h3:∀ W,Below w.heap.size w W→Gv Tryz.prog 106 [.agg #[.slice A t.length cap],.int .i64 (min (I:Int) J),.int .i64 (max (I:Int) J)] W (.tuple #[vSp (zQ t I J),vSp (zY t I J)]):=fun W h=>by
     rw [show min (I:Int) J=I by omega,show max (I:Int) J=J by omega]
     exact (zDY t A cap I J W (ht.below h) ho (by omega) (by omega) (by omega)).gv
    have hb:=zAb ho (Nat.le_of_not_lt hij) (by omega)
    have e3:ap0 t ⟨(I:Int),off⟩ ⟨(J:Int),off2⟩=⟨(zQ t I J).lo+off2.lo - off.hi,(zQ t I J).hi+off2.hi - off.lo⟩:=rfl
    rw [if_neg (by omega),e3]
    generalize zQ t I J=L at *
    generalize zY t I J=F at *
    have e9:(⟨L.lo+off2.lo - off.hi,L.hi+off2.hi - off.lo⟩:Sp)=[off2,zBC off].foldl zAG L:=by
     simp only [List.foldl_cons,List.foldl_nil,zAG,zBC,Sp.mk.injEq];omega
    rw [e9]
    have n1:near 1000000000000 L:=by unfold near;omega
    have n2:∀ x∈[off2,zBC off],near 1000000000 x:=by simp [near,zBC];omega
    (refine zD (n:=58) Tryz.func64 rfl rfl rfl ?_)
    (repeat' (first|((with_reducible refine zH ?_);first|refine zF rfl rfl rfl ?_|refine zC rfl rfl rfl ?_|(refine zM rfl rfl rfl ?_;refine ⟨_,rfl,?_⟩)|refine zP rfl rfl rfl ?_|(refine zS rfl rfl rfl rfl rfl (fun h=>?_) (fun h=>?_)<;>(dsimp only [cmpP] at h;(try (exfalso;omega))))|refine zE rfl rfl rfl rfl (fun _ _ q=>h1 _ q.below) ?_|refine zE rfl rfl rfl rfl (fun _ _ q=>h2 _ _ q.below (zBB (enc:=zBA) [_,_] (by exact rfl) _ q.below q.own)) ?_|refine zE rfl rfl rfl rfl (fun _ _ q=>h3 _ q.below) ?_|refine zh rfl rfl rfl rfl ?_|refine zAB rfl rfl rfl ?_|(refine zV rfl rfl rfl rfl rfl ?_;refine ⟨rfl,by first|decide|exact Nat.le_of_ble_eq_true rfl|(simp;omega),_,rfl,?_⟩)|(refine zX rfl rfl (fun b=>?_))|(refine zf rfl rfl rfl rfl (fun b=>?_))|(refine zc rfl rfl rfl ?_;refine ⟨rfl,_,rfl,fun b=>?_⟩)|refine u_min rfl rfl rfl rfl ?_|refine zFb rfl rfl rfl rfl ?_)|(with_reducible first|refine zK ?_|refine zB ?_|refine zG ?_|refine zA ?_|refine zU ?_)|((with_reducible refine zI ?_ ?_);(· exact rfl))))
    (refine Two.zAP [] [] [] rfl (show ([]:List Nat).Nodup by decide) (fun _ h=>h) (by kernel_rfl) [[],[Y],[Z,Y],[Y,Y,Y],[Z,Y,Y,Y],[Z,Z,Y,Y,Y],[Z,Z,Z,Z,Z,Y],[Z,Z,Z,Z,Z,Z,Z],[Z,Z,Z,Z,Z,Z,Z,Z],[Z,Z,Z,Z,Z,Z,Z,Z,Z]] (by kernel_rfl) (by kernel_rfl) (by kernel_rfl) (by kernel_rfl) (by kernel_rfl) ?_)
    (repeat' (first|(((with_reducible refine Two.zCL ?_ ?_);(· exact rfl);refine ⟨_,fun G=>(by (try simp (decide:=true) only [Two.vis,Two.see,fltT,z8,Nat.reduceAdd,Nat.reduceSub,if_true,if_false,List.set_cons_zero,List.set_cons_succ,List.set_nil,List.nil_append,List.cons_append]);rfl),?_⟩);first|refine Two.zW _ (fun _=>zAC rfl rfl (by exact rfl)) (fun _=>rfl) rfl (by intro G G' h;simp (decide:=true) only [h]) ?_|(refine Two.zAj rfl ?_;refine Two.zW _ (fun _=>zAd rfl rfl) (fun _=>rfl) rfl (by intro G G' h;simp (decide:=true) only [h]) ?_)|refine Two.zAR _ rfl (fun _=>rfl) rfl (fun _=>rfl) (fun _=>rfl) (fun _ _ _ q=>zEU off _ nn) (by intro G G' h;simp (decide:=true) only [h]) ?_|refine Two.zAR _ rfl (fun _=>rfl) rfl (fun _=>rfl) (fun _=>rfl) (fun _ _ _ q=>(zCi L [off2,zBC off] _ _ _ (zBB (enc:=zAM) [_,_] (by exact rfl) _ q.below q.own) n1 n2 (by simp)).gv) (by intro G G' h;simp (decide:=true) only [h]) ?_|refine Two.zBO rfl (fun _=>rfl) rfl (fun _=>rfl) (by exact rfl) (by exact fun _=>rfl) (by intro G G' h;simp (decide:=true) only [h]) ?_)|((with_reducible refine Two.zDl ?_ ?_);(· exact rfl))))
    (intro G;simp only [regsT,z8,Two.zA7,Two.ini,List.nil_append,List.cons_append])
    (repeat' (first|((with_reducible refine zH ?_);first|refine zC rfl rfl rfl ?_|(refine zV rfl rfl rfl rfl rfl ?_;refine ⟨rfl,by first|decide|exact Nat.le_of_ble_eq_true rfl|(simp;omega),_,rfl,?_⟩))|(with_reducible first|refine zG ?_|refine zA ?_|refine zR ?_)))
    exact zN (by (exact zi.cons (by exact res1c rfl (by exact rfl)) (zi.cons (by exact zAo.tmp rfl) zi.nil))) () trivial rfl (fun _ h=>h.sub (by (repeat constructor)))
set_option maxHeartbeats 2000000 in
theorem zEz (t:List St) (A:Option Addr) (cap:Nat) (a b:Spot) (w:World) (ht:zg zq 9 w A t) (hf:zBs t) (hl:t.length≤1000) (hv:valid t=true) (hs1:zj t a=true) (hs2:zj t b=true) (hle:a.st≤b.st) :
  Gv Tryz.prog 129 [.agg #[.slice A t.length cap],zAl a,zAl b] w (.tuple #[vSp (ap0 t a b),.int .i64 0]):=by
 unfold Gv zAl
 have h1:=fun W (h:Below w.heap.size w W)=>zDD t A cap W (ht.below h) hf (by omega)
 rw [hv] at h1
 have ho:=zAy hv
 have h2:=fun W (h:Below w.heap.size w W)=>zBj t A cap a W (ht.below h) ho hl
 have h3:=fun W (h:Below w.heap.size w W)=>zBj t A cap b W (ht.below h) ho hl
 rw [hs1] at h2
 rw [hs2] at h3
 have hlen:=zBR hv
 have bda:=zAm hs1 ho
 have bdb:=zAm hs2 ho
 obtain ⟨I,hI,hlI⟩:=zAT hs1
 obtain ⟨J,hJ,hlJ⟩:=zAT hs2
 obtain ⟨st,off⟩:=a
 obtain ⟨st2,off2⟩:=b
 simp only at hI hJ bda bdb h2 h3 hle ⊢
 subst hI hJ
 have h4:=fun W (h:Below w.heap.size w W)=>(zEy t A cap I J W (ht.below h) ho (by omega) (by omega) (by omega)).gv
 unfold vT at h4
 have hb:=zAb ho (by omega:I≤J) (by omega)
 have e3:ap0 t ⟨(I:Int),off⟩ ⟨(J:Int),off2⟩=⟨(zQ t I J).lo+off2.lo - off.hi,(zQ t I J).hi+off2.hi - off.lo⟩:=rfl
 rw [e3]
 generalize zQ t I J=L at *
 generalize zY t I J=F at *
 (refine zD (n:=76) Tryz.func129 rfl rfl rfl ?_)
 (repeat' (first|((with_reducible refine zH ?_);first|refine zF rfl rfl rfl ?_|refine zC rfl rfl rfl ?_|(refine zM rfl rfl rfl ?_;refine ⟨_,rfl,?_⟩)|refine zP rfl rfl rfl ?_|refine zn rfl rfl rfl rfl ?_|(refine zS rfl rfl rfl rfl rfl (fun h=>?_) (fun h=>?_)<;>(dsimp only [cmpP] at h;(try (exfalso;omega))))|refine zE rfl rfl rfl rfl (fun _ _ q=>h1 _ q.below) ?_|refine zE rfl rfl rfl rfl (fun _ _ q=>h2 _ q.below) ?_|refine zE rfl rfl rfl rfl (fun _ _ q=>h3 _ q.below) ?_|refine zE rfl rfl rfl rfl (fun _ _ q=>h4 _ q.below) ?_|refine zh rfl rfl rfl rfl ?_|refine zAB rfl rfl rfl ?_|refine zCx rfl rfl rfl rfl (IntWalk.i64_in _ (by omega)) ?_|refine zBu rfl rfl rfl rfl (IntWalk.i64_in _ (by omega)) ?_|(refine zV rfl rfl rfl rfl rfl ?_;refine ⟨rfl,by first|decide|exact Nat.le_of_ble_eq_true rfl|(simp;omega),_,rfl,?_⟩)|(refine zX rfl rfl (fun b=>?_))|(refine zf rfl rfl rfl rfl (fun b=>?_))|(refine zAJ rfl rfl rfl ?_;refine ⟨_,rfl,?_⟩))|(with_reducible first|refine zK ?_|refine zB ?_|refine zG ?_|refine zA ?_|refine zR ?_|refine zU ?_)|((with_reducible refine zI ?_ ?_);(· exact rfl))))
 exact zN (by (exact zi.cons (by exact res1c rfl (by exact rfl)) (zi.cons (by exact zAo.tmp rfl) zi.nil))) () trivial rfl (fun _ h=>h.sub (by (repeat constructor)))
set_option maxHeartbeats 2000000 in
theorem zGP (t:List St) (A:Option Addr) (cap:Nat) (a b:Spot) (w:World) (ht:zg zq 9 w A t) (hf:zBs t) (hl:t.length≤1000) :
  Gv Tryz.prog 129 [.agg #[.slice A t.length cap],zAl a,zAl b] w (.tuple #[vSp (apT t a b),.int .i64 (zCe t a b)]):=by
 have h1:=fun W (h:Below w.heap.size w W)=>zDD t A cap W (ht.below h) hf (by omega)
 cases hv:valid t
 ·have e1:apT t a b=⟨0,0⟩:=by simp [apT,hv]
  have e2:zCe t a b=10:=by simp [zCe,hv]
  rw [e1,e2]
  rw [hv] at h1
  unfold Gv zAl
  (refine zD (n:=76) Tryz.func129 rfl rfl rfl ?_)
  (repeat' (first|((with_reducible refine zH ?_);first|refine zC rfl rfl rfl ?_|(refine zM rfl rfl rfl ?_;refine ⟨_,rfl,?_⟩)|refine zE rfl rfl rfl rfl (fun _ _ q=>h1 _ q.below) ?_|refine zAB rfl rfl rfl ?_|(refine zV rfl rfl rfl rfl rfl ?_;refine ⟨rfl,by first|decide|exact Nat.le_of_ble_eq_true rfl|(simp;omega),_,rfl,?_⟩)|(refine zX rfl rfl (fun b=>?_))|(refine zf rfl rfl rfl rfl (fun b=>?_))|(refine zAJ rfl rfl rfl ?_;refine ⟨_,rfl,?_⟩))|(with_reducible first|refine zK ?_|refine zB ?_|refine zG ?_|refine zA ?_|refine zR ?_|refine zb ?_)|((with_reducible refine zO ?_ ?_);(· exact rfl))))
  exact zN (by (exact zi.cons (by exact res1c rfl (by exact rfl)) (zi.cons (by exact zAo.tmp rfl) zi.nil))) () trivial rfl (fun _ h=>h.sub (by (repeat constructor)))
 ·rw [hv] at h1
  have ho:=zAy hv
  have h2:=fun W (h:Below w.heap.size w W)=>zBj t A cap a W (ht.below h) ho hl
  have h3:=fun W (h:Below w.heap.size w W)=>zBj t A cap b W (ht.below h) ho hl
  have hlen:=zBR hv
  cases hs1:zj t a
  ·have e1:apT t a b=⟨0,0⟩:=by simp [apT,hs1]
   have e2:zCe t a b=12:=by simp [zCe,hv,hs1]
   rw [e1,e2]
   rw [hs1] at h2
   unfold Gv
   unfold zAl at h2 h3 ⊢
   (refine zD (n:=76) Tryz.func129 rfl rfl rfl ?_)
   (repeat' (first|((with_reducible refine zH ?_);first|refine zF rfl rfl rfl ?_|refine zC rfl rfl rfl ?_|(refine zM rfl rfl rfl ?_;refine ⟨_,rfl,?_⟩)|refine zn rfl rfl rfl rfl ?_|refine zd rfl rfl rfl ?_|refine zE rfl rfl rfl rfl (fun _ _ q=>h1 _ q.below) ?_|refine zE rfl rfl rfl rfl (fun _ _ q=>h2 _ q.below) ?_|refine zAB rfl rfl rfl ?_|(refine zV rfl rfl rfl rfl rfl ?_;refine ⟨rfl,by first|decide|exact Nat.le_of_ble_eq_true rfl|(simp;omega),_,rfl,?_⟩)|(refine zX rfl rfl (fun b=>?_))|(refine zf rfl rfl rfl rfl (fun b=>?_))|(refine zAJ rfl rfl rfl ?_;refine ⟨_,rfl,?_⟩))|(with_reducible first|refine zK ?_|refine zB ?_|refine zG ?_|refine zA ?_|refine zR ?_|refine zU ?_|refine zb ?_)|((with_reducible refine zO ?_ ?_);(· exact rfl))|((with_reducible refine zI ?_ ?_);(· exact rfl))))
   exact zN (by (exact zi.cons (by exact res1c rfl (by exact rfl)) (zi.cons (by exact zAo.tmp rfl) zi.nil))) () trivial rfl (fun _ h=>h.sub (by (repeat constructor)))
  cases hs2:zj t b
  ·have e1:apT t a b=⟨0,0⟩:=by simp [apT,hs2]
   have e2:zCe t a b=12:=by simp [zCe,hv,hs2]
   rw [e1,e2]
   rw [hs1] at h2
   rw [hs2] at h3
   unfold Gv
   unfold zAl at h2 h3 ⊢
   (refine zD (n:=76) Tryz.func129 rfl rfl rfl ?_)
   (repeat' (first|((with_reducible refine zH ?_);first|refine zF rfl rfl rfl ?_|refine zC rfl rfl rfl ?_|(refine zM rfl rfl rfl ?_;refine ⟨_,rfl,?_⟩)|refine zn rfl rfl rfl rfl ?_|refine zE rfl rfl rfl rfl (fun _ _ q=>h1 _ q.below) ?_|refine zE rfl rfl rfl rfl (fun _ _ q=>h2 _ q.below) ?_|refine zE rfl rfl rfl rfl (fun _ _ q=>h3 _ q.below) ?_|refine zAB rfl rfl rfl ?_|(refine zV rfl rfl rfl rfl rfl ?_;refine ⟨rfl,by first|decide|exact Nat.le_of_ble_eq_true rfl|(simp;omega),_,rfl,?_⟩)|(refine zX rfl rfl (fun b=>?_))|(refine zf rfl rfl rfl rfl (fun b=>?_))|(refine zAJ rfl rfl rfl ?_;refine ⟨_,rfl,?_⟩))|(with_reducible first|refine zK ?_|refine zB ?_|refine zG ?_|refine zA ?_|refine zR ?_|refine zU ?_|refine zb ?_)|((with_reducible refine zO ?_ ?_);(· exact rfl))|((with_reducible refine zI ?_ ?_);(· exact rfl))))
   exact zN (by (exact zi.cons (by exact res1c rfl (by exact rfl)) (zi.cons (by exact zAo.tmp rfl) zi.nil))) () trivial rfl (fun _ h=>h.sub (by (repeat constructor)))
  have e1:apT t a b=if b.st<a.st then zBC (ap0 t b a) else ap0 t a b:=by simp [apT,hv,hs1,hs2]
  have e2:zCe t a b=0:=by simp [zCe,hv,hs1,hs2]
  rw [e1,e2]
  by_cases hij:b.st<a.st
  ·rw [if_pos hij]
   have h4:=fun W (h:Below w.heap.size w W)=>zEz t A cap b a W (ht.below h) hf hl hv hs2 hs1 (by omega)
   rw [hs1] at h2
   rw [hs2] at h3
   have bda:=zAm hs1 ho
   have bdb:=zAm hs2 ho
   obtain ⟨I,hI,hlI⟩:=zAT hs1
   obtain ⟨J,hJ,hlJ⟩:=zAT hs2
   have hb:=zAb ho (by omega:J≤I) (by omega)
   have b1:-40000≤(ap0 t b a).lo∧(ap0 t b a).hi≤60000000∧(ap0 t b a).lo≤(ap0 t b a).hi:=by
    have i1:a.st.toNat=I:=by omega
    have i2:b.st.toNat=J:=by omega
    simp only [ap0,i1,i2]
    omega
   generalize ap0 t b a=L at *
   unfold Gv
   unfold zAl at h2 h3 h4 ⊢
   (refine zD (n:=76) Tryz.func129 rfl rfl rfl ?_)
   (repeat' (first|((with_reducible refine zH ?_);first|refine zF rfl rfl rfl ?_|refine zC rfl rfl rfl ?_|(refine zM rfl rfl rfl ?_;refine ⟨_,rfl,?_⟩)|refine zP rfl rfl rfl ?_|refine zn rfl rfl rfl rfl ?_|(refine zS rfl rfl rfl rfl rfl (fun h=>?_) (fun h=>?_)<;>(dsimp only [cmpP] at h;(try (exfalso;omega))))|refine zE rfl rfl rfl rfl (fun _ _ q=>h1 _ q.below) ?_|refine zE rfl rfl rfl rfl (fun _ _ q=>h2 _ q.below) ?_|refine zE rfl rfl rfl rfl (fun _ _ q=>h3 _ q.below) ?_|refine zE rfl rfl rfl rfl (fun _ _ q=>h4 _ q.below) ?_|refine zh rfl rfl rfl rfl ?_|refine zAB rfl rfl rfl ?_|(refine zV rfl rfl rfl rfl rfl ?_;refine ⟨rfl,by first|decide|exact Nat.le_of_ble_eq_true rfl|(simp;omega),_,rfl,?_⟩)|(refine zX rfl rfl (fun b=>?_))|(refine zf rfl rfl rfl rfl (fun b=>?_))|(refine zAJ rfl rfl rfl ?_;refine ⟨_,rfl,?_⟩)|refine u_neg rfl rfl rfl (by rw [Int.zero_sub];exact IntWalk.i64_in _ (by omega)) ?_)|(with_reducible first|refine zK ?_|refine zB ?_|refine zG ?_|refine zA ?_|refine zR ?_|refine zU ?_|refine zb ?_)|((with_reducible refine zO ?_ ?_);(· exact rfl))|((with_reducible refine zI ?_ ?_);(· exact rfl))))
   exact zN (by (exact zi.cons (by exact res1c rfl (by exact rfl)) (zi.cons (by exact zAo.tmp rfl) zi.nil))) () trivial rfl (fun _ h=>h.sub (by (repeat constructor)))
  ·rw [if_neg hij]
   exact zEz t A cap a b w ht hf hl hv hs1 hs2 (by omega)
end Go.Proofs.YtcpdjamlhhfbhaaGreat
