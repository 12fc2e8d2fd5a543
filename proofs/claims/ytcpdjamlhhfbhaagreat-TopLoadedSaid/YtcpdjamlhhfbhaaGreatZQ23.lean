/- ZQ23 -/
import Derived.Test.YtcpdjamlhhfbhaaGreatZQ22
import Derived.Test.YtcpdjamlhhfbhaaGreatZQ8
import Derived.Test.YtcpdjamlhhfbhaaGreatZQ6
set_option linter.unusedSimpArgs false
set_option linter.unusedVariables false
namespace Go.Proofs.YtcpdjamlhhfbhaaGreat
def chI (l:List Int) (i:Nat):Int:=(l[i % l.length]?).getD 0
theorem chI_in {l:List Int} {i:Nat} (h:∀ x∈l,0≤x∧x≤4294967295):0≤chI l i∧chI l i≤4294967295:=by
 unfold chI
 cases hx:l[i % l.length]? with
 | none=>simp
 | some x=>exact h x (List.mem_of_getElem? hx)
theorem mod_at {n:Int} {m:Nat} (hm:0<m):∃ I:Nat,n % (m:Int)=(I:Int)∧I<m :=
 ⟨(n % (m:Int)).toNat,by have:=Int.emod_nonneg n (show (m:Int)≠0 by omega);omega,by have:=Int.emod_lt_of_pos n (show (0:Int)<m by omega);have:=Int.emod_nonneg n (show (m:Int)≠0 by omega);omega⟩
namespace Two
variable {ro : Option Nat}
open Go.RowKit
set_option maxRecDepth 20000
theorem zE2 (l:List Int) (A:Option Addr) (c i:Nat) (w:World) (h:zAB encU 1 w A l) (hb:∀ x∈l,0≤x∧x≤4294967295):Gv Tryz.prog 17 [.slice A l.length c,.int .i64 (i:Int)] w (.int .i64 (chI l i)):=by
 unfold Gv
 by_cases h0:l.length=0
 ·have:l=[]:=List.length_eq_zero_iff.1 h0
  subst this
  (refine ze (n:=16) Tryz.func17 rfl rfl rfl ?_)
  (repeat' (first|((with_reducible refine zV ?_);first|refine zO rfl rfl rfl ?_|refine zD rfl rfl rfl ?_|(refine zQ rfl rfl rfl ?_;refine ⟨_,rfl,?_⟩)|(refine zd rfl rfl rfl rfl rfl (fun h=>?_) (fun h=>?_)<;>(dsimp only [cmpP] at h;(try (exfalso;omega))))|refine zK rfl rfl rfl rfl rfl (by omega) ?_|refine zL rfl rfl rfl rfl rfl (by first|decide|omega) ?_|refine zj rfl rfl rfl ?_|refine zEF rfl rfl rfl (IntWalk.i64_in _ (by omega)) ?_|refine zBZ rfl rfl rfl rfl (by omega) (by omega) ?_)|(with_reducible first|refine zW ?_|refine zC ?_|refine zU ?_|refine zB ?_|refine zX ?_|refine zT ?_|refine zF ?_|refine zf ?_)|((with_reducible refine zI ?_ ?_);(· exact rfl))|((with_reducible refine zH ?_ ?_);(· exact rfl))))
  all_goals exact zk (by exact rTm rfl) () trivial rfl (fun _ h=>h.sub (by (repeat constructor)))
 ·have hlt:i % l.length<l.length:=Nat.mod_lt _ (by omega)
  obtain ⟨x,hx⟩:∃ x,l[i % l.length]?=some x:=⟨_,List.getElem?_eq_getElem hlt⟩
  have hz:(i:Int) % (l.length:Int)=((i % l.length:Nat):Int):=(Int.natCast_emod i l.length).symm
  have hxb:=hb x (List.mem_of_getElem? hx)
  have hv:chI l i=x:=by unfold chI;rw [hx];rfl
  rw [hv]
  generalize i % l.length=k at *
  have:zAZ l k x:=⟨hx⟩
  obtain ⟨bA,oA,hAe,_,_⟩:=h.at_ hlt
  subst hAe
  have:InS w bA oA encU 1 l:=⟨h⟩
  (refine ze (n:=16) Tryz.func17 rfl rfl rfl ?_)
  (repeat' (first|((with_reducible refine zV ?_);first|refine zO rfl rfl rfl ?_|refine zD rfl rfl rfl ?_|(refine zQ rfl rfl rfl ?_;refine ⟨_,rfl,?_⟩)|(refine zd rfl rfl rfl rfl rfl (fun h=>?_) (fun h=>?_)<;>(dsimp only [cmpP] at h;(try (exfalso;omega))))|(refine zBZ rfl rfl rfl rfl (by omega) (by omega) ?_)|refine zK (I:=k) rfl rfl rfl rfl hz hlt ?_|refine zK rfl rfl rfl rfl rfl (by omega) ?_|refine zL rfl rfl rfl rfl rfl (by first|decide|omega) ?_|refine zj rfl rfl rfl ?_|refine zEF rfl rfl rfl (IntWalk.i64_in _ (by omega)) ?_|refine zBZ rfl rfl rfl rfl (by omega) (by omega) ?_)|(with_reducible first|refine zW ?_|refine zC ?_|refine zU ?_|refine zB ?_|refine zX ?_|refine zT ?_|refine zF ?_|refine zf ?_)|((with_reducible refine zI ?_ ?_);(· exact rfl))|((with_reducible refine zH ?_ ?_);(· exact rfl))))
  all_goals exact zk (by exact rTm rfl) () trivial rfl (fun _ h=>h.sub (by (repeat constructor)))
set_option maxHeartbeats 16000000 in
theorem zFY (scs:List ScM) (A:Option Addr) (c:Nat) (g:GrM) (t:List St) (tA:Option Addr) (tc:Nat) (s:SlM) (l:List Int) (lA:Option Addr) (lc:Nat) (w:World) (h:zCX w A scs) (hg:zDm w g) (ht:zAB zA3 9 w tA t) (hf:FitT t) (hcl:0≤s.cls∧s.cls≤255) (hl:zAB encU 1 w lA l) (hlb:∀ x∈l,0≤x∧x≤4294967295) :
  Gv Tryz.prog 4 [.agg #[.slice A scs.length c],vGr g,.agg #[.slice tA t.length tc],vSl s,.slice lA l.length lc] w (.bool true):=by
 have hG4:=fun W (hW:Below w.heap.size w W)=>zG5 scs A c g W (h.below hW)
 have hC4:=fun (hs:zEA scs g) W (hW:Below w.heap.size w W)=>zG6 scs A c g W (h.below hW) (hg.below hW) hs
 have hGr:=fun W=>great_n tA t.length tc W
 unfold Gv
 by_cases hgt:20<t.length
 ·rw [decide_eq_true hgt] at hGr
  unfold vGr vSl at *
  (refine ze (n:=214) Tryz.func4 rfl rfl rfl ?_)
  (repeat' (first|((with_reducible refine zV ?_);first|refine zO rfl rfl rfl ?_|refine zD rfl rfl rfl ?_|(refine zQ rfl rfl rfl ?_;refine ⟨_,rfl,?_⟩)|refine zS rfl rfl rfl ?_|refine zr rfl rfl rfl rfl ?_|refine zN rfl rfl rfl ?_|refine zM rfl rfl ?_|(refine zd rfl rfl rfl rfl rfl (fun h=>?_) (fun h=>?_)<;>(dsimp only [cmpP] at h;(try (exfalso;omega))))|refine zn rfl rfl rfl rfl (fun _ _ q=>zDI _) ?_|(refine zAU rfl rfl rfl rfl (fun _ _ q=>hG4 _ q.below) ?_;rintro (_ | _) hb4;all_goals dsimp only [List.cons_append,List.nil_append])|(refine zAU rfl rfl rfl rfl (fun _ _ q=>hC4 (hb4 rfl) _ q.below) ?_;rintro e4 he4;dsimp only [List.cons_append,List.nil_append])|refine zn rfl rfl rfl rfl (fun _ _ q=>hGr _) ?_|refine zq rfl rfl rfl rfl ?_|refine zt rfl rfl rfl ?_|refine zb rfl rfl rfl rfl (by omega) ?_|refine zm rfl rfl rfl rfl (IntWalk.i64_in _ (by omega)) ?_|refine z7 rfl rfl rfl rfl (IntWalk.i64_in _ (by omega)) ?_|refine zK rfl rfl rfl rfl rfl (by omega) ?_|refine zL rfl rfl rfl rfl rfl (by first|decide|omega) ?_|refine zj rfl rfl rfl ?_|(refine zg rfl rfl rfl rfl rfl ?_;refine ⟨rfl,by first|decide|exact Nat.le_of_ble_eq_true rfl|(simp;omega),_,rfl,?_⟩)|(refine zh rfl rfl (fun b=>?_))|(refine zl rfl rfl rfl rfl (fun b=>?_))|refine zBZ rfl rfl rfl rfl (by omega) (by omega) ?_)|(with_reducible first|refine zW ?_|refine zC ?_|refine zU ?_|refine zB ?_|refine zX ?_|refine zT ?_|refine zF ?_|refine zf ?_|refine zP ?_|refine zZ ?_|refine zY ?_|refine za ?_|refine zG ?_|refine zJ ?_)|((with_reducible refine zE ?_ ?_);(· exact rfl))|((with_reducible refine zI ?_ ?_);(· exact rfl))|((with_reducible refine zH ?_ ?_);(· exact rfl))))
  all_goals exact zk (by exact rTm rfl) () trivial rfl (fun _ h=>h.sub (by (repeat constructor)))
 rw [decide_eq_false hgt] at hGr
 have hTr:=fun W (hW:Below w.heap.size w W)=>track_n t tA tc W (ht.below hW) hf (by omega)
 cases hv:valid t with
 | false =>
  rw [hv] at hTr
  unfold vGr vSl at *
  (refine ze (n:=214) Tryz.func4 rfl rfl rfl ?_)
  (repeat' (first|((with_reducible refine zV ?_);first|refine zO rfl rfl rfl ?_|refine zD rfl rfl rfl ?_|(refine zQ rfl rfl rfl ?_;refine ⟨_,rfl,?_⟩)|refine zS rfl rfl rfl ?_|refine zr rfl rfl rfl rfl ?_|refine zN rfl rfl rfl ?_|refine zM rfl rfl ?_|(refine zd rfl rfl rfl rfl rfl (fun h=>?_) (fun h=>?_)<;>(dsimp only [cmpP] at h;(try (exfalso;omega))))|refine zn rfl rfl rfl rfl (fun _ _ q=>zDI _) ?_|(refine zAU rfl rfl rfl rfl (fun _ _ q=>hG4 _ q.below) ?_;rintro (_ | _) hb4;all_goals dsimp only [List.cons_append,List.nil_append])|(refine zAU rfl rfl rfl rfl (fun _ _ q=>hC4 (hb4 rfl) _ q.below) ?_;rintro e4 he4;dsimp only [List.cons_append,List.nil_append])|refine zn rfl rfl rfl rfl (fun _ _ q=>hGr _) ?_|refine zn rfl rfl rfl rfl (fun _ _ q=>hTr _ q.below) ?_|refine zq rfl rfl rfl rfl ?_|refine zt rfl rfl rfl ?_|refine zb rfl rfl rfl rfl (by omega) ?_|refine zm rfl rfl rfl rfl (IntWalk.i64_in _ (by omega)) ?_|refine z7 rfl rfl rfl rfl (IntWalk.i64_in _ (by omega)) ?_|refine zK rfl rfl rfl rfl rfl (by omega) ?_|refine zL rfl rfl rfl rfl rfl (by first|decide|omega) ?_|refine zj rfl rfl rfl ?_|(refine zg rfl rfl rfl rfl rfl ?_;refine ⟨rfl,by first|decide|exact Nat.le_of_ble_eq_true rfl|(simp;omega),_,rfl,?_⟩)|(refine zh rfl rfl (fun b=>?_))|(refine zl rfl rfl rfl rfl (fun b=>?_))|refine zBZ rfl rfl rfl rfl (by omega) (by omega) ?_)|(with_reducible first|refine zW ?_|refine zC ?_|refine zU ?_|refine zB ?_|refine zX ?_|refine zT ?_|refine zF ?_|refine zf ?_|refine zP ?_|refine zZ ?_|refine zY ?_|refine za ?_|refine zG ?_|refine zJ ?_)|((with_reducible refine zE ?_ ?_);(· exact rfl))|((with_reducible refine zI ?_ ?_);(· exact rfl))|((with_reducible refine zH ?_ ?_);(· exact rfl))))
  all_goals exact zk (by exact rTm rfl) () trivial rfl (fun _ h=>h.sub (by (repeat constructor)))
 | true =>
 rw [hv] at hTr
 have hT4:=fun hB hG W (hW:Below w.heap.size w W)=>zHU scs A c g W (h.below hW) (hg.below hW) hB hG
 have hTru:=fun hB hG T W (hW:Below w.heap.size w W)=>zH4 scs A c g T W (h.below hW) (hg.below hW) hB hG
 have hC0:∀ W,Below w.heap.size w W→Gv Tryz.prog 17 [.slice lA l.length lc,.int .i64 0] W (.int .i64 (chI l 0)):=fun W hW=>zE2 l lA lc 0 W (hl.below hW) hlb
 have hC1:∀ W,Below w.heap.size w W→Gv Tryz.prog 17 [.slice lA l.length lc,.int .i64 1] W (.int .i64 (chI l 1)):=fun W hW=>zE2 l lA lc 1 W (hl.below hW) hlb
 have hn0:=chI_in (i:=0) hlb
 have hn1:=chI_in (i:=1) hlb
 generalize chI l 0=n0 at *
 generalize chI l 1=n1 at *
 have hbd:=fun (hB:zC3 scs) (hG:GrF scs g) n (hn:zBy g.added (zAx scs g) (zAb scs g).length n)=>(show 0≤n∧n≤25000000 from by
  have:=zGT (fun s hs=>zCd.1 (hB.ok s (zDo hs))) hG.len (zAu.1 hG.bare.added) (zAb scs g).length (Nat.le_refl _) n hn
  have:=zEx (g:=g) hB
  omega)
 generalize zBy g.added (zAx scs g) (zAb scs g).length=tT at *
 unfold vGr vSl at *
 (refine ze (n:=214) Tryz.func4 rfl rfl rfl ?_)
 (repeat' (first|((with_reducible refine zV ?_);first|refine zO rfl rfl rfl ?_|refine zD rfl rfl rfl ?_|(refine zQ rfl rfl rfl ?_;refine ⟨_,rfl,?_⟩)|refine zS rfl rfl rfl ?_|refine zr rfl rfl rfl rfl ?_|refine zN rfl rfl rfl ?_|refine zM rfl rfl ?_|(refine zd rfl rfl rfl rfl rfl (fun h=>?_) (fun h=>?_)<;>(dsimp only [cmpP] at h;(try (exfalso;omega))))|refine zn rfl rfl rfl rfl (fun _ _ q=>zDI _) ?_|(refine zAU rfl rfl rfl rfl (fun _ _ q=>hG4 _ q.below) ?_;rintro (_ | _) hb4;all_goals dsimp only [List.cons_append,List.nil_append])|(refine zAU rfl rfl rfl rfl (fun _ _ q=>hC4 (hb4 rfl) _ q.below) ?_;rintro e4 he4;dsimp only [List.cons_append,List.nil_append])|refine zn rfl rfl rfl rfl (fun _ _ q=>hGr _) ?_|refine zn rfl rfl rfl rfl (fun _ _ q=>hTr _ q.below) ?_|refine zq rfl rfl rfl rfl ?_|refine zt rfl rfl rfl ?_|refine zb rfl rfl rfl rfl (by omega) ?_|refine zm rfl rfl rfl rfl (IntWalk.i64_in _ (by omega)) ?_|refine z7 rfl rfl rfl rfl (IntWalk.i64_in _ (by omega)) ?_|refine zK rfl rfl rfl rfl rfl (by omega) ?_|refine zL rfl rfl rfl rfl rfl (by first|decide|omega) ?_|refine zj rfl rfl rfl ?_|(refine zg rfl rfl rfl rfl rfl ?_;refine ⟨rfl,by first|decide|exact Nat.le_of_ble_eq_true rfl|(simp;omega),_,rfl,?_⟩)|(refine zh rfl rfl (fun b=>?_))|(refine zl rfl rfl rfl rfl (fun b=>?_))|refine zBZ rfl rfl rfl rfl (by omega) (by omega) ?_)|(with_reducible first|refine zW ?_|refine zC ?_|refine zU ?_|refine zB ?_|refine zX ?_|refine zT ?_|refine zF ?_|refine zf ?_|refine zP ?_|refine zZ ?_|refine zY ?_|refine za ?_|refine zG ?_|refine zJ ?_)|((with_reducible refine zE ?_ ?_);(· exact rfl))|((with_reducible refine zI ?_ ?_);(· exact rfl))|((with_reducible refine zH ?_ ?_);(· exact rfl))))
 all_goals first|exact zk (by exact rTm rfl) () trivial rfl (fun _ h=>h.sub (by (repeat constructor)))|skip
 obtain ⟨hB,hG⟩:=he4 (by omega)
 have hT4:=hT4 hB hG
 have hTru:=hTru hB hG
 have hbd:=hbd hB hG
 clear he4 hb4 hB hG hG4 hC4 hGr hTr
 (repeat' (first|((with_reducible refine zV ?_);first|refine zO rfl rfl rfl ?_|refine zD rfl rfl rfl ?_|(refine zQ rfl rfl rfl ?_;refine ⟨_,rfl,?_⟩)|refine zS rfl rfl rfl ?_|refine zr rfl rfl rfl rfl ?_|refine zN rfl rfl rfl ?_|refine zM rfl rfl ?_|(refine zd rfl rfl rfl rfl rfl (fun h=>?_) (fun h=>?_)<;>(dsimp only [cmpP] at h;(try (exfalso;omega))))|(refine zAU rfl rfl rfl rfl (fun _ _ q=>hT4 _ q.below) ?_;rintro ⟨⟨z1,z2⟩,zs⟩ ⟨hzc,hzm⟩;simp only at hzc hzm;rcases Nat.eq_zero_or_pos zs.length with hz0|hz0<;>dsimp only [List.cons_append,List.nil_append]<;>first|rw [if_pos hz0]|rw [if_neg (show ¬ zs.length=0 by omega)])|refine zq rfl rfl rfl rfl ?_|refine zt rfl rfl rfl ?_|refine zb rfl rfl rfl rfl (by omega) ?_|refine zm rfl rfl rfl rfl (IntWalk.i64_in _ (by omega)) ?_|refine z7 rfl rfl rfl rfl (IntWalk.i64_in _ (by omega)) ?_|refine zK rfl rfl rfl rfl rfl (by omega) ?_|refine zL rfl rfl rfl rfl rfl (by first|decide|omega) ?_|refine zj rfl rfl rfl ?_|(refine zg rfl rfl rfl rfl rfl ?_;refine ⟨rfl,by first|decide|exact Nat.le_of_ble_eq_true rfl|(simp;omega),_,rfl,?_⟩)|(refine zh rfl rfl (fun b=>?_))|(refine zl rfl rfl rfl rfl (fun b=>?_))|refine zBZ rfl rfl rfl rfl (by omega) (by omega) ?_)|(with_reducible first|refine zW ?_|refine zC ?_|refine zU ?_|refine zB ?_|refine zX ?_|refine zT ?_|refine zF ?_|refine zf ?_|refine zP ?_|refine zZ ?_|refine zY ?_|refine za ?_|refine zG ?_|refine zJ ?_)|((with_reducible refine zE ?_ ?_);(· exact rfl))|((with_reducible refine zI ?_ ?_);(· exact rfl))|((with_reducible refine zH ?_ ?_);(· exact rfl))))
 ·exact zk (by exact rTm rfl) () trivial rfl (fun _ h=>h.sub (by (repeat constructor)))
 rename_i b5 b6 b7 h8 h9
 obtain ⟨b8,hb8⟩:∃ y,y=b:=⟨_,rfl⟩
 subst hb8
 clear h8 h9 hT4
 have hzb:∀ s∈zs,0≤s.lo∧s.lo≤s.hi∧s.hi≤25000000:=hzc.bd (fun n hn=>hbd n ((hzm n).1 hn))
 obtain ⟨I,hI,hIl⟩:=mod_at (n:=n0) hz0
 obtain ⟨m,hm⟩:∃ x,zs[I]?=some x:=⟨_,List.getElem?_eq_getElem hIl⟩
 have:zAZ zs I m:=⟨hm⟩
 have hmo:=hzb m (List.mem_of_getElem? hm)
 obtain ⟨r,hr,hr1⟩:∃ r:Int,n1 % (m.hi - m.lo+1)=r∧0≤r∧r≤m.hi - m.lo:=⟨_,rfl,Int.emod_nonneg _ (by omega),by have:=Int.emod_lt_of_pos n1 (show 0<m.hi - m.lo+1 by omega);omega⟩
 have hmT:zAn zs (m.lo+r):=⟨m,List.mem_of_getElem? hm,by omega,by omega⟩
 have hTru1:=fun W hW=>hTru (m.lo+r) W hW ((hzm _).1 hmT)
 clear hTru
 refine zAo (enc:=zo) (xs:=zs) (by (repeat constructor)) hz0 (fun bZ oZ hZe=>?_)
 subst hZe
 (repeat' (first|((with_reducible refine zV ?_);first|refine zO rfl rfl rfl ?_|refine zD rfl rfl rfl ?_|(refine zQ rfl rfl rfl ?_;refine ⟨_,rfl,?_⟩)|refine zS rfl rfl rfl ?_|refine zr rfl rfl rfl rfl ?_|refine zN rfl rfl rfl ?_|refine zM rfl rfl ?_|(refine zd rfl rfl rfl rfl rfl (fun h=>?_) (fun h=>?_)<;>(dsimp only [cmpP] at h;(try (exfalso;omega))))|refine zn rfl rfl rfl rfl (fun _ _ q=>hC0 _ q.below) ?_|(refine zBZ rfl rfl rfl rfl (by omega) (by omega) ?_)|refine zK (I:=I) rfl rfl rfl rfl hI hIl ?_|refine zq rfl rfl rfl rfl ?_|refine zt rfl rfl rfl ?_|refine zb rfl rfl rfl rfl (by omega) ?_|refine zm rfl rfl rfl rfl (IntWalk.i64_in _ (by omega)) ?_|refine z7 rfl rfl rfl rfl (IntWalk.i64_in _ (by omega)) ?_|refine zK rfl rfl rfl rfl rfl (by omega) ?_|refine zL rfl rfl rfl rfl rfl (by first|decide|omega) ?_|refine zj rfl rfl rfl ?_|(refine zg rfl rfl rfl rfl rfl ?_;refine ⟨rfl,by first|decide|exact Nat.le_of_ble_eq_true rfl|(simp;omega),_,rfl,?_⟩)|(refine zh rfl rfl (fun b=>?_))|(refine zl rfl rfl rfl rfl (fun b=>?_))|refine zBZ rfl rfl rfl rfl (by omega) (by omega) ?_)|(with_reducible first|refine zW ?_|refine zC ?_|refine zU ?_|refine zB ?_|refine zX ?_|refine zT ?_|refine zF ?_|refine zf ?_|refine zP ?_|refine zZ ?_|refine zY ?_|refine za ?_|refine zG ?_|refine zJ ?_)|((with_reducible refine zE ?_ ?_);(· exact rfl))|((with_reducible refine zI ?_ ?_);(· exact rfl))|((with_reducible refine zH ?_ ?_);(· exact rfl))))
 (refine zAY (by kernel_rfl) (by kernel_rfl) (by kernel_rfl) ?_)
 (repeat' (first|((with_reducible refine zAq ?_);first|refine zA (zAT rfl rfl) rfl ?_|refine zA (zAF rfl rfl (by exact rfl)) rfl ?_|refine zA (zAQ rfl rfl) rfl ?_|refine zA (zAz rfl rfl rfl) rfl ?_|refine zA (zAS rfl rfl) rfl ?_|refine zAA rfl rfl rfl ?_|(refine zBP rfl rfl rfl rfl rfl (fun h=>?_) (fun h=>?_)<;>(dsimp only [cmpP] at h;(try (exfalso;omega))))|refine zAk rfl rfl rfl rfl (fun _ _ q=>hC1 _ q.below) ?_|refine zA (zAM rfl rfl rfl) rfl ?_|refine zA (zBU rfl rfl) rfl ?_|refine zA (zAl rfl rfl rfl (by omega)) rfl ?_|refine zA (zA8 rfl rfl rfl (IntWalk.i64_in _ (by omega))) rfl ?_|refine zA (zBB rfl rfl rfl (IntWalk.i64_in _ (by omega))) rfl ?_|refine zA (zA6 rfl rfl rfl (IntWalk.i64_in _ (by omega))) rfl ?_|refine zA (zu rfl rfl rfl rfl (by omega)) rfl ?_|refine zA (zAJ rfl rfl rfl rfl (by first|decide|omega)) rfl ?_|refine zA (zBM rfl rfl) rfl ?_|refine zA (zBV rfl rfl) rfl ?_|refine zA (zAE rfl rfl) rfl ?_|refine zA (zAR rfl rfl (IntWalk.i64_in _ (by omega))) rfl ?_|refine zA (zBE rfl rfl rfl (by omega) (by omega) (IntWalk.i64_in _ (by omega))) rfl ?_|refine zA (zBT rfl rfl rfl (by omega) (by omega)) rfl ?_|refine zA (zBF rfl rfl rfl) rfl ?_|refine zA (zA7 rfl rfl rfl) rfl ?_|refine zA (zAN rfl rfl (by exact rfl)) rfl ?_|refine zA (zAI rfl rfl rfl) rfl ?_)|(with_reducible refine zBI ?_)))
 simp only [hr]
 generalize hT:m.lo+r=T at *
 (repeat' (first|((with_reducible refine zV ?_);first|refine zO rfl rfl rfl ?_|refine zD rfl rfl rfl ?_|(refine zQ rfl rfl rfl ?_;refine ⟨_,rfl,?_⟩)|refine zS rfl rfl rfl ?_|refine zr rfl rfl rfl rfl ?_|refine zN rfl rfl rfl ?_|refine zM rfl rfl ?_|(refine zd rfl rfl rfl rfl rfl (fun h=>?_) (fun h=>?_)<;>(dsimp only [cmpP] at h;(try (exfalso;omega))))|(refine zAU rfl rfl rfl rfl (fun _ _ q=>hTru1 _ q.below) ?_;rintro v ⟨A1,m1,c1,A2,m2,c2,rfl⟩;dsimp only [List.cons_append,List.nil_append])|refine zq rfl rfl rfl rfl ?_|refine zt rfl rfl rfl ?_|refine zb rfl rfl rfl rfl (by omega) ?_|refine zm rfl rfl rfl rfl (IntWalk.i64_in _ (by omega)) ?_|refine z7 rfl rfl rfl rfl (IntWalk.i64_in _ (by omega)) ?_|refine zK rfl rfl rfl rfl rfl (by omega) ?_|refine zL rfl rfl rfl rfl rfl (by first|decide|omega) ?_|refine zj rfl rfl rfl ?_|(refine zg rfl rfl rfl rfl rfl ?_;refine ⟨rfl,by first|decide|exact Nat.le_of_ble_eq_true rfl|(simp;omega),_,rfl,?_⟩)|(refine zh rfl rfl (fun b=>?_))|(refine zl rfl rfl rfl rfl (fun b=>?_))|refine zBZ rfl rfl rfl rfl (by omega) (by omega) ?_)|(with_reducible first|refine zW ?_|refine zC ?_|refine zU ?_|refine zB ?_|refine zX ?_|refine zT ?_|refine zF ?_|refine zf ?_|refine zP ?_|refine zZ ?_|refine zY ?_|refine za ?_|refine zG ?_|refine zJ ?_)|((with_reducible refine zE ?_ ?_);(· exact rfl))|((with_reducible refine zI ?_ ?_);(· exact rfl))|((with_reducible refine zH ?_ ?_);(· exact rfl))))
 refine zBx (H':=[.sl zo 2 (some ⟨bZ,oZ,none⟩) zs,.blk b8 [.int .u8 s.cls,.int .i64 s.start.lo,.int .i64 s.start.hi,.int .i64 s.rub.lo,.int .i64 s.rub.hi,.int .i64 s.drag.lo,.int .i64 s.drag.hi,.int .i64 s.weight.lo,.int .i64 s.weight.hi,.int .i64 s.steer.lo,.int .i64 s.steer.hi],.blk b7 [.slice tA t.length tc]]) (fun _ h=>h.sub (by (repeat constructor))) ?_
 (refine zA9 [(2,4),(3,5)] [] [] rfl (show ([]:List Nat).Nodup by decide) (fun _ h=>h) (by kernel_rfl) [[],[Y],[Y,Y],[Y,Y,Y],[Z,Z,Y,Z],[Z,Z,Z,Z,Z]] (by kernel_rfl) (by kernel_rfl) (by kernel_rfl) (by kernel_rfl) (by kernel_rfl) ?_)
 (repeat' (first|(((with_reducible refine zDU ?_ ?_);(· exact rfl);refine ⟨_,fun G=>(by (try simp (decide:=true) only [vis,see,fltT,zAV,Nat.reduceAdd,Nat.reduceSub,if_true,if_false,List.set_cons_zero,List.set_cons_succ,List.set_nil,List.nil_append,List.cons_append]);rfl),?_⟩);first|refine zw _ (fun _=>zAF rfl rfl (by exact rfl)) (fun _=>rfl) rfl (by intro G G' h;simp (decide:=true) only [h]) ?_|refine zGl rfl (fun _=>rfl) rfl ?_)|(refine zFS (gx:=fun G=>(G 2).g) (cs:=fun _=>[.int .u8 0,.int .i64 0,.int .i64 0,.int .i64 0,.int .i64 0,.int .i64 0,.int .i64 0,.int .i64 0,.int .i64 0,.int .i64 0,.int .i64 0]) (cs':=fun _=>[.int .u8 s.cls,.int .i64 s.start.lo,.int .i64 s.start.hi,.int .i64 s.rub.lo,.int .i64 s.rub.hi,.int .i64 s.drag.lo,.int .i64 s.drag.hi,.int .i64 s.weight.lo,.int .i64 s.weight.hi,.int .i64 s.steer.lo,.int .i64 s.steer.hi]) 2 (by decide) rfl rfl (fun _=>rfl) rfl (fun _=>rfl) (fun _=>rfl) (fun _=>rfl) (fun _=>rfl) (fun _=>rfl) (fun _=>rfl) (fun _=>rfl) (by intro G G' h;simp (decide:=true) only [h]) (by exact fun _ _ _=>rfl) ?_)|(refine zFS (gx:=fun G=>(G 3).g) (cs:=fun _=>[.int .u8 0,.int .i64 0,.int .i64 0,.int .i64 0,.int .i64 0,.int .i64 0,.int .i64 0,.int .i64 0,.int .i64 0,.int .i64 0,.int .i64 0]) (cs':=fun _=>[.int .u8 s.cls,.int .i64 s.start.lo,.int .i64 s.start.hi,.int .i64 s.rub.lo,.int .i64 s.rub.hi,.int .i64 s.drag.lo,.int .i64 s.drag.hi,.int .i64 s.weight.lo,.int .i64 s.weight.hi,.int .i64 s.steer.lo,.int .i64 s.steer.hi]) 3 (by decide) rfl rfl (fun _=>rfl) rfl (fun _=>rfl) (fun _=>rfl) (fun _=>rfl) (fun _=>rfl) (fun _=>rfl) (fun _=>rfl) (fun _=>rfl) (by intro G G' h;simp (decide:=true) only [h]) (by exact fun _ _ _=>rfl) ?_)|((with_reducible refine zBk ?_ ?_);(· exact rfl))|(with_reducible refine zCb ?_)))
 intro G
 simp only [regsT,Nat.reduceAdd,List.nil_append,List.cons_append]
 generalize hg2:(G 2).g=b18
 generalize hg3:(G 3).g=b19
 refine zBx (H':=[.blk b18 [.int .u8 s.cls,.int .i64 s.start.lo,.int .i64 s.start.hi,.int .i64 s.rub.lo,.int .i64 s.rub.hi,.int .i64 s.drag.lo,.int .i64 s.drag.hi,.int .i64 s.weight.lo,.int .i64 s.weight.hi,.int .i64 s.steer.lo,.int .i64 s.steer.hi],.blk b19 [.int .u8 s.cls,.int .i64 s.start.lo,.int .i64 s.start.hi,.int .i64 s.rub.lo,.int .i64 s.rub.hi,.int .i64 s.drag.lo,.int .i64 s.drag.hi,.int .i64 s.weight.lo,.int .i64 s.weight.hi,.int .i64 s.steer.lo,.int .i64 s.steer.hi],.sl zo 2 (some ⟨bZ,oZ,none⟩) zs,.blk b7 [.slice tA t.length tc]]) (fun _ h=>by subst hg2 hg3;exact h.sub (by (repeat constructor))) ?_
 (repeat' (first|((with_reducible refine zV ?_);first|refine zO rfl rfl rfl ?_|refine zD rfl rfl rfl ?_|(refine zQ rfl rfl rfl ?_;refine ⟨_,rfl,?_⟩)|refine zS rfl rfl rfl ?_|refine zr rfl rfl rfl rfl ?_|refine zN rfl rfl rfl ?_|refine zM rfl rfl ?_|(refine zd rfl rfl rfl rfl rfl (fun h=>?_) (fun h=>?_)<;>(dsimp only [cmpP] at h;(try (exfalso;omega))))|refine zq rfl rfl rfl rfl ?_|refine zt rfl rfl rfl ?_|refine zb rfl rfl rfl rfl (by omega) ?_|refine zm rfl rfl rfl rfl (IntWalk.i64_in _ (by omega)) ?_|refine z7 rfl rfl rfl rfl (IntWalk.i64_in _ (by omega)) ?_|refine zK rfl rfl rfl rfl rfl (by omega) ?_|refine zL rfl rfl rfl rfl rfl (by first|decide|omega) ?_|refine zj rfl rfl rfl ?_|(refine zg rfl rfl rfl rfl rfl ?_;refine ⟨rfl,by first|decide|exact Nat.le_of_ble_eq_true rfl|(simp;omega),_,rfl,?_⟩)|(refine zh rfl rfl (fun b=>?_))|(refine zl rfl rfl rfl rfl (fun b=>?_))|refine zBZ rfl rfl rfl rfl (by omega) (by omega) ?_)|(with_reducible first|refine zW ?_|refine zC ?_|refine zU ?_|refine zB ?_|refine zX ?_|refine zT ?_|refine zF ?_|refine zf ?_|refine zP ?_|refine zZ ?_|refine zY ?_|refine za ?_|refine zG ?_|refine zJ ?_)|((with_reducible refine zE ?_ ?_);(· exact rfl))|((with_reducible refine zI ?_ ?_);(· exact rfl))|((with_reducible refine zH ?_ ?_);(· exact rfl))))
 obtain ⟨a,ha⟩:∃ x,zs[0]?=some x:=⟨_,List.getElem?_eq_getElem hz0⟩
 obtain ⟨z,hz⟩:∃ x,zs[zs.length - 1]?=some x:=⟨_,List.getElem?_eq_getElem (by omega)⟩
 have hzl:=zCU hzc (B:=25000000) (by omega) (fun s hs=>⟨(hzb s hs).1,(hzb s hs).2.2⟩)
 have hen:=zH3 hzc ha hz hmT
 have hab:=hzb a (List.mem_of_getElem? ha)
 have hzb1:=hzb z (List.mem_of_getElem? hz)
 have:zAZ zs 0 a:=⟨ha⟩
 have:zAZ zs (zs.length - 1) z:=⟨hz⟩
 (refine zA9 [] [(16,0,0,[.blk b18 [.int .u8 s.cls,.int .i64 s.start.lo,.int .i64 s.start.hi,.int .i64 s.rub.lo,.int .i64 s.rub.hi,.int .i64 s.drag.lo,.int .i64 s.drag.hi,.int .i64 s.weight.lo,.int .i64 s.weight.hi,.int .i64 s.steer.lo,.int .i64 s.steer.hi]]),(18,0,0,[.blk b19 [.int .u8 s.cls,.int .i64 s.start.lo,.int .i64 s.start.hi,.int .i64 s.rub.lo,.int .i64 s.rub.hi,.int .i64 s.drag.lo,.int .i64 s.drag.hi,.int .i64 s.weight.lo,.int .i64 s.weight.hi,.int .i64 s.steer.lo,.int .i64 s.steer.hi]])] [(16,0,0),(18,0,0)] rfl (show ([16,18]:List Nat).Nodup by decide) (H0:=[.sl zo 2 (some ⟨bZ,oZ,none⟩) zs,.blk b7 [.slice tA t.length tc]]) (fun _ h=>h.sub (by (repeat constructor))) (by kernel_rfl) [[],[Z],[Z,Z],[Z,Z,Z],[Y,Y,Y,Y],[Y,Y,Y,Y,Y],[Z,Y,Y,Y,Y,Y],[Z,Z,Y,Y,Y,Y,Y],[Z,Z,Z,Z,Y,Y,Y,Y],[Z,Z,Z,Z,Z,Y,Y,Y,Y],[Z,Z,Z,Z,Z,Z,Y,Y,Y,Y],[Z,Z,Z,Z,Z,Z,Z,Z,Z,Z,Z],[Y,Y,Y,Y,Y,Y,Y,Y,Y,Y,Y,Y],[Y,Y,Y,Y,Y,Y,Y,Y,Y,Y,Y,Y,Y],[Z,Z,Z,Z,Z,Z,Z,Z,Z,Z,Z,Z,Z,Z],[Y,Y,Y,Z,Z,Z,Z,Z,Z,Z,Z,Z,Z,Z,Z],[Z,Z,Z,Z,Z,Z,Z,Z,Z,Z,Z,Z,Z,Z,Z,Z],[Z,Z,Z,Z,Z,Z,Z,Z,Z,Z,Z,Z,Z,Z,Z,Z,Z],[Z,Z,Z,Z,Z,Z,Z,Z,Z,Z,Z,Z,Z,Z,Z,Z,Z,Z]] (by kernel_rfl) (by kernel_rfl) (by kernel_rfl) (by kernel_rfl) (by kernel_rfl) ?_)
 (repeat' (first|(((with_reducible refine zDU ?_ ?_);(· exact rfl);refine ⟨_,fun G=>(by (try simp (decide:=true) only [vis,see,fltT,zAV,Nat.reduceAdd,Nat.reduceSub,if_true,if_false,List.set_cons_zero,List.set_cons_succ,List.set_nil,List.nil_append,List.cons_append]);rfl),?_⟩);first|refine zw _ (fun _=>zAT rfl rfl) (fun _=>rfl) rfl (by intro G G' h;simp (decide:=true) only [h]) ?_|refine zw _ (fun _=>zAF rfl rfl (by exact rfl)) (fun _=>rfl) rfl (by intro G G' h;simp (decide:=true) only [h]) ?_|(refine zBp rfl ?_;refine zw _ (fun _=>zAQ rfl rfl) (fun _=>rfl) rfl (by intro G G' h;simp (decide:=true) only [h]) ?_)|refine zCI _ rfl (fun _=>rfl) rfl (fun _=>rfl) (fun _=>rfl) (fun _ _ _ q=>zDO _ _ _) (by intro G G' h;simp (decide:=true) only [h]) ?_|refine zw _ (fun _=>zu (I:=0) rfl rfl rfl rfl (by omega)) (fun _=>rfl) rfl (by exact fun _ _ _=>rfl) ?_|refine zw _ (fun _=>zu (I:=zs.length - 1) rfl rfl rfl (by omega) (by omega)) (fun _=>rfl) rfl (by exact fun _ _ _=>rfl) ?_|refine zw _ (fun _=>zBB rfl rfl rfl (IntWalk.i64_in _ (by omega))) (fun _=>rfl) rfl (by intro G G' h;simp (decide:=true) only [h]) ?_|refine zw _ (fun _=>zu rfl rfl rfl rfl (by omega)) (fun _=>rfl) rfl (by intro G G' h;simp (decide:=true) only [h]) ?_|refine zw _ (fun _=>zAJ rfl rfl rfl rfl (by first|decide|omega)) (fun _=>rfl) rfl (by intro G G' h;simp (decide:=true) only [h]) ?_|refine zw _ (fun _=>zBM rfl rfl) (fun _=>rfl) rfl (by intro G G' h;simp (decide:=true) only [h]) ?_)|(refine zFT (cs:=[.int .u8 s.cls,.int .i64 s.start.lo,.int .i64 s.start.hi,.int .i64 s.rub.lo,.int .i64 s.rub.hi,.int .i64 s.drag.lo,.int .i64 s.drag.hi,.int .i64 s.weight.lo,.int .i64 s.weight.hi,.int .i64 s.steer.lo,.int .i64 s.steer.hi]) (cs':=fun _=>[.int .u8 s.cls,.int .i64 s.start.lo,.int .i64 s.start.hi,.int .i64 s.rub.lo,.int .i64 s.rub.hi,.int .i64 s.drag.lo,.int .i64 s.drag.hi,.int .i64 a.lo,.int .i64 z.hi,.int .i64 s.steer.lo,.int .i64 s.steer.hi]) List.mem_cons_self rfl rfl (fun _=>rfl) rfl (fun _=>rfl) (fun _=>rfl) (fun _=>rfl) (fun _=>rfl) rfl (fun _=>rfl) (by exact fun _ _ _=>rfl) ?_)|(refine zFT (cs:=[.int .u8 s.cls,.int .i64 s.start.lo,.int .i64 s.start.hi,.int .i64 s.rub.lo,.int .i64 s.rub.hi,.int .i64 s.drag.lo,.int .i64 s.drag.hi,.int .i64 s.weight.lo,.int .i64 s.weight.hi,.int .i64 s.steer.lo,.int .i64 s.steer.hi]) (cs':=fun _=>[.int .u8 s.cls,.int .i64 s.start.lo,.int .i64 s.start.hi,.int .i64 s.rub.lo,.int .i64 s.rub.hi,.int .i64 s.drag.lo,.int .i64 s.drag.hi,.int .i64 T,.int .i64 T,.int .i64 s.steer.lo,.int .i64 s.steer.hi]) (List.mem_cons_of_mem _ List.mem_cons_self) rfl rfl (fun _=>rfl) rfl (fun _=>rfl) (fun _=>rfl) (fun _=>rfl) (fun _=>rfl) rfl (fun _=>rfl) (by exact fun _ _ _=>rfl) ?_)|((with_reducible refine zBk ?_ ?_);(· exact rfl))|(with_reducible refine zCb ?_)))
 intro G
 simp only [regsT,Nat.reduceAdd,List.nil_append,List.cons_append]
 refine zBx (H':=[.blk b18 [.int .u8 s.cls,.int .i64 s.start.lo,.int .i64 s.start.hi,.int .i64 s.rub.lo,.int .i64 s.rub.hi,.int .i64 s.drag.lo,.int .i64 s.drag.hi,.int .i64 a.lo,.int .i64 z.hi,.int .i64 s.steer.lo,.int .i64 s.steer.hi],.blk b19 [.int .u8 s.cls,.int .i64 s.start.lo,.int .i64 s.start.hi,.int .i64 s.rub.lo,.int .i64 s.rub.hi,.int .i64 s.drag.lo,.int .i64 s.drag.hi,.int .i64 T,.int .i64 T,.int .i64 s.steer.lo,.int .i64 s.steer.hi],.sl zo 2 (some ⟨bZ,oZ,none⟩) zs,.blk b7 [.slice tA t.length tc]]) (fun _ h=>h.sub (by (repeat constructor))) ?_
 have hsA:=fun W=>zFs (z8 s ⟨a.lo,z.hi⟩) W hcl
 have hsO:=fun W=>zFs (z8 s ⟨T,T⟩) W hcl
 have hHA:=fun hs W (hW:Below w.heap.size w W)=>zDf (z8 s ⟨a.lo,z.hi⟩) t tA tc W (ht.below hW) hf (by omega) hv hs
 have hHO:=fun hs W (hW:Below w.heap.size w W)=>zDf (z8 s ⟨T,T⟩) t tA tc W (ht.below hW) hf (by omega) hv hs
 have hSA:=fun hs W (hW:Below w.heap.size w W)=>zFm (z8 s ⟨a.lo,z.hi⟩) t tA tc W (ht.below hW) hf (by omega) hv hs
 have hSO:=fun hs W (hW:Below w.heap.size w W)=>zFm (z8 s ⟨T,T⟩) t tA tc W (ht.below hW) hf (by omega) hv hs
 cases hsa:zDC (z8 s ⟨a.lo,z.hi⟩) with
 | false =>
  rw [hsa] at hsA
  unfold vSl z8 at hsA
  simp only at hsA
  (repeat' (first|((with_reducible refine zV ?_);first|refine zO rfl rfl rfl ?_|refine zD rfl rfl rfl ?_|(refine zQ rfl rfl rfl ?_;refine ⟨_,rfl,?_⟩)|refine zS rfl rfl rfl ?_|refine zr rfl rfl rfl rfl ?_|refine zN rfl rfl rfl ?_|refine zM rfl rfl ?_|(refine zd rfl rfl rfl rfl rfl (fun h=>?_) (fun h=>?_)<;>(dsimp only [cmpP] at h;(try (exfalso;omega))))|refine zn rfl rfl rfl rfl (fun _ _ q=>hsA _) ?_|refine zq rfl rfl rfl rfl ?_|refine zt rfl rfl rfl ?_|refine zb rfl rfl rfl rfl (by omega) ?_|refine zm rfl rfl rfl rfl (IntWalk.i64_in _ (by omega)) ?_|refine z7 rfl rfl rfl rfl (IntWalk.i64_in _ (by omega)) ?_|refine zK rfl rfl rfl rfl rfl (by omega) ?_|refine zL rfl rfl rfl rfl rfl (by first|decide|omega) ?_|refine zj rfl rfl rfl ?_|(refine zg rfl rfl rfl rfl rfl ?_;refine ⟨rfl,by first|decide|exact Nat.le_of_ble_eq_true rfl|(simp;omega),_,rfl,?_⟩)|(refine zh rfl rfl (fun b=>?_))|(refine zl rfl rfl rfl rfl (fun b=>?_))|refine zBZ rfl rfl rfl rfl (by omega) (by omega) ?_)|(with_reducible first|refine zW ?_|refine zC ?_|refine zU ?_|refine zB ?_|refine zX ?_|refine zT ?_|refine zF ?_|refine zf ?_|refine zP ?_|refine zZ ?_|refine zY ?_|refine za ?_|refine zG ?_|refine zJ ?_)|((with_reducible refine zE ?_ ?_);(· exact rfl))|((with_reducible refine zI ?_ ?_);(· exact rfl))|((with_reducible refine zH ?_ ?_);(· exact rfl))))
  exact zk (by exact rTm rfl) () trivial rfl (fun _ h=>h.sub (by (repeat constructor)))
 | true =>
 have hsF:=zB7.1 hsa
 have hwt:50000≤a.lo∧a.lo≤z.hi∧z.hi≤800000:=hsF.weight
 have hsT:zDC (z8 s ⟨T,T⟩)=true:=zB7.2 ⟨hsF.cls,hsF.start,hsF.rub,hsF.drag,by simp only [z8];omega,hsF.steer⟩
 have hbt:=zCf (s:=s) (t:=t) (a:=⟨a.lo,z.hi⟩) (T:=T) hsF (zDn hv) hen.1 hen.2
 have hsb:=zGZ (s:=s) (a:=⟨a.lo,z.hi⟩) (T:=T) hv hsF hen.1 hen.2
 rw [hsa] at hsA
 rw [hsT] at hsO
 have hHA:=hHA hsa
 have hHO:=hHO hsT
 have hSA:=hSA hsa
 have hSO:=hSO hsT
 have hXl:(zBL (z8 s ⟨a.lo,z.hi⟩) t (t.length+1)).length=t.length+1:=zEX
 have hYl:(zBL (z8 s ⟨T,T⟩) t (t.length+1)).length=t.length+1:=zEX
 have hXY:∀ (k:Nat) x y,(zBL (z8 s ⟨a.lo,z.hi⟩) t (t.length+1))[k]?=some x→(zBL (z8 s ⟨T,T⟩) t (t.length+1))[k]?=some y→x.lo≤y.lo∧y.hi≤x.hi:=fun k x y hx hy=>by
  have hk:k<t.length+1:=by have:=(List.getElem?_eq_some_iff.1 hx).1;omega
  rw [zHd hk] at hx hy
  cases hx
  cases hy
  exact hbt k
 clear hbt hsF hsT hsa
 generalize zBL (z8 s ⟨a.lo,z.hi⟩) t (t.length+1)=X at *
 generalize zBL (z8 s ⟨T,T⟩) t (t.length+1)=Y at *
 generalize zEY (z8 s ⟨a.lo,z.hi⟩) t=u at *
 generalize zEY (z8 s ⟨T,T⟩) t=v at *
 unfold vSl z8 at hsA hsO hHA hHO hSA hSO
 simp only at hsA hsO hHA hHO hSA hSO
 (repeat' (first|((with_reducible refine zV ?_);first|refine zO rfl rfl rfl ?_|refine zD rfl rfl rfl ?_|(refine zQ rfl rfl rfl ?_;refine ⟨_,rfl,?_⟩)|refine zS rfl rfl rfl ?_|refine zr rfl rfl rfl rfl ?_|refine zN rfl rfl rfl ?_|refine zM rfl rfl ?_|(refine zd rfl rfl rfl rfl rfl (fun h=>?_) (fun h=>?_)<;>(dsimp only [cmpP] at h;(try (exfalso;omega))))|refine zn rfl rfl rfl rfl (fun _ _ q=>hsA _) ?_|refine zn rfl rfl rfl rfl (fun _ _ q=>hsO _) ?_|refine zDM rfl rfl rfl rfl (fun _ _ q=>hHA _ q.below) (fun A' c'=>?_)|refine zq rfl rfl rfl rfl ?_|refine zt rfl rfl rfl ?_|refine zb rfl rfl rfl rfl (by omega) ?_|refine zm rfl rfl rfl rfl (IntWalk.i64_in _ (by omega)) ?_|refine z7 rfl rfl rfl rfl (IntWalk.i64_in _ (by omega)) ?_|refine zK rfl rfl rfl rfl rfl (by omega) ?_|refine zL rfl rfl rfl rfl rfl (by first|decide|omega) ?_|refine zj rfl rfl rfl ?_|(refine zg rfl rfl rfl rfl rfl ?_;refine ⟨rfl,by first|decide|exact Nat.le_of_ble_eq_true rfl|(simp;omega),_,rfl,?_⟩)|(refine zh rfl rfl (fun b=>?_))|(refine zl rfl rfl rfl rfl (fun b=>?_))|refine zBZ rfl rfl rfl rfl (by omega) (by omega) ?_)|(with_reducible first|refine zW ?_|refine zC ?_|refine zU ?_|refine zB ?_|refine zX ?_|refine zT ?_|refine zF ?_|refine zf ?_|refine zP ?_|refine zZ ?_|refine zY ?_|refine za ?_|refine zG ?_|refine zJ ?_)|((with_reducible refine zE ?_ ?_);(· exact rfl))|((with_reducible refine zI ?_ ?_);(· exact rfl))|((with_reducible refine zH ?_ ?_);(· exact rfl))))
 obtain ⟨AX,hAX⟩:∃ y,y=A':=⟨_,rfl⟩
 obtain ⟨cX,hcX⟩:∃ y,y=c':=⟨_,rfl⟩
 subst hAX hcX
 (repeat' (first|((with_reducible refine zV ?_);first|refine zO rfl rfl rfl ?_|refine zD rfl rfl rfl ?_|(refine zQ rfl rfl rfl ?_;refine ⟨_,rfl,?_⟩)|refine zS rfl rfl rfl ?_|refine zr rfl rfl rfl rfl ?_|refine zN rfl rfl rfl ?_|refine zM rfl rfl ?_|(refine zd rfl rfl rfl rfl rfl (fun h=>?_) (fun h=>?_)<;>(dsimp only [cmpP] at h;(try (exfalso;omega))))|refine zDM rfl rfl rfl rfl (fun _ _ q=>hHO _ q.below) (fun A' c'=>?_)|refine zn rfl rfl rfl rfl (fun _ _ q=>hSA _ q.below) ?_|refine zn rfl rfl rfl rfl (fun _ _ q=>hSO _ q.below) ?_|refine zq rfl rfl rfl rfl ?_|refine zt rfl rfl rfl ?_|refine zb rfl rfl rfl rfl (by omega) ?_|refine zm rfl rfl rfl rfl (IntWalk.i64_in _ (by omega)) ?_|refine z7 rfl rfl rfl rfl (IntWalk.i64_in _ (by omega)) ?_|refine zK rfl rfl rfl rfl rfl (by omega) ?_|refine zL rfl rfl rfl rfl rfl (by first|decide|omega) ?_|refine zj rfl rfl rfl ?_|(refine zg rfl rfl rfl rfl rfl ?_;refine ⟨rfl,by first|decide|exact Nat.le_of_ble_eq_true rfl|(simp;omega),_,rfl,?_⟩)|(refine zh rfl rfl (fun b=>?_))|(refine zl rfl rfl rfl rfl (fun b=>?_))|refine zBZ rfl rfl rfl rfl (by omega) (by omega) ?_)|(with_reducible first|refine zW ?_|refine zC ?_|refine zU ?_|refine zB ?_|refine zX ?_|refine zT ?_|refine zF ?_|refine zf ?_|refine zP ?_|refine zZ ?_|refine zY ?_|refine za ?_|refine zG ?_|refine zJ ?_)|((with_reducible refine zE ?_ ?_);(· exact rfl))|((with_reducible refine zI ?_ ?_);(· exact rfl))|((with_reducible refine zH ?_ ?_);(· exact rfl))))
 all_goals
  refine zAo (enc:=zo) (xs:=X) (by (repeat constructor)) (by omega) (fun bX oX hXe=>?_)
  subst hXe
  refine zAo (enc:=zo) (xs:=Y) (by (repeat constructor)) (by omega) (fun bY oY hYe=>?_)
  subst hYe
  refine zAC (ι:=Nat) [11,20,22,184] rfl (fun k=>k≤X.length) (fun k=>[(185,.int .i64 (k:Int))]) (fun _=>[.sl zo 2 (some ⟨bX,oX,none⟩) X,.sl zo 2 (some ⟨bY,oY,none⟩) Y]) (fun k=>X.length - k) 0 (Nat.zero_le _) (by (repeat first|exact lK1|refine zp rfl ?_)) (by (repeat constructor)) ?_
  rintro k hk
  simp only [zAm,List.cons_append,List.nil_append]
  by_cases hkl:k<X.length
  rotate_left
  ·obtain rfl:k=X.length:=by omega
   (repeat' (first|((with_reducible refine zV ?_);first|refine zO rfl rfl rfl ?_|refine zD rfl rfl rfl ?_|(refine zQ rfl rfl rfl ?_;refine ⟨_,rfl,?_⟩)|refine zS rfl rfl rfl ?_|refine zr rfl rfl rfl rfl ?_|refine zN rfl rfl rfl ?_|refine zM rfl rfl ?_|(refine zd rfl rfl rfl rfl rfl (fun h=>?_) (fun h=>?_)<;>(dsimp only [cmpP] at h;(try (exfalso;omega))))|refine zq rfl rfl rfl rfl ?_|refine zt rfl rfl rfl ?_|refine zb rfl rfl rfl rfl (by omega) ?_|refine zm rfl rfl rfl rfl (IntWalk.i64_in _ (by omega)) ?_|refine z7 rfl rfl rfl rfl (IntWalk.i64_in _ (by omega)) ?_|refine zK rfl rfl rfl rfl rfl (by omega) ?_|refine zL rfl rfl rfl rfl rfl (by first|decide|omega) ?_|refine zj rfl rfl rfl ?_|(refine zg rfl rfl rfl rfl rfl ?_;refine ⟨rfl,by first|decide|exact Nat.le_of_ble_eq_true rfl|(simp;omega),_,rfl,?_⟩)|(refine zh rfl rfl (fun b=>?_))|(refine zl rfl rfl rfl rfl (fun b=>?_))|refine zBZ rfl rfl rfl rfl (by omega) (by omega) ?_)|(with_reducible first|refine zW ?_|refine zC ?_|refine zU ?_|refine zB ?_|refine zX ?_|refine zT ?_|refine zF ?_|refine zf ?_|refine zP ?_|refine zZ ?_|refine zY ?_|refine za ?_|refine zG ?_|refine zJ ?_)|((with_reducible refine zE ?_ ?_);(· exact rfl))|((with_reducible refine zI ?_ ?_);(· exact rfl))|((with_reducible refine zH ?_ ?_);(· exact rfl))))
   exact zk (by exact rTm rfl) () trivial rfl (fun _ h=>h.sub (by (repeat constructor)))
  obtain ⟨x,hx⟩:∃ x,X[k]?=some x:=⟨_,List.getElem?_eq_getElem hkl⟩
  obtain ⟨y,hy⟩:∃ y,Y[k]?=some y:=⟨_,List.getElem?_eq_getElem (by omega)⟩
  have:zAZ X k x:=⟨hx⟩
  have:zAZ Y k y:=⟨hy⟩
  have hxy:=hXY k x y hx hy
  (repeat' (first|((with_reducible refine zV ?_);first|refine zO rfl rfl rfl ?_|refine zD rfl rfl rfl ?_|(refine zQ rfl rfl rfl ?_;refine ⟨_,rfl,?_⟩)|refine zS rfl rfl rfl ?_|refine zr rfl rfl rfl rfl ?_|refine zN rfl rfl rfl ?_|refine zM rfl rfl ?_|(refine zd rfl rfl rfl rfl rfl (fun h=>?_) (fun h=>?_)<;>(dsimp only [cmpP] at h;(try (exfalso;omega))))|refine zq rfl rfl rfl rfl ?_|refine zt rfl rfl rfl ?_|refine zb rfl rfl rfl rfl (by omega) ?_|refine zm rfl rfl rfl rfl (IntWalk.i64_in _ (by omega)) ?_|refine z7 rfl rfl rfl rfl (IntWalk.i64_in _ (by omega)) ?_|refine zK rfl rfl rfl rfl rfl (by omega) ?_|refine zL rfl rfl rfl rfl rfl (by first|decide|omega) ?_|refine zj rfl rfl rfl ?_|(refine zg rfl rfl rfl rfl rfl ?_;refine ⟨rfl,by first|decide|exact Nat.le_of_ble_eq_true rfl|(simp;omega),_,rfl,?_⟩)|(refine zh rfl rfl (fun b=>?_))|(refine zl rfl rfl rfl rfl (fun b=>?_))|refine zBZ rfl rfl rfl rfl (by omega) (by omega) ?_)|(with_reducible first|refine zW ?_|refine zC ?_|refine zU ?_|refine zB ?_|refine zX ?_|refine zT ?_|refine zF ?_|refine zf ?_|refine zP ?_|refine zZ ?_|refine zY ?_|refine za ?_|refine zG ?_|refine zJ ?_)|((with_reducible refine zE ?_ ?_);(· exact rfl))|((with_reducible refine zI ?_ ?_);(· exact rfl))|((with_reducible refine zH ?_ ?_);(· exact rfl))))
  (refine zAY (by kernel_rfl) (by kernel_rfl) (by kernel_rfl) ?_)
  (repeat' (first|((with_reducible refine zAq ?_);first|refine zA (zAT rfl rfl) rfl ?_|refine zA (zAF rfl rfl (by exact rfl)) rfl ?_|refine zA (zAQ rfl rfl) rfl ?_|refine zA (zAz rfl rfl rfl) rfl ?_|refine zA (zAS rfl rfl) rfl ?_|refine zAA rfl rfl rfl ?_|(refine zBP rfl rfl rfl rfl rfl (fun h=>?_) (fun h=>?_)<;>(dsimp only [cmpP] at h;(try (exfalso;omega))))|refine zA (zu (I:=k) rfl rfl rfl (by omega) (by first|omega|(dsimp only;omega))) rfl ?_|refine zA (zAM rfl rfl rfl) rfl ?_|refine zA (zBU rfl rfl) rfl ?_|refine zA (zAl rfl rfl rfl (by omega)) rfl ?_|refine zA (zA8 rfl rfl rfl (IntWalk.i64_in _ (by omega))) rfl ?_|refine zA (zBB rfl rfl rfl (IntWalk.i64_in _ (by omega))) rfl ?_|refine zA (zA6 rfl rfl rfl (IntWalk.i64_in _ (by omega))) rfl ?_|refine zA (zu rfl rfl rfl rfl (by omega)) rfl ?_|refine zA (zAJ rfl rfl rfl rfl (by first|decide|omega)) rfl ?_|refine zA (zBM rfl rfl) rfl ?_|refine zA (zBV rfl rfl) rfl ?_|refine zA (zAE rfl rfl) rfl ?_|refine zA (zAR rfl rfl (IntWalk.i64_in _ (by omega))) rfl ?_|refine zA (zBE rfl rfl rfl (by omega) (by omega) (IntWalk.i64_in _ (by omega))) rfl ?_|refine zA (zBT rfl rfl rfl (by omega) (by omega)) rfl ?_|refine zA (zBF rfl rfl rfl) rfl ?_|refine zA (zA7 rfl rfl rfl) rfl ?_|refine zA (zAN rfl rfl (by exact rfl)) rfl ?_|refine zA (zAI rfl rfl rfl) rfl ?_)|(with_reducible refine zBI ?_)))
  all_goals (repeat' (first|((with_reducible refine zV ?_);first|refine zO rfl rfl rfl ?_|refine zD rfl rfl rfl ?_|(refine zQ rfl rfl rfl ?_;refine ⟨_,rfl,?_⟩)|refine zS rfl rfl rfl ?_|refine zr rfl rfl rfl rfl ?_|refine zN rfl rfl rfl ?_|refine zM rfl rfl ?_|(refine zd rfl rfl rfl rfl rfl (fun h=>?_) (fun h=>?_)<;>(dsimp only [cmpP] at h;(try (exfalso;omega))))|refine zq rfl rfl rfl rfl ?_|refine zt rfl rfl rfl ?_|refine zb rfl rfl rfl rfl (by omega) ?_|refine zm rfl rfl rfl rfl (IntWalk.i64_in _ (by omega)) ?_|refine z7 rfl rfl rfl rfl (IntWalk.i64_in _ (by omega)) ?_|refine zK rfl rfl rfl rfl rfl (by omega) ?_|refine zL rfl rfl rfl rfl rfl (by first|decide|omega) ?_|refine zj rfl rfl rfl ?_|(refine zg rfl rfl rfl rfl rfl ?_;refine ⟨rfl,by first|decide|exact Nat.le_of_ble_eq_true rfl|(simp;omega),_,rfl,?_⟩)|(refine zh rfl rfl (fun b=>?_))|(refine zl rfl rfl rfl rfl (fun b=>?_))|refine zBZ rfl rfl rfl rfl (by omega) (by omega) ?_)|(with_reducible first|refine zW ?_|refine zC ?_|refine zU ?_|refine zB ?_|refine zX ?_|refine zT ?_|refine zF ?_|refine zf ?_|refine zP ?_|refine zZ ?_|refine zY ?_|refine za ?_|refine zG ?_|refine zJ ?_)|((with_reducible refine zE ?_ ?_);(· exact rfl))|((with_reducible refine zI ?_ ?_);(· exact rfl))|((with_reducible refine zH ?_ ?_);(· exact rfl))))
  all_goals exact z6 (ι:=Nat) (k+1) (by omega) (by omega) (by (repeat first|exact lK1|refine zp rfl ?_)) (by (repeat constructor))
end Two
end Go.Proofs.YtcpdjamlhhfbhaaGreat
