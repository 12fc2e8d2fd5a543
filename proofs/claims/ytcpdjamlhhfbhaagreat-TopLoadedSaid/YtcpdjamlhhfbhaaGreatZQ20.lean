/- ZQ20 -/
import Derived.Test.YtcpdjamlhhfbhaaGreatZQ19
import Derived.Test.YtcpdjamlhhfbhaaGreatZQ8
import Derived.Test.YtcpdjamlhhfbhaaGreatZQ6
import Derived.Laws.MakeOwn
import Derived.Laws.OwnMore
set_option linter.unusedSimpArgs false
set_option linter.unusedVariables false
namespace Go.Proofs.YtcpdjamlhhfbhaaGreat.Two
variable {ro : Option Nat}
open Go.RowKit
set_option maxRecDepth 20000
set_option maxHeartbeats 1000000 in
theorem zHP (l:List Sp) (A:Option Addr) (cap:Nat) (kf:FuncId) [zi Tryz.prog kf] (cs:Array Value) (p:Sp→Bool) (w:World) (hk:zAB zo 2 w A l) (hl:l.length≤100000000000)
  (hp:∀ x W,x∈l→Below w.heap.size w W→Gv Tryz.prog kf ([vSpD x]++cs.toList) W (.bool (p x))) :
  Gv Tryz.prog 73 [.slice A l.length cap,.func (.func kf) #[] cs] w (.int .i64 (zCB p l)):=by
 unfold Gv
 (refine ze (n:=19) Tryz.func73 rfl rfl rfl ?_)
 (repeat' (first|((with_reducible refine zV ?_);first|refine zO rfl rfl rfl ?_|refine zD rfl rfl rfl ?_|(refine zQ rfl rfl rfl ?_;refine ⟨_,rfl,?_⟩)|(refine zd rfl rfl rfl rfl rfl (fun h=>?_) (fun h=>?_)<;>(dsimp only [cmpP] at h;(try (exfalso;omega))))|refine zb rfl rfl rfl rfl (by omega) ?_|refine zm rfl rfl rfl rfl (IntWalk.i64_in _ (by omega)) ?_|refine zK rfl rfl rfl rfl rfl (by omega) ?_|refine zL rfl rfl rfl rfl rfl (by first|decide|omega) ?_|refine zj rfl rfl rfl ?_)|(with_reducible first|refine zW ?_|refine zC ?_|refine zU ?_|refine zB ?_|refine zX ?_|refine zT ?_|refine zF ?_|refine zf ?_|refine zP ?_|refine zZ ?_|refine zY ?_|refine za ?_|refine zG ?_|refine zJ ?_)|((with_reducible refine zE ?_ ?_);(· exact rfl))|((with_reducible refine zI ?_ ?_);(· exact rfl))|((with_reducible refine zH ?_ ?_);(· exact rfl))))
 refine zAC (ι:=Nat) [0,1,7] rfl (fun i=>i≤l.length∧∀ j y,j<i→l[j]?=some y→p y=false) (fun i=>[(8,.int .i64 (i:Int))]) (fun _=>[]) (fun i=>l.length - i) 0 ⟨Nat.zero_le _,fun j y h=>by omega⟩ (by (repeat first|exact lK1|refine zp rfl ?_)) (by (repeat constructor)) ?_
 rintro i ⟨hi,hb⟩
 simp only [zAm,List.cons_append,List.nil_append]
 by_cases hlt:i<l.length
 ·have hx:l[i]?=some l[i]:=by simp [hlt]
  obtain ⟨b,o,rfl,hblt,hc⟩:=hk.at_ hlt
  have:InS w b o zo 2 l:=⟨hk⟩
  have:zAZ l i l[i]:=⟨hx⟩
  (repeat' (first|((with_reducible refine zV ?_);first|refine zO rfl rfl rfl ?_|refine zD rfl rfl rfl ?_|(refine zQ rfl rfl rfl ?_;refine ⟨_,rfl,?_⟩)|(refine zd rfl rfl rfl rfl rfl (fun h=>?_) (fun h=>?_)<;>(dsimp only [cmpP] at h;(try (exfalso;omega))))|(refine zBN rfl rfl rfl rfl (fun _ _ q=>hp _ _ (List.getElem_mem hlt) q.below) (fun h=>?_) (fun h=>?_)<;>(try (exfalso;omega)))|refine zb rfl rfl rfl rfl (by omega) ?_|refine zm rfl rfl rfl rfl (IntWalk.i64_in _ (by omega)) ?_|refine zK rfl rfl rfl rfl rfl (by omega) ?_|refine zL rfl rfl rfl rfl rfl (by first|decide|omega) ?_|refine zj rfl rfl rfl ?_)|(with_reducible first|refine zW ?_|refine zC ?_|refine zU ?_|refine zB ?_|refine zX ?_|refine zT ?_|refine zF ?_|refine zf ?_|refine zP ?_|refine zZ ?_|refine zY ?_|refine za ?_|refine zG ?_|refine zJ ?_)|((with_reducible refine zE ?_ ?_);(· exact rfl))|((with_reducible refine zI ?_ ?_);(· exact rfl))|((with_reducible refine zH ?_ ?_);(· exact rfl))))
  ·have e1:=zDH hlt h hb
   exact zk (by exact rTm rfl) () trivial (by rw [e1];rfl) (fun _ h=>h.sub (by (repeat constructor)))
  ·refine z6 (i+1) ⟨by omega,fun j y hj hy=>?_⟩ (by omega) (by (repeat first|exact lK1|refine zp rfl ?_)) (by (repeat constructor))
   by_cases e:j=i
   ·subst e;rw [hx] at hy;cases hy;exact h
   ·exact hb j y (by omega) hy
 ·obtain rfl:i=l.length:=by omega
  have e1:=zCS (p:=p) (l:=l) (fun y hy=>by
   obtain ⟨j,hj⟩:=List.mem_iff_getElem?.1 hy
   exact hb j y (List.getElem?_eq_some_iff.1 hj).1 hj)
  (repeat' (first|((with_reducible refine zV ?_);first|refine zO rfl rfl rfl ?_|refine zD rfl rfl rfl ?_|(refine zQ rfl rfl rfl ?_;refine ⟨_,rfl,?_⟩)|(refine zd rfl rfl rfl rfl rfl (fun h=>?_) (fun h=>?_)<;>(dsimp only [cmpP] at h;(try (exfalso;omega))))|refine zb rfl rfl rfl rfl (by omega) ?_|refine zm rfl rfl rfl rfl (IntWalk.i64_in _ (by omega)) ?_|refine zK rfl rfl rfl rfl rfl (by omega) ?_|refine zL rfl rfl rfl rfl rfl (by first|decide|omega) ?_|refine zj rfl rfl rfl ?_)|(with_reducible first|refine zW ?_|refine zC ?_|refine zU ?_|refine zB ?_|refine zX ?_|refine zT ?_|refine zF ?_|refine zf ?_|refine zP ?_|refine zZ ?_|refine zY ?_|refine za ?_|refine zG ?_|refine zJ ?_)|((with_reducible refine zE ?_ ?_);(· exact rfl))|((with_reducible refine zI ?_ ?_);(· exact rfl))|((with_reducible refine zH ?_ ?_);(· exact rfl))))
  exact zk (by exact rTm rfl) () trivial (by rw [e1];rfl) (fun _ h=>h.sub (by (repeat constructor)))
theorem zIP (l:List Sp) (A:Option Addr) (cap:Nat) (kf:FuncId) [zi Tryz.prog kf] (cs:Array Value) (p:Sp→Bool) (w:World) (hk:zAB zo 2 w A l) (hl:l.length≤100000000000)
  (hp:∀ x W,x∈l→Below w.heap.size w W→Gv Tryz.prog kf ([vSpD x]++cs.toList) W (.bool (p x))) :
  Gv Tryz.prog 40 [.slice A l.length cap,.func (.func kf) #[] cs] w (.bool (l.any p)):=by
 unfold Gv
 have hf:=zCn p l
 (refine ze (n:=9) Tryz.func40 rfl rfl rfl ?_)
 (repeat' (first|((with_reducible refine zV ?_);first|refine zO rfl rfl rfl ?_|refine zD rfl rfl rfl ?_|(refine zd rfl rfl rfl rfl rfl (fun h=>?_) (fun h=>?_)<;>(dsimp only [cmpP] at h;(try (exfalso;omega))))|refine zn rfl rfl rfl rfl (fun _ _ q=>zHP l A cap kf cs p _ (hk.below q.below) hl (fun x W hx hW=>hp x W hx (q.below.trans (hW.mono q.base)))) ?_)|(with_reducible first|refine zW ?_|refine zC ?_|refine zU ?_|refine zB ?_|refine zX ?_|refine zT ?_|refine zF ?_|refine zf ?_)))
 all_goals exact zk (by exact rTm rfl) () trivial (by simp only [resV];rw [← hf];simp;omega) (fun _ h=>h.sub (by (repeat constructor)))
set_option maxHeartbeats 1000000 in
theorem ctu_idx (l:List zBK) (A:Option Addr) (cap:Nat) (kf:FuncId) [zi Tryz.prog kf] (cs:Array Value) (p:zBK→Bool) (w:World) (hk:zAB zAf 4 w A l) (hl:l.length≤100000000000)
  (hp:∀ x W,x∈l→Below w.heap.size w W→Gv Tryz.prog kf ([vTru x]++cs.toList) W (.bool (p x))) :
  Gv Tryz.prog 48 [.slice A l.length cap,.func (.func kf) #[] cs] w (.int .i64 (zCB p l)):=by
 unfold Gv
 (refine ze (n:=19) Tryz.func48 rfl rfl rfl ?_)
 (repeat' (first|((with_reducible refine zV ?_);first|refine zO rfl rfl rfl ?_|refine zD rfl rfl rfl ?_|(refine zQ rfl rfl rfl ?_;refine ⟨_,rfl,?_⟩)|(refine zd rfl rfl rfl rfl rfl (fun h=>?_) (fun h=>?_)<;>(dsimp only [cmpP] at h;(try (exfalso;omega))))|refine zb rfl rfl rfl rfl (by omega) ?_|refine zm rfl rfl rfl rfl (IntWalk.i64_in _ (by omega)) ?_|refine zK rfl rfl rfl rfl rfl (by omega) ?_|refine zL rfl rfl rfl rfl rfl (by first|decide|omega) ?_|refine zj rfl rfl rfl ?_)|(with_reducible first|refine zW ?_|refine zC ?_|refine zU ?_|refine zB ?_|refine zX ?_|refine zT ?_|refine zF ?_|refine zf ?_|refine zP ?_|refine zZ ?_|refine zY ?_|refine za ?_|refine zG ?_|refine zJ ?_)|((with_reducible refine zE ?_ ?_);(· exact rfl))|((with_reducible refine zI ?_ ?_);(· exact rfl))|((with_reducible refine zH ?_ ?_);(· exact rfl))))
 refine zAC (ι:=Nat) [0,1,7] rfl (fun i=>i≤l.length∧∀ j y,j<i→l[j]?=some y→p y=false) (fun i=>[(8,.int .i64 (i:Int))]) (fun _=>[]) (fun i=>l.length - i) 0 ⟨Nat.zero_le _,fun j y h=>by omega⟩ (by (repeat first|exact lK1|refine zp rfl ?_)) (by (repeat constructor)) ?_
 rintro i ⟨hi,hb⟩
 simp only [zAm,List.cons_append,List.nil_append]
 by_cases hlt:i<l.length
 ·have hx:l[i]?=some l[i]:=by simp [hlt]
  obtain ⟨b,o,rfl,hblt,hc⟩:=hk.at_ hlt
  have:InS w b o zAf 4 l:=⟨hk⟩
  have:zAZ l i l[i]:=⟨hx⟩
  (repeat' (first|((with_reducible refine zV ?_);first|refine zO rfl rfl rfl ?_|refine zD rfl rfl rfl ?_|(refine zQ rfl rfl rfl ?_;refine ⟨_,rfl,?_⟩)|(refine zd rfl rfl rfl rfl rfl (fun h=>?_) (fun h=>?_)<;>(dsimp only [cmpP] at h;(try (exfalso;omega))))|(refine zBN rfl rfl rfl rfl (fun _ _ q=>hp _ _ (List.getElem_mem hlt) q.below) (fun h=>?_) (fun h=>?_)<;>(try (exfalso;omega)))|refine zb rfl rfl rfl rfl (by omega) ?_|refine zm rfl rfl rfl rfl (IntWalk.i64_in _ (by omega)) ?_|refine zK rfl rfl rfl rfl rfl (by omega) ?_|refine zL rfl rfl rfl rfl rfl (by first|decide|omega) ?_|refine zj rfl rfl rfl ?_)|(with_reducible first|refine zW ?_|refine zC ?_|refine zU ?_|refine zB ?_|refine zX ?_|refine zT ?_|refine zF ?_|refine zf ?_|refine zP ?_|refine zZ ?_|refine zY ?_|refine za ?_|refine zG ?_|refine zJ ?_)|((with_reducible refine zE ?_ ?_);(· exact rfl))|((with_reducible refine zI ?_ ?_);(· exact rfl))|((with_reducible refine zH ?_ ?_);(· exact rfl))))
  ·have e1:=zDH hlt h hb
   exact zk (by exact rTm rfl) () trivial (by rw [e1];rfl) (fun _ h=>h.sub (by (repeat constructor)))
  ·refine z6 (i+1) ⟨by omega,fun j y hj hy=>?_⟩ (by omega) (by (repeat first|exact lK1|refine zp rfl ?_)) (by (repeat constructor))
   by_cases e:j=i
   ·subst e;rw [hx] at hy;cases hy;exact h
   ·exact hb j y (by omega) hy
 ·obtain rfl:i=l.length:=by omega
  have e1:=zCS (p:=p) (l:=l) (fun y hy=>by
   obtain ⟨j,hj⟩:=List.mem_iff_getElem?.1 hy
   exact hb j y (List.getElem?_eq_some_iff.1 hj).1 hj)
  (repeat' (first|((with_reducible refine zV ?_);first|refine zO rfl rfl rfl ?_|refine zD rfl rfl rfl ?_|(refine zQ rfl rfl rfl ?_;refine ⟨_,rfl,?_⟩)|(refine zd rfl rfl rfl rfl rfl (fun h=>?_) (fun h=>?_)<;>(dsimp only [cmpP] at h;(try (exfalso;omega))))|refine zb rfl rfl rfl rfl (by omega) ?_|refine zm rfl rfl rfl rfl (IntWalk.i64_in _ (by omega)) ?_|refine zK rfl rfl rfl rfl rfl (by omega) ?_|refine zL rfl rfl rfl rfl rfl (by first|decide|omega) ?_|refine zj rfl rfl rfl ?_)|(with_reducible first|refine zW ?_|refine zC ?_|refine zU ?_|refine zB ?_|refine zX ?_|refine zT ?_|refine zF ?_|refine zf ?_|refine zP ?_|refine zZ ?_|refine zY ?_|refine za ?_|refine zG ?_|refine zJ ?_)|((with_reducible refine zE ?_ ?_);(· exact rfl))|((with_reducible refine zI ?_ ?_);(· exact rfl))|((with_reducible refine zH ?_ ?_);(· exact rfl))))
  exact zk (by exact rTm rfl) () trivial (by rw [e1];rfl) (fun _ h=>h.sub (by (repeat constructor)))
theorem zHN (s:Sp) (total:Int) (g:Nat) (w:World) (hg:InC w g 0 [.int .i64 total]):Gv Tryz.prog 41 ([vSpD s] ++ #[.pointer (some ⟨g,0,none⟩)].toList) w (.bool (inB s.lo s.hi total)):=by
 have hI:=fun A c W h=>cin_1 s.lo s.hi total c A W h
 obtain ⟨s1,s2⟩:=s
 unfold Gv vSpD
 simp only at *
 (refine ze (n:=11) Tryz.func41 rfl rfl rfl ?_)
 (repeat' (first|((with_reducible refine zV ?_);first|refine zD rfl rfl rfl ?_|(refine zQ rfl rfl rfl ?_;refine ⟨_,rfl,?_⟩)|refine zS rfl rfl rfl ?_|refine zn rfl rfl rfl rfl (fun _ _ q=>hI _ _ _ (zAO (enc:=encI) (by exact rfl) _ q.below q.own)) ?_|(refine zl rfl rfl rfl rfl (fun b=>?_))|(refine zR rfl rfl rfl ?_;refine ⟨rfl,_,rfl,fun b=>?_⟩))|(with_reducible first|refine zW ?_|refine zC ?_|refine zU ?_|refine zB ?_|refine zX ?_|refine zT ?_|refine zF ?_|refine zf ?_)))
 exact zk (by exact rTm rfl) () trivial rfl (fun _ h=>h.sub (by (repeat constructor)))
def zEP (left sum t:Sp):Bool:=decide (t.lo≤left.hi - sum.lo) && decide (left.lo - sum.hi≤t.hi)
theorem zGh (t left:Sp) (x:zBK) (gl gx:Nat) (w:World) (h1:InC w gl 0 [.int .i64 left.lo,.int .i64 left.hi]) (h2:InC w gx 0 (zAf x)) (hl:-1000000000≤left.lo∧left.lo≤1000000000∧-1000000000≤left.hi∧left.hi≤1000000000) (hx:0≤x.sum.lo∧x.sum.lo≤x.sum.hi∧x.sum.hi≤100000000) :
  Gv Tryz.prog 50 ([vSpD t] ++ #[.pointer (some ⟨gl,0,none⟩),.pointer (some ⟨gx,0,none⟩)].toList) w (.bool (zEP left x.sum t)):=by
 obtain ⟨t1,t2⟩:=t
 obtain ⟨l1,l2⟩:=left
 obtain ⟨gn,of,⟨x1,x2⟩⟩:=x
 unfold zAf at h2
 unfold Gv vSpD zEP
 simp only at *
 (refine ze (n:=25) Tryz.func50 rfl rfl rfl ?_)
 (repeat' (first|((with_reducible refine zV ?_);first|refine zO rfl rfl rfl ?_|refine zD rfl rfl rfl ?_|(refine zQ rfl rfl rfl ?_;refine ⟨_,rfl,?_⟩)|refine zS rfl rfl rfl ?_|refine zr rfl rfl rfl rfl ?_|refine zN rfl rfl rfl ?_|refine zM rfl rfl ?_|(refine zd rfl rfl rfl rfl rfl (fun h=>?_) (fun h=>?_)<;>(dsimp only [cmpP] at h;(try (exfalso;omega))))|refine z7 rfl rfl rfl rfl (IntWalk.i64_in _ (by omega)) ?_|(refine zl rfl rfl rfl rfl (fun b=>?_)))|(with_reducible first|refine zW ?_|refine zC ?_|refine zU ?_|refine zB ?_|refine zX ?_|refine zT ?_|refine zF ?_|refine zf ?_)))
 all_goals exact zk (by exact rTm rfl) () trivial (by simp [resV];omega) (fun _ h=>h.sub (by (repeat constructor)))
end Go.Proofs.YtcpdjamlhhfbhaaGreat.Two
namespace Go.Proofs.YtcpdjamlhhfbhaaGreat.Two
open Go.ChangeShapes Go.WideShapes Go.ChangeAt Go.RowKit
set_option maxRecDepth 20000
section
variable {H : Type} {enc:TypeId × Value→H} {w:World} {held:Bool} {n:Nat} {cs:List Value} {x:DataW H × List MemPlace}
theorem rd_tr (h:DataW.trod enc Tryz.prog w 0 (fun _=>true) held n 188 cs=some x):∃ s:TrM,cs=zBz s∧True:=by
 have hl:=zCu Tryz.underlying188 h (k:=2) (by kernel_rfl)
 obtain ⟨n0,y0,h0⟩:=zAG Tryz.underlying188 h (j:=0) rfl rfl (k:=1) (by kernel_rfl)
 obtain ⟨n1,y1,h1⟩:=zAG Tryz.underlying188 h (j:=1) rfl rfl (k:=1) (by kernel_rfl)
 obtain ⟨a,e0,_⟩:=zBj Tryz.underlying3 h0
 obtain ⟨b,e1,_⟩:=zBj Tryz.underlying3 h1
 match cs,hl with
 | [c0,c1],_ =>
  simp at e0 e1
  exact ⟨⟨a,b⟩,by simp [zBz,e0,e1],trivial⟩
theorem rd_ld (h:DataW.trod enc Tryz.prog w 0 (fun _=>true) held n 122 cs=some x):∃ s:LdM,cs=zB9 s∧True:=by
 have hl:=zCu Tryz.underlying122 h (k:=2) (by kernel_rfl)
 obtain ⟨n0,y0,h0⟩:=zAG Tryz.underlying122 h (j:=0) rfl rfl (k:=1) (by kernel_rfl)
 obtain ⟨n1,y1,h1⟩:=zAG Tryz.underlying122 h (j:=1) rfl rfl (k:=1) (by kernel_rfl)
 obtain ⟨a,e0,_⟩:=zBj Tryz.underlying3 h0
 obtain ⟨b,e1,_⟩:=zBj Tryz.underlying3 h1
 match cs,hl with
 | [c0,c1],_ =>
  simp at e0 e1
  exact ⟨⟨a,b⟩,by simp [zB9,e0,e1],trivial⟩
theorem rd_sc (h:DataW.trod enc Tryz.prog w 0 (fun _=>true) held n 96 cs=some x):∃ s:ScM,cs=zAW s∧zAB zBz 2 w s.tA s.tr:=by
 have hl:=zCu Tryz.underlying96 h (k:=7) (by kernel_rfl)
 obtain ⟨n0,y0,h0⟩:=zAG Tryz.underlying96 h (j:=0) rfl rfl (k:=1) (by kernel_rfl)
 obtain ⟨n1,y1,h1⟩:=zAG Tryz.underlying96 h (j:=1) rfl rfl (k:=1) (by kernel_rfl)
 obtain ⟨n2,y2,h2⟩:=zAG Tryz.underlying96 h (j:=2) rfl rfl (k:=2) (by kernel_rfl)
 obtain ⟨n3,y3,h3⟩:=zAG Tryz.underlying96 h (j:=3) rfl rfl (k:=2) (by kernel_rfl)
 obtain ⟨n4,y4,h4⟩:=zAG Tryz.underlying96 h (j:=4) rfl rfl (k:=1) (by kernel_rfl)
 obtain ⟨a,e0,_⟩:=zBj Tryz.underlying3 h0
 obtain ⟨b,e1,_⟩:=zBj Tryz.underlying3 h1
 obtain ⟨c,e2,_⟩:=zDZ h2
 obtain ⟨d,e3,_⟩:=zDZ h3
 obtain ⟨A,l,cp,e4,hs,_,_,_⟩:=zCj (en:=zBz) (k:=2) (ok:=fun _=>True) Tryz.underlying94 (by kernel_rfl) (by omega) (fun _=>rfl) (fun _ _ _ h=>rd_tr h) h4
 match cs,hl with
 | [c0,c1,c2,c3,c4,c5,c6],_ =>
  simp [zo] at e0 e1 e2 e3 e4
  exact ⟨⟨a,b,c,d,A,l,cp⟩,by simp [zAW,e0,e1,e2,e3,e4],hs⟩
theorem open_bay {base:Nat} {r:Reach} {v:Value} {dd:DataW H} {p:List MemPlace} (hv:Value.okWide Tryz.prog w r base 48 v) (h:DataW.Trod enc Tryz.prog w 0 (fun _=>true) held 48 v dd p):∃ (A:Option Addr) (scs:List ScM) (c:Nat),v = .agg #[.slice A scs.length c]∧zCX w A scs:=by
 obtain ⟨cs,rfl,_⟩:=okWide_struct Tryz.underlying48 hv
 obtain ⟨fuel,hf⟩:=h
 have hl:=zCu Tryz.underlying48 hf (k:=1) (by kernel_rfl)
 obtain ⟨n0,y0,h0⟩:=zAG Tryz.underlying48 hf (j:=0) rfl rfl (k:=1) (by kernel_rfl)
 obtain ⟨A,l,c,e0,hs,hr,_,_⟩:=zCj (en:=zAW) (k:=7) (ok:=fun s:ScM=>zAB zBz 2 w s.tA s.tr) Tryz.underlying46 (by kernel_rfl) (by omega) (fun _=>rfl) (fun _ _ _ h=>rd_sc h) h0
 refine ⟨A,l,c,?_,hs,hr⟩
 obtain ⟨l⟩:=cs
 match l,hl with
 | [c0],_ =>
  simp [Value.cells] at e0
  rw [e0]
theorem zIK (h:DataW.trod enc Tryz.prog w 0 (fun _=>true) held n 32 cs=some x):∃ (A:Option Addr) (l:List Int) (c:Nat),cs=[.slice A l.length c]∧zAB encI 1 w A l:=by
 obtain ⟨A,l,c,e0,hs,_,_,_⟩:=zCj (en:=encI) (k:=1) (ok:=fun _=>True) Tryz.underlying32 (by kernel_rfl) (by omega) (fun _=>rfl) (fun _ _ _ h=>by
  obtain ⟨v,e,_⟩:=zBj Tryz.underlying3 h
  exact ⟨v,e,trivial⟩) h
 exact ⟨A,l,c,e0,hs⟩
theorem open_gr {base:Nat} {r:Reach} {v:Value} {dd:DataW H} {p:List MemPlace} (hv:Value.okWide Tryz.prog w r base 51 v) (h:DataW.Trod enc Tryz.prog w 0 (fun _=>true) held 51 v dd p):∃ g:GrM,v=vGr g∧zDm w g:=by
 obtain ⟨cs,rfl,_⟩:=okWide_struct Tryz.underlying51 hv
 obtain ⟨fuel,hf⟩:=h
 have hl:=zCu Tryz.underlying51 hf (k:=8) (by kernel_rfl)
 obtain ⟨n0,y0,h0⟩:=zAG Tryz.underlying51 hf (j:=0) rfl rfl (k:=1) (by kernel_rfl)
 obtain ⟨n1,y1,h1⟩:=zAG Tryz.underlying51 hf (j:=1) rfl rfl (k:=1) (by kernel_rfl)
 obtain ⟨n2,y2,h2⟩:=zAG Tryz.underlying51 hf (j:=2) rfl rfl (k:=1) (by kernel_rfl)
 obtain ⟨n3,y3,h3⟩:=zAG Tryz.underlying51 hf (j:=3) rfl rfl (k:=1) (by kernel_rfl)
 obtain ⟨n4,y4,h4⟩:=zAG Tryz.underlying51 hf (j:=4) rfl rfl (k:=1) (by kernel_rfl)
 obtain ⟨n5,y5,h5⟩:=zAG Tryz.underlying51 hf (j:=5) rfl rfl (k:=1) (by kernel_rfl)
 obtain ⟨n6,y6,h6⟩:=zAG Tryz.underlying51 hf (j:=6) rfl rfl (k:=1) (by kernel_rfl)
 obtain ⟨n7,y7,h7⟩:=zAG Tryz.underlying51 hf (j:=7) rfl rfl (k:=1) (by kernel_rfl)
 obtain ⟨A0,l0,c0,e0,s0,_,_,_⟩:=zCj (en:=zB9) (k:=2) (ok:=fun _=>True) Tryz.underlying49 (by kernel_rfl) (by omega) (fun _=>rfl) (fun _ _ _ h=>rd_ld h) h0
 obtain ⟨v1,e1,_⟩:=zBj Tryz.underlying3 h1
 obtain ⟨v2,e2,_⟩:=zBj Tryz.underlying3 h2
 obtain ⟨v3,e3,_⟩:=zBj Tryz.underlying3 h3
 obtain ⟨A4,l4,c4,e4,s4⟩:=zIK h4
 obtain ⟨A5,l5,c5,e5,s5⟩:=zIK h5
 obtain ⟨v6,e6,_⟩:=zBj Tryz.underlying3 h6
 obtain ⟨v7,e7,_⟩:=DataW.trod_bool Tryz.underlying4 h7
 refine ⟨⟨A0,l0,c0,v1,v2,v3,A4,l4,c4,A5,l5,c5,v6,v7⟩,?_,⟨s0,s4,s5⟩⟩
 obtain ⟨l⟩:=cs
 match l,hl with
 | [d0,d1,d2,d3,d4,d5,d6,d7],_ =>
  simp [Value.cells] at e0 e1 e2 e3 e4 e5 e6 e7
  simp [vGr,e0,e1,e2,e3,e4,e5,e6,e7]
theorem open_u32 {base:Nat} {r:Reach} {v:Value} {dd:DataW H} {p:List MemPlace} (hv:Value.okWide Tryz.prog w r base 52 v) (h:DataW.Trod enc Tryz.prog w 0 (fun _=>true) held 52 v dd p) :
  ∃ (A:Option Addr) (l:List Int) (c:Nat),v = .slice A l.length c∧zAB encU 1 w A l∧∀ x∈l,0≤x∧x≤4294967295:=by
 obtain ⟨a,len,cap,rfl⟩:=okWide_slice Tryz.underlying52 hv
 obtain ⟨fuel,hf⟩:=h
 obtain ⟨A,l,c,e0,hs,hfit,_,_⟩:=zCj (en:=encU) (k:=1) (ok:=fun x=>0≤x∧x≤4294967295) Tryz.underlying52 (by kernel_rfl) (by omega) (fun _=>rfl) (fun _ _ _ h=>rd_u32 Tryz.underlying102 h) hf
 simp [Value.cells] at e0
 obtain ⟨e1,e2,e3⟩:=e0
 exact ⟨A,l,c,by rw [e1,e2,e3],hs,hfit⟩
end
end Go.Proofs.YtcpdjamlhhfbhaaGreat.Two
namespace Go.Proofs.YtcpdjamlhhfbhaaGreat
theorem zCi {Ls:List (List Sp)} {i:Nat} (h:i<Ls.length) {n:Int}:zBO (Ls.drop i) n↔∃ x y,zAn (Ls.getD i []) x∧zBO (Ls.drop (i+1)) y∧n=x+y:=by
 rw [List.drop_eq_getElem_cons h]
 have:Ls.getD i []=Ls[i]:=by rw [List.getD_eq_getElem?_getD,List.getElem?_eq_getElem h];rfl
 rw [this]
 rfl
theorem zDv {Ls:List (List Sp)} {n:Int}:zBO (Ls.drop Ls.length) n↔n=0:=by
 rw [List.drop_length];rfl
theorem zFi {added:Int} {Ls:List (List Sp)}:∀ (d i:Nat),i+d=Ls.length→∀ t,zBy added Ls Ls.length t↔∃ x y,zBy added Ls i x∧zBO (Ls.drop i) y∧t=x+y
 | 0,i,h,t=>by
  obtain rfl:i=Ls.length:=by omega
  constructor
  ·intro h1;exact ⟨t,0,h1,zDv.2 rfl,by omega⟩
  ·rintro ⟨x,y,h1,h2,rfl⟩
   rw [zDv.1 h2,Int.add_zero];exact h1
 | d+1,i,h,t=>by
  rw [zFi d (i+1) (by omega) t]
  constructor
  ·rintro ⟨x,y,⟨a,b,h1,h2,rfl⟩,h3,rfl⟩
   exact ⟨a,b+y,h1,(zCi (by omega)).2 ⟨b,y,h2,h3,rfl⟩,by omega⟩
  ·rintro ⟨x,y,h1,h2,rfl⟩
   obtain ⟨a,b,h3,h4,rfl⟩:=(zCi (by omega)).1 h2
   exact ⟨x+a,b,⟨x,a,h1,h3,rfl⟩,h4,by omega⟩
theorem tot_sums {added:Int} {Ls:List (List Sp)} {t:Int}:zBy added Ls Ls.length t↔zBO (Ls.drop 0) (t - added):=by
 rw [zFi Ls.length 0 (by omega) t]
 constructor
 ·rintro ⟨x,y,h1,h2,rfl⟩
  have h1:x=added:=h1
  subst h1
  rw [show x+y - x=y by omega];exact h2
 ·intro h;exact ⟨added,t - added,rfl,h,by omega⟩
theorem zCK {scs:List ScM} {g:GrM}:(zAx scs g).length=(Two.zAb scs g).length:=by unfold zAx;rw [List.length_map]
theorem zHE {scs:List ScM} {g:GrM} (hs:∀ s∈Two.zAb scs g,ScF s) (hl:g.loads.length≤6):∀ (d i:Nat),i+d=(Two.zAb scs g).length→∀ n,zBO ((zAx scs g).drop i) n→0≤n∧n≤6000000 * (d:Int)
 | 0,i,h,n,hn=>by
  rw [show i=(zAx scs g).length by rw [zCK];omega] at hn
  have:=zDv.1 hn
  simp;omega
 | d+1,i,h,n,hn=>by
  obtain ⟨x,y,h1,h2,rfl⟩:=(zCi (by rw [zCK];omega)).1 hn
  have ih:=zHE hs hl d (i+1) (by omega) y h2
  obtain ⟨s,hx⟩:∃ s,(Two.zAb scs g)[i]?=some s:=⟨_,List.getElem?_eq_getElem (by omega)⟩
  rw [zDA hx] at h1
  have:=zGc (zEr (hs s (List.mem_of_getElem? hx)) hl) h1
  omega
theorem fit_left {R:Int→Prop} {T:List Sp} (hT:∀ n,zAn T n↔R n) (hord:∀ u∈T,u.lo≤u.hi) {left x:Sp} (hx:x.lo≤x.hi) (hlh:left.lo≤left.hi) (h:(T.any fun u=>Two.zEP left x u)=true):∃ t,left.lo - x.hi≤t∧t≤left.hi - x.lo∧R t:=by
 obtain ⟨u,hu,h1⟩:=List.any_eq_true.1 h
 unfold Two.zEP at h1
 simp only [Bool.and_eq_true,decide_eq_true_eq] at h1
 exact zHH hT hord hx hlh hu h1.1 h1.2
end Go.Proofs.YtcpdjamlhhfbhaaGreat
namespace Go.Proofs.YtcpdjamlhhfbhaaGreat.Two
variable {ro : Option Nat}
open Go.RowKit
set_option maxRecDepth 20000
theorem zHR (a m L:List Sp) (A B:Option Addr) (ca cb:Nat) (w:World) (ha:zAB zo 2 w A a) (hb:zAB zo 2 w B m) (hc:zBJ m) (hbm:∀ s∈m,0≤s.lo∧s.lo≤s.hi∧s.hi≤25000000) (hL:∀ s∈L,0≤s.lo∧s.lo≤s.hi∧s.hi≤6000000) (hLl:L.length≤4221) (hm:zA4 a L) :
  Ret Tryz.prog 46 [.slice A a.length ca,.slice B m.length cb] w (fun z:(Option Addr × Nat) × List Sp=>.slice z.1.1 z.2.length z.1.2) (fun z=>[.sl zo 2 z.1.1 z.2]) (fun z=>zDJ z.2 L m):=by
 have h1:=zCU hc (B:=25000000) (by omega) (fun s hs=>⟨(hbm s hs).1,(hbm s hs).2.2⟩)
 have h2:=hm.len
 have h3:a.length * m.length≤4221 * 12500001:=Nat.mul_le_mul (by omega) (by omega)
 have hab:=hm.bd hL
 have hP:=zGE a m A B ca cb w ha hb (by omega) (by omega) (by omega) (fun s hs=>by have:=hab s hs;omega) (fun s hs=>by have:=hbm s hs;omega)
 have key:∀ z,zA4 z (zAy a m)→zDJ z L m:=fun z hz=>⟨hz.canon,fun n=>by
  rw [hz.mem n,zF1 (fun s hs=>(hab s hs).2.1) (fun s hs=>(hbm s hs).2.1)]
  constructor
  ·rintro ⟨x,y,h4,h5,h6⟩;exact ⟨x,y,(hm.mem x).1 h4,h5,h6⟩
  ·rintro ⟨x,y,h4,h5,h6⟩;exact ⟨x,y,(hm.mem x).2 h4,h5,h6⟩⟩
 unfold Ret at *
 exact hP.mono fun e w' ⟨z,hz,h⟩=>⟨z,key _ hz,h⟩
end Go.Proofs.YtcpdjamlhhfbhaaGreat.Two
namespace Go.Proofs.YtcpdjamlhhfbhaaGreat
variable {ro : Option Nat}
open Go.RowKit
set_option linter.unusedSectionVars false
structure zBD (α:Type) where
 A:Option Addr
 xs:List α
 c:Nat
structure SlB (α:Type) where
 b:Nat
 xs:List α
 c:Nat
def zBD.v {α:Type} (s:zBD α):Value:=.slice s.A s.xs.length s.c
def zCC {α:Type} (s:zBD α):List Value:=[.slice s.A s.xs.length s.c]
def encSb {α:Type} (s:SlB α):List Value:=[.slice (some ⟨s.b,0,none⟩) s.xs.length s.c]
instance encI_of {α:Type}:zBX (zCC (α:=α)) 1:=⟨fun _=>rfl,fun s v hv=>by simp [zCC] at hv;subst hv;rfl⟩
instance encI_sb {α:Type}:zBX (encSb (α:=α)) 1:=⟨fun _=>rfl,fun s v hv=>by simp [encSb] at hv;subst hv;rfl⟩
def zCa {α:Type}:zBD α:=⟨none,[],0⟩
structure zGL {α:Type} (enc:α→List Value) (k:Nat) (w:World) (P:Option Addr) (L:List (zBD α)):Prop where
 p:zAB zCC 1 w P L
 rows:∀ s∈L,zAB enc k w s.A s.xs
theorem zGL.below {α:Type} {enc:α→List Value} {k:Nat} {w W:World} {P:Option Addr} {L:List (zBD α)} (h:zGL enc k w P L) (hb:Below w.heap.size w W):zGL enc k W P L:=⟨h.p.below hb,fun s hs=>(h.rows s hs).below hb⟩
def Ent.zC1 {β:Type} (hd:β→List Value) (re:β→Ent) (g:Nat) (L:List β):Ent:=.all (.arr hd 1 g L::L.map re)
theorem zDk {α:Type} {x:α}:∀ {l:List α} {i:Nat},l[i]?=some x→l.Perm (x::l.eraseIdx i)
 | [],_,h=>by simp at h
 | y::r,0,h=>by simp at h;subst h;exact List.Perm.refl _
 | y::r,i+1,h=>by
  have h':r[i]?=some x:=by simpa using h
  exact (List.Perm.cons y (zDk h')).trans (List.Perm.swap _ _ _)
theorem Own.perm {base:Nat} {w:World} {H H':List Ent} (hp:H.Perm H') (h:Own base w H):Own base w H' :=
 ⟨fun e he=>h.here e (hp.mem_iff.2 he),fun e he=>h.foot e (hp.mem_iff.2 he),(hp.pairwise_iff (fun {e f} h b hb hb'=>h b hb' hb)).1 h.apart⟩
section
variable {α β:Type} {hd:β→List Value} {re:β→Ent} {base g:Nat} {w:World} {H H' H1 H2 H3:List Ent} {L:List β}
theorem zG9 {i:Nat} {s:β} (hi:L[i]?=some s) (h:Own base w (.zC1 hd re g L::H)):Own base w (.arr hd 1 g L::re s :: .all ((L.eraseIdx i).map re)::H):=by
 have h1:Own base w ((.arr hd 1 g L::L.map re)++H):=zDP.2 h
 have hp:(L.map re).Perm (re s::(L.eraseIdx i).map re):=by
  have:=(zDk hi).map re
  simpa using this
 have h2:Own base w ((.arr hd 1 g L::re s::(L.eraseIdx i).map re)++H):=h1.perm (List.Perm.append_right H (List.Perm.cons _ hp))
 exact (zA0 (D:=[.arr hd 1 g L,re s]) (L:=(L.eraseIdx i).map re) (B:=H)).1 h2
theorem zG8 {i:Nat} {s s':β} (hi:L[i]?=some s) (h:Own base w (.arr hd 1 g (L.set i s')::re s' :: .all ((L.eraseIdx i).map re)::H)):Own base w (.zC1 hd re g (L.set i s')::H):=by
 have h2:Own base w ((.arr hd 1 g (L.set i s')::re s'::(L.eraseIdx i).map re)++H):=(zA0 (D:=[.arr hd 1 g (L.set i s'),re s']) (L:=(L.eraseIdx i).map re) (B:=H)).2 h
 obtain ⟨hlt,e⟩:=List.getElem?_eq_some_iff.1 hi
 have hlt':i<(L.set i s').length:=by simpa using hlt
 have hp:(re s'::(L.eraseIdx i).map re).Perm ((L.set i s').map re):=by
  have h9:=(zDk (l:=L.set i s') (i:=i) (x:=s') (by simp [List.getElem?_set,hlt])).symm.map re
  have e9:(L.set i s').eraseIdx i=L.eraseIdx i:=by rw [List.eraseIdx_set_eq]
  rw [e9] at h9
  simpa using h9
 exact zDP.1 (h2.perm (List.Perm.append_right H (List.Perm.cons _ hp)))
theorem zFx (h:Own base w H) (ht:Take H (.zC1 hd re g L) H') [ei:zBX hd 1]:zAB hd 1 w (some ⟨g,0,none⟩) L∧∀ s∈L,(re s).p w:=by
 have h1:Own base w ((.arr hd 1 g L::L.map re)++H'):=zDP.2 (h.take ht)
 refine ⟨?_,fun s hs=>h1.here (re s) (by simp;exact .inr (.inl ⟨s,hs,rfl⟩))⟩
 have:=Own.arr_sl (enc:=hd) (k:=1) (g:=g) (xs:=L) (Take.here _ _) h1
 exact this.here (.sl hd 1 (some ⟨g,0,none⟩) L) (by simp)
end
def SlB.of {α:Type} (s:SlB α):zBD α:=⟨some ⟨s.b,0,none⟩,s.xs,s.c⟩
section
variable {P : Program} {w0:World} {n:Nat} {d:List Deferred} {R:List (Nat × Value)} {H H' H1 H2 H3:List Ent} {Q:Exit→Act→World→Prop} {ops:Array Oper} {rest:List Oper} {o:Oper} {t:Tmp} {x y:Operand} {v:Value} {X:Act→World→Prop}
theorem zDL {β:Type} {hd:β→List Value} {re:β→Ent} {g:Nat} {L:List β} (i:Nat) {s:β} (hi:L[i]?=some s) (ht:Take H (.zC1 hd re g L) H') (h:U w0 n d R (.arr hd 1 g (L.set i s)::re s :: .all ((L.eraseIdx i).map re)::H') X):U w0 n d R H X:=fun a w q=>by
 have e:L.set i s=L:=by
  obtain ⟨hlt,e⟩:=List.getElem?_eq_some_iff.1 hi
  subst e
  exact List.set_getElem_self hlt
 rw [e] at h
 exact h a w (q.heap q.below (zG9 hi (q.own.take ht)))
theorem zDK {β:Type} {hd:β→List Value} {re:β→Ent} {g:Nat} {L:List β} (i:Nat) {s:β} (s':β) (hi:L[i]?=some s) (ht:Take H (.arr hd 1 g (L.set i s')) H1) (ht1:Take H1 (re s') H2) (ht2:Take H2 (.all ((L.eraseIdx i).map re)) H3) (h:U w0 n d R (.zC1 hd re g (L.set i s')::H3) X):U w0 n d R H X:=fun a w q=>by
 refine h a w (q.heap q.below (zG8 hi ?_))
 have h1:=q.own.take ht
 have h2:=h1.take (Take.there _ ht1)
 have h3:=h2.take (Take.there _ (Take.there _ ht2))
 refine h3.perm ?_
 exact (List.Perm.swap _ _ _).trans ((List.Perm.cons _ (List.Perm.swap _ _ _)).trans ((List.Perm.swap _ _ _).trans (List.Perm.refl _)))
theorem zIF {T1 e:TypeId} {i:TypeInfo} {z v:Value} {n0 s:Nat} {g:Bool} (hop:o.op = .makeSlice T1 x y) [i1:TyI P T1 (.slice e) s g] (hi:P.info? e=some i) (hz:i.zero=some z) (h1:i.size=1) (hcz:z.cells=#[v]) (hb:Nat.ble (i.bytes * 1000) 281474976710656=true) (hrd:rdy R ops n o=some t) (hx:evR R x=some (.int .i64 (n0:Int))) (hy:evR R y=some (.int .i64 (n0:Int))) (hn:n0≤1000)
  (h:∀ b,U w0 n d ((t,.slice (some ⟨b,0,none⟩) n0 n0)::R) (.blk b (List.replicate n0 v)::H) (wpL ro P ops Q rest)):U w0 n d R H (wpL ro P ops Q (o::rest)) :=
 zCh (rW hrd) fun a w q K hK=>by
  have hb':(i.bytes:Int) * (n0:Int)≤281474976710656:=by
   have h9:=Nat.le_of_ble_eq_true hb
   have h8:i.bytes * n0≤i.bytes * 1000:=Nat.mul_le_mul_left _ hn
   have h7:((i.bytes * n0:Nat):Int)≤281474976710656:=by omega
   rwa [Int.natCast_mul] at h7
  have hr:=run_make (P:=P) w T1 e i z i1.und hi hz .i64 .i64 n0 n0 (by omega) (Int.le_refl _) hb' (by omega)
  have hm:madeCells z.cells (n0 * i.size)=(List.replicate n0 v).toArray:=by
   apply Array.ext'
   simp [madeCells,h1,hcz]
   apply List.ext_getElem?
   intro j
   rw [List.getElem?_map,List.getElem?_replicate]
   by_cases hj:j<n0
   ·rw [List.getElem?_range hj,if_pos hj];simp [Nat.mod_one]
   ·rw [List.getElem?_eq_none (by simpa using hj),if_neg hj];rfl
  simp only [Int.toNat_natCast,hm] at hr
  unfold Oper.wp execOp;rw [hop]
  simp only [Sem.run_bind,q.ev hx,q.ev hy,hr,Result.andThen_ok,Sem.run_pure,Oper.upon_value,(rD hrd)]
  exact hK _ _ (h w.heap.size _ _ ((q.alloc _ e).put (rT hrd)))
theorem zEy {β:Type} {hd:β→List Value} [ei:zBX hd 1] {g i:Nat} {gg:Bool} {T1:TypeId} {td:TypeDesc} {L:List β} {s:β} (s':β) (hop:o.op = .store T1 x y) [i1:TyI P T1 td 1 gg] (hw:want R ops o=some true) (hdt:o.dst=none) (hx:evR R x=some (.pointer (some ⟨g,0+i * 1,none⟩))) (hy:evR R y=some v) (hv:v.cells.toList=hd s') (ht:Take H (.arr hd 1 g (L.set i s)) H') (hi:i<L.length)
  (h:U w0 n d R (.arr hd 1 g (L.set i s')::H') (wpL ro P ops Q rest)):U w0 n d R H (wpL ro P ops Q (o::rest)):=by
 have i2:zGK H g hd 1 (L.set i s) H':=⟨ht⟩
 have i3:zAZ (L.set i s) i s:=⟨by simp [hi]⟩
 refine u_storeA (j:=0) (z:=s) s' hop hw hdt hx hy ?_ ?_ ?_ (by omega) ?_
 ·rw [hv]
  have h1:=ei.len s
  have h2:=ei.len s'
  match h3:hd s,h4:hd s' with
  | [a],[b]=>rfl
  | [],_=>rw [h3] at h1;cases h1
  | _::_::_,_=>rw [h3] at h1;cases h1
  | [_],[]=>rw [h4] at h2;cases h2
  | [_],_::_::_=>rw [h4] at h2;cases h2
 ·rw [hv,ei.len];rfl
 ·rw [hv];exact List.all_eq_true.2 (ei.one s')
 ·rw [List.set_set];exact h
theorem zHb {β:Type} {hd:β→List Value} {re:β→Ent} {g:Nat} {L:List β} (i:Nat) {s:β} (hi:L[i]?=some s) (ht:Take H (.arr hd 1 g (L.set i s)) H1) (ht1:Take H1 (re s) H2) (ht2:Take H2 (.all ((L.eraseIdx i).map re)) H3) (h:U w0 n d R (.zC1 hd re g L::H3) X):U w0 n d R H X:=by
 refine zDK i s hi ht ht1 ht2 ?_
 have e:L.set i s=L:=by
  obtain ⟨hlt,e⟩:=List.getElem?_eq_some_iff.1 hi
  subst e
  exact List.set_getElem_self hlt
 rw [e];exact h
class zGm (H:List Ent) (g:Nat) {β:outParam Type} (hd:outParam (β→List Value)) (re:outParam (β→Ent)) (L:outParam (List β)) (H':outParam (List Ent)):Prop where tk:Take H (.zC1 hd re g L) H'
instance (priority := high) takeTb_here {H:List Ent} {g:Nat} {β:Type} {hd:β→List Value} {re:β→Ent} {L:List β}:zGm (.zC1 hd re g L::H) g hd re L H:=⟨Take.here _ _⟩
instance takeTb_there {H H':List Ent} {f:Ent} {g:Nat} {β:Type} {hd:β→List Value} {re:β→Ent} {L:List β} [i:zGm H g hd re L H']:zGm (f::H) g hd re L (f::H'):=⟨Take.there _ i.tk⟩
instance srcI_tb {g i:Nat} {β:Type} {hd:β→List Value} {re:β→Ent} {L:List β} {s:β} [ei:zBX hd 1] [i1:zGm H g hd re L H'] [i2:zAZ L i s]:zET w0 H g (0+i * 1) (hd s):=⟨fun w hb ho j v hv=>by
 have h1:=(zFx ho i1.tk).1
 obtain ⟨b,o,hA,hlt,hc⟩:=h1 i s i2.get
 cases hA
 exact hc j v hv⟩
class zGn (H:List Ent) (g:Nat) {α:outParam Type} (enc:outParam (α→List Value)) (k e m c:outParam Nat) (xs:outParam (List α)) (H':outParam (List Ent)):Prop where tk:Take H (.row enc k e (.slice (some ⟨g,0,none⟩) m c) xs) H'
instance (priority := high) takeRw_here {H:List Ent} {g:Nat} {α:Type} {enc:α→List Value} {k e m c:Nat} {xs:List α}:zGn (.row enc k e (.slice (some ⟨g,0,none⟩) m c) xs::H) g enc k e m c xs H:=⟨Take.here _ _⟩
instance takeRw_there {H H':List Ent} {f:Ent} {g:Nat} {α:Type} {enc:α→List Value} {k e m c:Nat} {xs:List α} [i:zGn H g enc k e m c xs H']:zGn (f::H) g enc k e m c xs (f::H'):=⟨Take.there _ i.tk⟩
instance srcI_rw {g i k e m c:Nat} {α:Type} {enc:α→List Value} {xs:List α} {z:α} [ei:zBX enc k] [i1:zGn H g enc k e m c xs H'] [i2:zAZ xs i z]:zET w0 H g (0+i * k) (enc z):=⟨fun w hb ho j v hv=>by
 have h1:=(zG3 ei.len (ho.here _ i1.tk.mem:Row enc k e 0 w (.slice (some ⟨g,0,none⟩) m c) xs)).2
 obtain ⟨b,o,hA,hlt,hc⟩:=h1 i z i2.get
 cases hA
 exact hc j v hv⟩
end
end Go.Proofs.YtcpdjamlhhfbhaaGreat
namespace Go.Proofs.YtcpdjamlhhfbhaaGreat.Two
variable {ro : Option Nat}
open Go.RowKit
set_option maxRecDepth 20000
set_option maxHeartbeats 1000000 in
theorem zHM (lt:List (zBD Sp)) (LA:Option Addr) (c i:Nat) (x:zBK) (left:Sp) (s:zBD Sp) (b12 b17 b15:Nat) (w:World) (h1:InC w b12 0 [.slice LA lt.length c]) (h2:InC w b17 0 [.int .i64 (i:Int)]) (h3:InC w b15 0 [.int .i64 left.lo,.int .i64 left.hi]) (hT:zGL zo 2 w LA lt) (hs:lt[i+1]?=some s) (hl:s.xs.length≤100000000000) (hlt:lt.length≤1000000)
  (hlf:-1000000000≤left.lo∧left.lo≤1000000000∧-1000000000≤left.hi∧left.hi≤1000000000) (hx:0≤x.sum.lo∧x.sum.lo≤x.sum.hi∧x.sum.hi≤100000000) :
  Gv Tryz.prog 49 ([vTru x] ++ #[.pointer (some ⟨b12,0,none⟩),.pointer (some ⟨b17,0,none⟩),.pointer (some ⟨b15,0,none⟩)].toList) w (.bool (s.xs.any fun u=>zEP left x.sum u)):=by
 have hi1:=(List.getElem?_eq_some_iff.1 hs).1
 have hC:=fun W g (hW:Below w.heap.size w W) (hg:∀ W',Below W.heap.size W W'→InC W' g 0 (zAf x))=>zIP s.xs s.A s.c 50 #[.pointer (some ⟨b15,0,none⟩),.pointer (some ⟨g,0,none⟩)] (fun u=>zEP left x.sum u) W ((hT.rows s (List.mem_of_getElem? hs)).below hW) hl (fun u W' _ hW'=>zGh u left x b15 g W' ((h3.below hW).below hW') (hg W' hW') hlf hx)
 obtain ⟨bA,oA,hAe,_,_⟩:=hT.p.at_ hi1
 subst hAe
 have:InS w bA oA zCC 1 lt:=⟨hT.p⟩
 have:zAZ lt (i+1) s:=⟨hs⟩
 generalize (s.xs.any fun u=>zEP left x.sum u)=res at *
 obtain ⟨gn,of,⟨x1,x2⟩⟩:=x
 unfold zAf at hC
 unfold Gv vTru
 simp only at *
 (refine ze (n:=13) Tryz.func49 rfl rfl rfl ?_)
 (repeat' (first|((with_reducible refine zV ?_);first|refine zD rfl rfl rfl ?_|(refine zQ rfl rfl rfl ?_;refine ⟨_,rfl,?_⟩)|refine zK (I:=i+1) rfl rfl rfl rfl (by omega) (by omega) ?_|refine zn rfl rfl rfl rfl (fun _ _ q=>hC _ _ q.below (fun _ hW=>zBC q.own hW rfl)) ?_|refine zb rfl rfl rfl rfl (by omega) ?_|refine zm rfl rfl rfl rfl (IntWalk.i64_in _ (by omega)) ?_|refine zK rfl rfl rfl rfl rfl (by omega) ?_|refine zL rfl rfl rfl rfl rfl (by first|decide|omega) ?_|(refine zl rfl rfl rfl rfl (fun b=>?_))|refine zz rfl rfl rfl rfl ?_)|(with_reducible first|refine zW ?_|refine zC ?_|refine zU ?_|refine zB ?_|refine zX ?_|refine zT ?_|refine zF ?_|refine zf ?_)))
 exact zk (by exact rTm rfl) () trivial rfl (fun _ h=>h.sub (by (repeat constructor)))
end Go.Proofs.YtcpdjamlhhfbhaaGreat.Two
namespace Go.Proofs.YtcpdjamlhhfbhaaGreat
variable {ro : Option Nat}
open Go.RowKit
set_option linter.unusedSectionVars false
def zCs {α:Type} (enc:α→List Value) (k:Nat) (s:zBD α):Ent:=.sl enc k s.A s.xs
theorem zFy {α:Type} {enc:α→List Value} {k g base:Nat} {w:World}:∀ (m:Nat) {H:List Ent},Own base w H→Own base w (((List.replicate m (zCa:zBD α)).map (zCs enc k))++H)
 | 0,H,h=>h
 | m+1,H,h=>by
  have ih:=zFy (α:=α) (enc:=enc) (k:=k) (g:=g) m h
  rw [List.replicate_succ,List.map_cons,List.cons_append]
  refine ⟨fun f hf=>?_,fun f hf b hb=>?_,List.pairwise_cons.2 ⟨fun f hf b hb=>?_,ih.apart⟩⟩
  ·rcases List.mem_cons.1 hf with rfl|hf
   ·intro i x hx;simp [zCa] at hx
   ·exact ih.here f hf
  ·rcases List.mem_cons.1 hf with rfl|hf
   ·obtain ⟨o,hb⟩:=hb;cases hb
   ·exact ih.foot f hf b hb
  ·obtain ⟨o,hb⟩:=hb;cases hb
section
variable {P : Program} {w0:World} {n:Nat} {d:List Deferred} {R:List (Nat × Value)} {H H':List Ent} {Q:Exit→Act→World→Prop} {X:Act→World→Prop}
theorem zIC {α:Type} {enc:α→List Value} {k g m:Nat} (ht:Take H (.blk g (List.replicate m (.slice none 0 0))) H') (h:U w0 n d R (.zC1 zCC (zCs enc k) g (List.replicate m (zCa:zBD α))::H') X):U w0 n d R H X:=fun a w q=>by
 refine h a w (q.heap q.below (zDP.1 ?_))
 have h1:Own w0.heap.size w (.arr zCC 1 g (List.replicate m (zCa:zBD α))::H'):=(q.own.take ht).recast (fun hp=>⟨[],by
  have:(List.replicate m (zCa:zBD α)).flatMap zCC++[]=List.replicate m (.slice none 0 0):=by
   rw [List.append_nil]
   clear ht h q hp
   induction m with
   | zero=>rfl
   | succ m ih=>rw [List.replicate_succ,List.flatMap_cons,ih,List.replicate_succ];rfl
  rw [this];exact hp⟩) (fun b hb=>hb)
 have h2:=zFy (α:=α) (enc:=enc) (k:=k) (g:=g) m h1
 refine h2.perm ?_
 exact List.perm_middle
end
theorem tabSl_at {α:Type} {enc:α→List Value} {k g base:Nat} [ei:zBX enc k] {L:List (zBD α)} {w:World} {H H':List Ent} (h:Own base w H) (ht:Take H (.zC1 zCC (zCs enc k) g L) H'):zGL enc k w (some ⟨g,0,none⟩) L:=by
 obtain ⟨h1,h2⟩:=zFx h ht
 exact ⟨h1,fun s hs=>h2 s hs⟩
end Go.Proofs.YtcpdjamlhhfbhaaGreat
namespace Go.Proofs.YtcpdjamlhhfbhaaGreat
variable {ro : Option Nat}
open Go.RowKit
structure zEn (us:List ScM) (tl:ScM→List zBK) (sm:Nat→Int→Prop) (j:Nat) (L1:List (zBD zBK)) (L2:List (zBD Sp)):Prop where
 l1:L1.length=us.length
 l2:L2.length=us.length+1
 all:∀ k s,j≤k→us[k]?=some s→∃ r,L1[k]?=some r∧r.xs=tl s
 later:∀ k,j≤k→k≤us.length→∃ r,L2[k]?=some r∧zBJ r.xs∧∀ t,zAn r.xs t↔sm k t
theorem zEn.start {us:List ScM} {tl:ScM→List zBK} {sm:Nat→Int→Prop} {A:Option Addr} {c:Nat} (h:∀ t,sm us.length t↔t=0):zEn us tl sm us.length (List.replicate us.length zCa) ((List.replicate (us.length+1) zCa).set us.length ⟨A,[⟨0,0⟩],c⟩) where
 l1:=by simp
 l2:=by simp
 all:=fun k s hk hs=>by have:=(List.getElem?_eq_some_iff.1 hs).1;omega
 later:=fun k hk hk2=>by
  obtain rfl:k=us.length:=by omega
  refine ⟨⟨A,[⟨0,0⟩],c⟩,by simp [List.getElem?_set],⟨by simp,by simp⟩,fun t=>?_⟩
  rw [h]
  simp [zAn]
  omega
theorem zEn.step {us:List ScM} {tl:ScM→List zBK} {sm:Nat→Int→Prop} {j:Nat} {L1:List (zBD zBK)} {L2:List (zBD Sp)} {x:ScM} {s1:zBD zBK} {s2:zBD Sp} (h:zEn us tl sm (j+1) L1 L2) (hx:us[j]?=some x) (h1:s1.xs=tl x) (h2:zBJ s2.xs) (h3:∀ t,zAn s2.xs t↔sm j t):zEn us tl sm j (L1.set j s1) (L2.set j s2) where
 l1:=by rw [List.length_set];exact h.l1
 l2:=by rw [List.length_set];exact h.l2
 all:=fun k s hk hs=>by
  rcases Nat.lt_or_ge j k with h9|h9
  ·obtain ⟨r,q1,q2⟩:=h.all k s (by omega) hs
   exact ⟨r,by rw [List.getElem?_set_ne (by omega)];exact q1,q2⟩
  ·obtain rfl:k=j:=by omega
   have hlt:=(List.getElem?_eq_some_iff.1 hx).1
   rw [hx] at hs
   cases hs
   exact ⟨s1,by rw [List.getElem?_set_self (by rw [h.l1];exact hlt)],h1⟩
 later:=fun k hk hk2=>by
  rcases Nat.lt_or_ge j k with h9|h9
  ·obtain ⟨r,q1,q2⟩:=h.later k (by omega) hk2
   exact ⟨r,by rw [List.getElem?_set_ne (by omega)];exact q1,q2⟩
  ·obtain rfl:k=j:=by omega
   have hlt:=(List.getElem?_eq_some_iff.1 hx).1
   exact ⟨s2,by rw [List.getElem?_set_self (by rw [h.l2];omega)],h2,h3⟩
theorem all_slOf {α:Type} {enc:α→List Value} {k base i j:Nat} {L:List (zBD α)} {r:zBD α} {w:World} {H H':List Ent} (h:Own base w H) (ht:Take H (.all ((L.eraseIdx i).map (zCs enc k))) H') (hr:L[j]?=some r) (hj:i<j):zAB enc k w r.A r.xs:=by
 have h1:Own 0 w ((L.eraseIdx i).map (zCs enc k)):=h.here _ ht.mem
 refine h1.here (zCs enc k r) (List.mem_map.2 ⟨r,List.mem_iff_getElem?.2 ⟨j - 1,?_⟩,rfl⟩)
 rw [List.getElem?_eraseIdx_of_ge (by omega),show j - 1+1=j by omega]
 exact hr
theorem zHs {scs:List ScM} {g:GrM} {j:Nat} {x:ScM} {z m:List Sp} (hx:(Two.zAb scs g)[j]?=some x) (hm:∀ t,zAn m t↔zBO ((zAx scs g).drop (j+1)) t) (hz:zDJ z (zCZ x g) m):∀ t,zAn z t↔zBO ((zAx scs g).drop j) t:=fun t=>by
 have hlt:=(List.getElem?_eq_some_iff.1 hx).1
 rw [hz.mem t,zCi (by rw [zCK];exact hlt),zDA hx]
 constructor
 ·rintro ⟨a,b,h1,h2,h3⟩;exact ⟨a,b,h1,(hm b).1 h2,h3⟩
 ·rintro ⟨a,b,h1,h2,h3⟩;exact ⟨a,b,h1,(hm b).2 h2,h3⟩
end Go.Proofs.YtcpdjamlhhfbhaaGreat
