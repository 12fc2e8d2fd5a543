/- ZQ16 -/
import Derived.Test.YtcpdjamlhhfbhaaGreatZQ15
set_option linter.unusedSimpArgs false
set_option linter.unusedVariables false
namespace Go.Proofs.YtcpdjamlhhfbhaaGreat
def trimI (step gain:Int) (o:Sp) (t:TrM):Sp:=⟨max o.lo (-((-(1000 * t.shown - t.weight * (1000+gain))) / 1000)),min o.hi ((1000 * (t.shown+step) - 1 - t.weight * (1000+gain)) / 1000)⟩
def zCQ (s:ScM) (gain:Int) (k:Nat):Sp:=(s.tr.take k).foldl (trimI s.step gain) s.off
theorem zFC {s:ScM} {gain:Int}:zCQ s gain 0=s.off:=by simp [zCQ]
theorem zFD {s:ScM} {gain:Int} {k:Nat} {t:TrM} (h:s.tr[k]?=some t):zCQ s gain (k+1)=trimI s.step gain (zCQ s gain k) t:=by
 unfold zCQ
 rw [List.take_add_one,h,List.foldl_append]
 rfl
theorem zDg {s:ScM} {gain:Int}:∀ (d k:Nat),(zCQ s gain k).lo≤(zCQ s gain (k+d)).lo∧(zCQ s gain (k+d)).hi≤(zCQ s gain k).hi
 | 0,k=>⟨Int.le_refl _,Int.le_refl _⟩
 | d+1,k=>by
  have ih:=zDg (s:=s) (gain:=gain) d k
  rw [← Nat.add_assoc]
  cases h:s.tr[k+d]? with
  | none =>
   have:zCQ s gain (k+d+1)=zCQ s gain (k+d):=by unfold zCQ;rw [List.take_add_one,h];simp
   rw [this];exact ih
  | some t =>
   rw [zFD h]
   unfold trimI
   simp only
   omega
def zCv (s:ScM) (gain:Int):Sp:=zCQ s gain s.tr.length
def zCP (s:ScM) (k:Nat):Option (Int × Sp):=if (zCv s (s.gain.lo+(k:Int))).lo≤(zCv s (s.gain.lo+(k:Int))).hi then some (s.gain.lo+(k:Int),zCv s (s.gain.lo+(k:Int))) else none
def zA1 (s:ScM) (i:Nat):List (Int × Sp):=(List.range i).filterMap (zCP s)
theorem zGR {s:ScM} {i:Nat}:zA1 s (i+1)=zA1 s i++(zCP s i).toList:=by
 unfold zA1
 rw [List.range_succ,List.filterMap_append]
 cases h:zCP s i<;>simp [h]
theorem zGt {s:ScM} {i:Nat}:(zA1 s i).length≤i:=by
 unfold zA1;exact Nat.le_trans (List.length_filterMap_le _ _) (by simp)
def nG (s:ScM):Nat:=(s.gain.hi - s.gain.lo+1).toNat
def encTu (p:Int × Sp):List Value:=[.agg #[.int .i64 p.1,.int .i64 p.2.lo,.int .i64 p.2.hi]]
def tuN (s:ScM) (ys:List (Int × Sp)) (x:Int × Sp):Prop:=∃ i,i<nG s∧ys=zA1 s i∧zCP s i=some x
def tuE (s:ScM) (ys:List (Int × Sp)):Prop:=ys=zA1 s (nG s)
namespace Two
variable {ro : Option Nat}
open Go.RowKit
set_option maxRecDepth 20000
set_option maxHeartbeats 8000000 in
theorem zIX (s:ScM) (g:Nat) (wb:World) (ht:zAB zBz 2 wb s.tA s.tr) (hF:ScF s) :
  SeqG Tryz.prog 118 [.pointer (some ⟨g,0,none⟩)] (fun _=>[.blk g (zAW s)]) encTu (tuN s) (tuE s) wb:=by
 intro ι l I Cx s0 w hwb hI0 hO hround
 have hns:nG s=(s.gain.hi - s.gain.lo+1).toNat:=rfl
 have hT0:zA1 s 0=[]:=rfl
 have hTs:=fun i=>zGR (s:=s) (i:=i)
 have hTa:=fun i:Nat=>(show zCP s i=if (zCv s (s.gain.lo+(i:Int))).lo≤(zCv s (s.gain.lo+(i:Int))).hi then some (s.gain.lo+(i:Int),zCv s (s.gain.lo+(i:Int))) else none from rfl)
 have hoA:=fun gn=>(show zCv s gn=zCQ s gn s.tr.length from rfl)
 have ho0:=fun gn=>zFC (s:=s) (gain:=gn)
 have hoS:=fun gn k t (h:s.tr[k]?=some t)=>zFD (s:=s) (gain:=gn) (k:=k) (t:=t) h
 have hoM:=fun gn d k=>zDg (s:=s) (gain:=gn) d k
 have hG:=hF.gain
 have hS:=hF.step
 have hO9:=hF.off
 have hl:=hF.len
 have hTr:=hF.tr
 have hround:=fun i x s' W (hi:i<nG s) (hx:zCP s i=some x)=>hround (zA1 s i) x s' W ⟨i,hi,rfl,hx⟩
 unfold tuE
 generalize nG s=n at *
 generalize zA1 s=tT at *
 generalize zCP s=tA9 at *
 generalize zCv s=oA9 at *
 generalize zCQ s=oT at *
 clear hF
 obtain ⟨id,step,⟨g1,g2⟩,⟨o1,o2⟩,A,tr,c⟩:=s
 simp only at *
 unfold zAW encTu at *
 simp only at *
 refine zBi (n:=73) hwb hO Tryz.func118 rfl rfl rfl ?_
 refine zBx (fun _ h=>zA0.1 h) ?_
 simp only [List.cons_append,List.nil_append]
 (repeat' (first|((with_reducible refine zV ?_);first|refine zO rfl rfl rfl ?_|refine zD rfl rfl rfl ?_|(refine zQ rfl rfl rfl ?_;refine ⟨_,rfl,?_⟩)|refine zS rfl rfl rfl ?_|(refine zd rfl rfl rfl rfl rfl (fun h=>?_) (fun h=>?_)<;>(dsimp only [cmpP] at h;(try (exfalso;omega))))|refine zt rfl rfl rfl ?_|refine zb rfl rfl rfl rfl (by omega) ?_|refine zm rfl rfl rfl rfl (IntWalk.i64_in _ (by omega)) ?_|refine z7 rfl rfl rfl rfl (IntWalk.i64_in _ (by omega)) ?_|refine zCO rfl rfl rfl rfl (IntWalk.i64_in _ (by omega)) ?_|refine zK rfl rfl rfl rfl rfl (by omega) ?_|refine zL rfl rfl rfl rfl rfl (by first|decide|omega) ?_|refine zj rfl rfl rfl ?_|(refine zg rfl rfl rfl rfl rfl ?_;refine ⟨rfl,by first|decide|exact Nat.le_of_ble_eq_true rfl|(simp;omega),_,rfl,?_⟩)|(refine zh rfl rfl (fun b=>?_))|(refine zy rfl rfl rfl ?_;refine ⟨_,rfl,?_⟩)|refine zDq rfl rfl rfl (by rw [Int.zero_sub];exact IntWalk.i64_in _ (by omega)) ?_|refine zA5 rfl rfl rfl rfl ?_|refine zAd rfl rfl rfl rfl ?_)|(with_reducible first|refine zW ?_|refine zC ?_|refine zU ?_|refine zB ?_|refine zX ?_|refine zT ?_|refine zF ?_|refine zf ?_|refine zP ?_|refine zZ ?_|refine zY ?_|refine za ?_|refine zG ?_|refine zJ ?_|refine zBH ?_)|((with_reducible refine zE ?_ ?_);(· exact rfl))|((with_reducible refine zI ?_ ?_);(· exact rfl))|((with_reducible refine zH ?_ ?_);(· exact rfl))|(with_reducible refine zBG ?_)|(with_reducible refine zAh ?_)|(with_reducible refine zAi ?_)|(with_reducible refine zAj ?_)))
 refine zAC (ι:=Nat × Int × ι) [0,1] rfl (fun q=>q.1≤n∧q.2.1=g1+(q.1:Int)∧I (tT q.1) q.2.2) (fun q=>[(3,.int .i64 q.2.1)]) (fun q=>[.blk g [.int .i64 id,.int .i64 step,.int .i64 g1,.int .i64 g2,.int .i64 o1,.int .i64 o2,.slice A tr.length c],.all (Cx q.2.2),.oldx w wb.heap.size (feet ([.blk g [.int .i64 id,.int .i64 step,.int .i64 g1,.int .i64 g2,.int .i64 o1,.int .i64 o2,.slice A tr.length c]]++Cx s0))]) (fun q=>n - q.1) (0,g1,s0) ⟨Nat.zero_le _,by simp,by rw [hT0];exact hI0⟩ (by (repeat first|exact lK1|refine zp rfl ?_)) (by (repeat constructor)) ?_
 rintro ⟨i,gn,s'⟩ ⟨hi,hgn,hIi⟩
 simp only at hi hgn hIi
 simp only [zAm,List.cons_append,List.nil_append]
 by_cases hlt:i<n
 rotate_left
 ·obtain rfl:i=n:=by omega
  (repeat' (first|((with_reducible refine zV ?_);first|refine zO rfl rfl rfl ?_|refine zD rfl rfl rfl ?_|(refine zQ rfl rfl rfl ?_;refine ⟨_,rfl,?_⟩)|refine zS rfl rfl rfl ?_|(refine zd rfl rfl rfl rfl rfl (fun h=>?_) (fun h=>?_)<;>(dsimp only [cmpP] at h;(try (exfalso;omega))))|refine zt rfl rfl rfl ?_|refine zb rfl rfl rfl rfl (by omega) ?_|refine zm rfl rfl rfl rfl (IntWalk.i64_in _ (by omega)) ?_|refine z7 rfl rfl rfl rfl (IntWalk.i64_in _ (by omega)) ?_|refine zCO rfl rfl rfl rfl (IntWalk.i64_in _ (by omega)) ?_|refine zK rfl rfl rfl rfl rfl (by omega) ?_|refine zL rfl rfl rfl rfl rfl (by first|decide|omega) ?_|refine zj rfl rfl rfl ?_|(refine zg rfl rfl rfl rfl rfl ?_;refine ⟨rfl,by first|decide|exact Nat.le_of_ble_eq_true rfl|(simp;omega),_,rfl,?_⟩)|(refine zh rfl rfl (fun b=>?_))|(refine zy rfl rfl rfl ?_;refine ⟨_,rfl,?_⟩)|refine zDq rfl rfl rfl (by rw [Int.zero_sub];exact IntWalk.i64_in _ (by omega)) ?_|refine zA5 rfl rfl rfl rfl ?_|refine zAd rfl rfl rfl rfl ?_)|(with_reducible first|refine zW ?_|refine zC ?_|refine zU ?_|refine zB ?_|refine zX ?_|refine zT ?_|refine zF ?_|refine zf ?_|refine zP ?_|refine zZ ?_|refine zY ?_|refine za ?_|refine zG ?_|refine zJ ?_|refine zBH ?_)|((with_reducible refine zE ?_ ?_);(· exact rfl))|((with_reducible refine zI ?_ ?_);(· exact rfl))|((with_reducible refine zH ?_ ?_);(· exact rfl))|(with_reducible refine zBG ?_)|(with_reducible refine zAh ?_)|(with_reducible refine zAi ?_)|(with_reducible refine zAj ?_)))
  refine zEz ?_
  exact zCq (vs:=[]) zAX.nil (tT i,s') ⟨rfl,hIi⟩ rfl hwb (fun W9 h=>zA0.2 (show Own wb.heap.size W9 ([.blk g [.int .i64 id,.int .i64 step,.int .i64 g1,.int .i64 g2,.int .i64 o1,.int .i64 o2,.slice A tr.length c]] ++ .all (Cx s')::[.oldx w wb.heap.size (feet ([.blk g [.int .i64 id,.int .i64 step,.int .i64 g1,.int .i64 g2,.int .i64 o1,.int .i64 o2,.slice A tr.length c]]++Cx s0))]) from h.sub (by (repeat constructor))))
 have hTsi:=hTs i
 have hTai:=hTa i
 rw [← hgn] at hTai
 rw [hoA] at hTai
 have ho0:=ho0 gn
 have hoS:=hoS gn
 have hoM:=hoM gn
 have hri:=fun x s2 W (hx:tA9 i=some x)=>hround i x s2 W hlt hx
 generalize oT gn=ot at *
 have e0:ot 0=⟨o1,o2⟩:=ho0
 (repeat' (first|((with_reducible refine zV ?_);first|refine zO rfl rfl rfl ?_|refine zD rfl rfl rfl ?_|(refine zQ rfl rfl rfl ?_;refine ⟨_,rfl,?_⟩)|refine zS rfl rfl rfl ?_|(refine zd rfl rfl rfl rfl rfl (fun h=>?_) (fun h=>?_)<;>(dsimp only [cmpP] at h;(try (exfalso;omega))))|refine zt rfl rfl rfl ?_|refine zb rfl rfl rfl rfl (by omega) ?_|refine zm rfl rfl rfl rfl (IntWalk.i64_in _ (by omega)) ?_|refine z7 rfl rfl rfl rfl (IntWalk.i64_in _ (by omega)) ?_|refine zCO rfl rfl rfl rfl (IntWalk.i64_in _ (by omega)) ?_|refine zK rfl rfl rfl rfl rfl (by omega) ?_|refine zL rfl rfl rfl rfl rfl (by first|decide|omega) ?_|refine zj rfl rfl rfl ?_|(refine zg rfl rfl rfl rfl rfl ?_;refine ⟨rfl,by first|decide|exact Nat.le_of_ble_eq_true rfl|(simp;omega),_,rfl,?_⟩)|(refine zh rfl rfl (fun b=>?_))|(refine zy rfl rfl rfl ?_;refine ⟨_,rfl,?_⟩)|refine zDq rfl rfl rfl (by rw [Int.zero_sub];exact IntWalk.i64_in _ (by omega)) ?_|refine zA5 rfl rfl rfl rfl ?_|refine zAd rfl rfl rfl rfl ?_)|(with_reducible first|refine zW ?_|refine zC ?_|refine zU ?_|refine zB ?_|refine zX ?_|refine zT ?_|refine zF ?_|refine zf ?_|refine zP ?_|refine zZ ?_|refine zY ?_|refine za ?_|refine zG ?_|refine zJ ?_|refine zBH ?_)|((with_reducible refine zE ?_ ?_);(· exact rfl))|((with_reducible refine zI ?_ ?_);(· exact rfl))|((with_reducible refine zH ?_ ?_);(· exact rfl))|(with_reducible refine zBG ?_)|(with_reducible refine zAh ?_)|(with_reducible refine zAi ?_)|(with_reducible refine zAj ?_)))
 obtain ⟨bO,hbO⟩:∃ y,y=b:=⟨_,rfl⟩
 subst hbO
 refine zAC (ι:=Nat) [0,1,3,4,23,24] rfl (fun k=>k≤tr.length∧(0<k→(ot k).lo≤(ot k).hi)) (fun k=>[(25,.int .i64 (k:Int))]) (fun k=>[.blk bO [.int .i64 (ot k).lo,.int .i64 (ot k).hi],.blk g [.int .i64 id,.int .i64 step,.int .i64 g1,.int .i64 g2,.int .i64 o1,.int .i64 o2,.slice A tr.length c],.all (Cx s'),.oldx w wb.heap.size (feet ([.blk g [.int .i64 id,.int .i64 step,.int .i64 g1,.int .i64 g2,.int .i64 o1,.int .i64 o2,.slice A tr.length c]]++Cx s0))]) (fun k=>tr.length - k) 0 ⟨Nat.zero_le _,by omega⟩ (by (repeat first|exact lK1|refine zp rfl ?_)) (by rw [e0];(repeat constructor)) ?_
 rintro k ⟨hk,hkl⟩
 simp only [zAm,List.cons_append,List.nil_append]
 by_cases hkt:k<tr.length
 ·obtain ⟨x,hx⟩:∃ x,tr[k]?=some x:=⟨_,List.getElem?_eq_getElem hkt⟩
  have:zAZ tr k x:=⟨hx⟩
  obtain ⟨bA,oA,hAe,_,_⟩:=ht.at_ hkt
  subst hAe
  have:InS wb bA oA zBz 2 tr:=⟨ht⟩
  have hxt:=hTr x (List.mem_of_getElem? hx)
  have hs1:=hoS k x hx
  have hm1:=hoM (tr.length - (k+1)) (k+1)
  rw [show k+1+(tr.length - (k+1))=tr.length by omega] at hm1
  obtain ⟨xw,xs⟩:=x
  simp only [trB,zBb,Bool.and_eq_true,zAu,trimI] at hxt hs1
  have a1:=zFF (a:=xw) (b:=1000+gn) (A:=1000000) (B:=1010) hxt.1.1 hxt.1.2 (by omega) (by omega)
  have hD1:=fun W=>zDT (-(1000 * xs - xw * (1000+gn))) 1000 W (by omega) (by omega)
  have hD2:=fun W=>zDT (1000 * (xs+step) - 1 - xw * (1000+gn)) 1000 W (by omega) (by omega)
  have e1:=zD2 (n:=-(1000 * xs - xw * (1000+gn))) (b:=1000) (B:=10000000000) (by omega) (by omega)
  generalize -(1000 * xs - xw * (1000+gn)) / 1000=d1 at *
  generalize (1000 * (xs+step) - 1 - xw * (1000+gn)) / 1000=d2 at *
  generalize hot:ot k=ok at *
  generalize hot1:ot (k+1)=ok1 at *
  obtain ⟨k1,k2⟩:=ok
  simp only at hs1
  subst hs1
  (repeat' (first|((with_reducible refine zV ?_);first|refine zO rfl rfl rfl ?_|refine zD rfl rfl rfl ?_|(refine zQ rfl rfl rfl ?_;refine ⟨_,rfl,?_⟩)|refine zS rfl rfl rfl ?_|(refine zd rfl rfl rfl rfl rfl (fun h=>?_) (fun h=>?_)<;>(dsimp only [cmpP] at h;(try (exfalso;omega))))|refine zK (I:=k) rfl rfl rfl rfl rfl (by omega) ?_|refine zCO (i:=xw) (j:=1000+gn) rfl rfl rfl rfl (IntWalk.i64_in _ (by omega)) ?_|refine zt rfl rfl rfl ?_|refine zb rfl rfl rfl rfl (by omega) ?_|refine zm rfl rfl rfl rfl (IntWalk.i64_in _ (by omega)) ?_|refine z7 rfl rfl rfl rfl (IntWalk.i64_in _ (by omega)) ?_|refine zCO rfl rfl rfl rfl (IntWalk.i64_in _ (by omega)) ?_|refine zK rfl rfl rfl rfl rfl (by omega) ?_|refine zL rfl rfl rfl rfl rfl (by first|decide|omega) ?_|refine zj rfl rfl rfl ?_|(refine zg rfl rfl rfl rfl rfl ?_;refine ⟨rfl,by first|decide|exact Nat.le_of_ble_eq_true rfl|(simp;omega),_,rfl,?_⟩)|(refine zh rfl rfl (fun b=>?_))|(refine zy rfl rfl rfl ?_;refine ⟨_,rfl,?_⟩)|refine zDq rfl rfl rfl (by rw [Int.zero_sub];exact IntWalk.i64_in _ (by omega)) ?_|refine zA5 rfl rfl rfl rfl ?_|refine zAd rfl rfl rfl rfl ?_)|(with_reducible first|refine zW ?_|refine zC ?_|refine zU ?_|refine zB ?_|refine zX ?_|refine zT ?_|refine zF ?_|refine zf ?_|refine zP ?_|refine zZ ?_|refine zY ?_|refine za ?_|refine zG ?_|refine zJ ?_|refine zBH ?_)|((with_reducible refine zE ?_ ?_);(· exact rfl))|((with_reducible refine zI ?_ ?_);(· exact rfl))|((with_reducible refine zH ?_ ?_);(· exact rfl))|(with_reducible refine zBG ?_)|(with_reducible refine zAh ?_)|(with_reducible refine zAi ?_)|(with_reducible refine zAj ?_)))
  obtain ⟨bT,hbT⟩:∃ y,y=b:=⟨_,rfl⟩
  subst hbT
  generalize xw * (1000+gn)=pp at *
  refine zBx (H':=[.blk bT [.int .i64 xw,.int .i64 xs],.blk bO [.int .i64 k1,.int .i64 k2],.blk g [.int .i64 id,.int .i64 step,.int .i64 g1,.int .i64 g2,.int .i64 o1,.int .i64 o2,.slice (some ⟨bA,oA,none⟩) tr.length c],.all (Cx s'),.oldx w wb.heap.size (feet (Ent.blk g [.int .i64 id,.int .i64 step,.int .i64 g1,.int .i64 g2,.int .i64 o1,.int .i64 o2,.slice (some ⟨bA,oA,none⟩) tr.length c]::Cx s0))]) (fun _ h=>h) ?_
  (refine zAY (by kernel_rfl) (by kernel_rfl) (by kernel_rfl) ?_)
  (repeat' (first|((with_reducible refine zAq ?_);first|refine zA (zAT rfl rfl) rfl ?_|refine zA (zAF rfl rfl (by exact rfl)) rfl ?_|refine zA (zAQ rfl rfl) rfl ?_|refine zA (zAz rfl rfl rfl) rfl ?_|refine zA (zAS rfl rfl) rfl ?_|refine zAA rfl rfl rfl ?_|(refine zBP rfl rfl rfl rfl rfl (fun h=>?_) (fun h=>?_)<;>(dsimp only [cmpP] at h;(try (exfalso;omega))))|fail|refine zA (zAM rfl rfl rfl) rfl ?_|refine zA (zBU rfl rfl) rfl ?_|refine zA (zAl rfl rfl rfl (by omega)) rfl ?_|refine zA (zA8 rfl rfl rfl (IntWalk.i64_in _ (by omega))) rfl ?_|refine zA (zBB rfl rfl rfl (IntWalk.i64_in _ (by omega))) rfl ?_|refine zA (zA6 rfl rfl rfl (IntWalk.i64_in _ (by omega))) rfl ?_|refine zA (zu rfl rfl rfl rfl (by omega)) rfl ?_|refine zA (zAJ rfl rfl rfl rfl (by first|decide|omega)) rfl ?_|refine zA (zBM rfl rfl) rfl ?_|refine zA (zBV rfl rfl) rfl ?_|refine zA (zAE rfl rfl) rfl ?_|refine zA (zAR rfl rfl (IntWalk.i64_in _ (by omega))) rfl ?_|refine zA (zBE rfl rfl rfl (by omega) (by omega) (IntWalk.i64_in _ (by omega))) rfl ?_|refine zA (zBT rfl rfl rfl (by omega) (by omega)) rfl ?_|refine zA (zBF rfl rfl rfl) rfl ?_|refine zA (zA7 rfl rfl rfl) rfl ?_|refine zA (zAN rfl rfl (by exact rfl)) rfl ?_|refine zA (zAI rfl rfl rfl) rfl ?_)|(with_reducible refine zBI ?_)))
  all_goals (repeat' (first|((with_reducible refine zV ?_);first|refine zO rfl rfl rfl ?_|refine zD rfl rfl rfl ?_|(refine zQ rfl rfl rfl ?_;refine ⟨_,rfl,?_⟩)|refine zS rfl rfl rfl ?_|(refine zd rfl rfl rfl rfl rfl (fun h=>?_) (fun h=>?_)<;>(dsimp only [cmpP] at h;(try (exfalso;omega))))|refine zt rfl rfl rfl ?_|refine zb rfl rfl rfl rfl (by omega) ?_|refine zm rfl rfl rfl rfl (IntWalk.i64_in _ (by omega)) ?_|refine z7 rfl rfl rfl rfl (IntWalk.i64_in _ (by omega)) ?_|refine zCO rfl rfl rfl rfl (IntWalk.i64_in _ (by omega)) ?_|refine zK rfl rfl rfl rfl rfl (by omega) ?_|refine zL rfl rfl rfl rfl rfl (by first|decide|omega) ?_|refine zj rfl rfl rfl ?_|(refine zg rfl rfl rfl rfl rfl ?_;refine ⟨rfl,by first|decide|exact Nat.le_of_ble_eq_true rfl|(simp;omega),_,rfl,?_⟩)|(refine zh rfl rfl (fun b=>?_))|(refine zy rfl rfl rfl ?_;refine ⟨_,rfl,?_⟩)|refine zDq rfl rfl rfl (by rw [Int.zero_sub];exact IntWalk.i64_in _ (by omega)) ?_|refine zA5 rfl rfl rfl rfl ?_|refine zAd rfl rfl rfl rfl ?_)|(with_reducible first|refine zW ?_|refine zC ?_|refine zU ?_|refine zB ?_|refine zX ?_|refine zT ?_|refine zF ?_|refine zf ?_|refine zP ?_|refine zZ ?_|refine zY ?_|refine za ?_|refine zG ?_|refine zJ ?_|refine zBH ?_)|((with_reducible refine zE ?_ ?_);(· exact rfl))|((with_reducible refine zI ?_ ?_);(· exact rfl))|((with_reducible refine zH ?_ ?_);(· exact rfl))|(with_reducible refine zBG ?_)|(with_reducible refine zAh ?_)|(with_reducible refine zAi ?_)|(with_reducible refine zAj ?_)))
  (refine zA9 [] [] [] rfl (show ([]:List Nat).Nodup by decide) (fun _ h=>h) (by kernel_rfl) [[],[Z],[Y,Y],[Z,Y,Y],[Z,Z,Y,Y],[Z,Z,Z,Y,Y],[Z,Z,Z,Z,Z,Z],[Y,Y,Y,Y,Y,Y,Y],[Z,Y,Y,Y,Y,Y,Y,Y],[Y,Y,Y,Y,Y,Y,Y,Y,Y],[Z,Y,Y,Y,Y,Z,Z,Z,Y,Y],[Z,Z,Z,Z,Y,Y,Z,Z,Z,Y,Y],[Z,Z,Z,Z,Z,Z,Z,Z,Z,Z,Z,Z],[Z,Z,Z,Z,Z,Z,Z,Z,Z,Z,Z,Z,Z]] (by kernel_rfl) (by kernel_rfl) (by kernel_rfl) (by kernel_rfl) (by kernel_rfl) ?_)
  (repeat' (first|(((with_reducible refine zDU ?_ ?_);(· exact rfl);refine ⟨_,fun G=>(by (try simp (decide:=true) only [vis,see,fltT,zAV,Nat.reduceAdd,Nat.reduceSub,if_true,if_false,List.set_cons_zero,List.set_cons_succ,List.set_nil,List.nil_append,List.cons_append]);rfl),?_⟩);first|refine zw _ (fun _=>zAT rfl rfl) (fun _=>rfl) rfl (by intro G G' h;simp (decide:=true) only [h]) ?_|refine zw _ (fun _=>zAF rfl rfl (by exact rfl)) (fun _=>rfl) rfl (by intro G G' h;simp (decide:=true) only [h]) ?_|(refine zBp rfl ?_;refine zw _ (fun _=>zAQ rfl rfl) (fun _=>rfl) rfl (by intro G G' h;simp (decide:=true) only [h]) ?_)|refine zCI _ rfl (fun _=>rfl) rfl (fun _=>rfl) (fun _=>rfl) (fun _ _ _ q=>hD1 _) (by intro G G' h;simp (decide:=true) only [h]) ?_|refine zCI _ rfl (fun _=>rfl) rfl (fun _=>rfl) (fun _=>rfl) (fun _ _ _ q=>hD2 _) (by intro G G' h;simp (decide:=true) only [h]) ?_|refine zw _ (fun _=>e_neg rfl rfl (by rw [Int.zero_sub];exact IntWalk.i64_in _ (by omega))) (fun _=>rfl) rfl (by intro G G' h;simp (decide:=true) only [h]) ?_|refine zw _ (fun _=>zBF rfl rfl rfl) (fun _=>rfl) rfl (by intro G G' h;simp (decide:=true) only [h]) ?_|refine zw _ (fun _=>zA7 rfl rfl rfl) (fun _=>rfl) rfl (by intro G G' h;simp (decide:=true) only [h]) ?_|refine zw _ (fun _=>zAN rfl rfl (by exact rfl)) (fun _=>rfl) rfl (by intro G G' h;simp (decide:=true) only [h]) ?_)|((with_reducible refine zBk ?_ ?_);(· exact rfl))|(with_reducible refine zCb ?_)))
  (intro G;simp only [regsT,zAV,zBY,ini,List.nil_append,List.cons_append])
  (repeat' (first|((with_reducible refine zV ?_);first|refine zO rfl rfl rfl ?_|refine zD rfl rfl rfl ?_|(refine zQ rfl rfl rfl ?_;refine ⟨_,rfl,?_⟩)|refine zS rfl rfl rfl ?_|(refine zd rfl rfl rfl rfl rfl (fun h=>?_) (fun h=>?_)<;>(dsimp only [cmpP] at h;(try (exfalso;omega))))|refine zt rfl rfl rfl ?_|refine zb rfl rfl rfl rfl (by omega) ?_|refine zm rfl rfl rfl rfl (IntWalk.i64_in _ (by omega)) ?_|refine z7 rfl rfl rfl rfl (IntWalk.i64_in _ (by omega)) ?_|refine zCO rfl rfl rfl rfl (IntWalk.i64_in _ (by omega)) ?_|refine zK rfl rfl rfl rfl rfl (by omega) ?_|refine zL rfl rfl rfl rfl rfl (by first|decide|omega) ?_|refine zj rfl rfl rfl ?_|(refine zg rfl rfl rfl rfl rfl ?_;refine ⟨rfl,by first|decide|exact Nat.le_of_ble_eq_true rfl|(simp;omega),_,rfl,?_⟩)|(refine zh rfl rfl (fun b=>?_))|(refine zy rfl rfl rfl ?_;refine ⟨_,rfl,?_⟩)|refine zDq rfl rfl rfl (by rw [Int.zero_sub];exact IntWalk.i64_in _ (by omega)) ?_|refine zA5 rfl rfl rfl rfl ?_|refine zAd rfl rfl rfl rfl ?_)|(with_reducible first|refine zW ?_|refine zC ?_|refine zU ?_|refine zB ?_|refine zX ?_|refine zT ?_|refine zF ?_|refine zf ?_|refine zP ?_|refine zZ ?_|refine zY ?_|refine za ?_|refine zG ?_|refine zJ ?_|refine zBH ?_)|((with_reducible refine zE ?_ ?_);(· exact rfl))|((with_reducible refine zI ?_ ?_);(· exact rfl))|((with_reducible refine zH ?_ ?_);(· exact rfl))|(with_reducible refine zBG ?_)|(with_reducible refine zAh ?_)|(with_reducible refine zAi ?_)|(with_reducible refine zAj ?_)))
  ·have hno:tA9 i=none:=by rw [hTai,if_neg (by simp only at hm1;omega)]
   rw [hno] at hTsi
   simp only [Option.toList_none,List.append_nil] at hTsi
   exact z6 (ι:=Nat × Int × ι) (i+1,gn+1,s') ⟨by simp only;omega,by simp only;omega,by simp only;rw [hTsi];exact hIi⟩ (by simp only;omega) (by (repeat first|exact lK1|refine zp rfl ?_)) (by (repeat constructor))
  ·exact z6 (ι:=Nat) (k+1) ⟨by omega,fun _=>by rw [hot1];simp only;omega⟩ (by omega) (by (repeat first|exact lK1|refine zp rfl ?_)) (by rw [hot1];(repeat constructor))
 ·obtain rfl:k=tr.length:=by omega
  have hle:(ot tr.length).lo≤(ot tr.length).hi:=by
   rcases Nat.eq_zero_or_pos tr.length with h9|h9
   ·rw [h9,e0];exact hO9.2.1
   ·exact hkl h9
  rw [if_pos hle] at hTai
  have hri:=fun s2 W=>hri _ s2 W hTai
  rw [hTai] at hTsi
  simp only [Option.toList_some] at hTsi
  generalize ot tr.length=oe at *
  obtain ⟨k1,k2⟩:=oe
  simp only at hri hle
  (repeat' (first|((with_reducible refine zV ?_);first|refine zO rfl rfl rfl ?_|refine zD rfl rfl rfl ?_|(refine zQ rfl rfl rfl ?_;refine ⟨_,rfl,?_⟩)|refine zS rfl rfl rfl ?_|(refine zd rfl rfl rfl rfl rfl (fun h=>?_) (fun h=>?_)<;>(dsimp only [cmpP] at h;(try (exfalso;omega))))|(refine zDp (D:=[.blk g [.int .i64 id,.int .i64 step,.int .i64 g1,.int .i64 g2,.int .i64 o1,.int .i64 o2,.slice A tr.length c]]) (L:=Cx s') (C:=Cx) (p:=I (tT (i+1))) (go:=true) rfl rfl rfl rfl [.blk bO [.int .i64 k1,.int .i64 k2],.oldx w wb.heap.size (feet (Ent.blk g [.int .i64 id,.int .i64 step,.int .i64 g1,.int .i64 g2,.int .i64 o1,.int .i64 o2,.slice A tr.length c]::Cx s0))] (by (repeat constructor)) (fun _ W q=>by rw [hTsi];exact hri s' W hIi q.below (Own.append.1 (zA0.2 q.own)).1) ?_;rintro s2 hs2;simp only [List.cons_append,List.nil_append])|refine zt rfl rfl rfl ?_|refine zb rfl rfl rfl rfl (by omega) ?_|refine zm rfl rfl rfl rfl (IntWalk.i64_in _ (by omega)) ?_|refine z7 rfl rfl rfl rfl (IntWalk.i64_in _ (by omega)) ?_|refine zCO rfl rfl rfl rfl (IntWalk.i64_in _ (by omega)) ?_|refine zK rfl rfl rfl rfl rfl (by omega) ?_|refine zL rfl rfl rfl rfl rfl (by first|decide|omega) ?_|refine zj rfl rfl rfl ?_|(refine zg rfl rfl rfl rfl rfl ?_;refine ⟨rfl,by first|decide|exact Nat.le_of_ble_eq_true rfl|(simp;omega),_,rfl,?_⟩)|(refine zh rfl rfl (fun b=>?_))|(refine zy rfl rfl rfl ?_;refine ⟨_,rfl,?_⟩)|refine zDq rfl rfl rfl (by rw [Int.zero_sub];exact IntWalk.i64_in _ (by omega)) ?_|refine zA5 rfl rfl rfl rfl ?_|refine zAd rfl rfl rfl rfl ?_)|(with_reducible first|refine zW ?_|refine zC ?_|refine zU ?_|refine zB ?_|refine zX ?_|refine zT ?_|refine zF ?_|refine zf ?_|refine zP ?_|refine zZ ?_|refine zY ?_|refine za ?_|refine zG ?_|refine zJ ?_|refine zBH ?_)|((with_reducible refine zE ?_ ?_);(· exact rfl))|((with_reducible refine zI ?_ ?_);(· exact rfl))|((with_reducible refine zH ?_ ?_);(· exact rfl))|(with_reducible refine zBG ?_)|(with_reducible refine zAh ?_)|(with_reducible refine zAi ?_)|(with_reducible refine zAj ?_)))
  exact z6 (ι:=Nat × Int × ι) (i+1,gn+1,s2) ⟨by simp only;omega,by simp only;omega,hs2⟩ (by simp only;omega) (by (repeat first|exact lK1|refine zp rfl ?_)) (by (repeat constructor))
end Two
end Go.Proofs.YtcpdjamlhhfbhaaGreat
namespace Go.Proofs.YtcpdjamlhhfbhaaGreat
structure zBK where
 gain:Int
 off:Int
 sum:Sp
def zAf (t:zBK):List Value:=[.int .i64 t.gain,.int .i64 t.off,.int .i64 t.sum.lo,.int .i64 t.sum.hi]
def vTru (t:zBK):Value:=.agg #[.int .i64 t.gain,.int .i64 t.off,.int .i64 t.sum.lo,.int .i64 t.sum.hi]
instance encI_tru : zBX zAf 4:=⟨fun _=>rfl,fun x v hv=>by simp [zAf] at hv;rcases hv with rfl|rfl|rfl|rfl<;>rfl⟩
def addW (o:Option Sp) (w:Sp):Option Sp:=o.bind fun a=>if w.hi<w.lo then none else some ⟨a.lo+w.lo,a.hi+w.hi⟩
def zBd (s:ScM) (g:GrM) (gain off:Int):Nat→Option Sp
 | 0=>some ⟨0,0⟩
 | k+1=>match g.loads[k]? with
  | none=>zBd s g gain off k
  | some l=>if l.scale=s.id then addW (zBd s g gain off k) (wgI s.step gain off l.shown) else zBd s g gain off k
theorem zDe {s:ScM} {g:GrM} {gain off:Int} {k:Nat} {l:LdM} (h:g.loads[k]?=some l):zBd s g gain off (k+1)=if l.scale=s.id then addW (zBd s g gain off k) (wgI s.step gain off l.shown) else zBd s g gain off k:=by
 simp only [zBd,h]
theorem zE3 {s:ScM} {g:GrM} {gain off:Int} {k:Nat} (h:zBd s g gain off k=none):∀ d,zBd s g gain off (k+d)=none
 | 0=>h
 | d+1=>by
  have ih:=zE3 h d
  rw [← Nat.add_assoc]
  cases hl:g.loads[k+d]? with
  | none=>simp only [zBd,hl];exact ih
  | some l=>rw [zDe hl,ih];split<;>rfl
def zFh (s:ScM) (g:GrM) (gain off:Int):Option zBK:=(zBd s g gain off g.loads.length).map fun a=>⟨gain,off,a⟩
def zCc (s:ScM) (g:GrM) (gain lo:Int) (m:Nat):List zBK:=(List.range m).filterMap fun (j:Nat)=>zFh s g gain (lo+(j:Int))
theorem zGv {s:ScM} {g:GrM} {gain lo:Int} {m:Nat}:zCc s g gain lo (m+1)=zCc s g gain lo m++(zFh s g gain (lo+(m:Int))).toList:=by
 unfold zCc
 rw [List.range_succ,List.filterMap_append]
 cases h:zFh s g gain (lo+(m:Int))<;>simp [h]
theorem zE1 {s:ScM} {g:GrM} {gain lo:Int} {m:Nat}:(zCc s g gain lo m).length≤m:=by
 unfold zCc;exact Nat.le_trans (List.length_filterMap_le _ _) (by simp)
def truT (s:ScM) (g:GrM) (t:Int × Sp):List zBK:=zCc s g t.1 t.2.lo (t.2.hi - t.2.lo+1).toNat
def zC6 (s:ScM) (g:GrM):List zBK:=(zA1 s (nG s)).flatMap (truT s g)
theorem wg_in {step t0 t1 n:Int}:0≤(wgI step t0 t1 n).lo∧(wgI step t0 t1 n).hi≤1000000:=by
 unfold wgI;simp only;omega
theorem zC9 {s:ScM} {g:GrM} {gain off:Int}:∀ (k:Nat) (a:Sp),zBd s g gain off k=some a→0≤a.lo∧a.lo≤a.hi∧a.hi≤1000000 * (k:Int)
 | 0,a,h=>by simp only [zBd,Option.some.injEq] at h;subst h;simp
 | k+1,a,h=>by
  cases hl:g.loads[k]? with
  | none =>
   simp only [zBd,hl] at h
   have:=zC9 k a h;omega
  | some l =>
   rw [zDe hl] at h
   split at h
   ·cases hb:zBd s g gain off k with
    | none=>rw [hb] at h;cases h
    | some b =>
     rw [hb] at h
     simp only [addW,Option.bind_some] at h
     have ih:=zC9 k b hb
     have hw:=wg_in (step:=s.step) (t0:=gain) (t1:=off) (n:=l.shown)
     split at h
     ·cases h
     ·simp only [Option.some.injEq] at h
      subst h
      simp only
      omega
   ·have:=zC9 k a h;omega
theorem zGS {s:ScM} (hF:ScF s) {i:Nat} (hi:i<nG s) {x:Int × Sp} (h:zCP s i=some x):-10≤x.1∧x.1≤10∧-100≤x.2.lo∧x.2.lo≤x.2.hi∧x.2.hi≤100:=by
 unfold zCP at h
 split at h
 ·rename_i hle
  simp only [Option.some.injEq] at h
  subst h
  have hm:=zDg (s:=s) (gain:=s.gain.lo+(i:Int)) s.tr.length 0
  rw [zFC,Nat.zero_add] at hm
  have hg:=hF.gain
  have ho:=hF.off
  unfold nG at hi
  unfold zCv at *
  simp only
  omega
 ·cases h
theorem zHI {α β:Type} {f:α→List β} {B:Nat}:∀ {l:List α},(∀ x∈l,(f x).length≤B)→(l.flatMap f).length≤l.length * B
 | [],_=>by simp
 | x::r,h=>by
  rw [List.flatMap_cons,List.length_append,List.length_cons,Nat.succ_mul]
  have h1:=h x (by simp)
  have h2:=zHI (l:=r) (f:=f) (B:=B) (fun y hy=>h y (by simp [hy]))
  omega
theorem zFg {s:ScM} {i:Nat} {x:Int × Sp} (hi:i≤nG s) (h:x∈zA1 s i):∃ k,k<nG s∧zCP s k=some x:=by
 unfold zA1 at h
 obtain ⟨k,hk,hx⟩:=List.mem_filterMap.1 h
 exact ⟨k,by have:=List.mem_range.1 hk;omega,hx⟩
theorem zGu {s:ScM} (hF:ScF s) {g:GrM} {i:Nat} (hi:i≤nG s):((zA1 s i).flatMap (truT s g)).length≤i * 201:=by
 refine Nat.le_trans (zHI (B:=201) (fun x hx=>?_)) (Nat.mul_le_mul_right _ zGt)
 obtain ⟨k,hk,hx⟩:=zFg hi hx
 have:=zGS hF hk hx
 unfold truT
 refine Nat.le_trans zE1 ?_
 omega
theorem nG_le {s:ScM} (hF:ScF s):nG s≤21:=by have:=hF.gain;unfold nG;omega
theorem zDt {s:ScM} (hF:ScF s) {g:GrM} {t:zBK} (h:t∈zC6 s g):-10≤t.gain∧t.gain≤10∧-100≤t.off∧t.off≤100∧0≤t.sum.lo∧t.sum.lo≤t.sum.hi∧t.sum.hi≤1000000 * (g.loads.length:Int):=by
 unfold zC6 at h
 obtain ⟨x,hx,ht⟩:=List.mem_flatMap.1 h
 obtain ⟨k,hk,hx⟩:=zFg (Nat.le_refl _) hx
 have h1:=zGS hF hk hx
 unfold truT zCc at ht
 obtain ⟨j,hj,ht⟩:=List.mem_filterMap.1 ht
 have hj2:=List.mem_range.1 hj
 unfold zFh at ht
 cases hs:zBd s g x.1 (x.2.lo+(j:Int)) g.loads.length with
 | none=>rw [hs] at ht;cases ht
 | some a =>
  rw [hs] at ht
  simp only [Option.map_some,Option.some.injEq] at ht
  subst ht
  have:=zC9 _ _ hs
  simp only
  omega
namespace Two
variable {ro : Option Nat}
open Go.RowKit
set_option maxRecDepth 20000
theorem elem_tru : Elem Tryz.prog 111 119 4 32 (.agg #[.int .i64 0,.int .i64 0,.int .i64 0,.int .i64 0]):=⟨by rfl,by exact ⟨_,rfl,rfl,rfl,rfl⟩,by decide,by decide⟩
instance elI_tru : ElI Tryz.prog 111 119 4 32:=⟨⟨_,elem_tru⟩⟩
theorem zHz (s:ScM) (w:World):Ret Tryz.prog 76 [vSc s] w (fun g:Nat=>.func (.func 118) #[] #[.pointer (some ⟨g,0,none⟩)]) (fun g=>[.blk g (zAW s)]) (fun _=>True):=by
 unfold zAW vSc
 (refine ze (n:=4) Tryz.func76 rfl rfl rfl ?_)
 (repeat' (first|((with_reducible refine zV ?_);first|refine zD rfl rfl rfl ?_|(refine zl rfl rfl rfl rfl (fun b=>?_))|refine zz rfl rfl rfl rfl ?_)|(with_reducible first|refine zW ?_|refine zC ?_|refine zU ?_|refine zB ?_|refine zX ?_|refine zT ?_|refine zF ?_|refine zf ?_)))
 exact zk (by exact rTm rfl) b trivial rfl (fun _ h=>h.sub (by (repeat constructor)))
end Two
end Go.Proofs.YtcpdjamlhhfbhaaGreat
namespace Go.Proofs.YtcpdjamlhhfbhaaGreat.Two
variable {ro : Option Nat}
open Go.RowKit
set_option maxRecDepth 20000
set_option maxHeartbeats 8000000 in
theorem zEi (s:ScM) (g:GrM) (w:World) (hF:ScF s) (ht:zAB zBz 2 w s.tA s.tr) (hg:zAB zB9 2 w g.lA g.loads) (hl:g.loads.length≤6) (hsh:∀ l∈g.loads,-2000000≤l.shown∧l.shown≤2000000) :
  zCV zAf 4 (zC6 s g) (fun v=>v) Tryz.prog 45 [vSc s,vGr g] w:=by
 have hH:=fun W=>zHz s W
 have hseq:=fun gT=>zIX s gT w ht hF
 have hTL:zC6 s g=(zA1 s (nG s)).flatMap (truT s g):=rfl
 have hTT:=fun x:Int × Sp=>(show truT s g x=zCc s g x.1 x.2.lo (x.2.hi - x.2.lo+1).toNat from rfl)
 have hTn:=fun i hi=>zGu hF (g:=g) (i:=i) hi
 have hTi:=fun i hi x hx=>zGS hF (i:=i) hi (x:=x) hx
 have hn21:=nG_le hF
 have hOs:=fun gn lo m=>zGv (s:=s) (g:=g) (gain:=gn) (lo:=lo) (m:=m)
 have hOl:=fun gn lo m=>zE1 (s:=s) (g:=g) (gain:=gn) (lo:=lo) (m:=m)
 have hAt:=fun gn off=>(show zFh s g gn off=(zBd s g gn off g.loads.length).map (fun a=>⟨gn,off,a⟩) from rfl)
 have hS0:=fun gn off=>(show zBd s g gn off 0=some ⟨0,0⟩ from rfl)
 have hSs:=fun gn off k l (h:g.loads[k]?=some l)=>zDe (s:=s) (g:=g) (gain:=gn) (off:=off) h
 have hSn:=fun gn off k d (h:zBd s g gn off k=none)=>zE3 h d
 have hO0:=fun gn lo=>(show zCc s g gn lo 0=[] from rfl)
 have hSi:=fun gn off k a (h:zBd s g gn off k=some a)=>zC9 k a h
 have hW2:=fun gn off n W h1 h2 h3=>zD3 s gn off n W h1 h2 h3 ⟨by have:=hF.step;omega,hF.step.2⟩
 unfold zCV
 rw [hTL]
 have hT0:(zA1 s 0)=[]:=rfl
 clear hTL
 generalize truT s g=tt at *
 generalize zCc s g=tO at *
 generalize zFh s g=tA at *
 generalize zBd s g=sT at *
 unfold tuN tuE at hseq
 generalize zA1 s=tu at *
 generalize zCP s=ta at *
 generalize nG s=n at *
 clear hF
 obtain ⟨id,step,⟨g1,g2⟩,⟨o1,o2⟩,A,tr,c⟩:=s
 obtain ⟨lA,loads,lc,ad,ba,ji,uA,run,uc,kA,str,kc,spd,stm⟩:=g
 unfold zAW at hseq hH
 unfold vSc at *
 unfold vGr
 simp only at *
 (refine ze (n:=73) Tryz.func45 rfl rfl rfl ?_)
 (repeat' (first|((with_reducible refine zV ?_);first|refine zO rfl rfl rfl ?_|refine zD rfl rfl rfl ?_|(refine zQ rfl rfl rfl ?_;refine ⟨_,rfl,?_⟩)|refine zS rfl rfl rfl ?_|(refine zd rfl rfl rfl rfl rfl (fun h=>?_) (fun h=>?_)<;>(dsimp only [cmpP] at h;(try (exfalso;omega))))|(refine zAU rfl rfl rfl rfl (fun _ _ q=>hH _) ?_;rintro gT -;dsimp only [List.cons_append,List.nil_append])|refine zb rfl rfl rfl rfl (by omega) ?_|refine zm rfl rfl rfl rfl (IntWalk.i64_in _ (by omega)) ?_|refine zK rfl rfl rfl rfl rfl (by omega) ?_|refine zL rfl rfl rfl rfl rfl (by first|decide|omega) ?_|refine zj rfl rfl rfl ?_|(refine zg rfl rfl rfl rfl rfl ?_;refine ⟨rfl,by first|decide|exact Nat.le_of_ble_eq_true rfl|(simp;omega),_,rfl,?_⟩)|(refine zh rfl rfl (fun b=>?_))|(refine zl rfl rfl rfl rfl (fun b=>?_))|(refine zy rfl rfl rfl ?_;refine ⟨_,rfl,?_⟩)|(refine zR rfl rfl rfl ?_;refine ⟨rfl,_,rfl,fun b=>?_⟩))|(with_reducible first|refine zW ?_|refine zC ?_|refine zU ?_|refine zB ?_|refine zX ?_|refine zT ?_|refine zF ?_|refine zf ?_|refine zP ?_|refine zZ ?_|refine zY ?_|refine za ?_|refine zG ?_|refine zJ ?_|refine zBH ?_)|((with_reducible refine zE ?_ ?_);(· exact rfl))|((with_reducible refine zI ?_ ?_);(· exact rfl))|((with_reducible refine zH ?_ ?_);(· exact rfl))|(with_reducible refine zBG ?_)|(with_reducible refine zAh ?_)|(with_reducible refine zAi ?_)|(with_reducible refine zAj ?_)))
 rename_i bS bG
 obtain ⟨b5,hb5⟩:∃ y,y=b:=⟨_,rfl⟩
 subst hb5
 refine zAw zAf 4 119 ?_
 refine zGP ?_
 refine U.sub (R':=[(13,.func (.func 118) #[] #[.pointer (some ⟨gT,0,none⟩)]),(2,.pointer (some ⟨bS,0,none⟩)),(3,.pointer (some ⟨bG,0,none⟩)),(5,.pointer (some ⟨b5,0,none⟩))]) (by (repeat first|exact lK1|refine zp rfl ?_)) (Out.all _) ?_
 refine zC4 (ι:=Value × List zBK) (α:=Int × Sp) (gf:=118) (lb:=[.pointer (some ⟨gT,0,none⟩)]) (bs:=[]) (fun _=>[.blk gT [.int .i64 id,.int .i64 step,.int .i64 g1,.int .i64 g2,.int .i64 o1,.int .i64 o2,.slice A tr.length c]]) encTu (fun ys x=>∃ i,i<n∧ys=tu i∧ta i=some x) (fun ys=>ys=tu n) (fun ys st=>st.2=ys.flatMap tt) (fun st=>[.row zAf 4 119 st.1 st.2,.blk b5 [st.1],.blk bS [.int .i64 id,.int .i64 step,.int .i64 g1,.int .i64 g2,.int .i64 o1,.int .i64 o2,.slice A tr.length c],.blk bG [.slice lA loads.length lc,.int .i64 ad,.int .i64 ba,.int .i64 ji,.slice uA run.length uc,.slice kA str.length kc,.int .i64 spd,.bool stm]]) (.slice none 0 0,[]) rfl (by (repeat constructor)) rfl (fun _=>rfl) (by decide) (hseq gT) ?_ ?_
 rotate_left
 ·rintro bd ys ⟨v,xs⟩ hE hI
  simp only at hE hI
  subst hE hI
  simp only [List.cons_append,List.nil_append]
  (repeat' (first|((with_reducible refine zV ?_);first|refine zO rfl rfl rfl ?_|refine zD rfl rfl rfl ?_|(refine zQ rfl rfl rfl ?_;refine ⟨_,rfl,?_⟩)|refine zS rfl rfl rfl ?_|(refine zd rfl rfl rfl rfl rfl (fun h=>?_) (fun h=>?_)<;>(dsimp only [cmpP] at h;(try (exfalso;omega))))|refine zb rfl rfl rfl rfl (by omega) ?_|refine zm rfl rfl rfl rfl (IntWalk.i64_in _ (by omega)) ?_|refine zK rfl rfl rfl rfl rfl (by omega) ?_|refine zL rfl rfl rfl rfl rfl (by first|decide|omega) ?_|refine zj rfl rfl rfl ?_|(refine zg rfl rfl rfl rfl rfl ?_;refine ⟨rfl,by first|decide|exact Nat.le_of_ble_eq_true rfl|(simp;omega),_,rfl,?_⟩)|(refine zh rfl rfl (fun b=>?_))|(refine zl rfl rfl rfl rfl (fun b=>?_))|(refine zy rfl rfl rfl ?_;refine ⟨_,rfl,?_⟩)|(refine zR rfl rfl rfl ?_;refine ⟨rfl,_,rfl,fun b=>?_⟩))|(with_reducible first|refine zW ?_|refine zC ?_|refine zU ?_|refine zB ?_|refine zX ?_|refine zT ?_|refine zF ?_|refine zf ?_|refine zP ?_|refine zZ ?_|refine zY ?_|refine za ?_|refine zG ?_|refine zJ ?_|refine zBH ?_)|((with_reducible refine zE ?_ ?_);(· exact rfl))|((with_reducible refine zI ?_ ?_);(· exact rfl))|((with_reducible refine zH ?_ ?_);(· exact rfl))|(with_reducible refine zBG ?_)|(with_reducible refine zAh ?_)|(with_reducible refine zAi ?_)|(with_reducible refine zAj ?_)))
  refine zAp (xs:=(tu n).flatMap tt) (enc:=zAf) (by (repeat constructor)) ?_
  rintro A9 c9 rfl
  exact zEq (by (repeat constructor)) (by exact rTm rfl) (A9,c9) trivial rfl (fun _ h=>(h.zCe (xs:=(tu n).flatMap tt) (enc:=zAf) (by (repeat constructor))).sub (by (repeat constructor)))
 rintro ly ys x ⟨v,xs⟩ ⟨r1,r2,rfn,rtm,rps,ras,rbo,rde⟩ W HH hN hI hr hrp hW
 obtain ⟨i,hi,rfl,hxi⟩:=hN
 simp only at hr hrp hI
 subst hr hrp hI
 have hti:=hTi i hi x hxi
 obtain ⟨gn,lo,hi9⟩:=x
 simp only at hti
 simp only [encTu,zEo,List.cons_append,List.nil_append]
 (repeat' (first|((with_reducible refine zV ?_);first|refine zO rfl rfl rfl ?_|refine zD rfl rfl rfl ?_|(refine zQ rfl rfl rfl ?_;refine ⟨_,rfl,?_⟩)|refine zS rfl rfl rfl ?_|(refine zd rfl rfl rfl rfl rfl (fun h=>?_) (fun h=>?_)<;>(dsimp only [cmpP] at h;(try (exfalso;omega))))|refine zb rfl rfl rfl rfl (by omega) ?_|refine zm rfl rfl rfl rfl (IntWalk.i64_in _ (by omega)) ?_|refine zK rfl rfl rfl rfl rfl (by omega) ?_|refine zL rfl rfl rfl rfl rfl (by first|decide|omega) ?_|refine zj rfl rfl rfl ?_|(refine zg rfl rfl rfl rfl rfl ?_;refine ⟨rfl,by first|decide|exact Nat.le_of_ble_eq_true rfl|(simp;omega),_,rfl,?_⟩)|(refine zh rfl rfl (fun b=>?_))|(refine zl rfl rfl rfl rfl (fun b=>?_))|(refine zy rfl rfl rfl ?_;refine ⟨_,rfl,?_⟩)|(refine zR rfl rfl rfl ?_;refine ⟨rfl,_,rfl,fun b=>?_⟩))|(with_reducible first|refine zW ?_|refine zC ?_|refine zU ?_|refine zB ?_|refine zX ?_|refine zT ?_|refine zF ?_|refine zf ?_|refine zP ?_|refine zZ ?_|refine zY ?_|refine za ?_|refine zG ?_|refine zJ ?_|refine zBH ?_)|((with_reducible refine zE ?_ ?_);(· exact rfl))|((with_reducible refine zI ?_ ?_);(· exact rfl))|((with_reducible refine zH ?_ ?_);(· exact rfl))|(with_reducible refine zBG ?_)|(with_reducible refine zAh ?_)|(with_reducible refine zAi ?_)|(with_reducible refine zAj ?_)))
 refine zDs (by (repeat constructor)) rfl ?_
 (repeat' (first|((with_reducible refine zV ?_);first|refine zO rfl rfl rfl ?_|refine zD rfl rfl rfl ?_|(refine zQ rfl rfl rfl ?_;refine ⟨_,rfl,?_⟩)|refine zS rfl rfl rfl ?_|(refine zd rfl rfl rfl rfl rfl (fun h=>?_) (fun h=>?_)<;>(dsimp only [cmpP] at h;(try (exfalso;omega))))|refine zb rfl rfl rfl rfl (by omega) ?_|refine zm rfl rfl rfl rfl (IntWalk.i64_in _ (by omega)) ?_|refine zK rfl rfl rfl rfl rfl (by omega) ?_|refine zL rfl rfl rfl rfl rfl (by first|decide|omega) ?_|refine zj rfl rfl rfl ?_|(refine zg rfl rfl rfl rfl rfl ?_;refine ⟨rfl,by first|decide|exact Nat.le_of_ble_eq_true rfl|(simp;omega),_,rfl,?_⟩)|(refine zh rfl rfl (fun b=>?_))|(refine zl rfl rfl rfl rfl (fun b=>?_))|(refine zy rfl rfl rfl ?_;refine ⟨_,rfl,?_⟩)|(refine zR rfl rfl rfl ?_;refine ⟨rfl,_,rfl,fun b=>?_⟩))|(with_reducible first|refine zW ?_|refine zC ?_|refine zU ?_|refine zB ?_|refine zX ?_|refine zT ?_|refine zF ?_|refine zf ?_|refine zP ?_|refine zZ ?_|refine zY ?_|refine za ?_|refine zG ?_|refine zJ ?_|refine zBH ?_)|((with_reducible refine zE ?_ ?_);(· exact rfl))|((with_reducible refine zI ?_ ?_);(· exact rfl))|((with_reducible refine zH ?_ ?_);(· exact rfl))|(with_reducible refine zBG ?_)|(with_reducible refine zAh ?_)|(with_reducible refine zAi ?_)|(with_reducible refine zAj ?_)))
 obtain ⟨b6,hb6⟩:∃ y,y=b:=⟨_,rfl⟩
 subst hb6
 have htt:=hTT (gn,⟨lo,hi9⟩)
 have hOs:=hOs gn lo
 have hOl:=hOl gn lo
 have hTn:=hTn i (by omega)
 simp only at htt
 generalize hm:(hi9 - lo+1).toNat=m at *
 have hO0:=hO0 gn lo
 generalize hxs:(tu i).flatMap tt=xs at *
 generalize tO gn lo=tg at *
 have hm2:(m:Int)=hi9 - lo+1:=by omega
 refine zAC (ι:=Nat × Value × Int) [2,3,5,6] rfl (fun q=>q.1≤m∧q.2.2=lo+(q.1:Int)) (fun q=>[(7,.int .i64 q.2.2)]) (fun q=>[.row zAf 4 119 q.2.1 (xs++tg q.1),.blk b5 [q.2.1],.blk b6 [.int .i64 gn,.int .i64 lo,.int .i64 hi9],.blk bS [.int .i64 id,.int .i64 step,.int .i64 g1,.int .i64 g2,.int .i64 o1,.int .i64 o2,.slice A tr.length c],.blk bG [.slice lA loads.length lc,.int .i64 ad,.int .i64 ba,.int .i64 ji,.slice uA run.length uc,.slice kA str.length kc,.int .i64 spd,.bool stm],.blk gT [.int .i64 id,.int .i64 step,.int .i64 g1,.int .i64 g2,.int .i64 o1,.int .i64 o2,.slice A tr.length c],.lrec ly ⟨.busy,none,rfn,rtm,rps,ras,rbo,rde⟩,.dfr (rde::[]),.oldx W w.heap.size (feet HH)]) (fun q=>m - q.1) (0,v,lo) ⟨Nat.zero_le _,by simp⟩ (by (repeat first|exact lK1|refine zp rfl ?_)) (by rw [hO0,List.append_nil];(repeat constructor)) ?_
 rintro ⟨j,v,of⟩ ⟨hj,hof⟩
 simp only at hj hof
 simp only [zAm,List.cons_append,List.nil_append]
 by_cases hjm:j<m
 rotate_left
 ·obtain rfl:j=m:=by omega
  (repeat' (first|((with_reducible refine zV ?_);first|refine zO rfl rfl rfl ?_|refine zD rfl rfl rfl ?_|(refine zQ rfl rfl rfl ?_;refine ⟨_,rfl,?_⟩)|refine zS rfl rfl rfl ?_|(refine zd rfl rfl rfl rfl rfl (fun h=>?_) (fun h=>?_)<;>(dsimp only [cmpP] at h;(try (exfalso;omega))))|refine zb rfl rfl rfl rfl (by omega) ?_|refine zm rfl rfl rfl rfl (IntWalk.i64_in _ (by omega)) ?_|refine zK rfl rfl rfl rfl rfl (by omega) ?_|refine zL rfl rfl rfl rfl rfl (by first|decide|omega) ?_|refine zj rfl rfl rfl ?_|(refine zg rfl rfl rfl rfl rfl ?_;refine ⟨rfl,by first|decide|exact Nat.le_of_ble_eq_true rfl|(simp;omega),_,rfl,?_⟩)|(refine zh rfl rfl (fun b=>?_))|(refine zl rfl rfl rfl rfl (fun b=>?_))|(refine zy rfl rfl rfl ?_;refine ⟨_,rfl,?_⟩)|(refine zR rfl rfl rfl ?_;refine ⟨rfl,_,rfl,fun b=>?_⟩))|(with_reducible first|refine zW ?_|refine zC ?_|refine zU ?_|refine zB ?_|refine zX ?_|refine zT ?_|refine zF ?_|refine zf ?_|refine zP ?_|refine zZ ?_|refine zY ?_|refine za ?_|refine zG ?_|refine zJ ?_|refine zBH ?_)|((with_reducible refine zE ?_ ?_);(· exact rfl))|((with_reducible refine zI ?_ ?_);(· exact rfl))|((with_reducible refine zH ?_ ?_);(· exact rfl))|(with_reducible refine zBG ?_)|(with_reducible refine zAh ?_)|(with_reducible refine zAi ?_)|(with_reducible refine zAj ?_)))
  exact zC5 none (.inl ⟨rfl,rfl⟩) rfl (by (repeat constructor)) (v,xs++tg j) (by simp only [List.flatMap_append,List.flatMap_cons,List.flatMap_nil,List.append_nil,hxs,htt]) hW (fun _ h=>h.sub (by (repeat constructor)))
 have hOj:=hOs j
 rw [← hof,hAt] at hOj
 have hOlj:=hOl j
 have hS0:=hS0 gn of
 have hSs:=hSs gn of
 have hSn:=hSn gn of
 have hSi:=hSi gn of
 have hWw:=fun n W h=>hW2 gn of n W (by omega) (by omega) h
 generalize sT gn of=st at *
 (repeat' (first|((with_reducible refine zV ?_);first|refine zO rfl rfl rfl ?_|refine zD rfl rfl rfl ?_|(refine zQ rfl rfl rfl ?_;refine ⟨_,rfl,?_⟩)|refine zS rfl rfl rfl ?_|(refine zd rfl rfl rfl rfl rfl (fun h=>?_) (fun h=>?_)<;>(dsimp only [cmpP] at h;(try (exfalso;omega))))|(refine zGo rfl rfl rfl ?_;refine ⟨_,rfl,?_⟩)|refine zb rfl rfl rfl rfl (by omega) ?_|refine zm rfl rfl rfl rfl (IntWalk.i64_in _ (by omega)) ?_|refine zK rfl rfl rfl rfl rfl (by omega) ?_|refine zL rfl rfl rfl rfl rfl (by first|decide|omega) ?_|refine zj rfl rfl rfl ?_|(refine zg rfl rfl rfl rfl rfl ?_;refine ⟨rfl,by first|decide|exact Nat.le_of_ble_eq_true rfl|(simp;omega),_,rfl,?_⟩)|(refine zh rfl rfl (fun b=>?_))|(refine zl rfl rfl rfl rfl (fun b=>?_))|(refine zy rfl rfl rfl ?_;refine ⟨_,rfl,?_⟩)|(refine zR rfl rfl rfl ?_;refine ⟨rfl,_,rfl,fun b=>?_⟩))|(with_reducible first|refine zW ?_|refine zC ?_|refine zU ?_|refine zB ?_|refine zX ?_|refine zT ?_|refine zF ?_|refine zf ?_|refine zP ?_|refine zZ ?_|refine zY ?_|refine za ?_|refine zG ?_|refine zJ ?_|refine zBH ?_)|((with_reducible refine zE ?_ ?_);(· exact rfl))|((with_reducible refine zI ?_ ?_);(· exact rfl))|((with_reducible refine zH ?_ ?_);(· exact rfl))|(with_reducible refine zBG ?_)|(with_reducible refine zAh ?_)|(with_reducible refine zAi ?_)|(with_reducible refine zAj ?_)))
 obtain ⟨b8,hb8⟩:∃ y,y=b:=⟨_,rfl⟩
 subst hb8
 refine zAC (ι:=Nat × Sp) [2,3,5,6,7,8,31,32] rfl (fun q=>q.1≤loads.length∧st q.1=some q.2) (fun q=>[(33,.int .i64 (q.1:Int))]) (fun q=>[.blk b8 [.int .i64 gn,.int .i64 of,.int .i64 q.2.lo,.int .i64 q.2.hi],.row zAf 4 119 v (xs++tg j),.blk b5 [v],.blk b6 [.int .i64 gn,.int .i64 lo,.int .i64 hi9],.blk bS [.int .i64 id,.int .i64 step,.int .i64 g1,.int .i64 g2,.int .i64 o1,.int .i64 o2,.slice A tr.length c],.blk bG [.slice lA loads.length lc,.int .i64 ad,.int .i64 ba,.int .i64 ji,.slice uA run.length uc,.slice kA str.length kc,.int .i64 spd,.bool stm],.blk gT [.int .i64 id,.int .i64 step,.int .i64 g1,.int .i64 g2,.int .i64 o1,.int .i64 o2,.slice A tr.length c],.lrec ly ⟨.busy,none,rfn,rtm,rps,ras,rbo,rde⟩,.dfr (rde::[]),.oldx W w.heap.size (feet HH)]) (fun q=>loads.length - q.1) (0,⟨0,0⟩) ⟨Nat.zero_le _,hS0⟩ (by (repeat first|exact lK1|refine zp rfl ?_)) (by (repeat constructor)) ?_
 rintro ⟨k,a1,a2⟩ ⟨hk,hsk⟩
 simp only at hk hsk
 simp only [zAm,List.cons_append,List.nil_append]
 have hsi:=hSi k _ hsk
 simp only at hsi
 by_cases hkl:k<loads.length
 ·obtain ⟨x,hx⟩:∃ x,loads[k]?=some x:=⟨_,List.getElem?_eq_getElem hkl⟩
  have:zAZ loads k x:=⟨hx⟩
  obtain ⟨bL,oL,hLe,_,_⟩:=hg.at_ hkl
  subst hLe
  have:InS w bL oL zB9 2 loads:=⟨hg⟩
  have hss:=hSs k x hx
  have hxr:=hsh x (List.mem_of_getElem? hx)
  have hWx:=fun W=>hWw x.shown W hxr
  have hwi:=wg_in (step:=step) (t0:=gn) (t1:=of) (n:=x.shown)
  obtain ⟨xs9,xn⟩:=x
  simp only at hss hxr hWx hwi
  rw [hsk] at hss
  simp only [addW,Option.bind_some] at hss
  generalize wgI step gn of xn=wg at *
  obtain ⟨w1,w2⟩:=wg
  simp only at hss hwi hWx
  (repeat' (first|((with_reducible refine zV ?_);first|refine zO rfl rfl rfl ?_|refine zD rfl rfl rfl ?_|(refine zQ rfl rfl rfl ?_;refine ⟨_,rfl,?_⟩)|refine zS rfl rfl rfl ?_|(refine zd rfl rfl rfl rfl rfl (fun h=>?_) (fun h=>?_)<;>(dsimp only [cmpP] at h;(try (exfalso;omega))))|refine zK (I:=k) rfl rfl rfl rfl rfl (by omega) ?_|refine zn rfl rfl rfl rfl (fun _ _ q=>hWx _) ?_|refine zb rfl rfl rfl rfl (by omega) ?_|refine zm rfl rfl rfl rfl (IntWalk.i64_in _ (by omega)) ?_|refine zK rfl rfl rfl rfl rfl (by omega) ?_|refine zL rfl rfl rfl rfl rfl (by first|decide|omega) ?_|refine zj rfl rfl rfl ?_|(refine zg rfl rfl rfl rfl rfl ?_;refine ⟨rfl,by first|decide|exact Nat.le_of_ble_eq_true rfl|(simp;omega),_,rfl,?_⟩)|(refine zh rfl rfl (fun b=>?_))|(refine zl rfl rfl rfl rfl (fun b=>?_))|(refine zy rfl rfl rfl ?_;refine ⟨_,rfl,?_⟩)|(refine zR rfl rfl rfl ?_;refine ⟨rfl,_,rfl,fun b=>?_⟩))|(with_reducible first|refine zW ?_|refine zC ?_|refine zU ?_|refine zB ?_|refine zX ?_|refine zT ?_|refine zF ?_|refine zf ?_|refine zP ?_|refine zZ ?_|refine zY ?_|refine za ?_|refine zG ?_|refine zJ ?_|refine zBH ?_)|((with_reducible refine zE ?_ ?_);(· exact rfl))|((with_reducible refine zI ?_ ?_);(· exact rfl))|((with_reducible refine zH ?_ ?_);(· exact rfl))|(with_reducible refine zBG ?_)|(with_reducible refine zAh ?_)|(with_reducible refine zAi ?_)|(with_reducible refine zAj ?_)))
  ·have hdum:=hss
   rw [if_neg (by omega)] at hss
   exact z6 (ι:=Nat × Sp) (k+1,⟨a1,a2⟩) ⟨by simp only;omega,hss⟩ (by simp only;omega) (by (repeat first|exact lK1|refine zp rfl ?_)) (by (repeat constructor))
  ·have hid:xs9=id:=by omega
   rw [if_pos hid,if_pos (by omega)] at hss
   have hno:=hSn (k+1) (loads.length - (k+1)) hss
   rw [show k+1+(loads.length - (k+1))=loads.length by omega] at hno
   rw [hno] at hOj
   simp only [Option.map_none,Option.toList_none,List.append_nil] at hOj
   exact z6 (ι:=Nat × Value × Int) (j+1,v,of+1) ⟨by simp only;omega,by simp only;omega⟩ (by simp only;omega) (by (repeat first|exact lK1|refine zp rfl ?_)) (by rw [hOj];(repeat constructor))
  ·have hid:xs9=id:=by omega
   rw [if_pos hid,if_neg (by omega)] at hss
   exact z6 (ι:=Nat × Sp) (k+1,⟨a1+w1,a2+w2⟩) ⟨by simp only;omega,hss⟩ (by simp only;omega) (by (repeat first|exact lK1|refine zp rfl ?_)) (by (repeat constructor))
 ·obtain rfl:k=loads.length:=by omega
  rw [hsk] at hOj
  simp only [Option.map_some,Option.toList_some] at hOj
  (repeat' (first|((with_reducible refine zV ?_);first|refine zO rfl rfl rfl ?_|refine zD rfl rfl rfl ?_|(refine zQ rfl rfl rfl ?_;refine ⟨_,rfl,?_⟩)|refine zS rfl rfl rfl ?_|(refine zd rfl rfl rfl rfl rfl (fun h=>?_) (fun h=>?_)<;>(dsimp only [cmpP] at h;(try (exfalso;omega))))|(refine zBc (enc:=zAf) [⟨gn,of,⟨a1,a2⟩⟩] rfl rfl rfl (by (repeat constructor)) rfl rfl (zAO (enc:=zAf) (by exact rfl)) (by refine ⟨?_,by decide⟩;(try simp only [List.length_append,List.length_cons,List.length_nil]);omega) (fun A' c'=>?_))|refine zb rfl rfl rfl rfl (by omega) ?_|refine zm rfl rfl rfl rfl (IntWalk.i64_in _ (by omega)) ?_|refine zK rfl rfl rfl rfl rfl (by omega) ?_|refine zL rfl rfl rfl rfl rfl (by first|decide|omega) ?_|refine zj rfl rfl rfl ?_|(refine zg rfl rfl rfl rfl rfl ?_;refine ⟨rfl,by first|decide|exact Nat.le_of_ble_eq_true rfl|(simp;omega),_,rfl,?_⟩)|(refine zh rfl rfl (fun b=>?_))|(refine zl rfl rfl rfl rfl (fun b=>?_))|(refine zy rfl rfl rfl ?_;refine ⟨_,rfl,?_⟩)|(refine zR rfl rfl rfl ?_;refine ⟨rfl,_,rfl,fun b=>?_⟩))|(with_reducible first|refine zW ?_|refine zC ?_|refine zU ?_|refine zB ?_|refine zX ?_|refine zT ?_|refine zF ?_|refine zf ?_|refine zP ?_|refine zZ ?_|refine zY ?_|refine za ?_|refine zG ?_|refine zJ ?_|refine zBH ?_)|((with_reducible refine zE ?_ ?_);(· exact rfl))|((with_reducible refine zI ?_ ?_);(· exact rfl))|((with_reducible refine zH ?_ ?_);(· exact rfl))|(with_reducible refine zBG ?_)|(with_reducible refine zAh ?_)|(with_reducible refine zAi ?_)|(with_reducible refine zAj ?_)))
  exact z6 (ι:=Nat × Value × Int) (j+1,.slice A' (xs++tg j++[(⟨gn,of,⟨a1,a2⟩⟩:zBK)]).length c',of+1) ⟨by simp only;omega,by simp only;omega⟩ (by simp only;omega) (by (repeat first|exact lK1|refine zp rfl ?_)) (by rw [hOj,← List.append_assoc];(repeat constructor))
end Go.Proofs.YtcpdjamlhhfbhaaGreat.Two
