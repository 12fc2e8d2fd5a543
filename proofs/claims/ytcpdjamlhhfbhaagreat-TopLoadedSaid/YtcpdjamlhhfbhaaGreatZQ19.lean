/- ZQ19 -/
import Derived.Test.YtcpdjamlhhfbhaaGreatZQ18
import Derived.Test.YtcpdjamlhhfbhaaGreatZQ9
set_option linter.unusedSimpArgs false
set_option linter.unusedVariables false
namespace Go.Proofs.YtcpdjamlhhfbhaaGreat
theorem pairs_to {a b:List Sp} {i:Nat} {s:Sp} (h:a[i]?=some s):zAy (a.take (i+1)) b=zAy (a.take i) b++b.map fun t=>⟨s.lo+t.lo,s.hi+t.hi⟩:=by
 unfold zAy
 rw [List.take_add_one,h,List.flatMap_append]
 simp
theorem zFw {a b:List Sp}:(zAy a b).length=a.length * b.length:=by
 unfold zAy
 induction a with
 | nil=>simp
 | cons x r ih=>rw [List.flatMap_cons,List.length_append,ih,List.length_map,List.length_cons,Nat.succ_mul];omega
theorem pairs_in {a b:List Sp} {Ba Bb:Int} (ha:∀ s∈a,0≤s.lo∧s.lo≤s.hi∧s.hi≤Ba) (hb:∀ s∈b,0≤s.lo∧s.lo≤s.hi∧s.hi≤Bb):∀ u∈zAy a b,0≤u.lo∧u.lo≤u.hi∧u.hi≤Ba+Bb:=fun u hu=>by
 obtain ⟨s,hs,hu⟩:=List.mem_flatMap.1 hu
 obtain ⟨t,ht,rfl⟩:=List.mem_map.1 hu
 have:=ha s hs
 have:=hb t ht
 simp only;omega
namespace Two
variable {ro : Option Nat}
open Go.RowKit
set_option maxRecDepth 20000
theorem zGD (l:List zBK) (A:Option Addr) (c:Nat) (w:World) (hA:zAB zAf 4 w A l) (hl:l.length≤100000000000) (hbd:∀ x∈l,0≤x.sum.lo∧x.sum.lo≤x.sum.hi∧x.sum.hi≤500000000) :
  Ret Tryz.prog 47 [.slice A l.length c] w (fun z:(Option Addr × Nat) × List Sp=>.slice z.1.1 z.2.length z.1.2) (fun z=>[.sl zo 2 z.1.1 z.2]) (fun z=>zA4 z.2 (l.map zBe)):=by
 have hM:=fun W (hW:Below w.heap.size w W)=>cmergedT l A c W (hA.below hW) hl hbd
 (refine ze (n:=5) Tryz.func47 rfl rfl rfl ?_)
 (repeat' (first|((with_reducible refine zV ?_);first|refine zO rfl rfl rfl ?_|refine zD rfl rfl rfl ?_|(refine zAU rfl rfl rfl rfl (fun _ _ q=>hM _ q.below) ?_;rintro ⟨⟨A1,c1⟩,m⟩ hm;dsimp only [List.cons_append,List.nil_append]))|(with_reducible first|refine zW ?_|refine zC ?_|refine zU ?_|refine zB ?_|refine zX ?_|refine zT ?_|refine zF ?_|refine zf ?_)))
 exact zk (by exact rTm rfl) ((A1,c1),m) hm rfl (fun _ h=>h.sub (by (repeat constructor)))
set_option maxHeartbeats 4000000 in
theorem zGE (a m:List Sp) (A B:Option Addr) (ca cb:Nat) (w:World) (ha:zAB zo 2 w A a) (hb:zAB zo 2 w B m) (hla:a.length * m.length≤100000000000) (hla1:a.length≤100000000000) (hla2:m.length≤100000000000) (hba:∀ s∈a,0≤s.lo∧s.lo≤s.hi∧s.hi≤200000000) (hbb:∀ s∈m,0≤s.lo∧s.lo≤s.hi∧s.hi≤200000000) :
  Ret Tryz.prog 46 [.slice A a.length ca,.slice B m.length cb] w (fun z:(Option Addr × Nat) × List Sp=>.slice z.1.1 z.2.length z.1.2) (fun z=>[.sl zo 2 z.1.1 z.2]) (fun z=>zA4 z.2 (zAy a m)):=by
 have hpl:=zFw (a:=a) (b:=m)
 have hpi:=pairs_in hba hbb
 have hM:=fun A1 c1 W (h:zAB zo 2 W A1 (zAy a m))=>cmergedS (zAy a m) A1 c1 W h (by omega) (fun x hx=>by have:=hpi x hx;exact ⟨this.1,this.2.1,by have:=this.2.2;show x.hi≤_;omega⟩)
 have hid:(zAy a m).map itS=zAy a m:=by
  rw [show itS=id from rfl,List.map_id]
 rw [hid] at hM
 have hto:=fun i s (h:a[i]?=some s)=>pairs_to (b:=m) h
 have hlen:=fun i (h:i≤a.length)=>(show (zAy (a.take i) m).length=i * m.length from by rw [zFw,List.length_take,Nat.min_eq_left h])
 have hall:zAy (a.take a.length) m=zAy a m:=by rw [List.take_length]
 have hz:zAy (a.take 0) m=[]:=by simp [zAy]
 clear hid
 generalize zAy a m=ps at *
 have hto2:=fun i=>(show ∃ q,q=zAy (a.take i) m from ⟨_,rfl⟩)
 obtain ⟨pt,hpt⟩:∃ pt:Nat→List Sp,pt=fun i=>zAy (a.take i) m:=⟨_,rfl⟩
 have hto:∀ i s,a[i]?=some s→pt (i+1)=pt i++m.map fun t=>⟨s.lo+t.lo,s.hi+t.hi⟩:=by rw [hpt];exact hto
 have hlen:∀ i,i≤a.length→(pt i).length=i * m.length:=by rw [hpt];exact hlen
 have hall:pt a.length=ps:=by rw [hpt];exact hall
 have hz:pt 0=[]:=by rw [hpt];exact hz
 clear hpt hto2
 (refine ze (n:=40) Tryz.func46 rfl rfl rfl ?_)
 (repeat' (first|((with_reducible refine zV ?_);first|refine zO rfl rfl rfl ?_|refine zD rfl rfl rfl ?_|(refine zQ rfl rfl rfl ?_;refine ⟨_,rfl,?_⟩)|refine zS rfl rfl rfl ?_|(refine zd rfl rfl rfl rfl rfl (fun h=>?_) (fun h=>?_)<;>(dsimp only [cmpP] at h;(try (exfalso;omega))))|refine zb rfl rfl rfl rfl (by omega) ?_|refine zm rfl rfl rfl rfl (IntWalk.i64_in _ (by omega)) ?_|refine zK rfl rfl rfl rfl rfl (by omega) ?_|refine zL rfl rfl rfl rfl rfl (by first|decide|omega) ?_|refine zj rfl rfl rfl ?_|(refine zg rfl rfl rfl rfl rfl ?_;refine ⟨rfl,by first|decide|exact Nat.le_of_ble_eq_true rfl|(simp;omega),_,rfl,?_⟩)|(refine zh rfl rfl (fun b=>?_))|(refine zy rfl rfl rfl ?_;refine ⟨_,rfl,?_⟩)|(refine zR rfl rfl rfl ?_;refine ⟨rfl,_,rfl,fun b=>?_⟩))|(with_reducible first|refine zW ?_|refine zC ?_|refine zU ?_|refine zB ?_|refine zX ?_|refine zT ?_|refine zF ?_|refine zf ?_|refine zP ?_|refine zZ ?_|refine zY ?_|refine za ?_|refine zG ?_|refine zJ ?_)|((with_reducible refine zE ?_ ?_);(· exact rfl))|((with_reducible refine zI ?_ ?_);(· exact rfl))|((with_reducible refine zH ?_ ?_);(· exact rfl))))
 refine zAw zo 2 26 ?_
 refine zAC (ι:=Nat × Value) [1,10,11] rfl (fun q=>q.1≤a.length) (fun q=>[(5,q.2),(12,.int .i64 (q.1:Int))]) (fun q=>[.row zo 2 26 q.2 (pt q.1)]) (fun q=>a.length - q.1) (0,.slice none 0 0) (Nat.zero_le _) (by (repeat first|exact lK1|refine zp rfl ?_)) (by rw [hz];(repeat constructor)) ?_
 rintro ⟨i,v⟩ hi
 simp only at hi
 simp only [zAm,List.cons_append,List.nil_append]
 have hli:=hlen i hi
 by_cases hlt:i<a.length
 rotate_left
 ·obtain rfl:i=a.length:=by omega
  rw [hall]
  refine zAp (xs:=ps) (enc:=zo) (by (repeat constructor)) ?_
  rintro A1 c1 rfl
  refine zBx (fun _ h=>h.zCe (xs:=ps) (enc:=zo) (by (repeat constructor))) ?_
  (repeat' (first|((with_reducible refine zV ?_);first|refine zO rfl rfl rfl ?_|refine zD rfl rfl rfl ?_|(refine zQ rfl rfl rfl ?_;refine ⟨_,rfl,?_⟩)|refine zS rfl rfl rfl ?_|(refine zd rfl rfl rfl rfl rfl (fun h=>?_) (fun h=>?_)<;>(dsimp only [cmpP] at h;(try (exfalso;omega))))|(refine zAU rfl rfl rfl rfl (fun _ _ q=>hM _ _ _ (zDD q.own (Below.refl _ _))) ?_;rintro ⟨⟨A2,c2⟩,m2⟩ hm;dsimp only [List.cons_append,List.nil_append])|refine zb rfl rfl rfl rfl (by omega) ?_|refine zm rfl rfl rfl rfl (IntWalk.i64_in _ (by omega)) ?_|refine zK rfl rfl rfl rfl rfl (by omega) ?_|refine zL rfl rfl rfl rfl rfl (by first|decide|omega) ?_|refine zj rfl rfl rfl ?_|(refine zg rfl rfl rfl rfl rfl ?_;refine ⟨rfl,by first|decide|exact Nat.le_of_ble_eq_true rfl|(simp;omega),_,rfl,?_⟩)|(refine zh rfl rfl (fun b=>?_))|(refine zy rfl rfl rfl ?_;refine ⟨_,rfl,?_⟩)|(refine zR rfl rfl rfl ?_;refine ⟨rfl,_,rfl,fun b=>?_⟩))|(with_reducible first|refine zW ?_|refine zC ?_|refine zU ?_|refine zB ?_|refine zX ?_|refine zT ?_|refine zF ?_|refine zf ?_|refine zP ?_|refine zZ ?_|refine zY ?_|refine za ?_|refine zG ?_|refine zJ ?_)|((with_reducible refine zE ?_ ?_);(· exact rfl))|((with_reducible refine zI ?_ ?_);(· exact rfl))|((with_reducible refine zH ?_ ?_);(· exact rfl))))
  exact zk (by exact rTm rfl) ((A2,c2),m2) hm rfl (fun _ h=>h.sub (by (repeat constructor)))
 obtain ⟨x,hx⟩:∃ x,a[i]?=some x:=⟨_,List.getElem?_eq_getElem hlt⟩
 have:zAZ a i x:=⟨hx⟩
 obtain ⟨bA,oA,hAe,_,_⟩:=ha.at_ hlt
 subst hAe
 have:InS w bA oA zo 2 a:=⟨ha⟩
 have hs1:=hto i x hx
 have hxb:=hba x (List.mem_of_getElem? hx)
 have hmul:i * m.length+m.length≤a.length * m.length:=by
  rw [← Nat.succ_mul];exact Nat.mul_le_mul_right _ hlt
 generalize i * m.length=im at *
 generalize hpt1:pt (i+1)=pt1 at *
 generalize pt i=xs at *
 have hz2:(m.take 0).map (fun t=>(⟨x.lo+t.lo,x.hi+t.hi⟩:Sp))=[]:=by simp
 have hf2:(m.take m.length).map (fun t=>(⟨x.lo+t.lo,x.hi+t.hi⟩:Sp))=m.map fun t=>⟨x.lo+t.lo,x.hi+t.hi⟩:=by rw [List.take_length]
 have hl2:=fun j (h:j≤m.length)=>(show ((m.take j).map (fun t=>(⟨x.lo+t.lo,x.hi+t.hi⟩:Sp))).length=j from by rw [List.length_map,List.length_take];omega)
 have hs2:=fun j y (h:m[j]?=some y)=>(show (m.take (j+1)).map (fun t=>(⟨x.lo+t.lo,x.hi+t.hi⟩:Sp))=(m.take j).map (fun t=>(⟨x.lo+t.lo,x.hi+t.hi⟩:Sp))++[⟨x.lo+y.lo,x.hi+y.hi⟩] from by rw [List.take_add_one,h,List.map_append];rfl)
 obtain ⟨mt,hmt⟩:∃ mt:Nat→List Sp,mt=fun j=>(m.take j).map (fun t=>(⟨x.lo+t.lo,x.hi+t.hi⟩:Sp)):=⟨_,rfl⟩
 have hz2:mt 0=[]:=by rw [hmt];exact hz2
 have hf2:pt1=xs++mt m.length:=by rw [hmt];simp only [];rw [hf2];exact hs1
 have hl2:∀ j,j≤m.length→(mt j).length=j:=by rw [hmt];exact hl2
 have hs2:∀ j y,m[j]?=some y→mt (j+1)=mt j++[⟨x.lo+y.lo,x.hi+y.hi⟩]:=by rw [hmt];exact hs2
 clear hmt hs1
 (repeat' (first|((with_reducible refine zV ?_);first|refine zO rfl rfl rfl ?_|refine zD rfl rfl rfl ?_|(refine zQ rfl rfl rfl ?_;refine ⟨_,rfl,?_⟩)|refine zS rfl rfl rfl ?_|(refine zd rfl rfl rfl rfl rfl (fun h=>?_) (fun h=>?_)<;>(dsimp only [cmpP] at h;(try (exfalso;omega))))|refine zK (I:=i) rfl rfl rfl rfl rfl (by omega) ?_|refine zb rfl rfl rfl rfl (by omega) ?_|refine zm rfl rfl rfl rfl (IntWalk.i64_in _ (by omega)) ?_|refine zK rfl rfl rfl rfl rfl (by omega) ?_|refine zL rfl rfl rfl rfl rfl (by first|decide|omega) ?_|refine zj rfl rfl rfl ?_|(refine zg rfl rfl rfl rfl rfl ?_;refine ⟨rfl,by first|decide|exact Nat.le_of_ble_eq_true rfl|(simp;omega),_,rfl,?_⟩)|(refine zh rfl rfl (fun b=>?_))|(refine zy rfl rfl rfl ?_;refine ⟨_,rfl,?_⟩)|(refine zR rfl rfl rfl ?_;refine ⟨rfl,_,rfl,fun b=>?_⟩))|(with_reducible first|refine zW ?_|refine zC ?_|refine zU ?_|refine zB ?_|refine zX ?_|refine zT ?_|refine zF ?_|refine zf ?_|refine zP ?_|refine zZ ?_|refine zY ?_|refine za ?_|refine zG ?_|refine zJ ?_)|((with_reducible refine zE ?_ ?_);(· exact rfl))|((with_reducible refine zI ?_ ?_);(· exact rfl))|((with_reducible refine zH ?_ ?_);(· exact rfl))))
 obtain ⟨b7,hb7⟩:∃ y,y=b:=⟨_,rfl⟩
 subst hb7
 refine zAC (ι:=Nat × Value) [1,7,10,11,12,16,17] rfl (fun q=>q.1≤m.length) (fun q=>[(5,q.2),(18,.int .i64 (q.1:Int))]) (fun q=>[.row zo 2 26 q.2 (xs++mt q.1),.blk b7 (zo x)]) (fun q=>m.length - q.1) (0,v) (Nat.zero_le _) (by (repeat first|exact lK1|refine zp rfl ?_)) (by rw [hz2,List.append_nil];unfold zo;(repeat constructor)) ?_
 rintro ⟨j,v2⟩ hj
 simp only at hj
 simp only [zAm,List.cons_append,List.nil_append]
 have hlj:=hl2 j hj
 by_cases hjl:j<m.length
 ·obtain ⟨y,hy⟩:∃ y,m[j]?=some y:=⟨_,List.getElem?_eq_getElem hjl⟩
  have:zAZ m j y:=⟨hy⟩
  obtain ⟨bB,oB,hBe,_,_⟩:=hb.at_ hjl
  subst hBe
  have:InS w bB oB zo 2 m:=⟨hb⟩
  have hs3:=hs2 j y hy
  have hyb:=hbb y (List.mem_of_getElem? hy)
  (repeat' (first|((with_reducible refine zV ?_);first|refine zO rfl rfl rfl ?_|refine zD rfl rfl rfl ?_|(refine zQ rfl rfl rfl ?_;refine ⟨_,rfl,?_⟩)|refine zS rfl rfl rfl ?_|(refine zd rfl rfl rfl rfl rfl (fun h=>?_) (fun h=>?_)<;>(dsimp only [cmpP] at h;(try (exfalso;omega))))|refine zK (I:=j) rfl rfl rfl rfl rfl (by omega) ?_|(refine zB2 (enc:=zo) [⟨x.lo+y.lo,x.hi+y.hi⟩] rfl rfl rfl (by (repeat constructor)) rfl rfl (zAO (enc:=zo) (by exact rfl)) (by refine ⟨?_,by decide⟩;(try simp only [List.length_append,List.length_cons,List.length_nil]);omega) (fun A' c'=>?_))|refine zb rfl rfl rfl rfl (by omega) ?_|refine zm rfl rfl rfl rfl (IntWalk.i64_in _ (by omega)) ?_|refine zK rfl rfl rfl rfl rfl (by omega) ?_|refine zL rfl rfl rfl rfl rfl (by first|decide|omega) ?_|refine zj rfl rfl rfl ?_|(refine zg rfl rfl rfl rfl rfl ?_;refine ⟨rfl,by first|decide|exact Nat.le_of_ble_eq_true rfl|(simp;omega),_,rfl,?_⟩)|(refine zh rfl rfl (fun b=>?_))|(refine zy rfl rfl rfl ?_;refine ⟨_,rfl,?_⟩)|(refine zR rfl rfl rfl ?_;refine ⟨rfl,_,rfl,fun b=>?_⟩))|(with_reducible first|refine zW ?_|refine zC ?_|refine zU ?_|refine zB ?_|refine zX ?_|refine zT ?_|refine zF ?_|refine zf ?_|refine zP ?_|refine zZ ?_|refine zY ?_|refine za ?_|refine zG ?_|refine zJ ?_)|((with_reducible refine zE ?_ ?_);(· exact rfl))|((with_reducible refine zI ?_ ?_);(· exact rfl))|((with_reducible refine zH ?_ ?_);(· exact rfl))))
  exact z6 (ι:=Nat × Value) (j+1,.slice A' (xs++mt j++[(⟨x.lo+y.lo,x.hi+y.hi⟩:Sp)]).length c') (by simp only;omega) (by simp only;omega) (by (repeat first|exact lK1|refine zp rfl ?_)) (by rw [hs3,← List.append_assoc];(repeat constructor))
 ·obtain rfl:j=m.length:=by omega
  rw [← hf2]
  (repeat' (first|((with_reducible refine zV ?_);first|refine zO rfl rfl rfl ?_|refine zD rfl rfl rfl ?_|(refine zQ rfl rfl rfl ?_;refine ⟨_,rfl,?_⟩)|refine zS rfl rfl rfl ?_|(refine zd rfl rfl rfl rfl rfl (fun h=>?_) (fun h=>?_)<;>(dsimp only [cmpP] at h;(try (exfalso;omega))))|refine zb rfl rfl rfl rfl (by omega) ?_|refine zm rfl rfl rfl rfl (IntWalk.i64_in _ (by omega)) ?_|refine zK rfl rfl rfl rfl rfl (by omega) ?_|refine zL rfl rfl rfl rfl rfl (by first|decide|omega) ?_|refine zj rfl rfl rfl ?_|(refine zg rfl rfl rfl rfl rfl ?_;refine ⟨rfl,by first|decide|exact Nat.le_of_ble_eq_true rfl|(simp;omega),_,rfl,?_⟩)|(refine zh rfl rfl (fun b=>?_))|(refine zy rfl rfl rfl ?_;refine ⟨_,rfl,?_⟩)|(refine zR rfl rfl rfl ?_;refine ⟨rfl,_,rfl,fun b=>?_⟩))|(with_reducible first|refine zW ?_|refine zC ?_|refine zU ?_|refine zB ?_|refine zX ?_|refine zT ?_|refine zF ?_|refine zf ?_|refine zP ?_|refine zZ ?_|refine zY ?_|refine za ?_|refine zG ?_|refine zJ ?_)|((with_reducible refine zE ?_ ?_);(· exact rfl))|((with_reducible refine zI ?_ ?_);(· exact rfl))|((with_reducible refine zH ?_ ?_);(· exact rfl))))
  exact z6 (ι:=Nat × Value) (i+1,v2) (by simp only;omega) (by simp only;omega) (by (repeat first|exact lK1|refine zp rfl ?_)) (by rw [hpt1];(repeat constructor))
end Two
end Go.Proofs.YtcpdjamlhhfbhaaGreat
namespace Go.Proofs.YtcpdjamlhhfbhaaGreat
theorem zGG {L:List Sp} {B:Int} (hc:zBJ L) (hb:∀ s∈L,0≤s.lo∧s.hi≤B):∀ (i:Nat) (s:Sp),L[i]?=some s→2 * (i:Int)≤s.lo
 | 0,s,h=>by have:=hb s (List.mem_of_getElem? h);simp;omega
 | i+1,s,h=>by
  obtain ⟨t,ht⟩:∃ t,L[i]?=some t:=⟨_,List.getElem?_eq_getElem (by have:=(List.getElem?_eq_some_iff.1 h).1;omega)⟩
  have ih:=zGG hc hb i t ht
  have ho:=hc.ord t (List.mem_of_getElem? ht)
  have hg:=List.pairwise_iff_getElem.1 hc.gap i (i+1) (List.getElem?_eq_some_iff.1 ht).1 (List.getElem?_eq_some_iff.1 h).1 (by omega)
  rw [(List.getElem?_eq_some_iff.1 ht).2,(List.getElem?_eq_some_iff.1 h).2] at hg
  omega
theorem zCU {L:List Sp} {B:Int} (hc:zBJ L) (hB:0≤B) (hb:∀ s∈L,0≤s.lo∧s.hi≤B):2 * (L.length:Int)≤B+2:=by
 rcases Nat.eq_zero_or_pos L.length with h|h
 ·rw [h];simp;omega
 ·obtain ⟨s,hs⟩:∃ s,L[L.length - 1]?=some s:=⟨_,List.getElem?_eq_getElem (by omega)⟩
  have h1:=zGG hc hb _ s hs
  have h2:=hc.ord s (List.mem_of_getElem? hs)
  have h3:=hb s (List.mem_of_getElem? hs)
  omega
structure zDJ (z a b:List Sp):Prop where
 canon:zBJ z
 mem:∀ n,zAn z n↔∃ x y,zAn a x∧zAn b y∧n=x+y
theorem zBJ.bd {z:List Sp} {B:Int} (hc:zBJ z) (hm:∀ n,zAn z n→0≤n∧n≤B):∀ s∈z,0≤s.lo∧s.lo≤s.hi∧s.hi≤B:=fun s hs=>by
 have h1:=hc.ord s hs
 have h2:=hm s.lo ⟨s,hs,Int.le_refl _,h1⟩
 have h3:=hm s.hi ⟨s,hs,h1,Int.le_refl _⟩
 omega
theorem zGc {L:List Sp} {B:Int} (h:∀ s∈L,0≤s.lo∧s.lo≤s.hi∧s.hi≤B) {n:Int} (hn:zAn L n):0≤n∧n≤B:=by
 obtain ⟨s,hs,h1,h2⟩:=hn
 have:=h s hs
 omega
theorem Two.zA4.bd {z L:List Sp} {B:Int} (h:Two.zA4 z L) (hL:∀ s∈L,0≤s.lo∧s.lo≤s.hi∧s.hi≤B):∀ s∈z,0≤s.lo∧s.lo≤s.hi∧s.hi≤B :=
 h.canon.bd fun n hn=>zGc hL ((h.mem n).1 hn)
instance ctb_sp : Ctb Sp:=zGi (α:=Int × Int) (fun p=>⟨p.1,p.2⟩) fun z=>⟨(z.lo,z.hi),rfl⟩
theorem zDu {s:ScM} (hF:ScF s) {g:GrM}:(zC6 s g).length≤4221:=by
 have h1:=zGu hF (g:=g) (Nat.le_refl (nG s))
 have h2:=nG_le hF
 unfold zC6
 omega
def zCZ (s:ScM) (g:GrM):List Sp:=(zC6 s g).map Two.zBe
theorem zEr {s:ScM} (hF:ScF s) {g:GrM} (hl:g.loads.length≤6):∀ u∈zCZ s g,0≤u.lo∧u.lo≤u.hi∧u.hi≤6000000:=fun u hu=>by
 obtain ⟨t,ht,rfl⟩:=List.mem_map.1 hu
 have:=zDt hF ht
 show 0≤t.sum.lo∧t.sum.lo≤t.sum.hi∧t.sum.hi≤6000000
 omega
namespace Two
variable {ro : Option Nat}
open Go.RowKit
set_option maxRecDepth 20000
theorem cplus_of (a m L:List Sp) (A B:Option Addr) (ca cb:Nat) (w:World) (ha:zAB zo 2 w A a) (hb:zAB zo 2 w B m) (hc:zBJ a) (hba:∀ s∈a,0≤s.lo∧s.lo≤s.hi∧s.hi≤25000000) (hL:∀ s∈L,0≤s.lo∧s.lo≤s.hi∧s.hi≤6000000) (hLl:L.length≤4221) (hm:zA4 m L) :
  Ret Tryz.prog 46 [.slice A a.length ca,.slice B m.length cb] w (fun z:(Option Addr × Nat) × List Sp=>.slice z.1.1 z.2.length z.1.2) (fun z=>[.sl zo 2 z.1.1 z.2]) (fun z=>zDJ z.2 a L):=by
 have h1:=zCU hc (B:=25000000) (by omega) (fun s hs=>⟨(hba s hs).1,(hba s hs).2.2⟩)
 have h2:=hm.len
 have h3:a.length * m.length≤12500001 * 4221:=Nat.mul_le_mul (by omega) (by omega)
 have hmb:=hm.bd hL
 have hP:=zGE a m A B ca cb w ha hb (by omega) (by omega) (by omega) (fun s hs=>by have:=hba s hs;omega) (fun s hs=>by have:=hmb s hs;omega)
 have key:∀ z,zA4 z (zAy a m)→zDJ z a L:=fun z hz=>⟨hz.canon,fun n=>by
  rw [hz.mem n,zF1 (fun s hs=>(hba s hs).2.1) (fun s hs=>(hmb s hs).2.1)]
  constructor
  ·rintro ⟨x,y,h4,h5,h6⟩;exact ⟨x,y,h4,(hm.mem y).1 h5,h6⟩
  ·rintro ⟨x,y,h4,h5,h6⟩;exact ⟨x,y,h4,(hm.mem y).2 h5,h6⟩⟩
 unfold Ret at *
 exact hP.mono fun e w' ⟨z,hz,h⟩=>⟨z,key _ hz,h⟩
set_option maxHeartbeats 4000000 in
theorem zIv (s:ScM) (g:GrM) (a:List Sp) (A:Option Addr) (ca b5 b3:Nat) (W wb:World) (hF:ScF s) (ht:zAB zBz 2 wb s.tA s.tr) (hg:zAB zB9 2 wb g.lA g.loads) (hl:g.loads.length≤6) (hsh:∀ l∈g.loads,-2000000≤l.shown∧l.shown≤2000000) (hc:zBJ a) (hba:∀ s∈a,0≤s.lo∧s.lo≤s.hi∧s.hi≤25000000)
  (hwb:Below wb.heap.size wb W) (hO:Own wb.heap.size W [.blk b5 [.slice A a.length ca],.sl zo 2 A a,.blk b3 (zB0 g)]) :
  zC2 Tryz.prog 72 [vSc s,.pointer (some ⟨b5,0,none⟩),.pointer (some ⟨b3,0,none⟩)] W [.blk b5 [.slice A a.length ca],.sl zo 2 A a,.blk b3 (zB0 g)] (fun _:(Option Addr × Nat) × List Sp=>.tuple #[]) (fun z=>[.blk b5 [.slice z.1.1 z.2.length z.1.2],.sl zo 2 z.1.1 z.2,.blk b3 (zB0 g)]) (fun z=>zDJ z.2 a (zCZ s g)):=by
 have hTr:=fun W (hW:Below wb.heap.size wb W)=>zEi s g W hF (ht.below hW) (hg.below hW) hl hsh
 have hlen:=zDu hF (g:=g)
 have hmem:=fun t h=>zDt hF (g:=g) (t:=t) h
 have hSu:=fun A1 c1 W h=>zGD (zC6 s g) A1 c1 W h (by omega) (fun x hx=>by have:=hmem x hx;omega)
 have hPl:=fun m A1 c1 W h1 h2 (h3:zA4 m ((zC6 s g).map zBe))=>cplus_of a m (zCZ s g) A A1 ca c1 W h1 h2 hc hba (zEr hF hl) (by unfold zCZ;rw [List.length_map];exact hlen) h3
 unfold zCV at hTr
 clear ht hg hsh hmem
 generalize zCZ s g=sS at *
 generalize zC6 s g=tL at *
 obtain ⟨id,step,⟨g1,g2⟩,⟨o1,o2⟩,sA,tr,c⟩:=s
 obtain ⟨lA,loads,lc,ad,ba,ji,uA,run,uc,kA,str,kc,spd,stm⟩:=g
 unfold vSc vGr at *
 unfold zB0 at *
 simp only at *
 refine zBi (n:=10) hwb hO Tryz.func72 rfl rfl rfl ?_
 simp only [List.cons_append,List.nil_append]
 (repeat' (first|((with_reducible refine zV ?_);first|(refine zQ rfl rfl rfl ?_;refine ⟨_,rfl,?_⟩)|(refine zg rfl rfl rfl rfl rfl ?_;refine ⟨rfl,by first|decide|exact Nat.le_of_ble_eq_true rfl|(simp;omega),_,rfl,?_⟩)|(refine zl rfl rfl rfl rfl (fun b=>?_)))|(with_reducible first|refine zW ?_|refine zC ?_|refine zU ?_|refine zB ?_|refine zX ?_|refine zT ?_|refine zF ?_|refine zf ?_)))
 (refine zA9 [] [] [] rfl (show ([]:List Nat).Nodup by decide) (fun _ h=>h) (by kernel_rfl) [[],[Y],[Y,Y],[Z,Z,Y],[Z,Z,Z,Y],[Z,Z,Z,Z,Z],[Z,Z,Z,Z,Z,Z]] (by kernel_rfl) (by kernel_rfl) (by kernel_rfl) (by kernel_rfl) (by kernel_rfl) ?_)
 (repeat' (first|(((with_reducible refine zDU ?_ ?_);(· exact rfl);refine ⟨_,fun G=>(by (try simp (decide:=true) only [vis,see,fltT,zAV,Nat.reduceAdd,Nat.reduceSub,if_true,if_false,List.set_cons_zero,List.set_cons_succ,List.set_nil,List.nil_append,List.cons_append]);rfl),?_⟩);first|refine zw _ (fun _=>zAF rfl rfl (by exact rfl)) (fun _=>rfl) rfl (by intro G G' h;simp (decide:=true) only [h]) ?_|(refine zER (α:=Option Addr × Nat) rfl (fun _=>rfl) rfl (fun _=>rfl) (fun _=>rfl) (fun _ _ _ q=>hTr _ q.below) ?_)|(refine zER (α:=(Option Addr × Nat) × List Sp) rfl (fun _=>rfl) rfl (fun _=>rfl) (fun _=>rfl) (fun _ _ _ q=>hSu _ _ _ (zDD q.own (Below.refl _ _))) ?_)|(refine zER (α:=(Option Addr × Nat) × List Sp) rfl (fun _=>rfl) rfl (fun _=>rfl) (fun _=>rfl) (fun _ _ _ q=>hPl _ _ _ _ (zDD q.own (Below.refl _ _)) (zDD q.own (Below.refl _ _)) (zHK q.own (by (repeat constructor)))) ?_))|((with_reducible refine zBk ?_ ?_);(· exact rfl))|(with_reducible refine zCb ?_)))
 (intro G;simp only [regsT,zAV,zBY,ini,List.nil_append,List.cons_append])
 try simp only [Nat.reduceAdd]
 generalize (deC ((Option Addr × Nat) × List Sp) (G 5).g)=Z
 generalize (deC ((Option Addr × Nat) × List Sp) (G 4).g)=Z4
 generalize (deC (Option Addr × Nat) (G 3).g)=Z3
 obtain ⟨⟨ZA,zc⟩,zs⟩:=Z
 simp only
 refine zIH (by (repeat constructor)) fun hp=>?_
 (repeat' (first|((with_reducible refine zV ?_);first|(refine zQ rfl rfl rfl ?_;refine ⟨_,rfl,?_⟩)|(refine zg rfl rfl rfl rfl rfl ?_;refine ⟨rfl,by first|decide|exact Nat.le_of_ble_eq_true rfl|(simp;omega),_,rfl,?_⟩)|(refine zl rfl rfl rfl rfl (fun b=>?_)))|(with_reducible first|refine zW ?_|refine zC ?_|refine zU ?_|refine zB ?_|refine zX ?_|refine zT ?_|refine zF ?_|refine zf ?_)))
 refine zEz ?_
 exact zCq (vs:=[]) zAX.nil ((ZA,zc),zs) hp rfl hwb (fun _ h=>h.sub (by (repeat constructor)))
end Two
end Go.Proofs.YtcpdjamlhhfbhaaGreat
namespace Go.Proofs.YtcpdjamlhhfbhaaGreat
def zBy (added:Int) (Ls:List (List Sp)):Nat→Int→Prop
 | 0,n=>n=added
 | i+1,n=>∃ x y,zBy added Ls i x∧zAn (Ls.getD i []) y∧n=x+y
def zAx (scs:List ScM) (g:GrM):List (List Sp):=(Two.zAb scs g).map fun s=>zCZ s g
theorem zDA {scs:List ScM} {g:GrM} {i:Nat} {s:ScM} (h:(Two.zAb scs g)[i]?=some s):(zAx scs g).getD i []=zCZ s g:=by
 unfold zAx
 rw [List.getD_eq_getElem?_getD,List.getElem?_map,h];rfl
theorem zGT {scs:List ScM} {g:GrM} (hs:∀ s∈Two.zAb scs g,ScF s) (hl:g.loads.length≤6) (ha:0≤g.added∧g.added≤1000000):∀ (i:Nat),i≤(Two.zAb scs g).length→∀ n,zBy g.added (zAx scs g) i n→0≤n∧n≤1000000+6000000 * (i:Int)
 | 0,_,n,h=>by simp only [zBy] at h;subst h;simp;omega
 | i+1,hi,n,h=>by
  obtain ⟨x,y,h1,h2,rfl⟩:=h
  have ih:=zGT hs hl ha i (by omega) x h1
  obtain ⟨s,hx⟩:∃ s,(Two.zAb scs g)[i]?=some s:=⟨_,List.getElem?_eq_getElem (by omega)⟩
  rw [zDA hx] at h2
  have:=zGc (zEr (hs s (List.mem_of_getElem? hx)) hl) h2
  omega
theorem zEx {scs:List ScM} {g:GrM} (hB:zC3 scs):(Two.zAb scs g).length≤4:=Nat.le_trans (List.length_filter_le _ _) hB.len
theorem zDo {scs:List ScM} {g:GrM} {s:ScM} (h:s∈Two.zAb scs g):s∈scs:=(List.mem_filter.1 h).1
theorem zE6 {scs:List ScM} {g:GrM} (hG:GrF scs g):∀ l∈g.loads,-2000000≤l.shown∧l.shown≤2000000:=fun l hl=>by
 obtain ⟨k,s,_,_,h⟩:=hG.ok l hl
 unfold zBb at h
 simp only [Bool.and_eq_true,zAu] at h
 exact h.1
namespace Two
variable {ro : Option Nat}
open Go.RowKit
set_option maxRecDepth 20000
set_option maxHeartbeats 4000000 in
theorem zEj (scs:List ScM) (A:Option Addr) (c hh m:Nat) (g:GrM) (w:World) (h:zCX w A scs) (hH:zCW w A c scs hh m) (hg:zDm w g) (hB:zC3 scs) (hG:GrF scs g) :
  Ret Tryz.prog 39 [.pointer (some ⟨hh,0,none⟩),vGr g] w (fun z:(Option Addr × Nat) × List Sp=>.slice z.1.1 z.2.length z.1.2) (fun z=>[.sl zo 2 z.1.1 z.2]) (fun z=>zBJ z.2∧∀ n,zAn z.2 n↔zBy g.added (zAx scs g) (zAb scs g).length n):=by
 have hU:=fun W (hW:Below w.heap.size w W)=>zGC scs A c hh m g W (h.below hW) (hH.below hW) (hg.below hW) hB hG
 have hul:=zEx (g:=g) hB
 have hum:=fun s hs=>zDo (scs:=scs) (g:=g) (s:=s) hs
 have hsF:=fun s hs=>zCd.1 (hB.ok s (hum s hs))
 have hat:=fun i s hs=>zDA (scs:=scs) (g:=g) (i:=i) (s:=s) hs
 have hadd:=zAu.1 hG.bare.added
 have hbd:=zGT hsF hG.len hadd
 have hT0:∀ n,zBy g.added (zAx scs g) 0 n↔n=g.added:=fun n=>Iff.rfl
 have hTs:∀ i n,zBy g.added (zAx scs g) (i+1) n↔∃ x y,zBy g.added (zAx scs g) i x∧zAn ((zAx scs g).getD i []) y∧n=x+y:=fun i n=>Iff.rfl
 have h1:=fun (s:ScM) (hs:s∈zAb scs g) (a:List Sp) (A1:Option Addr) ca b5 b3 W hW hc hba hO=>zIv s g a A1 ca b5 b3 W w (hsF s hs) (h.tr s (hum s hs)) hg.loads hG.len (zE6 hG) hc hba hW hO
 clear hum hsF
 generalize zBy g.added (zAx scs g)=tT at *
 generalize zAx scs g=Ls at *
 generalize zAb scs g=us at *
 have hadd2:∃ ad,ad=g.added:=⟨_,rfl⟩
 clear h hH hg hB hG
 obtain ⟨lA,loads,lc,ad,ba,ji,uA,run,uc,kA,str,kc,spd,stm⟩:=g
 unfold vGr at hU
 unfold zB0 at h1
 unfold vGr
 simp only at *
 (refine ze (n:=29) Tryz.func39 rfl rfl rfl ?_)
 (repeat' (first|((with_reducible refine zV ?_);first|refine zO rfl rfl rfl ?_|refine zD rfl rfl rfl ?_|(refine zQ rfl rfl rfl ?_;refine ⟨_,rfl,?_⟩)|refine zS rfl rfl rfl ?_|(refine zd rfl rfl rfl rfl rfl (fun h=>?_) (fun h=>?_)<;>(dsimp only [cmpP] at h;(try (exfalso;omega))))|refine zDM rfl rfl rfl rfl (fun _ _ q=>hU _ q.below) (fun A' c'=>?_)|refine zb rfl rfl rfl rfl (by omega) ?_|refine zm rfl rfl rfl rfl (IntWalk.i64_in _ (by omega)) ?_|refine zK rfl rfl rfl rfl rfl (by omega) ?_|refine zL rfl rfl rfl rfl rfl (by first|decide|omega) ?_|refine zj rfl rfl rfl ?_|(refine zg rfl rfl rfl rfl rfl ?_;refine ⟨rfl,by first|decide|exact Nat.le_of_ble_eq_true rfl|(simp;omega),_,rfl,?_⟩)|(refine zh rfl rfl (fun b=>?_))|(refine zl rfl rfl rfl rfl (fun b=>?_))|(refine zy rfl rfl rfl ?_;refine ⟨_,rfl,?_⟩)|(refine zR rfl rfl rfl ?_;refine ⟨rfl,_,rfl,fun b=>?_⟩)|refine zz rfl rfl rfl rfl ?_)|(with_reducible first|refine zW ?_|refine zC ?_|refine zU ?_|refine zB ?_|refine zX ?_|refine zT ?_|refine zF ?_|refine zf ?_|refine zP ?_|refine zZ ?_|refine zY ?_|refine za ?_|refine zG ?_|refine zJ ?_)|((with_reducible refine zE ?_ ?_);(· exact rfl))|((with_reducible refine zI ?_ ?_);(· exact rfl))|((with_reducible refine zH ?_ ?_);(· exact rfl))))
 rename_i b3 b14
 obtain ⟨b5,hb5⟩:∃ y,y=b:=⟨_,rfl⟩
 subst hb5
 obtain ⟨uA9,huA9⟩:∃ y,y=A':=⟨_,rfl⟩
 obtain ⟨uc9,huc9⟩:∃ y,y=c':=⟨_,rfl⟩
 subst huA9 huc9
 refine zBx (fun _ h=>Own.blk_sl (enc:=zo) (xs:=[⟨ad,ad⟩]) (b:=b14) (by (repeat constructor)) h) ?_
 refine zAC (ι:=Nat × (Option Addr × Nat) × List Sp) [6,18,19] rfl (fun q=>q.1≤us.length∧zBJ q.2.2∧∀ n,zAn q.2.2 n↔tT q.1 n) (fun q=>[(5,.pointer (some ⟨b5,0,none⟩)),(20,.int .i64 (q.1:Int))]) (fun q=>[.blk b5 [.slice q.2.1.1 q.2.2.length q.2.1.2],.sl zo 2 q.2.1.1 q.2.2,.blk b3 [.slice lA loads.length lc,.int .i64 ad,.int .i64 ba,.int .i64 ji,.slice uA run.length uc,.slice kA str.length kc,.int .i64 spd,.bool stm],.sl zAW 7 uA9 us]) (fun q=>us.length - q.1) (0,(some ⟨b14,0,none⟩,1),[⟨ad,ad⟩]) ⟨Nat.zero_le _,⟨by simp,by simp⟩,fun n=>by rw [hT0];simp [zAn];omega⟩ (by (repeat first|exact lK1|refine zp rfl ?_)) (by (repeat constructor)) ?_
 rintro ⟨i,⟨a1,a2⟩,al⟩ ⟨hi,hcan,hmem⟩
 simp only at hi hcan hmem
 simp only [zAm,List.cons_append,List.nil_append]
 by_cases hlt:i<us.length
 rotate_left
 ·obtain rfl:i=us.length:=by omega
  (repeat' (first|((with_reducible refine zV ?_);first|refine zO rfl rfl rfl ?_|refine zD rfl rfl rfl ?_|(refine zQ rfl rfl rfl ?_;refine ⟨_,rfl,?_⟩)|refine zS rfl rfl rfl ?_|(refine zd rfl rfl rfl rfl rfl (fun h=>?_) (fun h=>?_)<;>(dsimp only [cmpP] at h;(try (exfalso;omega))))|refine zb rfl rfl rfl rfl (by omega) ?_|refine zm rfl rfl rfl rfl (IntWalk.i64_in _ (by omega)) ?_|refine zK rfl rfl rfl rfl rfl (by omega) ?_|refine zL rfl rfl rfl rfl rfl (by first|decide|omega) ?_|refine zj rfl rfl rfl ?_|(refine zg rfl rfl rfl rfl rfl ?_;refine ⟨rfl,by first|decide|exact Nat.le_of_ble_eq_true rfl|(simp;omega),_,rfl,?_⟩)|(refine zh rfl rfl (fun b=>?_))|(refine zl rfl rfl rfl rfl (fun b=>?_))|(refine zy rfl rfl rfl ?_;refine ⟨_,rfl,?_⟩)|(refine zR rfl rfl rfl ?_;refine ⟨rfl,_,rfl,fun b=>?_⟩)|refine zz rfl rfl rfl rfl ?_)|(with_reducible first|refine zW ?_|refine zC ?_|refine zU ?_|refine zB ?_|refine zX ?_|refine zT ?_|refine zF ?_|refine zf ?_|refine zP ?_|refine zZ ?_|refine zY ?_|refine za ?_|refine zG ?_|refine zJ ?_)|((with_reducible refine zE ?_ ?_);(· exact rfl))|((with_reducible refine zI ?_ ?_);(· exact rfl))|((with_reducible refine zH ?_ ?_);(· exact rfl))))
  exact zk (by exact rTm rfl) ((a1,a2),al) ⟨hcan,hmem⟩ rfl (fun _ h=>h.sub (by (repeat constructor)))
 obtain ⟨x,hx⟩:∃ x,us[i]?=some x:=⟨_,List.getElem?_eq_getElem hlt⟩
 have:zAZ us i x:=⟨hx⟩
 have hxm:=List.mem_of_getElem? hx
 have hLi:=hat i x hx
 have hbi:=hbd i hi
 have hbal:∀ s∈al,0≤s.lo∧s.lo≤s.hi∧s.hi≤25000000:=hcan.bd fun n hn=>by
  have:=hbi n ((hmem n).1 hn);omega
 have h1x:=fun W hW hO=>h1 x hxm al a1 a2 b5 b3 W hW hcan hbal hO
 have hnext:∀ z,zDJ z al (zCZ x ⟨lA,loads,lc,ad,ba,ji,uA,run,uc,kA,str,kc,spd,stm⟩)→zBJ z∧∀ n,zAn z n↔tT (i+1) n:=fun z hz=>⟨hz.canon,fun n=>by
  rw [hz.mem n,hTs,hLi]
  constructor
  ·rintro ⟨x,y,q1,q2,q3⟩;exact ⟨x,y,(hmem x).1 q1,q2,q3⟩
  ·rintro ⟨x,y,q1,q2,q3⟩;exact ⟨x,y,(hmem x).2 q1,q2,q3⟩⟩
 generalize zCZ x ⟨lA,loads,lc,ad,ba,ji,uA,run,uc,kA,str,kc,spd,stm⟩=sx at *
 clear hLi hbi
 obtain ⟨xi,xst,⟨xg1,xg2⟩,⟨xo1,xo2⟩,xA,xt,xc⟩:=x
 unfold vSc at h1x
 simp only at h1x
 refine zAo (enc:=zAW) (xs:=us) (by (repeat constructor)) (by omega) (fun bl ol hLA=>?_)
 subst hLA
 (repeat' (first|((with_reducible refine zV ?_);first|refine zO rfl rfl rfl ?_|refine zD rfl rfl rfl ?_|(refine zQ rfl rfl rfl ?_;refine ⟨_,rfl,?_⟩)|refine zS rfl rfl rfl ?_|(refine zd rfl rfl rfl rfl rfl (fun h=>?_) (fun h=>?_)<;>(dsimp only [cmpP] at h;(try (exfalso;omega))))|refine zK (I:=i) rfl rfl rfl rfl rfl (by omega) ?_|refine zb rfl rfl rfl rfl (by omega) ?_|refine zm rfl rfl rfl rfl (IntWalk.i64_in _ (by omega)) ?_|refine zK rfl rfl rfl rfl rfl (by omega) ?_|refine zL rfl rfl rfl rfl rfl (by first|decide|omega) ?_|refine zj rfl rfl rfl ?_|(refine zg rfl rfl rfl rfl rfl ?_;refine ⟨rfl,by first|decide|exact Nat.le_of_ble_eq_true rfl|(simp;omega),_,rfl,?_⟩)|(refine zh rfl rfl (fun b=>?_))|(refine zl rfl rfl rfl rfl (fun b=>?_))|(refine zy rfl rfl rfl ?_;refine ⟨_,rfl,?_⟩)|(refine zR rfl rfl rfl ?_;refine ⟨rfl,_,rfl,fun b=>?_⟩)|refine zz rfl rfl rfl rfl ?_)|(with_reducible first|refine zW ?_|refine zC ?_|refine zU ?_|refine zB ?_|refine zX ?_|refine zT ?_|refine zF ?_|refine zf ?_|refine zP ?_|refine zZ ?_|refine zY ?_|refine za ?_|refine zG ?_|refine zJ ?_)|((with_reducible refine zE ?_ ?_);(· exact rfl))|((with_reducible refine zI ?_ ?_);(· exact rfl))|((with_reducible refine zH ?_ ?_);(· exact rfl))))
 refine zDN [.blk b5 [.slice a1 al.length a2],.sl zo 2 a1 al,.blk b3 [.slice lA loads.length lc,.int .i64 ad,.int .i64 ba,.int .i64 ji,.slice uA run.length uc,.slice kA str.length kc,.int .i64 spd,.bool stm]] [.sl zAW 7 (some ⟨bl,ol,none⟩) us] rfl rfl rfl rfl (by (repeat constructor)) (fun _ W q=>h1x W q.below (Own.append.1 q.own).1) ?_
 rintro ⟨⟨z1,z2⟩,zs⟩ hz
 have hz2:=hnext zs hz
 simp only [List.cons_append,List.nil_append,zB0]
 (repeat' (first|((with_reducible refine zV ?_);first|refine zO rfl rfl rfl ?_|refine zD rfl rfl rfl ?_|(refine zQ rfl rfl rfl ?_;refine ⟨_,rfl,?_⟩)|refine zS rfl rfl rfl ?_|(refine zd rfl rfl rfl rfl rfl (fun h=>?_) (fun h=>?_)<;>(dsimp only [cmpP] at h;(try (exfalso;omega))))|refine zb rfl rfl rfl rfl (by omega) ?_|refine zm rfl rfl rfl rfl (IntWalk.i64_in _ (by omega)) ?_|refine zK rfl rfl rfl rfl rfl (by omega) ?_|refine zL rfl rfl rfl rfl rfl (by first|decide|omega) ?_|refine zj rfl rfl rfl ?_|(refine zg rfl rfl rfl rfl rfl ?_;refine ⟨rfl,by first|decide|exact Nat.le_of_ble_eq_true rfl|(simp;omega),_,rfl,?_⟩)|(refine zh rfl rfl (fun b=>?_))|(refine zl rfl rfl rfl rfl (fun b=>?_))|(refine zy rfl rfl rfl ?_;refine ⟨_,rfl,?_⟩)|(refine zR rfl rfl rfl ?_;refine ⟨rfl,_,rfl,fun b=>?_⟩)|refine zz rfl rfl rfl rfl ?_)|(with_reducible first|refine zW ?_|refine zC ?_|refine zU ?_|refine zB ?_|refine zX ?_|refine zT ?_|refine zF ?_|refine zf ?_|refine zP ?_|refine zZ ?_|refine zY ?_|refine za ?_|refine zG ?_|refine zJ ?_)|((with_reducible refine zE ?_ ?_);(· exact rfl))|((with_reducible refine zI ?_ ?_);(· exact rfl))|((with_reducible refine zH ?_ ?_);(· exact rfl))))
 exact z6 (ι:=Nat × (Option Addr × Nat) × List Sp) (i+1,(z1,z2),zs) ⟨by simp only;omega,hz2.1,hz2.2⟩ (by simp only;omega) (by (repeat first|exact lK1|refine zp rfl ?_)) (by (repeat constructor))
end Two
end Go.Proofs.YtcpdjamlhhfbhaaGreat
namespace Go.Proofs.YtcpdjamlhhfbhaaGreat.Two
variable {ro : Option Nat}
open Go.RowKit
set_option maxRecDepth 20000
set_option maxHeartbeats 2000000 in
theorem zHU (scs:List ScM) (A:Option Addr) (c:Nat) (g:GrM) (w:World) (h:zCX w A scs) (hg:zDm w g) (hB:zC3 scs) (hG:GrF scs g) :
  Ret Tryz.prog 16 [.agg #[.slice A scs.length c],vGr g] w (fun z:(Option Addr × Nat) × List Sp=>.tuple #[.slice z.1.1 z.2.length z.1.2,.int .i64 (if z.2.length=0 then 6 else 0)]) (fun z=>[.sl zo 2 z.1.1 z.2]) (fun z=>zBJ z.2∧∀ n,zAn z.2 n↔zBy g.added (zAx scs g) (zAb scs g).length n):=by
 have hA:=fun gA W (hW:Below w.heap.size w W) (q:zAB zB0 8 W gA [g])=>zFR scs A c g gA W (h.below hW) (hg.below hW) hB hG q
 have hT:=fun hh m W (hW:Below w.heap.size w W) (hH:zCW W A c scs hh m)=>zEj scs A c hh m g W (h.below hW) hH (hg.below hW) hB hG
 generalize zBy g.added (zAx scs g) (zAb scs g).length=tT at *
 clear h hg hB hG
 obtain ⟨lA,loads,lc,ad,ba,ji,uA,run,uc,kA,str,kc,spd,stm⟩:=g
 unfold zF6 at hA
 unfold vGr at *
 simp only at *
 (refine ze (n:=26) Tryz.func16 rfl rfl rfl ?_)
 (repeat' (first|((with_reducible refine zV ?_);first|refine zO rfl rfl rfl ?_|refine zD rfl rfl rfl ?_|(refine zQ rfl rfl rfl ?_;refine ⟨_,rfl,?_⟩)|(refine zd rfl rfl rfl rfl rfl (fun h=>?_) (fun h=>?_)<;>(dsimp only [cmpP] at h;(try (exfalso;omega))))|(refine zAU rfl rfl rfl rfl (fun _ _ q=>hA _ _ q.below (zAO (enc:=zB0) (by exact rfl) _ q.below q.own)) ?_;rintro ⟨bh,m⟩ -;dsimp only [List.cons_append,List.nil_append])|(refine zAU rfl rfl rfl rfl (fun _ _ q=>hT bh m _ q.below ⟨zBC q.own (Below.refl _ _) rfl,zGd q.own (by (repeat constructor))⟩) ?_;rintro ⟨⟨z1,z2⟩,zs⟩ hz;dsimp only [List.cons_append,List.nil_append])|refine zq rfl rfl rfl rfl ?_|refine zj rfl rfl rfl ?_|(refine zl rfl rfl rfl rfl (fun b=>?_))|(refine zR rfl rfl rfl ?_;refine ⟨rfl,_,rfl,fun b=>?_⟩))|(with_reducible first|refine zW ?_|refine zC ?_|refine zU ?_|refine zB ?_|refine zX ?_|refine zT ?_|refine zF ?_|refine zf ?_)|((with_reducible refine zI ?_ ?_);(· exact rfl))|((with_reducible refine zH ?_ ?_);(· exact rfl))))
 ·have h0:zs.length=0:=by omega
  have:zs=[]:=List.length_eq_zero_iff.1 h0
  subst this
  exact zk (by (exact zAX.cons (by exact zBv.tmp rfl) (zAX.cons (by exact zBv.tmp rfl) zAX.nil))) ((none,0),[]) hz (by simp;rfl) (fun _ h=>sl_nil h)
 ·exact zk (by (exact zAX.cons (by exact zBv.tmp rfl) (zAX.cons (by exact zBv.tmp rfl) zAX.nil))) ((z1,z2),zs) hz (by simp only;rw [if_neg (by omega)];rfl) (fun _ h=>h.sub (by (repeat constructor)))
end Go.Proofs.YtcpdjamlhhfbhaaGreat.Two
namespace Go.Proofs.YtcpdjamlhhfbhaaGreat.Two
variable {ro : Option Nat}
open Go.RowKit
set_option maxRecDepth 20000
def vSpD (s:Sp):Value:=.agg #[.int .i64 s.lo,.int .i64 s.hi]
def zD0 (p:Nat × Sp):List Value:=[.int .i64 (p.1:Int),vSpD p.2]
def NBackP (l:List Sp) (ys:List (Nat × Sp)) (x:Nat × Sp):Prop:=x.1+ys.length+1=l.length∧l[x.1]?=some x.2
def zH9 (l:List Sp) (ys:List (Nat × Sp)):Prop:=ys.length=l.length
theorem zH5 (l:List Sp) (A:Option Addr) (c:Nat) (w:World):Ret Tryz.prog 52 [.slice A l.length c] w (fun g:Nat=>.func (.func 82) #[] #[.pointer (some ⟨g,0,none⟩)]) (fun g=>[.blk g [.slice A l.length c]]) (fun _=>True):=by
 (refine ze (n:=4) Tryz.func52 rfl rfl rfl ?_)
 (repeat' (first|((with_reducible refine zV ?_);first|refine zD rfl rfl rfl ?_|(refine zl rfl rfl rfl rfl (fun b=>?_))|refine zz rfl rfl rfl rfl ?_)|(with_reducible first|refine zW ?_|refine zC ?_|refine zU ?_|refine zB ?_|refine zX ?_|refine zT ?_|refine zF ?_|refine zf ?_)))
 exact zk (by exact rTm rfl) b trivial rfl (fun _ h=>h.sub (by (repeat constructor)))
set_option maxHeartbeats 4000000 in
theorem zI3 (l:List Sp) (A:Option Addr) (c g:Nat) (wb:World) (hl:l.length≤100000000000) :
  SeqG Tryz.prog 82 [.pointer (some ⟨g,0,none⟩)] (fun _=>[.blk g [.slice A l.length c],.sl zo 2 A l]) zD0 (NBackP l) (zH9 l) wb:=by
 intro ι lc I Cx s0 w hwb hI0 hO hround
 have hround:=fun ys x s' W (h1:x.1+ys.length+1=l.length) (h2:l[x.1]?=some x.2)=>hround ys x s' W ⟨h1,h2⟩
 unfold zH9
 unfold zD0 at *
 refine zBi (n:=19) hwb hO Tryz.func82 rfl rfl rfl ?_
 refine zBx (fun _ h=>zA0.1 h) ?_
 simp only [List.cons_append,List.nil_append]
 (repeat' (first|((with_reducible refine zV ?_);first|refine zO rfl rfl rfl ?_|refine zD rfl rfl rfl ?_|(refine zQ rfl rfl rfl ?_;refine ⟨_,rfl,?_⟩)|(refine zd rfl rfl rfl rfl rfl (fun h=>?_) (fun h=>?_)<;>(dsimp only [cmpP] at h;(try (exfalso;omega))))|refine zt rfl rfl rfl ?_|refine z7 rfl rfl rfl rfl (IntWalk.i64_in _ (by omega)) ?_|refine zK rfl rfl rfl rfl rfl (by omega) ?_|refine zL rfl rfl rfl rfl rfl (by first|decide|omega) ?_|refine zj rfl rfl rfl ?_)|(with_reducible first|refine zW ?_|refine zC ?_|refine zU ?_|refine zB ?_|refine zX ?_|refine zT ?_|refine zF ?_|refine zf ?_|refine zP ?_|refine zZ ?_|refine zY ?_|refine za ?_|refine zG ?_|refine zJ ?_)|((with_reducible refine zE ?_ ?_);(· exact rfl))|((with_reducible refine zI ?_ ?_);(· exact rfl))|((with_reducible refine zH ?_ ?_);(· exact rfl))))
 refine zAC (ι:=(List (Nat × Sp) × Int) × ι) [0,1] rfl (fun q=>q.1.1.length≤l.length∧q.1.2=(l.length:Int) - 1 - q.1.1.length∧I q.1.1 q.2) (fun q=>[(3,.int .i64 q.1.2)]) (fun q=>[.blk g [.slice A l.length c],.sl zo 2 A l,.all (Cx q.2),.oldx w wb.heap.size (feet (Ent.blk g [.slice A l.length c]::Ent.sl zo 2 A l::Cx s0))]) (fun q=>l.length - q.1.1.length) (([],(l.length:Int) - 1),s0) ⟨by simp,by simp,hI0⟩ (by (repeat first|exact lK1|refine zp rfl ?_)) (by (repeat constructor)) ?_
 rintro ⟨⟨ys,i⟩,s'⟩ ⟨hi,hie,hIi⟩
 simp only at hi hie hIi
 simp only [zAm,List.cons_append,List.nil_append]
 by_cases hlt:ys.length<l.length
 rotate_left
 ·(repeat' (first|((with_reducible refine zV ?_);first|refine zO rfl rfl rfl ?_|refine zD rfl rfl rfl ?_|(refine zQ rfl rfl rfl ?_;refine ⟨_,rfl,?_⟩)|(refine zd rfl rfl rfl rfl rfl (fun h=>?_) (fun h=>?_)<;>(dsimp only [cmpP] at h;(try (exfalso;omega))))|refine zt rfl rfl rfl ?_|refine z7 rfl rfl rfl rfl (IntWalk.i64_in _ (by omega)) ?_|refine zK rfl rfl rfl rfl rfl (by omega) ?_|refine zL rfl rfl rfl rfl rfl (by first|decide|omega) ?_|refine zj rfl rfl rfl ?_)|(with_reducible first|refine zW ?_|refine zC ?_|refine zU ?_|refine zB ?_|refine zX ?_|refine zT ?_|refine zF ?_|refine zf ?_|refine zP ?_|refine zZ ?_|refine zY ?_|refine za ?_|refine zG ?_|refine zJ ?_)|((with_reducible refine zE ?_ ?_);(· exact rfl))|((with_reducible refine zI ?_ ?_);(· exact rfl))|((with_reducible refine zH ?_ ?_);(· exact rfl))))
  refine zEz ?_
  exact zCq (vs:=[]) zAX.nil (ys,s') ⟨by simp only;omega,hIi⟩ rfl hwb (fun W9 h=>zA0.2 (show Own wb.heap.size W9 ([.blk g [.slice A l.length c],.sl zo 2 A l] ++ .all (Cx s')::[.oldx w wb.heap.size (feet (Ent.blk g [.slice A l.length c]::Ent.sl zo 2 A l::Cx s0))]) from h.sub (by (repeat constructor))))
 obtain ⟨k,hk⟩:∃ k:Nat,k+ys.length+1=l.length:=⟨l.length - ys.length - 1,by omega⟩
 obtain rfl:i=(k:Int):=by omega
 have hkl:k<l.length:=by omega
 obtain ⟨x,hx⟩:∃ x,l[k]?=some x:=⟨_,List.getElem?_eq_getElem hkl⟩
 have:zAZ l k x:=⟨hx⟩
 refine zAo (enc:=zo) (xs:=l) (by (repeat constructor)) (by omega) (fun bA oA hAe=>?_)
 subst hAe
 have hr:=fun s2 W=>hround ys (k,x) s2 W hk hx
 skip
 (repeat' (first|((with_reducible refine zV ?_);first|refine zO rfl rfl rfl ?_|refine zD rfl rfl rfl ?_|(refine zQ rfl rfl rfl ?_;refine ⟨_,rfl,?_⟩)|(refine zd rfl rfl rfl rfl rfl (fun h=>?_) (fun h=>?_)<;>(dsimp only [cmpP] at h;(try (exfalso;omega))))|refine zK (I:=k) rfl rfl rfl rfl rfl (by omega) ?_|(refine zDp (D:=[.blk g [.slice (some ⟨bA,oA,none⟩) l.length c],.sl zo 2 (some ⟨bA,oA,none⟩) l]) (L:=Cx s') (C:=Cx) (p:=I (ys++[(k,x)])) (go:=true) rfl rfl rfl rfl [.oldx w wb.heap.size (feet (Ent.blk g [.slice (some ⟨bA,oA,none⟩) l.length c]::Ent.sl zo 2 (some ⟨bA,oA,none⟩) l::Cx s0))] (by (repeat constructor)) (fun _ W q=>hr s' W hIi q.below (Own.append.1 (zA0.2 q.own)).1) ?_;rintro s2 hs2;simp only [List.cons_append,List.nil_append])|refine zt rfl rfl rfl ?_|refine z7 rfl rfl rfl rfl (IntWalk.i64_in _ (by omega)) ?_|refine zK rfl rfl rfl rfl rfl (by omega) ?_|refine zL rfl rfl rfl rfl rfl (by first|decide|omega) ?_|refine zj rfl rfl rfl ?_)|(with_reducible first|refine zW ?_|refine zC ?_|refine zU ?_|refine zB ?_|refine zX ?_|refine zT ?_|refine zF ?_|refine zf ?_|refine zP ?_|refine zZ ?_|refine zY ?_|refine za ?_|refine zG ?_|refine zJ ?_)|((with_reducible refine zE ?_ ?_);(· exact rfl))|((with_reducible refine zI ?_ ?_);(· exact rfl))|((with_reducible refine zH ?_ ?_);(· exact rfl))))
 exact z6 (ι:=(List (Nat × Sp) × Int) × ι) ((ys++[(k,x)],(k:Int) - 1),s2) ⟨by simp only [List.length_append,List.length_cons,List.length_nil];omega,by simp only [List.length_append,List.length_cons,List.length_nil];omega,hs2⟩ (by simp only [List.length_append,List.length_cons,List.length_nil];omega) (by (repeat first|exact lK1|refine zp rfl ?_)) (by (repeat constructor))
end Go.Proofs.YtcpdjamlhhfbhaaGreat.Two
namespace Go.Proofs.YtcpdjamlhhfbhaaGreat.Two
variable {ro : Option Nat}
open Go.RowKit
set_option maxRecDepth 20000
def zD1 (p:Nat × ScM):List Value:=[.int .i64 (p.1:Int),vSc p.2]
def NBackC (l:List ScM) (ys:List (Nat × ScM)) (x:Nat × ScM):Prop:=x.1+ys.length+1=l.length∧l[x.1]?=some x.2
def zIA (l:List ScM) (ys:List (Nat × ScM)):Prop:=ys.length=l.length
theorem zH6 (l:List ScM) (A:Option Addr) (c:Nat) (w:World):Ret Tryz.prog 44 [.slice A l.length c] w (fun g:Nat=>.func (.func 75) #[] #[.pointer (some ⟨g,0,none⟩)]) (fun g=>[.blk g [.slice A l.length c]]) (fun _=>True):=by
 (refine ze (n:=4) Tryz.func44 rfl rfl rfl ?_)
 (repeat' (first|((with_reducible refine zV ?_);first|refine zD rfl rfl rfl ?_|(refine zl rfl rfl rfl rfl (fun b=>?_))|refine zz rfl rfl rfl rfl ?_)|(with_reducible first|refine zW ?_|refine zC ?_|refine zU ?_|refine zB ?_|refine zX ?_|refine zT ?_|refine zF ?_|refine zf ?_)))
 exact zk (by exact rTm rfl) b trivial rfl (fun _ h=>h.sub (by (repeat constructor)))
set_option maxHeartbeats 4000000 in
theorem zI4 (l:List ScM) (A:Option Addr) (c g:Nat) (wb:World) (hl:l.length≤100000000000) :
  SeqG Tryz.prog 75 [.pointer (some ⟨g,0,none⟩)] (fun _=>[.blk g [.slice A l.length c],.sl zAW 7 A l]) zD1 (NBackC l) (zIA l) wb:=by
 intro ι lc I Cx s0 w hwb hI0 hO hround
 have hround:=fun ys x s' W (h1:x.1+ys.length+1=l.length) (h2:l[x.1]?=some x.2)=>hround ys x s' W ⟨h1,h2⟩
 unfold zIA
 unfold zD1 at *
 refine zBi (n:=19) hwb hO Tryz.func75 rfl rfl rfl ?_
 refine zBx (fun _ h=>zA0.1 h) ?_
 simp only [List.cons_append,List.nil_append]
 (repeat' (first|((with_reducible refine zV ?_);first|refine zO rfl rfl rfl ?_|refine zD rfl rfl rfl ?_|(refine zQ rfl rfl rfl ?_;refine ⟨_,rfl,?_⟩)|(refine zd rfl rfl rfl rfl rfl (fun h=>?_) (fun h=>?_)<;>(dsimp only [cmpP] at h;(try (exfalso;omega))))|refine zt rfl rfl rfl ?_|refine z7 rfl rfl rfl rfl (IntWalk.i64_in _ (by omega)) ?_|refine zK rfl rfl rfl rfl rfl (by omega) ?_|refine zL rfl rfl rfl rfl rfl (by first|decide|omega) ?_|refine zj rfl rfl rfl ?_)|(with_reducible first|refine zW ?_|refine zC ?_|refine zU ?_|refine zB ?_|refine zX ?_|refine zT ?_|refine zF ?_|refine zf ?_|refine zP ?_|refine zZ ?_|refine zY ?_|refine za ?_|refine zG ?_|refine zJ ?_)|((with_reducible refine zE ?_ ?_);(· exact rfl))|((with_reducible refine zI ?_ ?_);(· exact rfl))|((with_reducible refine zH ?_ ?_);(· exact rfl))))
 refine zAC (ι:=(List (Nat × ScM) × Int) × ι) [0,1] rfl (fun q=>q.1.1.length≤l.length∧q.1.2=(l.length:Int) - 1 - q.1.1.length∧I q.1.1 q.2) (fun q=>[(3,.int .i64 q.1.2)]) (fun q=>[.blk g [.slice A l.length c],.sl zAW 7 A l,.all (Cx q.2),.oldx w wb.heap.size (feet (Ent.blk g [.slice A l.length c]::Ent.sl zAW 7 A l::Cx s0))]) (fun q=>l.length - q.1.1.length) (([],(l.length:Int) - 1),s0) ⟨by simp,by simp,hI0⟩ (by (repeat first|exact lK1|refine zp rfl ?_)) (by (repeat constructor)) ?_
 rintro ⟨⟨ys,i⟩,s'⟩ ⟨hi,hie,hIi⟩
 simp only at hi hie hIi
 simp only [zAm,List.cons_append,List.nil_append]
 by_cases hlt:ys.length<l.length
 rotate_left
 ·(repeat' (first|((with_reducible refine zV ?_);first|refine zO rfl rfl rfl ?_|refine zD rfl rfl rfl ?_|(refine zQ rfl rfl rfl ?_;refine ⟨_,rfl,?_⟩)|(refine zd rfl rfl rfl rfl rfl (fun h=>?_) (fun h=>?_)<;>(dsimp only [cmpP] at h;(try (exfalso;omega))))|refine zt rfl rfl rfl ?_|refine z7 rfl rfl rfl rfl (IntWalk.i64_in _ (by omega)) ?_|refine zK rfl rfl rfl rfl rfl (by omega) ?_|refine zL rfl rfl rfl rfl rfl (by first|decide|omega) ?_|refine zj rfl rfl rfl ?_)|(with_reducible first|refine zW ?_|refine zC ?_|refine zU ?_|refine zB ?_|refine zX ?_|refine zT ?_|refine zF ?_|refine zf ?_|refine zP ?_|refine zZ ?_|refine zY ?_|refine za ?_|refine zG ?_|refine zJ ?_)|((with_reducible refine zE ?_ ?_);(· exact rfl))|((with_reducible refine zI ?_ ?_);(· exact rfl))|((with_reducible refine zH ?_ ?_);(· exact rfl))))
  refine zEz ?_
  exact zCq (vs:=[]) zAX.nil (ys,s') ⟨by simp only;omega,hIi⟩ rfl hwb (fun W9 h=>zA0.2 (show Own wb.heap.size W9 ([.blk g [.slice A l.length c],.sl zAW 7 A l] ++ .all (Cx s')::[.oldx w wb.heap.size (feet (Ent.blk g [.slice A l.length c]::Ent.sl zAW 7 A l::Cx s0))]) from h.sub (by (repeat constructor))))
 obtain ⟨k,hk⟩:∃ k:Nat,k+ys.length+1=l.length:=⟨l.length - ys.length - 1,by omega⟩
 obtain rfl:i=(k:Int):=by omega
 have hkl:k<l.length:=by omega
 obtain ⟨x,hx⟩:∃ x,l[k]?=some x:=⟨_,List.getElem?_eq_getElem hkl⟩
 have:zAZ l k x:=⟨hx⟩
 refine zAo (enc:=zAW) (xs:=l) (by (repeat constructor)) (by omega) (fun bA oA hAe=>?_)
 subst hAe
 have hr:=fun s2 W=>hround ys (k,x) s2 W hk hx
 skip
 (repeat' (first|((with_reducible refine zV ?_);first|refine zO rfl rfl rfl ?_|refine zD rfl rfl rfl ?_|(refine zQ rfl rfl rfl ?_;refine ⟨_,rfl,?_⟩)|(refine zd rfl rfl rfl rfl rfl (fun h=>?_) (fun h=>?_)<;>(dsimp only [cmpP] at h;(try (exfalso;omega))))|refine zK (I:=k) rfl rfl rfl rfl rfl (by omega) ?_|(refine zDp (D:=[.blk g [.slice (some ⟨bA,oA,none⟩) l.length c],.sl zAW 7 (some ⟨bA,oA,none⟩) l]) (L:=Cx s') (C:=Cx) (p:=I (ys++[(k,x)])) (go:=true) rfl rfl rfl rfl [.oldx w wb.heap.size (feet (Ent.blk g [.slice (some ⟨bA,oA,none⟩) l.length c]::Ent.sl zAW 7 (some ⟨bA,oA,none⟩) l::Cx s0))] (by (repeat constructor)) (fun _ W q=>hr s' W hIi q.below (Own.append.1 (zA0.2 q.own)).1) ?_;rintro s2 hs2;simp only [List.cons_append,List.nil_append])|refine zt rfl rfl rfl ?_|refine z7 rfl rfl rfl rfl (IntWalk.i64_in _ (by omega)) ?_|refine zK rfl rfl rfl rfl rfl (by omega) ?_|refine zL rfl rfl rfl rfl rfl (by first|decide|omega) ?_|refine zj rfl rfl rfl ?_)|(with_reducible first|refine zW ?_|refine zC ?_|refine zU ?_|refine zB ?_|refine zX ?_|refine zT ?_|refine zF ?_|refine zf ?_|refine zP ?_|refine zZ ?_|refine zY ?_|refine za ?_|refine zG ?_|refine zJ ?_)|((with_reducible refine zE ?_ ?_);(· exact rfl))|((with_reducible refine zI ?_ ?_);(· exact rfl))|((with_reducible refine zH ?_ ?_);(· exact rfl))))
 exact z6 (ι:=(List (Nat × ScM) × Int) × ι) ((ys++[(k,x)],(k:Int) - 1),s2) ⟨by simp only [List.length_append,List.length_cons,List.length_nil];omega,by simp only [List.length_append,List.length_cons,List.length_nil];omega,hs2⟩ (by simp only [List.length_append,List.length_cons,List.length_nil];omega) (by (repeat first|exact lK1|refine zp rfl ?_)) (by (repeat constructor))
end Go.Proofs.YtcpdjamlhhfbhaaGreat.Two
