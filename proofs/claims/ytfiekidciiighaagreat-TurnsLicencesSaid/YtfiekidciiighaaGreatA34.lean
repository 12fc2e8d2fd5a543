/- A34 -/
import Derived.Test.YtfiekidciiighaaGreatA33
set_option linter.unusedSimpArgs false
set_option linter.unusedVariables false
namespace Go.Proofs.YtfiekidciiighaaGreat.Two
variable {ro : Option Nat}
open Go.RowKit
set_option maxRecDepth 20000
def zFS (n:Nat):List Value:=[.int .u8 (n:Int)]
instance : zCZ zFS 1:=⟨fun _=>rfl,fun x v hv=>by simp [zFS] at hv;subst hv;rfl⟩
theorem elem_u8 : Elem Tryz.prog 78 5 1 1 (.int .u8 0):=⟨by rfl,by exact ⟨_,rfl,rfl,rfl,rfl⟩,by decide,by decide⟩
instance : ElI Tryz.prog 78 5 1 1:=⟨⟨_,elem_u8⟩⟩
def cntN (p:Nat→Bool) (l:List Nat) (i:Nat):Nat:=(l.take i).countP p
theorem zIP {p:Nat→Bool} {l:List Nat}:cntN p l 0=0:=by simp [cntN]
theorem zJw {p:Nat→Bool} {l:List Nat}:cntN p l l.length=l.countP p:=by simp [cntN]
theorem zIQ {p:Nat→Bool} {l:List Nat} {i x:Nat} (h:l[i]?=some x):cntN p l (i+1)=cntN p l i+if p x then 1 else 0:=by
 unfold cntN
 rw [List.take_add_one,h,List.countP_append]
 simp [List.countP_cons]
theorem zLN {p:Nat→Bool} {l:List Nat} {i:Nat}:cntN p l i≤i:=Nat.le_trans List.countP_le_length (by rw [List.length_take];omega)
theorem zJB (x:Nat) (w:World):Gv Tryz.prog 26 [.int .u8 (x:Int)] w (.bool (decide (x=2))):=by
 unfold Gv
 by_cases hx:x=2
 ·rw [decide_eq_true hx]
  (refine zK (n:=5) Tryz.func26 rfl rfl rfl ?_)
  (repeat' (first|((with_reducible refine zG ?_);first|refine zD rfl rfl rfl ?_|refine zC rfl rfl rfl ?_|(refine zS rfl rfl rfl rfl rfl (fun h=>?_) (fun h=>?_)<;>(dsimp only [cmpP] at h;(try (exfalso;omega)))))|(with_reducible first|refine zI ?_|refine zB ?_|refine zE ?_|refine zA ?_|refine zV ?_)))
  exact zP (by exact rTm rfl) () trivial rfl (fun _ h=>h.sub (by (repeat constructor)))
 ·rw [decide_eq_false hx]
  (refine zK (n:=5) Tryz.func26 rfl rfl rfl ?_)
  (repeat' (first|((with_reducible refine zG ?_);first|refine zD rfl rfl rfl ?_|refine zC rfl rfl rfl ?_|(refine zS rfl rfl rfl rfl rfl (fun h=>?_) (fun h=>?_)<;>(dsimp only [cmpP] at h;(try (exfalso;omega)))))|(with_reducible first|refine zI ?_|refine zB ?_|refine zE ?_|refine zA ?_|refine zV ?_)))
  exact zP (by exact rTm rfl) () trivial rfl (fun _ h=>h.sub (by (repeat constructor)))
set_option maxHeartbeats 2000000 in
theorem ucount_1 (l:List Nat) (A:Option Addr) (c:Nat) (w:World) (hA:zAC zFS 1 w A l) (hl:l.length≤1000):Gv Tryz.prog 25 [.slice A l.length c,.func (.func 26) #[] #[]] w (.int .i64 (l.countP (fun y=>y == 2):Nat)):=by
 rw [← zJw]
 have hS1:=fun (i x:Nat) (hx:l[i]?=some x)=>zIQ (p:=fun y=>y == 2) hx
 have hSl:=fun i=>zLN (p:=fun y=>y == 2) (l:=l) (i:=i)
 have hS0:=zIP (p:=fun y=>y == 2) (l:=l)
 generalize cntN (fun y=>y == 2) l=S at *
 unfold Gv
 (refine zK (n:=21) Tryz.func25 rfl rfl rfl ?_)
 (repeat' (first|((with_reducible refine zG ?_);first|refine zD rfl rfl rfl ?_|refine zC rfl rfl rfl ?_|refine zn rfl rfl rfl ?_)|(with_reducible first|refine zI ?_|refine zB ?_|refine zE ?_|refine zA ?_|refine zQ ?_)))
 refine zAB (ι:=Nat) [1,8,9] rfl (fun i=>i≤l.length) (fun i=>[(10,.int .i64 (i:Int)),(5,.int .i64 (S i:Int))]) (fun _=>[]) (fun i=>l.length - i) 0 (Nat.zero_le _) (by (try rw [hS0]);(repeat first|exact lK1|refine zT rfl ?_)) (by (repeat constructor)) ?_
 rintro i hi
 simp only [zAk,List.cons_append,List.nil_append]
 by_cases hlt:i<l.length
 ·obtain ⟨x,hx⟩:∃ x,l[i]?=some x:=⟨_,List.getElem?_eq_getElem hlt⟩
  have:zAT l i x:=⟨hx⟩
  obtain ⟨bA,oA,rfl,_,_⟩:=hA.at_ hlt
  have:InS w bA oA zFS 1 l:=⟨hA⟩
  have h1:=hS1 i x hx
  have h2:=hSl i
  by_cases hx2:x=2
  ·have e:((fun y=>y == 2) x)=true:=by simpa using hx2
   simp only at e h1
   rw [e,if_pos rfl] at h1
   have e3:((S (i+1):Nat):Int)=(S i:Int)+1:=by omega
   (repeat' (first|((with_reducible refine zG ?_);first|refine zD rfl rfl rfl ?_|refine zC rfl rfl rfl ?_|(refine zJ rfl rfl rfl ?_;refine ⟨_,rfl,?_⟩)|(refine zS rfl rfl rfl rfl rfl (fun h=>?_) (fun h=>?_)<;>(dsimp only [cmpP] at h;(try (exfalso;omega))))|refine zo (I:=i) rfl rfl rfl rfl rfl (by omega) ?_|(refine zO rfl rfl rfl rfl (fun _ _ q=>decide_eq_true hx2 ▸ zJB x _) ?_)|refine zu rfl rfl rfl rfl (by omega) ?_)|(with_reducible first|refine zI ?_|refine zB ?_|refine zE ?_|refine zA ?_|refine zR ?_|refine zQ ?_|refine zj ?_)|((with_reducible refine zH ?_ ?_);(· exact rfl))))
   exact zd (ι:=Nat) (i+1) (by omega) (by omega) (by rw [e3];(repeat first|exact lK1|refine zT rfl ?_)) (by (repeat constructor))
  ·have e:((fun y=>y == 2) x)=false:=by simpa using hx2
   simp only at e h1
   rw [e,if_neg (by simp),Nat.add_zero] at h1
   (repeat' (first|((with_reducible refine zG ?_);first|refine zD rfl rfl rfl ?_|refine zC rfl rfl rfl ?_|(refine zJ rfl rfl rfl ?_;refine ⟨_,rfl,?_⟩)|(refine zS rfl rfl rfl rfl rfl (fun h=>?_) (fun h=>?_)<;>(dsimp only [cmpP] at h;(try (exfalso;omega))))|refine zo (I:=i) rfl rfl rfl rfl rfl (by omega) ?_|(refine zO rfl rfl rfl rfl (fun _ _ q=>decide_eq_false hx2 ▸ zJB x _) ?_)|refine zu rfl rfl rfl rfl (by omega) ?_)|(with_reducible first|refine zI ?_|refine zB ?_|refine zE ?_|refine zA ?_|refine zR ?_|refine zQ ?_|refine zj ?_)|((with_reducible refine zH ?_ ?_);(· exact rfl))|((with_reducible refine zF ?_ ?_);(· exact rfl))))
   exact zd (ι:=Nat) (i+1) (by omega) (by omega) (by rw [h1];(repeat first|exact lK1|refine zT rfl ?_)) (by (repeat constructor))
 ·obtain rfl:i=l.length:=by omega
  (repeat' (first|((with_reducible refine zG ?_);first|refine zD rfl rfl rfl ?_|refine zC rfl rfl rfl ?_|(refine zS rfl rfl rfl rfl rfl (fun h=>?_) (fun h=>?_)<;>(dsimp only [cmpP] at h;(try (exfalso;omega)))))|(with_reducible first|refine zI ?_|refine zB ?_|refine zE ?_|refine zA ?_|refine zV ?_|refine zz ?_|refine zZ ?_|refine ze ?_)|((with_reducible refine zF ?_ ?_);(· exact rfl))))
  exact zP (by exact rTm rfl) () trivial rfl (fun _ h=>h.sub (by (repeat constructor)))
theorem zJA (x:Nat) (w:World):Gv Tryz.prog 27 [.int .u8 (x:Int)] w (.bool (decide (x≠0))):=by
 unfold Gv
 by_cases hx:x≠0
 ·rw [decide_eq_true hx]
  (refine zK (n:=5) Tryz.func27 rfl rfl rfl ?_)
  (repeat' (first|((with_reducible refine zG ?_);first|refine zD rfl rfl rfl ?_|refine zC rfl rfl rfl ?_|(refine zS rfl rfl rfl rfl rfl (fun h=>?_) (fun h=>?_)<;>(dsimp only [cmpP] at h;(try (exfalso;omega)))))|(with_reducible first|refine zI ?_|refine zB ?_|refine zE ?_|refine zA ?_|refine zV ?_)))
  exact zP (by exact rTm rfl) () trivial rfl (fun _ h=>h.sub (by (repeat constructor)))
 ·rw [decide_eq_false hx]
  (refine zK (n:=5) Tryz.func27 rfl rfl rfl ?_)
  (repeat' (first|((with_reducible refine zG ?_);first|refine zD rfl rfl rfl ?_|refine zC rfl rfl rfl ?_|(refine zS rfl rfl rfl rfl rfl (fun h=>?_) (fun h=>?_)<;>(dsimp only [cmpP] at h;(try (exfalso;omega)))))|(with_reducible first|refine zI ?_|refine zB ?_|refine zE ?_|refine zA ?_|refine zV ?_)))
  exact zP (by exact rTm rfl) () trivial rfl (fun _ h=>h.sub (by (repeat constructor)))
set_option maxHeartbeats 2000000 in
theorem ucount_2 (l:List Nat) (A:Option Addr) (c:Nat) (w:World) (hA:zAC zFS 1 w A l) (hl:l.length≤1000):Gv Tryz.prog 25 [.slice A l.length c,.func (.func 27) #[] #[]] w (.int .i64 (l.countP (fun y=>y != 0):Nat)):=by
 rw [← zJw]
 have hS1:=fun (i x:Nat) (hx:l[i]?=some x)=>zIQ (p:=fun y=>y != 0) hx
 have hSl:=fun i=>zLN (p:=fun y=>y != 0) (l:=l) (i:=i)
 have hS0:=zIP (p:=fun y=>y != 0) (l:=l)
 generalize cntN (fun y=>y != 0) l=S at *
 unfold Gv
 (refine zK (n:=21) Tryz.func25 rfl rfl rfl ?_)
 (repeat' (first|((with_reducible refine zG ?_);first|refine zD rfl rfl rfl ?_|refine zC rfl rfl rfl ?_|refine zn rfl rfl rfl ?_)|(with_reducible first|refine zI ?_|refine zB ?_|refine zE ?_|refine zA ?_|refine zQ ?_)))
 refine zAB (ι:=Nat) [1,8,9] rfl (fun i=>i≤l.length) (fun i=>[(10,.int .i64 (i:Int)),(5,.int .i64 (S i:Int))]) (fun _=>[]) (fun i=>l.length - i) 0 (Nat.zero_le _) (by (try rw [hS0]);(repeat first|exact lK1|refine zT rfl ?_)) (by (repeat constructor)) ?_
 rintro i hi
 simp only [zAk,List.cons_append,List.nil_append]
 by_cases hlt:i<l.length
 ·obtain ⟨x,hx⟩:∃ x,l[i]?=some x:=⟨_,List.getElem?_eq_getElem hlt⟩
  have:zAT l i x:=⟨hx⟩
  obtain ⟨bA,oA,rfl,_,_⟩:=hA.at_ hlt
  have:InS w bA oA zFS 1 l:=⟨hA⟩
  have h1:=hS1 i x hx
  have h2:=hSl i
  by_cases hx2:x≠0
  ·have e:((fun y=>y != 0) x)=true:=by simpa using hx2
   simp only at e h1
   rw [e,if_pos rfl] at h1
   have e3:((S (i+1):Nat):Int)=(S i:Int)+1:=by omega
   (repeat' (first|((with_reducible refine zG ?_);first|refine zD rfl rfl rfl ?_|refine zC rfl rfl rfl ?_|(refine zJ rfl rfl rfl ?_;refine ⟨_,rfl,?_⟩)|(refine zS rfl rfl rfl rfl rfl (fun h=>?_) (fun h=>?_)<;>(dsimp only [cmpP] at h;(try (exfalso;omega))))|refine zo (I:=i) rfl rfl rfl rfl rfl (by omega) ?_|(refine zO rfl rfl rfl rfl (fun _ _ q=>decide_eq_true hx2 ▸ zJA x _) ?_)|refine zu rfl rfl rfl rfl (by omega) ?_)|(with_reducible first|refine zI ?_|refine zB ?_|refine zE ?_|refine zA ?_|refine zR ?_|refine zQ ?_|refine zj ?_)|((with_reducible refine zH ?_ ?_);(· exact rfl))))
   exact zd (ι:=Nat) (i+1) (by omega) (by omega) (by rw [e3];(repeat first|exact lK1|refine zT rfl ?_)) (by (repeat constructor))
  ·have e:((fun y=>y != 0) x)=false:=by simpa using hx2
   simp only at e h1
   rw [e,if_neg (by simp),Nat.add_zero] at h1
   (repeat' (first|((with_reducible refine zG ?_);first|refine zD rfl rfl rfl ?_|refine zC rfl rfl rfl ?_|(refine zJ rfl rfl rfl ?_;refine ⟨_,rfl,?_⟩)|(refine zS rfl rfl rfl rfl rfl (fun h=>?_) (fun h=>?_)<;>(dsimp only [cmpP] at h;(try (exfalso;omega))))|refine zo (I:=i) rfl rfl rfl rfl rfl (by omega) ?_|(refine zO rfl rfl rfl rfl (fun _ _ q=>decide_eq_false hx2 ▸ zJA x _) ?_)|refine zu rfl rfl rfl rfl (by omega) ?_)|(with_reducible first|refine zI ?_|refine zB ?_|refine zE ?_|refine zA ?_|refine zR ?_|refine zQ ?_|refine zj ?_)|((with_reducible refine zH ?_ ?_);(· exact rfl))|((with_reducible refine zF ?_ ?_);(· exact rfl))))
   exact zd (ι:=Nat) (i+1) (by omega) (by omega) (by rw [h1];(repeat first|exact lK1|refine zT rfl ?_)) (by (repeat constructor))
 ·obtain rfl:i=l.length:=by omega
  (repeat' (first|((with_reducible refine zG ?_);first|refine zD rfl rfl rfl ?_|refine zC rfl rfl rfl ?_|(refine zS rfl rfl rfl rfl rfl (fun h=>?_) (fun h=>?_)<;>(dsimp only [cmpP] at h;(try (exfalso;omega)))))|(with_reducible first|refine zI ?_|refine zB ?_|refine zE ?_|refine zA ?_|refine zV ?_|refine zz ?_|refine zZ ?_|refine ze ?_)|((with_reducible refine zF ?_ ?_);(· exact rfl))))
  exact zP (by exact rTm rfl) () trivial rfl (fun _ h=>h.sub (by (repeat constructor)))
def wsF (t:TrM) (x:AtM) (k i:Nat):List Nat:=(x.rides.take i).map fun y=>zCI t.l y.r (pmOf t k).time
theorem wsF_zero {t:TrM} {x:AtM} {k:Nat}:wsF t x k 0=[]:=by simp [wsF]
theorem wsF_succ {t:TrM} {x:AtM} {k i:Nat} {y:RdM} (h:x.rides[i]?=some y):wsF t x k (i+1)=wsF t x k i++[zCI t.l y.r (pmOf t k).time]:=by
 unfold wsF
 rw [List.take_add_one,h,List.map_append]
 rfl
theorem wsF_len {t:TrM} {x:AtM} {k i:Nat}:(wsF t x k i).length≤i:=by
 unfold wsF;rw [List.length_map,List.length_take];omega
theorem wsF_well {t:TrM} {x:AtM} {k:Nat}:zBw t x k=((((wsF t x k x.rides.length).countP (fun y=>y == 2):Nat):Int),(((wsF t x k x.rides.length).countP (fun y=>y != 0):Nat):Int)):=by
 unfold wsF zBw
 rw [List.take_length,List.countP_map,List.countP_map]
 rfl
set_option maxHeartbeats 4000000 in
theorem zEy (t:TrM) (i k a g:Nat) (x:AtM) (w:World) (h:zCj w t) (hs:zBR t) (hF:TnF t) (hx:t.ats[i]?=some x) (hk:k<3) (hg:InC w g 0 (zAl t a)):Gv Tryz.prog 14 [.pointer (some ⟨g,0,none⟩),.int .i64 (i:Int),.int .i64 ((k:Int)+1)] w (.tuple #[.int .i64 (zBw t x k).1,.int .i64 (zBw t x k).2]):=by
 rw [wsF_well]
 simp only
 have hxm:=List.mem_of_getElem? hx
 have hAt:=(hF.at_ i x hx).2.2.2.2
 have h4:=h.a
 have k4:=hs.a
 have h5x:=h.r x hxm
 have k5x:=hs.r x hxm
 have h6x:=h.s x hxm
 have k6x:=hs.s x hxm
 have hWt:=fun (j:Nat) y (hy:x.rides[j]?=some y) W (hW:Below w.heap.size w W) (hgW:InC W g 0 (zAl t a))=>zLZ t y k a g W (h.l.below hW) hs.l ((h6x y (List.mem_of_getElem? hy)).below hW) (by have:=k6x y (List.mem_of_getElem? hy);omega) hgW (hAt j y hy) hk
 have hlt:=(List.getElem?_eq_some_iff.1 hx).1
 have:zAT t.ats i x:=⟨hx⟩
 obtain ⟨bA,oA,hAe,hAl,hAc⟩:=h4.at_ hlt
 have hT1:=fun (j:Nat) y (hy:x.rides[j]?=some y)=>wsF_succ (t:=t) (k:=k) hy
 have hTl:=fun j=>wsF_len (t:=t) (x:=x) (k:=k) (i:=j)
 have hT0:=wsF_zero (t:=t) (x:=x) (k:=k)
 generalize wsF t x k=tt at *
 have hfy:∃ fy:RdM→Nat,(fun y:RdM=>zCI t.l y.r (pmOf t k).time)=fy:=⟨_,rfl⟩
 obtain ⟨fy,hfy⟩:=hfy
 have hfe:=fun y=>congrFun hfy y
 (try simp only at hfe)
 simp only [hfe] at hWt hT1
 clear hfe hfy
 have hgW:=fun W (hW:Below w.heap.size w W)=>hg.below hW
 have hWt2:=fun (j:Nat) y (hy:x.rides[j]?=some y) W (hW:Below w.heap.size w W)=>hWt j y hy W hW (hgW W hW)
 clear hWt hgW
 have hc1:=fun W A c (hA:zAC zFS 1 W A (tt x.rides.length))=>ucount_1 (tt x.rides.length) A c W hA (by have:=hTl x.rides.length;omega)
 have hc2:=fun W A c (hA:zAC zFS 1 W A (tt x.rides.length))=>ucount_2 (tt x.rides.length) A c W hA (by have:=hTl x.rides.length;omega)
 generalize (tt x.rides.length).countP (fun y=>y == 2)=n1 at *
 generalize (tt x.rides.length).countP (fun y=>y != 0)=n2 at *
 unfold Gv
 unfold zAl at hg
 rw [hAe] at hg
 have:InS w bA oA zB1 4 t.ats:=⟨hAe ▸ h4⟩
 obtain ⟨id,na,ag,RA,rides,rc⟩:=x
 simp only at h5x k5x h6x k6x hAt hWt2 hT1 hc1 hc2
 (refine zK (n:=37) Tryz.func14 rfl rfl rfl ?_)
 (repeat' (first|((with_reducible refine zG ?_);first|refine zD rfl rfl rfl ?_|refine zC rfl rfl rfl ?_|(refine zJ rfl rfl rfl ?_;refine ⟨_,rfl,?_⟩)|refine zL rfl rfl rfl ?_|refine zo (I:=i) rfl rfl rfl rfl rfl (by omega) ?_|refine zn rfl rfl rfl ?_|refine zBG rfl rfl rfl ?_)|(with_reducible first|refine zI ?_|refine zB ?_|refine zE ?_|refine zA ?_|refine zQ ?_)))
 refine zBa zFS 1 5 ?_
 refine zAB (ι:=Nat × Value) [0,2,19,20] rfl (fun q=>q.1≤rides.length) (fun q=>[(21,.int .i64 (q.1:Int)),(8,q.2)]) (fun q=>[.row zFS 1 5 q.2 (tt q.1)]) (fun q=>rides.length - q.1) (0,.slice none 0 0) (Nat.zero_le _) (by (repeat first|exact lK1|refine zT rfl ?_)) (by rw [hT0];(repeat constructor)) ?_
 rintro ⟨j,v⟩ hj
 simp only at hj
 simp only [zAk,List.cons_append,List.nil_append]
 have htl:=hTl j
 by_cases hjl:j<rides.length
 rotate_left
 ·obtain rfl:j=rides.length:=by omega
  refine zBT (xs:=tt rides.length) (enc:=zFS) (by (repeat constructor)) ?_
  rintro A9 c9 rfl
  refine zBF (H':=[.sl zFS 1 A9 (tt rides.length)]) (fun _ h=>(h.zCN (xs:=tt rides.length) (enc:=zFS) (by (repeat constructor))).sub (by (repeat constructor))) ?_
  (repeat' (first|((with_reducible refine zG ?_);first|refine zD rfl rfl rfl ?_|refine zC rfl rfl rfl ?_|(refine zS rfl rfl rfl rfl rfl (fun h=>?_) (fun h=>?_)<;>(dsimp only [cmpP] at h;(try (exfalso;omega))))|refine zO rfl rfl rfl rfl (fun _ _ q=>hc1 _ _ _ (zEi q.own (Below.refl _ _))) ?_|refine zO rfl rfl rfl rfl (fun _ _ q=>hc2 _ _ _ (zEi q.own (Below.refl _ _))) ?_)|(with_reducible first|refine zI ?_|refine zB ?_|refine zE ?_|refine zA ?_|refine zV ?_|refine zz ?_|refine zZ ?_|refine ze ?_)|((with_reducible refine zF ?_ ?_);(· exact rfl))))
  exact zP (by (exact zh.cons (by exact zAO.tmp rfl) (zh.cons (by exact zAO.tmp rfl) zh.nil))) () trivial rfl (fun _ h=>h.sub (by (repeat constructor)))
 obtain ⟨y,hy⟩:∃ y,rides[j]?=some y:=⟨_,List.getElem?_eq_getElem hjl⟩
 have:zAT rides j y:=⟨hy⟩
 obtain ⟨bR,oR,hRe,hRl,hRc⟩:=h5x.at_ hjl
 subst hRe
 have:InS w bR oR zAN 3 rides:=⟨h5x⟩
 have hT2:=hT1 j y hy
 have hw9:=hWt2 j y hy
 generalize fy y=fv at *
 unfold vRd at hw9
 (repeat' (first|((with_reducible refine zG ?_);first|refine zD rfl rfl rfl ?_|refine zC rfl rfl rfl ?_|(refine zJ rfl rfl rfl ?_;refine ⟨_,rfl,?_⟩)|(refine zS rfl rfl rfl rfl rfl (fun h=>?_) (fun h=>?_)<;>(dsimp only [cmpP] at h;(try (exfalso;omega))))|refine zo (I:=j) rfl rfl rfl rfl rfl (by omega) ?_|refine zO rfl rfl rfl rfl (fun _ _ q=>hw9 _ q.below) ?_|(refine zB6 (enc:=zFS) [_] rfl rfl rfl (by (repeat constructor)) rfl rfl (zAF (by exact rfl)) (by refine ⟨?_,by decide⟩;(try simp only [List.length_append,List.length_cons,List.length_nil]);omega) (fun A' c'=>?_))|refine zu rfl rfl rfl rfl (by omega) ?_|(refine zX rfl rfl rfl rfl rfl ?_;refine ⟨rfl,by first|decide|exact Nat.le_of_ble_eq_true rfl|(simp;omega),_,rfl,?_⟩)|(refine zb rfl rfl (fun b=>?_))|(refine zi rfl rfl rfl ?_;refine ⟨rfl,_,rfl,fun b=>?_⟩))|(with_reducible first|refine zI ?_|refine zB ?_|refine zE ?_|refine zA ?_|refine zR ?_|refine zQ ?_|refine zj ?_)|((with_reducible refine zH ?_ ?_);(· exact rfl))))
 exact zd (ι:=Nat × Value) (j+1,.slice A' (tt j++[fv]).length c') (by simp only;omega) (by simp only;omega) (by (repeat first|exact lK1|refine zT rfl ?_)) (by rw [hT2];(repeat constructor))
end Go.Proofs.YtfiekidciiighaaGreat.Two
namespace Go.Proofs.YtfiekidciiighaaGreat.Two
variable {ro : Option Nat}
open Go.RowKit
set_option maxRecDepth 20000
set_option maxHeartbeats 2000000 in
theorem ulic_0 (t:TrM) (i a g:Nat) (x:AtM) (w:World) (h:zCj w t) (hs:zBR t) (hF:TnF t) (hx:t.ats[i]?=some x) (hg:InC w g 0 (zAl t a)):Gv Tryz.prog 17 [.pointer (some ⟨g,0,none⟩),.int .i64 (i:Int),.int .i64 1] w (.int .u8 (zDS t x 0)):=by
 have hW:=fun W (hW:Below w.heap.size w W)=>zEy t i 0 a g x W (h.below hW) hs hF hx (by omega) (hg.below hW)
 obtain ⟨v,hv⟩:∃ v,v=zBw t x 0:=⟨_,rfl⟩
 have e:zDS t x 0=if x.age<t.p1.age∨v.2<t.p1.runs then 0 else if t.p1.runs≤v.1 then 2 else 1:=by rw [hv];rfl
 rw [e]
 rw [← hv] at hW
 clear hv e
 obtain ⟨v1,v2⟩:=v
 have h4:=h.a
 have k4:=hs.a
 have hlt:=(List.getElem?_eq_some_iff.1 hx).1
 have:zAT t.ats i x:=⟨hx⟩
 obtain ⟨bA,oA,hAe,hAl,hAc⟩:=h4.at_ hlt
 unfold zAl at hg
 rw [hAe] at hg
 have:InS w bA oA zB1 4 t.ats:=⟨hAe ▸ h4⟩
 obtain ⟨id,na,ag,RA,rides,rc⟩:=x
 unfold Gv
 simp only at hW ⊢
 (refine zK (n:=47) Tryz.func17 rfl rfl rfl ?_)
 (repeat' (first|((with_reducible refine zG ?_);first|refine zD rfl rfl rfl ?_|refine zC rfl rfl rfl ?_|(refine zJ rfl rfl rfl ?_;refine ⟨_,rfl,?_⟩)|refine zL rfl rfl rfl ?_|refine zBc (I:=0) rfl rfl rfl rfl rfl (by decide) ?_|refine zO rfl rfl rfl rfl (fun _ _ q=>hW _ q.below) ?_|refine zk rfl rfl rfl rfl ?_|refine zAc rfl rfl rfl rfl (IntWalk.i64_in _ (by omega)) ?_|(refine zX rfl rfl rfl rfl rfl ?_;refine ⟨rfl,by first|decide|exact Nat.le_of_ble_eq_true rfl|(simp;omega),_,rfl,?_⟩)|(refine zb rfl rfl (fun b=>?_))|refine zBG rfl rfl rfl ?_)|(with_reducible first|refine zI ?_|refine zB ?_|refine zE ?_|refine zA ?_)))
 (refine zAD (by kernel_rfl) (by kernel_rfl) (by kernel_rfl) ?_)
 (repeat' (first|((with_reducible refine zAP ?_);first|refine zM (zl rfl rfl) rfl ?_|refine zM (zW rfl rfl (by exact rfl)) rfl ?_|refine zM (zY rfl rfl) rfl ?_|refine zM (zAh rfl rfl rfl) rfl ?_|refine zAJ rfl rfl rfl ?_|(refine zAu rfl rfl rfl rfl rfl (fun h=>?_) (fun h=>?_)<;>(dsimp only [cmpP] at h;(try (exfalso;omega))))|refine zM (zw (I:=i) rfl rfl rfl (by omega) (by first|omega|(dsimp only;omega))) rfl ?_|refine zM (z8 rfl rfl) rfl ?_)|(with_reducible refine zAe ?_)))
 all_goals (repeat' (first|((with_reducible refine zG ?_);first|refine zD rfl rfl rfl ?_|refine zC rfl rfl rfl ?_|(refine zJ rfl rfl rfl ?_;refine ⟨_,rfl,?_⟩)|refine zL rfl rfl rfl ?_|(refine zS rfl rfl rfl rfl rfl (fun h=>?_) (fun h=>?_)<;>(dsimp only [cmpP] at h;(try (exfalso;omega)))))|(with_reducible first|refine zI ?_|refine zB ?_|refine zE ?_|refine zA ?_|refine zV ?_|refine zR ?_|refine zU ?_)|((with_reducible refine zH ?_ ?_);(· exact rfl))|((with_reducible refine zF ?_ ?_);(· exact rfl))))
 all_goals first|(refine zP (by exact rTm rfl) () trivial ?_ (fun _ h=>h.sub (by (repeat constructor)));rw [if_pos (by omega)];rfl)|(refine zP (by exact rTm rfl) () trivial ?_ (fun _ h=>h.sub (by (repeat constructor)));rw [if_neg (by omega),if_pos (by omega)];rfl)|(refine zP (by exact rTm rfl) () trivial ?_ (fun _ h=>h.sub (by (repeat constructor)));rw [if_neg (by omega),if_neg (by omega)];rfl)
set_option maxHeartbeats 2000000 in
theorem ulic_1 (t:TrM) (i a g:Nat) (x:AtM) (w:World) (h:zCj w t) (hs:zBR t) (hF:TnF t) (hx:t.ats[i]?=some x) (hg:InC w g 0 (zAl t a)):Gv Tryz.prog 17 [.pointer (some ⟨g,0,none⟩),.int .i64 (i:Int),.int .i64 2] w (.int .u8 (zDS t x 1)):=by
 have hW:=fun W (hW:Below w.heap.size w W)=>zEy t i 1 a g x W (h.below hW) hs hF hx (by omega) (hg.below hW)
 obtain ⟨v,hv⟩:∃ v,v=zBw t x 1:=⟨_,rfl⟩
 have e:zDS t x 1=if x.age<t.p2.age∨v.2<t.p2.runs then 0 else if t.p2.runs≤v.1 then 2 else 1:=by rw [hv];rfl
 rw [e]
 rw [← hv] at hW
 clear hv e
 obtain ⟨v1,v2⟩:=v
 have h4:=h.a
 have k4:=hs.a
 have hlt:=(List.getElem?_eq_some_iff.1 hx).1
 have:zAT t.ats i x:=⟨hx⟩
 obtain ⟨bA,oA,hAe,hAl,hAc⟩:=h4.at_ hlt
 unfold zAl at hg
 rw [hAe] at hg
 have:InS w bA oA zB1 4 t.ats:=⟨hAe ▸ h4⟩
 obtain ⟨id,na,ag,RA,rides,rc⟩:=x
 unfold Gv
 simp only at hW ⊢
 (refine zK (n:=47) Tryz.func17 rfl rfl rfl ?_)
 (repeat' (first|((with_reducible refine zG ?_);first|refine zD rfl rfl rfl ?_|refine zC rfl rfl rfl ?_|(refine zJ rfl rfl rfl ?_;refine ⟨_,rfl,?_⟩)|refine zL rfl rfl rfl ?_|refine zBc (I:=1) rfl rfl rfl rfl rfl (by decide) ?_|refine zO rfl rfl rfl rfl (fun _ _ q=>hW _ q.below) ?_|refine zk rfl rfl rfl rfl ?_|refine zAc rfl rfl rfl rfl (IntWalk.i64_in _ (by omega)) ?_|(refine zX rfl rfl rfl rfl rfl ?_;refine ⟨rfl,by first|decide|exact Nat.le_of_ble_eq_true rfl|(simp;omega),_,rfl,?_⟩)|(refine zb rfl rfl (fun b=>?_))|refine zBG rfl rfl rfl ?_)|(with_reducible first|refine zI ?_|refine zB ?_|refine zE ?_|refine zA ?_)))
 (refine zAD (by kernel_rfl) (by kernel_rfl) (by kernel_rfl) ?_)
 (repeat' (first|((with_reducible refine zAP ?_);first|refine zM (zl rfl rfl) rfl ?_|refine zM (zW rfl rfl (by exact rfl)) rfl ?_|refine zM (zY rfl rfl) rfl ?_|refine zM (zAh rfl rfl rfl) rfl ?_|refine zAJ rfl rfl rfl ?_|(refine zAu rfl rfl rfl rfl rfl (fun h=>?_) (fun h=>?_)<;>(dsimp only [cmpP] at h;(try (exfalso;omega))))|refine zM (zw (I:=i) rfl rfl rfl (by omega) (by first|omega|(dsimp only;omega))) rfl ?_|refine zM (z8 rfl rfl) rfl ?_)|(with_reducible refine zAe ?_)))
 all_goals (repeat' (first|((with_reducible refine zG ?_);first|refine zD rfl rfl rfl ?_|refine zC rfl rfl rfl ?_|(refine zJ rfl rfl rfl ?_;refine ⟨_,rfl,?_⟩)|refine zL rfl rfl rfl ?_|(refine zS rfl rfl rfl rfl rfl (fun h=>?_) (fun h=>?_)<;>(dsimp only [cmpP] at h;(try (exfalso;omega)))))|(with_reducible first|refine zI ?_|refine zB ?_|refine zE ?_|refine zA ?_|refine zV ?_|refine zR ?_|refine zU ?_)|((with_reducible refine zH ?_ ?_);(· exact rfl))|((with_reducible refine zF ?_ ?_);(· exact rfl))))
 all_goals first|(refine zP (by exact rTm rfl) () trivial ?_ (fun _ h=>h.sub (by (repeat constructor)));rw [if_pos (by omega)];rfl)|(refine zP (by exact rTm rfl) () trivial ?_ (fun _ h=>h.sub (by (repeat constructor)));rw [if_neg (by omega),if_pos (by omega)];rfl)|(refine zP (by exact rTm rfl) () trivial ?_ (fun _ h=>h.sub (by (repeat constructor)));rw [if_neg (by omega),if_neg (by omega)];rfl)
set_option maxHeartbeats 2000000 in
theorem ulic_2 (t:TrM) (i a g:Nat) (x:AtM) (w:World) (h:zCj w t) (hs:zBR t) (hF:TnF t) (hx:t.ats[i]?=some x) (hg:InC w g 0 (zAl t a)):Gv Tryz.prog 17 [.pointer (some ⟨g,0,none⟩),.int .i64 (i:Int),.int .i64 3] w (.int .u8 (zDS t x 2)):=by
 have hW:=fun W (hW:Below w.heap.size w W)=>zEy t i 2 a g x W (h.below hW) hs hF hx (by omega) (hg.below hW)
 obtain ⟨v,hv⟩:∃ v,v=zBw t x 2:=⟨_,rfl⟩
 have e:zDS t x 2=if x.age<t.p3.age∨v.2<t.p3.runs then 0 else if t.p3.runs≤v.1 then 2 else 1:=by rw [hv];rfl
 rw [e]
 rw [← hv] at hW
 clear hv e
 obtain ⟨v1,v2⟩:=v
 have h4:=h.a
 have k4:=hs.a
 have hlt:=(List.getElem?_eq_some_iff.1 hx).1
 have:zAT t.ats i x:=⟨hx⟩
 obtain ⟨bA,oA,hAe,hAl,hAc⟩:=h4.at_ hlt
 unfold zAl at hg
 rw [hAe] at hg
 have:InS w bA oA zB1 4 t.ats:=⟨hAe ▸ h4⟩
 obtain ⟨id,na,ag,RA,rides,rc⟩:=x
 unfold Gv
 simp only at hW ⊢
 (refine zK (n:=47) Tryz.func17 rfl rfl rfl ?_)
 (repeat' (first|((with_reducible refine zG ?_);first|refine zD rfl rfl rfl ?_|refine zC rfl rfl rfl ?_|(refine zJ rfl rfl rfl ?_;refine ⟨_,rfl,?_⟩)|refine zL rfl rfl rfl ?_|refine zBc (I:=2) rfl rfl rfl rfl rfl (by decide) ?_|refine zO rfl rfl rfl rfl (fun _ _ q=>hW _ q.below) ?_|refine zk rfl rfl rfl rfl ?_|refine zAc rfl rfl rfl rfl (IntWalk.i64_in _ (by omega)) ?_|(refine zX rfl rfl rfl rfl rfl ?_;refine ⟨rfl,by first|decide|exact Nat.le_of_ble_eq_true rfl|(simp;omega),_,rfl,?_⟩)|(refine zb rfl rfl (fun b=>?_))|refine zBG rfl rfl rfl ?_)|(with_reducible first|refine zI ?_|refine zB ?_|refine zE ?_|refine zA ?_)))
 (refine zAD (by kernel_rfl) (by kernel_rfl) (by kernel_rfl) ?_)
 (repeat' (first|((with_reducible refine zAP ?_);first|refine zM (zl rfl rfl) rfl ?_|refine zM (zW rfl rfl (by exact rfl)) rfl ?_|refine zM (zY rfl rfl) rfl ?_|refine zM (zAh rfl rfl rfl) rfl ?_|refine zAJ rfl rfl rfl ?_|(refine zAu rfl rfl rfl rfl rfl (fun h=>?_) (fun h=>?_)<;>(dsimp only [cmpP] at h;(try (exfalso;omega))))|refine zM (zw (I:=i) rfl rfl rfl (by omega) (by first|omega|(dsimp only;omega))) rfl ?_|refine zM (z8 rfl rfl) rfl ?_)|(with_reducible refine zAe ?_)))
 all_goals (repeat' (first|((with_reducible refine zG ?_);first|refine zD rfl rfl rfl ?_|refine zC rfl rfl rfl ?_|(refine zJ rfl rfl rfl ?_;refine ⟨_,rfl,?_⟩)|refine zL rfl rfl rfl ?_|(refine zS rfl rfl rfl rfl rfl (fun h=>?_) (fun h=>?_)<;>(dsimp only [cmpP] at h;(try (exfalso;omega)))))|(with_reducible first|refine zI ?_|refine zB ?_|refine zE ?_|refine zA ?_|refine zV ?_|refine zR ?_|refine zU ?_)|((with_reducible refine zH ?_ ?_);(· exact rfl))|((with_reducible refine zF ?_ ?_);(· exact rfl))))
 all_goals first|(refine zP (by exact rTm rfl) () trivial ?_ (fun _ h=>h.sub (by (repeat constructor)));rw [if_pos (by omega)];rfl)|(refine zP (by exact rTm rfl) () trivial ?_ (fun _ h=>h.sub (by (repeat constructor)));rw [if_neg (by omega),if_pos (by omega)];rfl)|(refine zP (by exact rTm rfl) () trivial ?_ (fun _ h=>h.sub (by (repeat constructor)));rw [if_neg (by omega),if_neg (by omega)];rfl)
theorem zJC (t:TrM) (i k a g:Nat) (x:AtM) (w:World) (h:zCj w t) (hs:zBR t) (hF:TnF t) (hx:t.ats[i]?=some x) (hk:k<3) (hg:InC w g 0 (zAl t a)):Gv Tryz.prog 17 [.pointer (some ⟨g,0,none⟩),.int .i64 (i:Int),.int .i64 ((k:Int)+1)] w (.int .u8 (zDS t x k)):=by
 obtain rfl|rfl|rfl:k=0∨k=1∨k=2:=by omega
 ·exact ulic_0 t i a g x w h hs hF hx hg
 ·exact ulic_1 t i a g x w h hs hF hx hg
 ·exact ulic_2 t i a g x w h hs hF hx hg
end Go.Proofs.YtfiekidciiighaaGreat.Two
namespace Go.Proofs.YtfiekidciiighaaGreat.Two
variable {ro : Option Nat}
open Go.RowKit
set_option maxRecDepth 20000
set_option maxHeartbeats 2000000 in
theorem zLc (t:TrM) (a c:Int) (w:World) (h:zCj w t) (hs:zBR t):Gv Tryz.prog 5 [vTn t,.int .i64 a,.int .i64 c] w (.tuple #[.int .i64 (zEd t a c).1,.int .i64 (zEd t a c).2,.int .i64 (zBk t a c)]):=by
 have hA:=fun W (hW:Below w.heap.size w W)=>zGz t a c W (h.below hW) hs
 by_cases h0:zBk t a c=0
 ·obtain ⟨hF,i,x,k,rfl,hx,hk,rfl⟩:=zIx h0
  rw [zI5 h0 hx]
  have hW:=fun W gd ga (hW:Below w.heap.size w W) (hg:InC W gd 0 (zAl t ga))=>zEy t i k ga gd x W (h.below hW) hs hF hx hk hg
  rw [h0] at hA ⊢
  generalize zAl t=cd at *
  generalize zBw t x k=v at *
  obtain ⟨v1,v2⟩:=v
  simp only at hW
  unfold Gv
  unfold vTn zg at *
  (refine zK (n:=29) Tryz.func5 rfl rfl rfl ?_)
  (repeat' (first|((with_reducible refine zG ?_);first|refine zD rfl rfl rfl ?_|refine zC rfl rfl rfl ?_|(refine zJ rfl rfl rfl ?_;refine ⟨_,rfl,?_⟩)|(refine zS rfl rfl rfl rfl rfl (fun h=>?_) (fun h=>?_)<;>(dsimp only [cmpP] at h;(try (exfalso;omega))))|(refine zBL rfl rfl rfl rfl (fun _ _ q=>hA _ q.below) ?_;rintro (_ | ⟨gd,ga⟩) hp;(exact absurd rfl hp);dsimp only [Option.map,List.cons_append,List.nil_append])|refine zO rfl rfl rfl rfl (fun _ _ q=>hW _ _ _ q.below (zA7 q.own (Below.refl _ _) rfl)) ?_|refine zk rfl rfl rfl rfl ?_|(refine zp rfl rfl rfl rfl (fun b=>?_)))|(with_reducible first|refine zI ?_|refine zB ?_|refine zE ?_|refine zA ?_|refine zV ?_|refine zR ?_)|((with_reducible refine zF ?_ ?_);(· exact rfl))))
  exact zP (by (exact zh.cons (by exact zAO.tmp rfl) (zh.cons (by exact zAO.tmp rfl) (zh.cons (by exact zAO.tmp rfl) zh.nil)))) () trivial rfl (fun _ h=>h.sub (by (repeat constructor)))
 ·have e:zEd t a c=(0,0):=by unfold zEd;rw [if_neg h0]
  rw [e]
  generalize zBk t a c=e9 at *
  generalize zAl t=cd at *
  unfold Gv
  unfold vTn zg at *
  (refine zK (n:=29) Tryz.func5 rfl rfl rfl ?_)
  (repeat' (first|((with_reducible refine zG ?_);first|refine zD rfl rfl rfl ?_|refine zC rfl rfl rfl ?_|(refine zJ rfl rfl rfl ?_;refine ⟨_,rfl,?_⟩)|(refine zS rfl rfl rfl rfl rfl (fun h=>?_) (fun h=>?_)<;>(dsimp only [cmpP] at h;(try (exfalso;omega))))|(refine zBL rfl rfl rfl rfl (fun _ _ q=>hA _ q.below) ?_;rintro (_ | ⟨gd,ga⟩) hp;rotate_left;(exact absurd hp h0);dsimp only [Option.map,List.cons_append,List.nil_append])|refine zk rfl rfl rfl rfl ?_|(refine zp rfl rfl rfl rfl (fun b=>?_)))|(with_reducible first|refine zI ?_|refine zB ?_|refine zE ?_|refine zA ?_|refine zV ?_|refine zU ?_)|((with_reducible refine zH ?_ ?_);(· exact rfl))))
  exact zP (by (exact zh.cons (by exact zAO.tmp rfl) (zh.cons (by exact zAO.tmp rfl) (zh.cons (by exact zAO.tmp rfl) zh.nil)))) () trivial rfl (fun _ h=>h.sub (by (repeat constructor)))
set_option maxHeartbeats 2000000 in
theorem zIi (t:TrM) (a c:Int) (w:World) (h:zCj w t) (hs:zBR t):Gv Tryz.prog 7 [vTn t,.int .i64 a,.int .i64 c] w (.tuple #[.int .u8 (licT t a c),.int .i64 (zBk t a c)]):=by
 have hA:=fun W (hW:Below w.heap.size w W)=>zGz t a c W (h.below hW) hs
 by_cases h0:zBk t a c=0
 ·obtain ⟨hF,i,x,k,rfl,hx,hk,rfl⟩:=zIx h0
  rw [zLI h0 hx]
  have hW:=fun W gd ga (hW:Below w.heap.size w W) (hg:InC W gd 0 (zAl t ga))=>zJC t i k ga gd x W (h.below hW) hs hF hx hk hg
  rw [h0] at hA ⊢
  generalize zAl t=cd at *
  generalize zDS t x k=v at *
  unfold Gv
  unfold vTn zg at *
  (refine zK (n:=24) Tryz.func7 rfl rfl rfl ?_)
  (repeat' (first|((with_reducible refine zG ?_);first|refine zD rfl rfl rfl ?_|refine zC rfl rfl rfl ?_|(refine zJ rfl rfl rfl ?_;refine ⟨_,rfl,?_⟩)|(refine zS rfl rfl rfl rfl rfl (fun h=>?_) (fun h=>?_)<;>(dsimp only [cmpP] at h;(try (exfalso;omega))))|(refine zBL rfl rfl rfl rfl (fun _ _ q=>hA _ q.below) ?_;rintro (_ | ⟨gd,ga⟩) hp;(exact absurd rfl hp);dsimp only [Option.map,List.cons_append,List.nil_append])|refine zO rfl rfl rfl rfl (fun _ _ q=>hW _ _ _ q.below (zA7 q.own (Below.refl _ _) rfl)) ?_|refine zk rfl rfl rfl rfl ?_|(refine zp rfl rfl rfl rfl (fun b=>?_)))|(with_reducible first|refine zI ?_|refine zB ?_|refine zE ?_|refine zA ?_|refine zV ?_|refine zR ?_)|((with_reducible refine zF ?_ ?_);(· exact rfl))))
  exact zP (by (exact zh.cons (by exact zAO.tmp rfl) (zh.cons (by exact zAO.tmp rfl) zh.nil))) () trivial rfl (fun _ h=>h.sub (by (repeat constructor)))
 ·have e:licT t a c=0:=by unfold licT;rw [if_neg h0]
  rw [e]
  generalize zBk t a c=e9 at *
  generalize zAl t=cd at *
  unfold Gv
  unfold vTn zg at *
  (refine zK (n:=24) Tryz.func7 rfl rfl rfl ?_)
  (repeat' (first|((with_reducible refine zG ?_);first|refine zD rfl rfl rfl ?_|refine zC rfl rfl rfl ?_|(refine zJ rfl rfl rfl ?_;refine ⟨_,rfl,?_⟩)|(refine zS rfl rfl rfl rfl rfl (fun h=>?_) (fun h=>?_)<;>(dsimp only [cmpP] at h;(try (exfalso;omega))))|(refine zBL rfl rfl rfl rfl (fun _ _ q=>hA _ q.below) ?_;rintro (_ | ⟨gd,ga⟩) hp;rotate_left;(exact absurd hp h0);dsimp only [Option.map,List.cons_append,List.nil_append])|refine zk rfl rfl rfl rfl ?_|(refine zp rfl rfl rfl rfl (fun b=>?_)))|(with_reducible first|refine zI ?_|refine zB ?_|refine zE ?_|refine zA ?_|refine zV ?_|refine zU ?_)|((with_reducible refine zH ?_ ?_);(· exact rfl))))
  exact zP (by (exact zh.cons (by exact zAO.tmp rfl) (zh.cons (by exact zAO.tmp rfl) zh.nil))) () trivial rfl (fun _ h=>h.sub (by (repeat constructor)))
set_option maxHeartbeats 4000000 in
theorem zLd (t:TrM) (a c:Int) (w:World) (h:zCj w t) (hs:zBR t):zCe encI 1 (zD2 t a c) (fun v=>.tuple #[v,.int .i64 (zC2 t a c)]) Tryz.prog 9 [vTn t,.int .i64 a,.int .i64 c] w:=by
 have hA:=fun W (hW:Below w.heap.size w W)=>zHu t W (h.below hW) hs
 have hsa:=hs.a
 have hsn:=hs.n
 unfold zCe
 by_cases h0:zC2 t a c=0
 rotate_left
 ·have e:zD2 t a c=[]:=by unfold zD2;rw [if_neg h0]
  rw [e]
  by_cases h1:zBu t=0
  rotate_left
  ·have e2:zC2 t a c=zBu t:=by unfold zC2;rw [if_neg h1]
   rw [e2]
   generalize zBu t=e8 at *
   generalize zAl t=cd at *
   unfold vTn zg at *
   (refine zK (n:=60) Tryz.func9 rfl rfl rfl ?_)
   (repeat' (first|((with_reducible refine zG ?_);first|refine zD rfl rfl rfl ?_|refine zC rfl rfl rfl ?_|(refine zJ rfl rfl rfl ?_;refine ⟨_,rfl,?_⟩)|(refine zS rfl rfl rfl rfl rfl (fun h=>?_) (fun h=>?_)<;>(dsimp only [cmpP] at h;(try (exfalso;omega))))|(refine zBL rfl rfl rfl rfl (fun _ _ q=>hA _ q.below) ?_;rintro (_ | ⟨gd,ga⟩) hp;rotate_left;(exact absurd hp h1);dsimp only [Option.map,List.cons_append,List.nil_append])|refine zk rfl rfl rfl rfl ?_|(refine zp rfl rfl rfl rfl (fun b=>?_)))|(with_reducible first|refine zI ?_|refine zB ?_|refine zE ?_|refine zA ?_|refine zV ?_|refine zU ?_)|((with_reducible refine zH ?_ ?_);(· exact rfl))))
   exact zP (by (exact zh.cons (by exact zAO.tmp rfl) (zh.cons (by exact zAO.tmp rfl) zh.nil))) (none,0) trivial rfl (fun _ h=>(zDN h).sub (by (repeat constructor)))
  have e2:zC2 t a c=2:=by
   unfold zC2 at h0 ⊢
   rw [if_pos h1] at h0 ⊢
   by_cases h3:(inB 0 ((t.nas.length:Int) - 1) a && inB 1 3 c)=true
   ·rw [if_pos h3] at h0;exact absurd rfl h0
   ·rw [if_neg h3]
  have h3:inB 0 ((t.nas.length:Int) - 1) a=true→inB 1 3 c=false:=fun h5=>by
   cases h4:inB 1 3 c with
   | false=>rfl
   | true =>
    unfold zC2 at h0
    rw [if_pos h1,h5,h4] at h0
    exact absurd rfl h0
  rw [e2]
  rw [h1] at hA
  generalize zAl t=cd at *
  unfold vTn zg at *
  cases i1:inB 0 ((t.nas.length:Int) - 1) a with
  | false =>
   (refine zK (n:=60) Tryz.func9 rfl rfl rfl ?_)
   (repeat' (first|((with_reducible refine zG ?_);first|refine zD rfl rfl rfl ?_|refine zC rfl rfl rfl ?_|(refine zJ rfl rfl rfl ?_;refine ⟨_,rfl,?_⟩)|refine zL rfl rfl rfl ?_|refine z7 rfl rfl rfl rfl ?_|refine zf rfl rfl rfl ?_|(refine zS rfl rfl rfl rfl rfl (fun h=>?_) (fun h=>?_)<;>(dsimp only [cmpP] at h;(try (exfalso;omega))))|(refine zBL rfl rfl rfl rfl (fun _ _ q=>hA _ q.below) ?_;rintro (_ | ⟨gd,ga⟩) hp;(exact absurd rfl hp);dsimp only [Option.map,List.cons_append,List.nil_append])|(refine zO rfl rfl rfl rfl (fun _ _ q=>i1 ▸ uin1 _ _ _ _ _ _ (zAF (enc:=encI) (by exact rfl) _ q.below q.own)) ?_)|refine zk rfl rfl rfl rfl ?_|refine zAI rfl rfl rfl ?_|refine zAc rfl rfl rfl rfl (IntWalk.i64_in _ (by omega)) ?_|refine zn rfl rfl rfl ?_|(refine zp rfl rfl rfl rfl (fun b=>?_))|(refine zi rfl rfl rfl ?_;refine ⟨rfl,_,rfl,fun b=>?_⟩))|(with_reducible first|refine zI ?_|refine zB ?_|refine zE ?_|refine zA ?_|refine zV ?_|refine zR ?_|refine zU ?_)|((with_reducible refine zH ?_ ?_);(· exact rfl))|((with_reducible refine zF ?_ ?_);(· exact rfl))))
   exact zP (by (exact zh.cons (by exact zAO.tmp rfl) (zh.cons (by exact zAO.tmp rfl) zh.nil))) (none,0) trivial rfl (fun _ h=>(zDN h).sub (by (repeat constructor)))
  | true =>
   have i2:=h3 i1
   (refine zK (n:=60) Tryz.func9 rfl rfl rfl ?_)
   (repeat' (first|((with_reducible refine zG ?_);first|refine zD rfl rfl rfl ?_|refine zC rfl rfl rfl ?_|(refine zJ rfl rfl rfl ?_;refine ⟨_,rfl,?_⟩)|refine zL rfl rfl rfl ?_|refine z7 rfl rfl rfl rfl ?_|(refine zS rfl rfl rfl rfl rfl (fun h=>?_) (fun h=>?_)<;>(dsimp only [cmpP] at h;(try (exfalso;omega))))|(refine zBL rfl rfl rfl rfl (fun _ _ q=>hA _ q.below) ?_;rintro (_ | ⟨gd,ga⟩) hp;(exact absurd rfl hp);dsimp only [Option.map,List.cons_append,List.nil_append])|(refine zO rfl rfl rfl rfl (fun _ _ q=>i1 ▸ uin1 _ _ _ _ _ _ (zAF (enc:=encI) (by exact rfl) _ q.below q.own)) ?_)|(refine zO rfl rfl rfl rfl (fun _ _ q=>i2 ▸ uin1 _ _ _ _ _ _ (zAF (enc:=encI) (by exact rfl) _ q.below q.own)) ?_)|refine zk rfl rfl rfl rfl ?_|refine zAI rfl rfl rfl ?_|refine zAc rfl rfl rfl rfl (IntWalk.i64_in _ (by omega)) ?_|refine zn rfl rfl rfl ?_|(refine zp rfl rfl rfl rfl (fun b=>?_))|(refine zi rfl rfl rfl ?_;refine ⟨rfl,_,rfl,fun b=>?_⟩))|(with_reducible first|refine zI ?_|refine zB ?_|refine zE ?_|refine zA ?_|refine zV ?_|refine zR ?_|refine zU ?_)|((with_reducible refine zH ?_ ?_);(· exact rfl))|((with_reducible refine zF ?_ ?_);(· exact rfl))))
   exact zP (by (exact zh.cons (by exact zAO.tmp rfl) (zh.cons (by exact zAO.tmp rfl) zh.nil))) (none,0) trivial rfl (fun _ h=>(zDN h).sub (by (repeat constructor)))
 obtain ⟨h1,hF,i1,i2,k,hk,rfl⟩:=zLJ h0
 have e:zD2 t a ((k:Int)+1)=zDb t a k t.ats.length:=by unfold zD2;rw [if_pos h0,show ((k:Int)+1 - 1).toNat=k by omega]
 rw [e,h0]
 rw [h1] at hA
 have hLi:=fun (i:Nat) x (hx:t.ats[i]?=some x) W gd ga (hW:Below w.heap.size w W) (hg:InC W gd 0 (zAl t ga))=>zJC t i k ga gd x W (h.below hW) hs hF hx hk hg
 have hT1:=fun (i:Nat) x (hx:t.ats[i]?=some x)=>zGL (a:=a) (c:=k) hx
 have hTl:=fun (i:Nat)=>zFL (t:=t) (a:=a) (c:=k) (i:=i)
 have hT0:=zGK (t:=t) (a:=a) (c:=k)
 generalize zDb t a k=tt at *
 generalize zAl t=cd at *
 obtain ⟨li9,hli9⟩:∃ f:AtM→Int,f=fun x=>zDS t x k:=⟨_,rfl⟩
 have hfe:=fun x=>congrFun hli9 x
 (try simp only at hfe)
 simp only [← hfe] at hLi hT1
 clear hfe hli9
 have h4:=h.a
 obtain ⟨l,nas,NA,nc,gns,GA,gc,total,gap,down,every,seats,pace,ats,AA,ac,p1,p2,p3⟩:=t
 unfold vTn zg at *
 simp only at hsa hsn hA hLi hT1 h4 i1 ⊢
 (refine zK (n:=60) Tryz.func9 rfl rfl rfl ?_)
 (repeat' (first|((with_reducible refine zG ?_);first|refine zD rfl rfl rfl ?_|refine zC rfl rfl rfl ?_|(refine zJ rfl rfl rfl ?_;refine ⟨_,rfl,?_⟩)|refine zL rfl rfl rfl ?_|refine z7 rfl rfl rfl rfl ?_|(refine zS rfl rfl rfl rfl rfl (fun h=>?_) (fun h=>?_)<;>(dsimp only [cmpP] at h;(try (exfalso;omega))))|(refine zBL rfl rfl rfl rfl (fun _ _ q=>hA _ q.below) ?_;rintro (_ | ⟨gd,ga⟩) hp;(exact absurd rfl hp);dsimp only [Option.map,List.cons_append,List.nil_append])|(refine zO rfl rfl rfl rfl (fun _ _ q=>i1 ▸ uin1 _ _ _ _ _ _ (zAF (enc:=encI) (by exact rfl) _ q.below q.own)) ?_)|(refine zO rfl rfl rfl rfl (fun _ _ q=>i2 ▸ uin1 _ _ _ _ _ _ (zAF (enc:=encI) (by exact rfl) _ q.below q.own)) ?_)|refine zk rfl rfl rfl rfl ?_|refine zAI rfl rfl rfl ?_|refine zAc rfl rfl rfl rfl (IntWalk.i64_in _ (by omega)) ?_|refine zn rfl rfl rfl ?_|(refine zp rfl rfl rfl rfl (fun b=>?_))|(refine zi rfl rfl rfl ?_;refine ⟨rfl,_,rfl,fun b=>?_⟩))|(with_reducible first|refine zI ?_|refine zB ?_|refine zE ?_|refine zA ?_|refine zR ?_|refine zQ ?_)|((with_reducible refine zF ?_ ?_);(· exact rfl))))
 refine zBa encI 1 3 ?_
 refine zAB (ι:=Nat × Value) [1,2,8,36,37] rfl (fun q=>q.1≤ats.length) (fun q=>[(38,.int .i64 (q.1:Int)),(10,q.2)]) (fun q=>[.row encI 1 3 q.2 (tt q.1),.blk gd (cd ga)]) (fun q=>ats.length - q.1) (0,.slice none 0 0) (Nat.zero_le _) (by (repeat first|exact lK1|refine zT rfl ?_)) (by rw [hT0];(repeat constructor)) ?_
 rintro ⟨i,v⟩ hi
 simp only at hi
 simp only [zAk,List.cons_append,List.nil_append]
 have htl:=hTl i
 by_cases hil:i<ats.length
 rotate_left
 ·obtain rfl:i=ats.length:=by omega
  (repeat' (first|((with_reducible refine zG ?_);first|refine zD rfl rfl rfl ?_|refine zC rfl rfl rfl ?_|(refine zS rfl rfl rfl rfl rfl (fun h=>?_) (fun h=>?_)<;>(dsimp only [cmpP] at h;(try (exfalso;omega)))))|(with_reducible first|refine zI ?_|refine zB ?_|refine zE ?_|refine zA ?_|refine zV ?_|refine zz ?_|refine zZ ?_|refine ze ?_)|((with_reducible refine zF ?_ ?_);(· exact rfl))))
  refine zBT (xs:=tt ats.length) (enc:=encI) (by (repeat constructor)) ?_
  rintro A9 c9 rfl
  exact zP (by (exact zh.cons (by exact zAO.tmp rfl) (zh.cons (by exact zAO.tmp rfl) zh.nil))) (A9,c9) trivial rfl (fun _ h=>(h.zCN (xs:=tt ats.length) (enc:=encI) (by (repeat constructor))).sub (by (repeat constructor)))
 obtain ⟨x,hx⟩:∃ x,ats[i]?=some x:=⟨_,List.getElem?_eq_getElem hil⟩
 have:zAT ats i x:=⟨hx⟩
 obtain ⟨bA,oA,hAe,hAl,hAc⟩:=h4.at_ hil
 subst hAe
 have:InS w bA oA zB1 4 ats:=⟨h4⟩
 have hL:=hLi i x hx
 have hT2:=hT1 i x hx
 generalize li9 x=li at *
 obtain ⟨id,na,ag,RA,rides,rc⟩:=x
 simp only at hT2
 by_cases hA2:na=a∧li=2
 ·rw [if_pos hA2] at hT2
  (repeat' (first|((with_reducible refine zG ?_);first|refine zD rfl rfl rfl ?_|refine zC rfl rfl rfl ?_|(refine zJ rfl rfl rfl ?_;refine ⟨_,rfl,?_⟩)|refine zL rfl rfl rfl ?_|refine z7 rfl rfl rfl rfl ?_|(refine zS rfl rfl rfl rfl rfl (fun h=>?_) (fun h=>?_)<;>(dsimp only [cmpP] at h;(try (exfalso;omega))))|refine zo (I:=i) rfl rfl rfl rfl rfl (by omega) ?_|refine zO rfl rfl rfl rfl (fun _ _ q=>hL _ _ _ q.below (zA7 q.own (Below.refl _ _) rfl)) ?_|(refine zB6 (enc:=encI) [_] rfl rfl rfl (by (repeat constructor)) rfl rfl (zAF (by exact rfl)) (by refine ⟨?_,by decide⟩;(try simp only [List.length_append,List.length_cons,List.length_nil]);omega) (fun A' c'=>?_))|refine zu rfl rfl rfl rfl (by omega) ?_|(refine zX rfl rfl rfl rfl rfl ?_;refine ⟨rfl,by first|decide|exact Nat.le_of_ble_eq_true rfl|(simp;omega),_,rfl,?_⟩)|(refine zb rfl rfl (fun b=>?_))|(refine zi rfl rfl rfl ?_;refine ⟨rfl,_,rfl,fun b=>?_⟩))|(with_reducible first|refine zI ?_|refine zB ?_|refine zE ?_|refine zA ?_|refine zR ?_|refine zQ ?_|refine zj ?_)|((with_reducible refine zH ?_ ?_);(· exact rfl))))
  exact zd (ι:=Nat × Value) (i+1,.slice A' (tt i++[(i:Int)]).length c') (by simp only;omega) (by simp only;omega) (by (repeat first|exact lK1|refine zT rfl ?_)) (by rw [hT2];(repeat constructor))
 ·rw [if_neg hA2,List.append_nil] at hT2
  (repeat' (first|((with_reducible refine zG ?_);first|refine zD rfl rfl rfl ?_|refine zC rfl rfl rfl ?_|(refine zJ rfl rfl rfl ?_;refine ⟨_,rfl,?_⟩)|refine zL rfl rfl rfl ?_|refine z7 rfl rfl rfl rfl ?_|refine zf rfl rfl rfl ?_|(refine zS rfl rfl rfl rfl rfl (fun h=>?_) (fun h=>?_)<;>(dsimp only [cmpP] at h;(try (exfalso;omega))))|refine zo (I:=i) rfl rfl rfl rfl rfl (by omega) ?_|refine zO rfl rfl rfl rfl (fun _ _ q=>hL _ _ _ q.below (zA7 q.own (Below.refl _ _) rfl)) ?_|refine zu rfl rfl rfl rfl (by omega) ?_|(refine zX rfl rfl rfl rfl rfl ?_;refine ⟨rfl,by first|decide|exact Nat.le_of_ble_eq_true rfl|(simp;omega),_,rfl,?_⟩)|(refine zb rfl rfl (fun b=>?_)))|(with_reducible first|refine zI ?_|refine zB ?_|refine zE ?_|refine zA ?_|refine zR ?_|refine zQ ?_|refine zj ?_)|((with_reducible refine zH ?_ ?_);(· exact rfl))|((with_reducible refine zF ?_ ?_);(· exact rfl))))
  all_goals exact zd (ι:=Nat × Value) (i+1,v) (by simp only;omega) (by simp only;omega) (by (repeat first|exact lK1|refine zT rfl ?_)) (by rw [hT2];(repeat constructor))
end Go.Proofs.YtfiekidciiighaaGreat.Two
namespace Go.Proofs.YtfiekidciiighaaGreat.Two
variable {ro : Option Nat}
open Go.RowKit
set_option maxRecDepth 20000
set_option maxHeartbeats 4000000 in
theorem zFb (t:TrM) (a na c:Int) (w:World) (h:zCj w t) (hf:zEx t.l.t):Gv Tryz.prog 3 [vTn t,.int .i64 a,.int .i64 na,.int .i64 c] w (.bool true):=by
 have hG:=fun W (hW:Below w.heap.size w W)=>zJU t W (h.below hW)
 cases hg:gr8B t with
 | true =>
  rw [hg] at hG
  unfold Gv
  unfold vTn zg at *
  (refine zK (n:=102) Tryz.func3 rfl rfl rfl ?_)
  (repeat' (first|((with_reducible refine zG ?_);first|refine zC rfl rfl rfl ?_|(refine zJ rfl rfl rfl ?_;refine ⟨_,rfl,?_⟩)|refine zO rfl rfl rfl rfl (fun _ _ q=>hG _ q.below) ?_|(refine zp rfl rfl rfl rfl (fun b=>?_)))|(with_reducible first|refine zI ?_|refine zB ?_|refine zE ?_|refine zA ?_|refine zV ?_|refine zU ?_)|((with_reducible refine zH ?_ ?_);(· exact rfl))))
  exact zP (by exact rTm rfl) () trivial rfl (fun _ h=>h.sub (by (repeat constructor)))
 | false =>
  have hs:=zL0 hf hg
  rw [hg] at hG
  have h1:=fun W (hW:Below w.heap.size w W)=>zLc t a c W (h.below hW) hs
  have h2:=fun W (hW:Below w.heap.size w W)=>zKS t a c W (h.below hW) hs
  have h3:=fun W (hW:Below w.heap.size w W)=>zIi t a c W (h.below hW) hs
  have h4:=fun W (hW:Below w.heap.size w W)=>zHq t a c W (h.below hW) hs
  have h5:=fun W (hW:Below w.heap.size w W)=>zLd t na c W (h.below hW) hs
  have h6:=fun W (hW:Below w.heap.size w W)=>zKT t na c W (h.below hW) hs
  have hl:(zD2 t na c).length≤1000:=by
   have hsa:=hs.a
   unfold zD2
   split
   ·exact Nat.le_trans zFL (by omega)
   ·simp
  generalize zD2 t na c=tv at *
  generalize zC2 t na c=e2 at *
  generalize zBk t a c=e1 at *
  generalize licT t a c=li at *
  generalize zEd t a c=we at *
  obtain ⟨n1,n2⟩:=we
  simp only at h1 h2
  unfold Gv
  unfold vTn zg at *
  (refine zK (n:=102) Tryz.func3 rfl rfl rfl ?_)
  (repeat' (first|((with_reducible refine zG ?_);first|refine zD rfl rfl rfl ?_|refine zC rfl rfl rfl ?_|(refine zJ rfl rfl rfl ?_;refine ⟨_,rfl,?_⟩)|refine z7 rfl rfl rfl rfl ?_|(refine zS rfl rfl rfl rfl rfl (fun h=>?_) (fun h=>?_)<;>(dsimp only [cmpP] at h;(try (exfalso;omega))))|refine zO rfl rfl rfl rfl (fun _ _ q=>hG _ q.below) ?_|refine zO rfl rfl rfl rfl (fun _ _ q=>h1 _ q.below) ?_|refine zO rfl rfl rfl rfl (fun _ _ q=>h2 _ q.below) ?_|refine zO rfl rfl rfl rfl (fun _ _ q=>h3 _ q.below) ?_|refine zO rfl rfl rfl rfl (fun _ _ q=>h4 _ q.below) ?_|refine zCf rfl rfl rfl rfl (fun _ _ q=>h5 _ q.below) (fun A' c'=>?_)|refine zCf rfl rfl rfl rfl (fun _ _ q=>h6 _ q.below) (fun A' c'=>?_)|refine zO rfl rfl rfl rfl (fun _ _ q=>zKI tv _ _ _ _ _ (zEi q.own (Below.refl _ _)) (zEi q.own (Below.refl _ _)) hl) ?_|refine zk rfl rfl rfl rfl ?_|(refine zp rfl rfl rfl rfl (fun b=>?_)))|(with_reducible first|refine zI ?_|refine zB ?_|refine zE ?_|refine zA ?_|refine zV ?_|refine zR ?_)|((with_reducible refine zF ?_ ?_);(· exact rfl))))
  exact zP (by exact rTm rfl) () trivial rfl (fun _ h=>h.sub (by (repeat constructor)))
end Go.Proofs.YtfiekidciiighaaGreat.Two
