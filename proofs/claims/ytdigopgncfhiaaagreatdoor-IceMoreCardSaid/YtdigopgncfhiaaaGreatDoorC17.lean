/- C17 -/
import Derived.Test.YtdigopgncfhiaaaGreatDoorC13
import Derived.Test.YtdigopgncfhiaaaGreatDoorC15
import Derived.Test.YtdigopgncfhiaaaGreatDoorC16
import Derived.Test.YtdigopgncfhiaaaGreatDoorC7
import Derived.Test.YtdigopgncfhiaaaGreatDoorC10
import Derived.Test.YtdigopgncfhiaaaGreatDoorC5
set_option linter.unusedSimpArgs false
set_option linter.unusedVariables false
namespace Go.Proofs.YtdigopgncfhiaaaGreatDoor
open Go.RowKit
set_option maxRecDepth 20000
section
variable {w0 : World} {n:Nat} {d:List Deferred} {R:List (Nat × Value)} {H:List Ent} {o:Oper} {x:Operand} {a b:Int}
theorem e_spanHi (hop:o.op = .field 28 x 1) (hx:evR R x=some (.agg #[.int .i64 a,.int .i64 b])):Ev Tryz.prog w0 n d R H o (.int .i64 b) :=
 e_fieldV (vs:=[.int .i64 a,.int .i64 b]) hop hx rfl (inferInstance:TyI Tryz.prog 3 _ _ _) rfl
end
theorem zRX {l:List Int} {i:Nat} (h0:0<i) (hi:i<l.length):Flow.zEA (l.take (i+1))=max (Flow.zEA (l.take i)) l[i]:=by
 cases l with
 | nil=>simp at hi
 | cons x r =>
  cases i with
  | zero=>omega
  | succ i =>
   have hi':i<r.length:=by simpa using hi
   have e:r.take (i+1)=r.take i++[r[i]]:=by rw [List.take_add_one];simp [hi']
   show (r.take (i+1)).foldl max x=max ((r.take i).foldl max x) r[i]
   rw [e,List.foldl_append];rfl
theorem zM9 (l:List Int) (A:Option Addr) (c:Nat) (w:World) (h:zAB encI 1 w A l) (h0:0<l.length) (hl:l.length≤1000):Gv Tryz.prog 64 [.slice A l.length c] w (.int .i64 (Flow.zEA l)):=by
 obtain ⟨b,o,rfl,_,_⟩:=h.at_ h0
 have:InS w b o encI 1 l:=⟨h⟩
 have:zAR l 0 l[0]:=⟨by simp [h0]⟩
 unfold Gv
 (refine zM (n:=25) Tryz.func64 rfl rfl rfl ?_)
 (repeat' (first|((with_reducible refine zG ?_);first|refine zE rfl rfl rfl rfl rfl ?_|refine zC rfl rfl rfl rfl rfl ?_|(refine zK rfl rfl rfl rfl rfl ?_;refine ⟨_,rfl,?_⟩)|(refine zQ rfl rfl rfl rfl rfl rfl rfl (fun h=>?_) (fun h=>?_)<;>(dsimp only [cmpP] at h;(try (exfalso;omega))))|refine zi rfl rfl rfl rfl rfl rfl rfl (by omega) ?_|refine zr rfl rfl rfl rfl rfl ?_)|(with_reducible first|refine zI ?_|refine zB ?_|refine zD ?_|refine zA ?_|refine zP ?_|refine zN ?_)|((with_reducible refine zF ?_ ?_);(· exact rfl))))
 have e0:Flow.zEA (l.take 1)=l[0]:=by
  cases l with
  | nil=>simp at h0
  | cons x r=>rfl
 refine zu (ι:=Nat) [0] rfl (fun i=>0<i∧i≤l.length) (fun i=>[(4,.int .i64 (i:Int)),(3,.int .i64 (Flow.zEA (l.take i)))]) (fun _=>[]) (fun i=>l.length - i) 1 ⟨by omega,by omega⟩ (by rw [e0];(first|exact lK1|(repeat (first|exact lK1|(refine zL rfl ?_))))) (by (repeat (first|exact oK1 _|(refine oK2 (by (repeat (first|exact tK1 _ _|apply tK2))) ?_)))) ?_
 rintro i ⟨hi0,hi⟩
 simp only [zAq,List.cons_append,List.nil_append]
 by_cases hlt:i<l.length
 ·have:zAR l i l[i]:=⟨by simp [hlt]⟩
  (repeat' (first|((with_reducible refine zG ?_);first|refine zE rfl rfl rfl rfl rfl ?_|refine zC rfl rfl rfl rfl rfl ?_|(refine zK rfl rfl rfl rfl rfl ?_;refine ⟨_,rfl,?_⟩)|(refine zQ rfl rfl rfl rfl rfl rfl rfl (fun h=>?_) (fun h=>?_)<;>(dsimp only [cmpP] at h;(try (exfalso;omega))))|refine zj rfl rfl rfl rfl rfl rfl (by omega) ?_|refine zi rfl rfl rfl rfl rfl rfl rfl (by omega) ?_|refine zr rfl rfl rfl rfl rfl ?_|refine zJz rfl rfl rfl rfl rfl rfl ?_)|(with_reducible first|refine zI ?_|refine zB ?_|refine zD ?_|refine zA ?_|refine zP ?_|refine zN ?_|refine zk ?_)|((with_reducible refine zJ ?_ ?_);(· exact rfl))))
  exact zc (i+1) ⟨by omega,by omega⟩ (by omega) (by rw [zRX hi0 hlt];(first|exact lK1|(repeat (first|exact lK1|(refine zL rfl ?_))))) (by (repeat (first|exact oK1 _|(refine oK2 (by (repeat (first|exact tK1 _ _|apply tK2))) ?_))))
 ·obtain rfl:i=l.length:=by omega
  rw [List.take_length]
  (repeat' (first|((with_reducible refine zG ?_);first|refine zE rfl rfl rfl rfl rfl ?_|refine zC rfl rfl rfl rfl rfl ?_|(refine zQ rfl rfl rfl rfl rfl rfl rfl (fun h=>?_) (fun h=>?_)<;>(dsimp only [cmpP] at h;(try (exfalso;omega))))|refine zr rfl rfl rfl rfl rfl ?_)|(with_reducible first|refine zI ?_|refine zB ?_|refine zD ?_|refine zA ?_|refine zb ?_|refine zn ?_|refine zR ?_|refine zY ?_)|((with_reducible refine zF ?_ ?_);(· exact rfl))))
  exact zT (by (exact zO.cons (by exact zq.tmp rfl) zO.nil)) () trivial rfl (fun _ _=>Own.nil _ _)
def needG (c:Cov) (z:Bed):Nat→Int × Int
 | 0=>(z.thick.lo,0)
 | h+1=>((needG c z h).1 - (zBF c z (c.hours.getD h default)).hi,
   if 0<zCl c (c.hours.getD h default) - ((needG c z h).1 - (zBF c z (c.hours.getD h default)).hi) then max (needG c z h).2 ((zCl c (c.hours.getD h default) - ((needG c z h).1 - (zBF c z (c.hours.getD h default)).hi)+c.layer.lo - 1) / c.layer.lo) else (needG c z h).2)
def zBo (c:Cov) (z:Bed) (m:Nat):List Int:=(List.range m).map fun h=>(needG c z (h+1)).2
def zA2 (c:Cov):List (List Int):=c.beds.map fun z=>zBo c z c.hours.length
theorem zE9 {c:Cov} {z:Bed} {m:Nat}:(zBo c z m).length=m:=by simp [zBo]
theorem zH4 {c:Cov} {z:Bed} {m:Nat}:zBo c z (m+1)=zBo c z m++[(needG c z (m+1)).2]:=by simp [zBo,List.range_succ]
theorem zLC {c:Cov} {u:Hour} (hf:zBl c):0≤zCl c u∧zCl c u≤2000:=by
 have h1:=hf.limit;have h2:=hf.base
 simp only [zAA] at h1 h2
 unfold zCl;split<;>omega
theorem zH6 {c:Cov} {z:Bed} (hf:zBl c) (hz:z∈c.beds):∀ h,h≤c.hours.length→-(1650 * (h:Int))≤(needG c z h).1∧(needG c z h).1≤2000∧0≤(needG c z h).2∧(needG c z h).2≤2200+1650 * h
 | 0,_=>by
  have:=hf.bed z hz
  simp only [zC0,Bool.and_eq_true,zAF] at this
  simp only [needG];omega
 | h+1,hh=>by
  obtain ⟨i1,i2,i3,i4⟩:=zH6 hf hz h (by omega)
  have hu:c.hours.getD h default∈c.hours:=by rw [zAW (List.getElem?_eq_getElem (by omega))];exact List.getElem_mem (by omega)
  have l1:=zFX hf hz hu
  have a1:=zLC (u:=c.hours.getD h default) hf
  have y1:=hf.layer
  simp only [zAF] at y1
  simp only [needG]
  generalize (needG c z h).1=p at *
  generalize (needG c z h).2=q at *
  generalize (zBF c z (c.hours.getD h default)).hi=r at *
  generalize zCl c (c.hours.getD h default)=s at *
  refine ⟨by omega,by omega,?_,?_⟩
  ·split
   ·exact Int.le_trans i3 (Int.le_max_left _ _)
   ·exact i3
  ·split
   ·have h1:(s - (p - r)+c.layer.lo - 1) / c.layer.lo≤s - (p - r)+c.layer.lo - 1:=Int.ediv_le_self _ (by omega)
    omega
   ·omega
def zCx (c:Cov) (i:Nat):List (List Int):=(c.beds.take i).map (fun z=>zBo c z c.hours.length)++List.replicate (c.beds.length - i) []
theorem zNP {c:Cov}:zCx c c.beds.length=zA2 c:=by simp [zCx,zA2]
theorem zNO {c:Cov} {i:Nat} {z:Bed} (hz:c.beds[i]?=some z):(zCx c i).set i (zBo c z c.hours.length)=zCx c (i+1):=by
 obtain ⟨hi,e⟩:=List.getElem?_eq_some_iff.1 hz
 unfold zCx
 have hl:((c.beds.take i).map (fun z=>zBo c z c.hours.length)).length=i:=by simp;omega
 rw [List.set_append_right _ _ (by omega),hl,Nat.sub_self]
 have e1:c.beds.take (i+1)=c.beds.take i++[z]:=by rw [List.take_add_one,hz];rfl
 rw [e1,List.map_append,List.append_assoc]
 congr 1
 obtain ⟨m,hm⟩:∃ m,c.beds.length - i=m+1:=⟨c.beds.length - i - 1,by omega⟩
 rw [hm,show c.beds.length - (i+1)=m by omega,List.replicate_succ]
 rfl
theorem zOy {c:Cov} {i:Nat} (hi:i<c.beds.length):(zCx c i)[i]?=some []:=by
 unfold zCx
 have hl:((c.beds.take i).map (fun z=>zBo c z c.hours.length)).length=i:=by simp;omega
 rw [List.getElem?_append_right (by omega),hl,List.getElem?_replicate,if_pos (by omega)]
theorem zLY {c:Cov}:zCx c 0=List.replicate c.beds.length []:=by simp [zCx]
set_option maxHeartbeats 4000000 in
theorem zKj (c:Cov) (A:Option Addr) (ca:Nat) (B:Option Addr) (cb:Nat) (C:Option Addr) (cc g:Nat) (w:World) (hr:InC w g 0 (zH c A ca B cb C cc)) (hG:InC w 0 0 zB7) (h:zAU w c A B C) (hs:Small c) (hf:zBl c) :
  Ret Tryz.prog 63 [.pointer (some ⟨g,0,none⟩)] w (fun p:Nat × List (zAN Int)=>.slice (some ⟨p.1,0,none⟩) p.2.length p.2.length) (fun p=>[.zBb zAH (rowOf encI 1 3) p.1 p.2]) (fun p=>p.2.map (·.xs)=zA2 c):=by
 have h4:=hs.b;have h5:=hs.h
 have hb:=h.b;have hh:=h.h
 have hlo:=fun W (hb:Below w.heap.size w W) i j z u (hz:c.beds[i]?=some z) (hu:c.hours[j]?=some u)=>zFc c A ca B cb C cc g i j z u W (hr.below hb) (h.below hb) hs hf hz hu
 have has:=fun W (hb:Below w.heap.size w W) u=>zMJ c A ca B cb C cc g u W (hr.below hb) (hG.below hb) hf
 unfold vSp at hlo
 unfold zFP at has
 unfold zH at hr
 (refine zM (n:=92) Tryz.func63 rfl rfl rfl ?_)
 (repeat' (first|((with_reducible refine zG ?_);first|refine zE rfl rfl rfl rfl rfl ?_|refine zC rfl rfl rfl rfl rfl ?_|(refine zK rfl rfl rfl rfl rfl ?_;refine ⟨_,rfl,?_⟩)|refine ze rfl rfl rfl rfl rfl ?_|refine zMq rfl rfl rfl rfl rfl rfl rfl rfl rfl rfl rfl (by omega) (fun gt=>?_)|refine zr rfl rfl rfl rfl rfl ?_|refine zBP rfl rfl rfl rfl rfl ?_)|(with_reducible first|refine zI ?_|refine zB ?_|refine zD ?_|refine zA ?_|refine zN ?_)))
 refine zJy (enc:=encI) (k:=1) (e:=3) (Take.here _ _) ?_
 refine zu (ι:=Nat × List (zAN Int)) [0,3,21,22] rfl (fun p=>p.1≤c.beds.length∧p.2.map (·.xs)=zCx c p.1) (fun p=>[(23,.int .i64 (p.1:Int))]) (fun p=>[.zBb zAH (rowOf encI 1 3) gt p.2]) (fun p=>c.beds.length - p.1) (0,List.replicate c.beds.length zBO) ⟨Nat.zero_le _,by simp [zLY,zBO]⟩ (by (first|exact lK1|(repeat (first|exact lK1|(refine zL rfl ?_))))) (by (repeat (first|exact oK1 _|(refine oK2 (by (repeat (first|exact tK1 _ _|apply tK2))) ?_)))) ?_
 rintro ⟨i,L⟩ ⟨hi,hL⟩
 simp only at hi hL
 have hLl:L.length=c.beds.length:=by
  have:=congrArg List.length hL
  simp [zCx] at this;omega
 simp only [zAq,List.cons_append,List.nil_append]
 by_cases hlt:i<c.beds.length
 ·obtain ⟨z,hz⟩:∃ z,c.beds[i]?=some z:=⟨_,List.getElem?_eq_getElem hlt⟩
  obtain ⟨bb,o,rfl,_,_⟩:=hb.at_ hlt
  have:InS w bb o zAJ 3 c.beds:=⟨hb⟩
  have:zAR c.beds i z:=⟨hz⟩
  obtain ⟨s0,hs0⟩:∃ s0,L[i]?=some s0:=⟨_,List.getElem?_eq_getElem (by omega)⟩
  have hx0:s0.xs=[]:=by
   have h1:=zOy (c:=c) hlt
   rw [← hL,List.getElem?_map,hs0] at h1
   exact Option.some.inj h1
  (repeat' (first|((with_reducible refine zG ?_);first|refine zE rfl rfl rfl rfl rfl ?_|refine zC rfl rfl rfl rfl rfl ?_|(refine zK rfl rfl rfl rfl rfl ?_;refine ⟨_,rfl,?_⟩)|refine ze rfl rfl rfl rfl rfl ?_|(refine zQ rfl rfl rfl rfl rfl rfl rfl (fun h=>?_) (fun h=>?_)<;>(dsimp only [cmpP] at h;(try (exfalso;omega))))|refine zi rfl rfl rfl rfl rfl rfl rfl (by omega) ?_|refine zr rfl rfl rfl rfl rfl ?_|(refine zf rfl rfl rfl rfl rfl ?_;refine And.intro rfl (And.intro (by first|decide|exact Nat.le_of_ble_eq_true rfl|(simp;omega)) ⟨_,rfl,?_⟩))|(refine zo rfl rfl rfl rfl (fun b=>?_))|refine zBP rfl rfl rfl rfl rfl ?_)|(with_reducible first|refine zI ?_|refine zB ?_|refine zD ?_|refine zA ?_|refine zP ?_|refine zN ?_)|((with_reducible refine zJ ?_ ?_);(· exact rfl))))
  refine zDO i hs0 (by (repeat (first|exact tK1 _ _|apply tK2))) ?_
  refine zu (ι:=Nat × zAN Int) [0,3,4,21,22,23,36] rfl (fun p=>p.1≤c.hours.length∧p.2.xs=zBo c z p.1) (fun p=>[(37,.int .i64 (p.1:Int)),(6,.int .i64 (needG c z p.1).1),(7,.int .i64 (needG c z p.1).2)]) (fun p=>[.arr zAH 1 gt (L.set i p.2),rowOf encI 1 3 p.2,.all ((L.eraseIdx i).map (rowOf encI 1 3))]) (fun p=>c.hours.length - p.1) (0,s0) ⟨Nat.zero_le _,by rw [hx0];rfl⟩ (by (first|exact lK1|(repeat (first|exact lK1|(refine zL rfl ?_))))) (by (repeat (first|exact oK1 _|(refine oK2 (by (repeat (first|exact tK1 _ _|apply tK2))) ?_)))) ?_
  rintro ⟨j,s⟩ ⟨hj,hsx⟩
  simp only at hj hsx
  simp only [zAq,List.cons_append,List.nil_append]
  by_cases hjl:j<c.hours.length
  ·obtain ⟨u,hu⟩:∃ u,c.hours[j]?=some u:=⟨_,List.getElem?_eq_getElem hjl⟩
   obtain ⟨bc,oc,rfl,_,_⟩:=hh.at_ hjl
   have:InS w bc oc zp 5 c.hours:=⟨hh⟩
   have:zAR c.hours j u:=⟨hu⟩
   have hG1:=zH6 hf (List.mem_of_getElem? hz) j hj
   have l1:=zFX hf (List.mem_of_getElem? hz) (List.mem_of_getElem? hu)
   have a1:=zLC (u:=u) hf
   have y1:=hf.layer
   simp only [zAF] at y1
   have eG:needG c z (j+1)=((needG c z j).1 - (zBF c z u).hi,if 0<zCl c u - ((needG c z j).1 - (zBF c z u).hi) then max (needG c z j).2 ((zCl c u - ((needG c z j).1 - (zBF c z u).hi)+c.layer.lo - 1) / c.layer.lo) else (needG c z j).2):=by simp only [needG,zAW hu]
   have:=hlo
   (repeat' (first|((with_reducible refine zG ?_);first|refine zE rfl rfl rfl rfl rfl ?_|refine zC rfl rfl rfl rfl rfl ?_|(refine zK rfl rfl rfl rfl rfl ?_;refine ⟨_,rfl,?_⟩)|refine ze rfl rfl rfl rfl rfl ?_|(refine zQ rfl rfl rfl rfl rfl rfl rfl (fun h=>?_) (fun h=>?_)<;>(dsimp only [cmpP] at h;(try (exfalso;omega))))|refine zS rfl rfl rfl rfl rfl rfl (fun _ _ q=>hlo _ q.below i j z u hz hu) ?_|refine zS rfl rfl rfl rfl rfl rfl (fun _ _ q=>has _ q.below u) ?_|refine zAe rfl rfl rfl (e_spanHi rfl rfl) ?_|refine zCn rfl rfl rfl rfl rfl rfl (IntWalk.i64_in _ (by omega)) ?_|refine zi rfl rfl rfl rfl rfl rfl rfl (by omega) ?_|refine zBP rfl rfl rfl rfl rfl ?_)|(with_reducible first|refine zI ?_|refine zB ?_|refine zD ?_|refine zA ?_|refine zP ?_|refine zN ?_)|((with_reducible refine zJ ?_ ?_);(· exact rfl))|((with_reducible refine zF ?_ ?_);(· exact rfl))))
   ·have hq1:0≤(zCl c u - ((needG c z j).1 - (zBF c z u).hi)+c.layer.lo - 1) / c.layer.lo:=Int.ediv_nonneg (by omega) (by omega)
    have hq2:(zCl c u - ((needG c z j).1 - (zBF c z u).hi)+c.layer.lo - 1) / c.layer.lo≤zCl c u - ((needG c z j).1 - (zBF c z u).hi)+c.layer.lo - 1:=Int.ediv_le_self _ (by omega)
    (refine zAv (by kernel_rfl) (by kernel_rfl) (by kernel_rfl) ?_)
    (repeat' (first|((with_reducible refine zBH ?_);first|refine zW (zAK rfl rfl) rfl rfl rfl ?_|refine zW (zy rfl rfl (by exact rfl)) rfl rfl rfl ?_|refine zW (zAO rfl rfl) rfl rfl rfl ?_|refine zW (zBK rfl rfl) rfl rfl rfl ?_|refine zW (zDg rfl rfl rfl (IntWalk.i64_in _ (by omega))) rfl rfl rfl ?_|refine zW (zEt rfl rfl rfl (IntWalk.i64_in _ (by omega))) rfl rfl rfl ?_|refine zW (zAi rfl rfl) rfl rfl rfl ?_|refine zW (e_quo rfl rfl rfl (by omega) (by omega) (IntWalk.i64_in _ (by omega))) rfl rfl rfl ?_|refine zW (e_max rfl rfl rfl) rfl rfl rfl ?_)|(with_reducible refine zBs ?_)))
    have:zAR (L.set i s) i s:=⟨List.getElem?_set_self (by omega)⟩
    have hsl:s.xs.length≤12:=by rw [hsx,zE9];omega
    (repeat' (first|((with_reducible refine zG ?_);first|refine zE rfl rfl rfl rfl rfl ?_|(refine zK rfl rfl rfl rfl rfl ?_;refine ⟨_,rfl,?_⟩)|(refine zAx (enc:=encI) [_] rfl rfl rfl rfl rfl (by (repeat (first|exact tK1 _ _|apply tK2))) rfl rfl (zAl (by exact rfl)) (by refine ⟨?_,by decide⟩;(try simp only [List.length_append,List.length_cons,List.length_nil]);omega) (fun A' c'=>?_))|refine zDX (i:=i) (s:=s) ⟨A',s.xs++[_],c'⟩ rfl rfl rfl rfl rfl rfl (by (repeat (first|exact tK1 _ _|apply tK2))) (by omega) ?_|refine zj rfl rfl rfl rfl rfl rfl (by omega) ?_|refine zi rfl rfl rfl rfl rfl rfl rfl (by omega) ?_|(refine zz rfl rfl rfl rfl rfl ?_;refine ⟨rfl,_,rfl,fun b=>?_⟩))|(with_reducible first|refine zB ?_|refine zD ?_|refine zA ?_|refine zk ?_)))
    exact zc (j+1,⟨A',s.xs++[_],c'⟩) ⟨by simp only;omega,by simp only;rw [hsx,zH4,eG,if_pos (by omega)]⟩ (by simp only;omega) (by simp only [eG];rw [if_pos (by omega)];(first|exact lK1|(repeat (first|exact lK1|(refine zL rfl ?_))))) (by (repeat (first|exact oK1 _|(refine oK2 (by (repeat (first|exact tK1 _ _|apply tK2))) ?_))))
   ·have:zAR (L.set i s) i s:=⟨List.getElem?_set_self (by omega)⟩
    have hsl:s.xs.length≤12:=by rw [hsx,zE9];omega
    (repeat' (first|((with_reducible refine zG ?_);first|refine zE rfl rfl rfl rfl rfl ?_|(refine zK rfl rfl rfl rfl rfl ?_;refine ⟨_,rfl,?_⟩)|(refine zAx (enc:=encI) [_] rfl rfl rfl rfl rfl (by (repeat (first|exact tK1 _ _|apply tK2))) rfl rfl (zAl (by exact rfl)) (by refine ⟨?_,by decide⟩;(try simp only [List.length_append,List.length_cons,List.length_nil]);omega) (fun A' c'=>?_))|refine zDX (i:=i) (s:=s) ⟨A',s.xs++[_],c'⟩ rfl rfl rfl rfl rfl rfl (by (repeat (first|exact tK1 _ _|apply tK2))) (by omega) ?_|refine zj rfl rfl rfl rfl rfl rfl (by omega) ?_|refine zi rfl rfl rfl rfl rfl rfl rfl (by omega) ?_|(refine zz rfl rfl rfl rfl rfl ?_;refine ⟨rfl,_,rfl,fun b=>?_⟩))|(with_reducible first|refine zB ?_|refine zD ?_|refine zA ?_|refine zk ?_)))
    exact zc (j+1,⟨A',s.xs++[_],c'⟩) ⟨by simp only;omega,by simp only;rw [hsx,zH4,eG,if_neg (by omega)]⟩ (by simp only;omega) (by simp only [eG];rw [if_neg (by omega)];(first|exact lK1|(repeat (first|exact lK1|(refine zL rfl ?_))))) (by (repeat (first|exact oK1 _|(refine oK2 (by (repeat (first|exact tK1 _ _|apply tK2))) ?_))))
  ·obtain rfl:j=c.hours.length:=by omega
   (repeat' (first|((with_reducible refine zG ?_);first|refine zE rfl rfl rfl rfl rfl ?_|(refine zQ rfl rfl rfl rfl rfl rfl rfl (fun h=>?_) (fun h=>?_)<;>(dsimp only [cmpP] at h;(try (exfalso;omega))))|refine zj rfl rfl rfl rfl rfl rfl (by omega) ?_)|(with_reducible first|refine zI ?_|refine zB ?_|refine zD ?_|refine zA ?_|refine zn ?_|refine zk ?_|refine zR ?_|refine zY ?_)|((with_reducible refine zF ?_ ?_);(· exact rfl))))
   refine zDN i s hs0 (by (repeat (first|exact tK1 _ _|apply tK2))) (by (repeat (first|exact tK1 _ _|apply tK2))) (by (repeat (first|exact tK1 _ _|apply tK2))) ?_
   refine zc (i+1,L.set i s) ⟨by simp only;omega,?_⟩ (by simp only;omega) (by (first|exact lK1|(repeat (first|exact lK1|(refine zL rfl ?_))))) (by (repeat (first|exact oK1 _|(refine oK2 (by (repeat (first|exact tK1 _ _|apply tK2))) ?_))))
   simp only
   rw [List.map_set,hL,hsx,zNO hz]
 ·obtain rfl:i=c.beds.length:=by omega
  (repeat' (first|((with_reducible refine zG ?_);first|refine zE rfl rfl rfl rfl rfl ?_|refine zC rfl rfl rfl rfl rfl ?_|(refine zQ rfl rfl rfl rfl rfl rfl rfl (fun h=>?_) (fun h=>?_)<;>(dsimp only [cmpP] at h;(try (exfalso;omega)))))|(with_reducible first|refine zI ?_|refine zB ?_|refine zD ?_|refine zA ?_|refine zb ?_|refine zn ?_|refine zR ?_|refine zY ?_)|((with_reducible refine zF ?_ ?_);(· exact rfl))))
  refine zT (by (exact zO.cons (by exact zq.tmp rfl) zO.nil)) (gt,L) ?_ (by rw [hLl];rfl) (fun _ h=>h.sub (by (repeat (first|exact oK1 _|(refine oK2 (by (repeat (first|exact tK1 _ _|apply tK2))) ?_)))))
  rw [hL,zNP]
end Go.Proofs.YtdigopgncfhiaaaGreatDoor
namespace Go.Proofs.YtdigopgncfhiaaaGreatDoor
open Go.RowKit
set_option maxRecDepth 20000
def zDm (c:Cov):List Int × Int:=if zAr c=0 then ((zA2 c).map Flow.zEA,0) else ([],zAr c)
theorem zHZ {c:Cov}:(zA2 c).length=c.beds.length:=by simp [zA2]
theorem zKV {c:Cov}:∀ r∈zA2 c,r.length=c.hours.length:=fun r hr=>by
 obtain ⟨z,_,rfl⟩:=List.mem_map.1 hr
 exact zE9
theorem Ret.newsl {α:Type} {enc:α→List Value} {k:Nat} {xs:List α} {V:Value→Value} {P:Program} {f:FuncId} {args:List Value} {w:World} (h:Ret P f args w (fun p:Option Addr × Nat=>V (.slice p.1 xs.length p.2)) (fun p=>[.sl enc k p.1 xs]) (fun _=>True)):zDj enc k xs V P f args w:=by
 unfold zDj;exact h
theorem zPa {c:Cov} {z:Bed} (h:Nat):(needG c z h).2≤(needG c z (h+1)).2:=by
 simp only [needG];split<;>omega
theorem zH5 {c:Cov} {z:Bed} (h:Nat):∀ k,(needG c z h).2≤(needG c z (h+k)).2
 | 0=>Int.le_refl _
 | k+1=>Int.le_trans (zH5 h k) (zPa (h+k))
theorem zJO {c:Cov} {z:Bed} {m:Nat}:Flow.zEA (zBo c z (m+1))=(needG c z (m+1)).2:=by
 have h1:(needG c z (m+1)).2∈zBo c z (m+1):=by
  unfold zBo;exact List.mem_map.2 ⟨m,by simp,rfl⟩
 have h2:=Flow.zJl h1
 have h3:Flow.zEA (zBo c z (m+1))∈zBo c z (m+1):=Flow.zGX (by intro e;rw [e] at h1;cases h1)
 unfold zBo at h3
 obtain ⟨k,hk,e⟩:=List.mem_map.1 h3
 have hk:=List.mem_range.1 hk
 have h4:=zH5 (c:=c) (z:=z) (k+1) (m - k)
 rw [show k+1+(m - k)=m+1 by omega] at h4
 have e':(needG c z (k+1)).2=Flow.zEA (zBo c z (m+1)):=e
 omega
set_option maxHeartbeats 4000000 in
theorem zEY (c:Cov) (A:Option Addr) (ca:Nat) (B:Option Addr) (cb:Nat) (C:Option Addr) (cc:Nat) (w:World) (h:zAU w c A B C) (hs:Small c) (hG:InC w 0 0 zB7) :
  zDj encI 1 (zDm c).1 (fun v=>.tuple #[v,.int .i64 (zDm c).2]) Tryz.prog 24 [zAI c A ca B cb C cc] w:=by
 have h4:=hs.b;have h5:=hs.h
 have h1:=fun W (hb:Below w.heap.size w W)=>zFZ c A ca B cb C cc W (h.below hb) hs
 have h2:=fun W (hb:Below w.heap.size w W)=>zEB c A ca B cb C cc W (h.below hb) hs
 unfold zAI at h1 h2
 apply Ret.newsl
 unfold zAI zDm
 by_cases h0:zAr c=0
 ·have hf:=zA1 h0
  have hh1:=hf.hours
  rw [zAA] at hh1
  have h3:=fun W (hb:Below w.heap.size w W) g (hr:InC W g 0 (zH c A ca B cb C cc))=>zKj c A ca B cb C cc g W hr (hG.below hb) (h.below hb) hs hf
  rw [if_pos h0]
  unfold zH at h2 h3 ⊢
  (refine zM (n:=31) Tryz.func24 rfl rfl rfl ?_)
  (repeat' (first|((with_reducible refine zG ?_);first|refine zE rfl rfl rfl rfl rfl ?_|refine zC rfl rfl rfl rfl rfl ?_|(refine zK rfl rfl rfl rfl rfl ?_;refine ⟨_,rfl,?_⟩)|(refine zQ rfl rfl rfl rfl rfl rfl rfl (fun h=>?_) (fun h=>?_)<;>(dsimp only [cmpP] at h;(try (exfalso;omega))))|(refine zAG rfl rfl rfl rfl rfl rfl (fun _ _ q=>h2 _ q.below h0) ?_;rintro g -;dsimp only [List.cons_append,List.nil_append])|(refine zAG rfl rfl rfl rfl rfl rfl (fun _ _ q=>h3 _ q.below g (zBi q.own (Below.refl _ _) rfl)) ?_;rintro ⟨gt,L⟩ hL;dsimp only [List.cons_append,List.nil_append])|refine zg rfl rfl rfl rfl rfl rfl ?_|refine zr rfl rfl rfl rfl rfl ?_|(refine zAM rfl rfl rfl rfl rfl rfl (fun b=>?_)))|(with_reducible first|refine zI ?_|refine zB ?_|refine zD ?_|refine zA ?_|refine zP ?_|refine zN ?_)|((with_reducible refine zF ?_ ?_);(· exact rfl))))
  simp only at hL
  have hLl:L.length=c.beds.length:=by
   have:=congrArg List.length hL
   rw [zHZ] at this;simpa using this
  have hrow:∀ s∈L,s.xs.length=c.hours.length:=fun s hs=>zKV s.xs (by rw [← hL];exact List.mem_map_of_mem hs)
  rw [← hL]
  refine zNg (enc:=encI) (k:=1) (e:=3) ?_
  refine zu (ι:=Nat × Option Addr × Nat) [18,19] rfl (fun p=>p.1≤L.length) (fun p=>[(20,.int .i64 (p.1:Int)),(6,.slice p.2.1 (((L.take p.1).map (·.xs)).map Flow.zEA).length p.2.2)]) (fun p=>[.row encI 1 3 (.slice p.2.1 (((L.take p.1).map (·.xs)).map Flow.zEA).length p.2.2) (((L.take p.1).map (·.xs)).map Flow.zEA),.zBb zAH (rowOf encI 1 3) gt L]) (fun p=>L.length - p.1) (0,none,0) (Nat.zero_le _) (by (first|exact lK1|(repeat (first|exact lK1|(refine zL rfl ?_))))) (by (repeat (first|exact oK1 _|(refine oK2 (by (repeat (first|exact tK1 _ _|apply tK2))) ?_)))) ?_
  rintro ⟨i,A1,c1⟩ hi
  simp only at hi
  simp only [zAq,List.cons_append,List.nil_append]
  by_cases hlt:i<L.length
  ·obtain ⟨s,hs1⟩:∃ s,L[i]?=some s:=⟨_,List.getElem?_eq_getElem hlt⟩
   have:zAR L i s:=⟨hs1⟩
   have hsm:=List.mem_of_getElem? hs1
   have hsl:=hrow s hsm
   have hcl:(((L.take i).map (·.xs)).map Flow.zEA).length=i:=by simp;omega
   have e1:((L.take (i+1)).map (·.xs)).map Flow.zEA=((L.take i).map (·.xs)).map Flow.zEA++[Flow.zEA s.xs]:=by rw [List.take_add_one,hs1];simp
   (repeat' (first|((with_reducible refine zG ?_);first|refine zE rfl rfl rfl rfl rfl ?_|refine zC rfl rfl rfl rfl rfl ?_|(refine zK rfl rfl rfl rfl rfl ?_;refine ⟨_,rfl,?_⟩)|(refine zQ rfl rfl rfl rfl rfl rfl rfl (fun h=>?_) (fun h=>?_)<;>(dsimp only [cmpP] at h;(try (exfalso;omega))))|refine zS rfl rfl rfl rfl rfl rfl (fun _ _ q=>zM9 s.xs s.A s.c _ ((zDa (enc:=encI) (k:=1) (e:=3) q.own (by (repeat (first|exact tK1 _ _|apply tK2)))).rows s hsm) (by omega) (by omega)) ?_|(refine zAx (enc:=encI) [_] rfl rfl rfl rfl rfl (by (repeat (first|exact tK1 _ _|apply tK2))) rfl rfl (zAl (by exact rfl)) (by refine ⟨?_,by decide⟩;(try simp only [List.length_append,List.length_cons,List.length_nil]);omega) (fun A' c'=>?_))|refine zj rfl rfl rfl rfl rfl rfl (by omega) ?_|refine zi rfl rfl rfl rfl rfl rfl rfl (by omega) ?_|(refine zz rfl rfl rfl rfl rfl ?_;refine ⟨rfl,_,rfl,fun b=>?_⟩))|(with_reducible first|refine zI ?_|refine zB ?_|refine zD ?_|refine zA ?_|refine zP ?_|refine zN ?_|refine zk ?_)|((with_reducible refine zJ ?_ ?_);(· exact rfl))))
   refine zc (i+1,A',c') (by simp only;omega) (by simp only;omega) (by simp only [e1];(first|exact lK1|(repeat (first|exact lK1|(refine zL rfl ?_))))) ?_
   simp only [e1]
   (repeat (first|exact oK1 _|(refine oK2 (by (repeat (first|exact tK1 _ _|apply tK2))) ?_)))
  ·obtain rfl:i=L.length:=by omega
   rw [List.take_length]
   (repeat' (first|((with_reducible refine zG ?_);first|refine zE rfl rfl rfl rfl rfl ?_|refine zC rfl rfl rfl rfl rfl ?_|(refine zQ rfl rfl rfl rfl rfl rfl rfl (fun h=>?_) (fun h=>?_)<;>(dsimp only [cmpP] at h;(try (exfalso;omega)))))|(with_reducible first|refine zI ?_|refine zB ?_|refine zD ?_|refine zA ?_|refine zb ?_|refine zn ?_|refine zR ?_|refine zY ?_)|((with_reducible refine zF ?_ ?_);(· exact rfl))))
   exact zT (by (exact zO.cons (by exact zq.tmp rfl) (zO.cons (by exact zq.tmp rfl) zO.nil))) (A1,c1) trivial rfl (fun _ h=>(h.zCT (by (repeat (first|exact tK1 _ _|apply tK2)))).sub (by (repeat (first|exact oK1 _|(refine oK2 (by (repeat (first|exact tK1 _ _|apply tK2))) ?_)))))
 ·rw [if_neg h0]
  unfold zH at h1 ⊢
  generalize zAr c=e at *
  (refine zM (n:=31) Tryz.func24 rfl rfl rfl ?_)
  (repeat' (first|((with_reducible refine zG ?_);first|refine zE rfl rfl rfl rfl rfl ?_|refine zC rfl rfl rfl rfl rfl ?_|(refine zK rfl rfl rfl rfl rfl ?_;refine ⟨_,rfl,?_⟩)|(refine zQ rfl rfl rfl rfl rfl rfl rfl (fun h=>?_) (fun h=>?_)<;>(dsimp only [cmpP] at h;(try (exfalso;omega))))|refine zS rfl rfl rfl rfl rfl rfl (fun _ _ q=>h1 _ q.below h0) ?_|refine zg rfl rfl rfl rfl rfl rfl ?_|(refine zAM rfl rfl rfl rfl rfl rfl (fun b=>?_)))|(with_reducible first|refine zI ?_|refine zB ?_|refine zD ?_|refine zA ?_|refine zb ?_|refine zd ?_)|((with_reducible refine zJ ?_ ?_);(· exact rfl))))
  exact zT (by (exact zO.cons (by exact zq.tmp rfl) (zO.cons (by exact zq.tmp rfl) zO.nil))) (none,0) trivial rfl (fun _ h=>zIe h)
end Go.Proofs.YtdigopgncfhiaaaGreatDoor
namespace Go.Proofs.YtdigopgncfhiaaaGreatDoor
variable {ro : Option Nat}
open Go.RowKit
set_option linter.unusedSectionVars false
def Ent.hidT {α:Type} (enc:α→List Value) (k e gt lo hi:Nat) (xss:List (List α)):Ent :=
 ⟨fun b=>lo≤b∧b<hi,fun w=>∃ L:List (zAN α),L.map (·.xs)=xss∧Own lo w [.zBb zAH (rowOf enc k e) gt L]∧∀ b,(Ent.zBb zAH (rowOf enc k e) gt L).S b→b<hi,fun w w' hs h hp=>by
  obtain ⟨L,h1,h2,h3⟩:=hp
  exact ⟨L,h1,h2.past hs (fun f hf b hb=>by
   simp only [List.mem_singleton] at hf;subst hf
   exact h b ⟨(h2.foot _ (by simp) b hb).1,h3 b hb⟩),h3⟩⟩
theorem zKw {α:Type}:∀ m:Nat,(List.replicate m (zBO:zAN α)).flatMap zAH=List.replicate m (.slice none 0 0)
 | 0=>rfl
 | m+1=>by rw [List.replicate_succ,List.flatMap_cons,zKw m,List.replicate_succ];rfl
section
variable {P : Program} {w0:World} {n:Nat} {d:List Deferred} {R R0:List (Nat × Value)} {H H' H0:List Ent} {Q:Exit→Act→World→Prop} {ops:Array Oper} {bs:List (List Bool)} {b:List Bool} {k:Nat} {o:Oper} {rest:List Oper} {T:List Rw} {t:Tmp} {Hk:zBN→List Ent} {x y:Operand} {v:Value} {X:Act→World→Prop}
theorem u_hidT {α:Type} {enc:α→List Value} {kk e gt lo hi:Nat} {xss:List (List α)} (ht:Take H (.hidT enc kk e gt lo hi xss) H') (h:∀ L:List (zAN α),L.map (·.xs)=xss→U w0 n d R (.zBb zAH (rowOf enc kk e) gt L::H') X):U w0 n d R H X:=fun a w q=>by
 have ho:=q.own.take ht
 obtain ⟨L,h1,h2,h3⟩:=ho.here (.hidT enc kk e gt lo hi xss) (by simp)
 exact h L h1 a w (q.heap q.below (ho.recast (fun _=>h2.here _ (by simp)) (fun b hb=>⟨(h2.foot _ (by simp) b hb).1,h3 b hb⟩)))
theorem zRS {α:Type} {enc:α→List Value} {z0:α} {z:Value} {e n0:Nat} (hez:enc z0=[z]) (hn:n0≤1000) (w:World):Own w.heap.size (w.alloc (.cells (madeCells #[z] n0) e)) [.row enc 1 e (.slice (some ⟨w.heap.size,0,none⟩) n0 n0) (List.replicate n0 z0)]:=by
 have hfl:(List.replicate n0 z0).flatMap enc=List.replicate n0 z:=by
  clear hn
  induction n0 with
  | zero=>rfl
  | succ m ih=>rw [List.replicate_succ,List.flatMap_cons,ih,hez,List.replicate_succ];rfl
 refine ⟨fun f hf=>?_,fun f hf b hb=>?_,by simp⟩
 ·simp only [List.mem_singleton] at hf
  subst hf
  show Row enc 1 e 0 _ _ _
  unfold Row
  rw [hfl]
  refine ⟨by simp,.inr ⟨w.heap.size,n0,madeCells #[z] n0,by simp,Nat.zero_le _,heap_alloc_new w _,by simp,by simp [maxLen];omega,by simp [madeCells],?_⟩⟩
  have:=toList_madeCells_one z n0
  rw [this];simp
 ·simp only [List.mem_singleton] at hf;subst hf;cases hb;simp
theorem zLq {T1 e:TypeId} {i:TypeInfo} {z:Value} {n0 s:Nat} {g:Bool} [i1:TyI P T1 (.slice e) s g] (hi:P.info? e=some i) (hz:i.zero=some z) (h1:i.size=1) (hcz:z.cells=#[z]) (hb:Nat.ble (i.bytes * 1000) 281474976710656=true) (hn:n0≤1000) (w:World):(Instr.makeSlice T1 (.int .i64 (n0:Int)) (.int .i64 (n0:Int))).run P w = .ok (.slice (some ⟨w.heap.size,0,none⟩) n0 n0) (w.alloc (.cells (madeCells #[z] n0) e)):=by
 have hb':(i.bytes:Int) * (n0:Int)≤281474976710656:=by
  have h9:=Nat.le_of_ble_eq_true hb
  have h8:i.bytes * n0≤i.bytes * 1000:=Nat.mul_le_mul_left _ hn
  have h7:((i.bytes * n0:Nat):Int)≤281474976710656:=by omega
  rwa [Int.natCast_mul] at h7
 have hr:=run_make (P:=P) w T1 e i z i1.und hi hz .i64 .i64 n0 n0 (by omega) (Int.le_refl _) hb' (by omega)
 simpa only [Int.toNat_natCast,h1,Nat.mul_one,hcz] using hr
end
end Go.Proofs.YtdigopgncfhiaaaGreatDoor
namespace Go.Proofs.YtdigopgncfhiaaaGreatDoor.Two
variable {ro : Option Nat}
open Go.RowKit
set_option linter.unusedSectionVars false
section
variable {S : List (Nat × Nat)} {I:List (Nat × Nat × Nat × List Ent)} {P:Program} {w0:World} {n:Nat} {d:List Deferred} {R R0:List (Nat × Value)} {H H' H0:List Ent} {Q:Exit→Act→World→Prop} {ops:Array Oper} {bs:List (List Bool)} {b:List Bool} {k:Nat} {o:Oper} {rest:List Oper} {T:List Rw} {t:Tmp} {Hk:zBN→List Ent} {x y:Operand} {v:Value} {X:Act→World→Prop}
theorem c_tab {α:Type} {enc:α→List Value} {kk e nn:Nat} {xss:List (List α)} {f:FuncId} {fx:Operand} {xs:Array Operand} {ts:Array TypeId} {vs:zBN→List Value} {cap:Array Value} (hn:xss.length=nn) (hop:o.op = .call ⟨.value fx,xs,ts⟩) (hw:∀ G,want (Rk R0 ops b o T G) ops o=some true) (hd:o.dst=some t) (hf:∀ G,evR (Rk R0 ops b o T G) fx=some (.func (.func f) #[] cap)) (hx:∀ G,evs (Rk R0 ops b o T G) xs.toList=some (vs G)) [ci:za P f]
  (hc:∀ G a w,Kn w0 n d (Rk R0 ops b o T G) (Hk G) a w→Ret P f (vs G++cap.toList) w (fun p:Nat × List (zAN α)=>.slice (some ⟨p.1,0,none⟩) p.2.length p.2.length) (fun p=>[.zBb zAH (rowOf enc kk e) p.1 p.2]) (fun p=>p.2.map (·.xs)=xss))
  (h:zBm ro S I P w0 n d ops R0 H0 Q bs (k+1) rest (⟨k,some t,fun G=>(.slice (some ⟨(G k).g,0,none⟩) nn nn,[.hidT enc kk e (G k).g ((G k).A.getD ⟨0,0,none⟩).block (G k).m xss])⟩::T)):CAt ro S I P w0 n d ops R0 H0 Q b bs k o rest T Hk:=by
 refine zGJ (f:=fun G=>(.slice (some ⟨(G k).g,0,none⟩) nn nn,[.hidT enc kk e (G k).g ((G k).A.getD ⟨0,0,none⟩).block (G k).m xss])) (fun G G' hG=>by simp only [hG k (.inl rfl)]) (fun G a w q K hK=>?_) (by rw [hd];exact h)
 rw [zBr q (hw G),if_pos rfl]
 unfold Oper.wp execOp;rw [hop]
 have e1:xs.map a.eval=(vs G).toArray:=by apply Array.ext';simpa using q.evs (hx G)
 have e2:(vs G).toArray++cap=(vs G++cap.toList).toArray:=by apply Array.ext';simp
 simp only [resolve,q.ev (hf G),e1,Deferred.ofValue,Sem.run_bind,Sem.run_pure,Result.andThen_ok,invoke,Array.empty_append,e2,ci.ent,Oper.upon_enter]
 refine Calls.mono (hc G a w q).calls ?_
 rintro en w' ⟨⟨g,L⟩,hp,rfl,hb,hE⟩
 simp only at hp hE
 have hl:L.length=nn:=by rw [← hn,← hp];simp
 refine hK _ [.hidT enc kk e g w.heap.size w'.heap.size xss] _ ⟨⟨g,some ⟨w.heap.size,0,none⟩,w'.heap.size⟩,by simp [upW,hl]⟩ hb ⟨fun f hf=>?_,fun f hf b hb'=>?_,by simp⟩
 ·simp only [List.mem_singleton] at hf;subst hf
  exact ⟨L,hp,hE,fun b hb=>(hE.foot _ (by simp) b hb).2⟩
 ·simp only [List.mem_singleton] at hf;subst hf
  exact hb'
theorem c_makeR {α:Type} {enc:α→List Value} [ei:zCc enc 1] (z0:α) {T1 e:TypeId} {i:TypeInfo} {z:Value} {n0 s:Nat} {g:Bool} (hop:o.op = .makeSlice T1 x y) [i1:TyI P T1 (.slice e) s g] (hi:P.info? e=some i) (hz:i.zero=some z) (h1:i.size=1) (hcz:z.cells=#[z]) (hez:enc z0=[z]) (hb:Nat.ble (i.bytes * 1000) 281474976710656=true) (hw:∀ G,want (Rk R0 ops b o T G) ops o=some true) (hd:o.dst=some t) (hx:∀ G,evR (Rk R0 ops b o T G) x=some (.int .i64 (n0:Int))) (hy:∀ G,evR (Rk R0 ops b o T G) y=some (.int .i64 (n0:Int))) (hn:n0≤1000)
  (h:zBm ro S I P w0 n d ops R0 H0 Q bs (k+1) rest (⟨k,some t,fun G=>(.slice (some ⟨(G k).g,0,none⟩) n0 n0,[.row enc 1 e (.slice (some ⟨(G k).g,0,none⟩) n0 n0) (List.replicate n0 z0)])⟩::T)):CAt ro S I P w0 n d ops R0 H0 Q b bs k o rest T Hk:=by
 refine zGJ (f:=fun G=>(.slice (some ⟨(G k).g,0,none⟩) n0 n0,[.row enc 1 e (.slice (some ⟨(G k).g,0,none⟩) n0 n0) (List.replicate n0 z0)])) (fun G G' hG=>by simp only [hG k (.inl rfl)]) (fun G a w q K hK=>?_) (by rw [hd];exact h)
 rw [zBr q (hw G),if_pos rfl]
 unfold Oper.wp execOp;rw [hop]
 simp only [Sem.run_bind,q.ev (hx G),q.ev (hy G),zLq hi hz h1 hcz hb hn w,Result.andThen_ok,Sem.run_pure,Oper.upon_value]
 exact hK _ _ _ ⟨⟨w.heap.size,none,0⟩,by simp only [upW,if_true]⟩ (zAQ w _) (zRS hez hn w)
theorem c_makeT {α:Type} {enc:α→List Value} {kk e2:Nat} {T1 e:TypeId} {i:TypeInfo} {n0 s:Nat} {g:Bool} (hop:o.op = .makeSlice T1 x y) [i1:TyI P T1 (.slice e) s g] (hi:P.info? e=some i) (hz:i.zero=some (.slice none 0 0)) (h1:i.size=1) (hb:Nat.ble (i.bytes * 1000) 281474976710656=true) (hw:∀ G,want (Rk R0 ops b o T G) ops o=some true) (hd:o.dst=some t) (hx:∀ G,evR (Rk R0 ops b o T G) x=some (.int .i64 (n0:Int))) (hy:∀ G,evR (Rk R0 ops b o T G) y=some (.int .i64 (n0:Int))) (hn:n0≤1000)
  (h:zBm ro S I P w0 n d ops R0 H0 Q bs (k+1) rest (⟨k,some t,fun G=>(.slice (some ⟨(G k).g,0,none⟩) n0 n0,[.zBb zAH (rowOf enc kk e2) (G k).g (List.replicate n0 (zBO:zAN α))])⟩::T)):CAt ro S I P w0 n d ops R0 H0 Q b bs k o rest T Hk:=by
 refine zGJ (f:=fun G=>(.slice (some ⟨(G k).g,0,none⟩) n0 n0,[.zBb zAH (rowOf enc kk e2) (G k).g (List.replicate n0 (zBO:zAN α))])) (fun G G' hG=>by simp only [hG k (.inl rfl)]) (fun G a w q K hK=>?_) (by rw [hd];exact h)
 rw [zBr q (hw G),if_pos rfl]
 unfold Oper.wp execOp;rw [hop]
 simp only [Sem.run_bind,q.ev (hx G),q.ev (hy G),zLq hi hz h1 rfl hb hn w,Result.andThen_ok,Sem.run_pure,Oper.upon_value]
 refine hK _ [.zBb zAH (rowOf enc kk e2) w.heap.size (List.replicate n0 (zBO:zAN α))] _ ⟨⟨w.heap.size,none,0⟩,by simp only [upW,if_true]⟩ (zAQ w _) ?_
 have h2:Own w.heap.size (w.alloc (.cells (madeCells #[.slice none 0 0] n0) e)) [.blk w.heap.size (List.replicate n0 (.slice none 0 0))]:=by
  have e3:madeCells #[Value.slice none 0 0] n0=(List.replicate n0 (Value.slice none 0 0)).toArray:=by
   apply Array.ext'
   have:=toList_madeCells_one (Value.slice none 0 0) n0
   rw [this]
  rw [e3]
  exact zJj w _ e
 have h3:Own w.heap.size (w.alloc (.cells (madeCells #[.slice none 0 0] n0) e)) [.arr zAH 1 w.heap.size (List.replicate n0 (zBO:zAN α))]:=h2.recast (fun hp=>⟨[],by rw [zKw,List.append_nil];exact hp⟩) (fun b hb=>hb)
 have h4:=zGS (α:=α) (enc:=enc) (k:=kk) (e:=e2) (g:=w.heap.size) n0 h3
 refine zBt.1 (h4.perm ?_)
 rw [List.append_nil]
 exact List.perm_append_comm
end
end Go.Proofs.YtdigopgncfhiaaaGreatDoor.Two
