/- B17 -/
import Derived.Test.YtdigopgncfhiaaaGreatDoorB11
import Derived.Test.YtdigopgncfhiaaaGreatDoorB1
import Derived.Test.YtdigopgncfhiaaaGreatDoorB8
import Derived.Test.YtdigopgncfhiaaaGreatDoorB13
import Derived.Test.YtdigopgncfhiaaaGreatDoorB15
import Derived.Test.YtdigopgncfhiaaaGreatDoorB16
import Derived.Test.YtdigopgncfhiaaaGreatDoorB7
import Derived.Test.YtdigopgncfhiaaaGreatDoorB10
import Derived.Test.YtdigopgncfhiaaaGreatDoorB5
set_option linter.unusedSimpArgs false
set_option linter.unusedVariables false
namespace Go.Proofs.YtdigopgncfhiaaaGreatDoor
open Go.RowKit
set_option maxRecDepth 20000
section
variable {w0 : World} {n:Nat} {d:List Deferred} {R:List (Nat × Value)} {H:List Ent} {o:Oper} {x:Operand} {a b:Int}
theorem e_spanHi (hop:o.op = .field 28 x 1) (hx:evR R x=some (.agg #[.int .i64 a,.int .i64 b])):Ev Tryz.prog w0 n d R H o (.int .i64 b) :=
 e_fieldV (vs:=[.int .i64 a,.int .i64 b]) hop hx rfl (inferInstance:TyI Tryz.prog 3 _ _ _) rfl
end
theorem zQh {l:List Int} {i:Nat} (h0:0<i) (hi:i<l.length):Flow.zDx (l.take (i+1))=max (Flow.zDx (l.take i)) l[i]:=by
 cases l with
 | nil=>simp at hi
 | cons x r =>
  cases i with
  | zero=>omega
  | succ i =>
   have hi':i<r.length:=by simpa using hi
   have e:r.take (i+1)=r.take i++[r[i]]:=by rw [List.take_add_one];simp [hi']
   show (r.take (i+1)).foldl max x=max ((r.take i).foldl max x) r[i]
   rw [e,List.foldl_append];rfl
theorem zMZ (l:List Int) (A:Option Addr) (c:Nat) (w:World) (h:zAB encI 1 w A l) (h0:0<l.length) (hl:l.length≤1000):Gv Tryz.prog 64 [.slice A l.length c] w (.int .i64 (Flow.zDx l)):=by
 obtain ⟨b,o,rfl,_,_⟩:=h.at_ h0
 have:InS w b o encI 1 l:=⟨h⟩
 have:zAP l 0 l[0]:=⟨by simp [h0]⟩
 unfold Gv
 (refine zM (n:=25) Tryz.func64 rfl rfl rfl ?_)
 (repeat' (first|((with_reducible refine zG ?_);first|refine zE rfl rfl rfl rfl rfl ?_|refine zC rfl rfl rfl rfl rfl ?_|(refine zK rfl rfl rfl rfl rfl ?_;refine ⟨_,rfl,?_⟩)|(refine zQ rfl rfl rfl rfl rfl rfl rfl (fun h=>?_) (fun h=>?_)<;>(dsimp only [cmpP] at h;(try (exfalso;omega))))|refine ze rfl rfl rfl rfl rfl rfl rfl zRU ?_|refine zp rfl rfl rfl rfl rfl ?_)|(with_reducible first|refine zI ?_|refine zB ?_|refine zD ?_|refine zA ?_|refine zP ?_|refine zN ?_)|((with_reducible refine zF ?_ ?_);(· exact rfl))))
 have e0:Flow.zDx (l.take 1)=l[0]:=by
  cases l with
  | nil=>simp at h0
  | cons x r=>rfl
 refine zq (ι:=Nat) [0] rfl (fun i=>0<i∧i≤l.length) (fun i=>[(4,.int .i64 (i:Int)),(3,.int .i64 (Flow.zDx (l.take i)))]) (fun _=>[]) (fun i=>l.length - i) 1 ⟨by omega,by omega⟩ (by rw [e0];(first|exact lK1|(repeat (first|exact lK1|(refine zL rfl ?_))))) zRQ ?_
 rintro i ⟨hi0,hi⟩
 simp only [zAn,List.cons_append,List.nil_append]
 by_cases hlt:i<l.length
 ·have:zAP l i l[i]:=⟨by simp [hlt]⟩
  (repeat' (first|((with_reducible refine zG ?_);first|refine zE rfl rfl rfl rfl rfl ?_|refine zC rfl rfl rfl rfl rfl ?_|(refine zK rfl rfl rfl rfl rfl ?_;refine ⟨_,rfl,?_⟩)|(refine zQ rfl rfl rfl rfl rfl rfl rfl (fun h=>?_) (fun h=>?_)<;>(dsimp only [cmpP] at h;(try (exfalso;omega))))|refine zg rfl rfl rfl rfl rfl rfl zRU ?_|refine ze rfl rfl rfl rfl rfl rfl rfl zRU ?_|refine zp rfl rfl rfl rfl rfl ?_|refine zJX rfl rfl rfl rfl rfl rfl ?_)|(with_reducible first|refine zI ?_|refine zB ?_|refine zD ?_|refine zA ?_|refine zP ?_|refine zN ?_|refine zi ?_)|((with_reducible refine zJ ?_ ?_);(· exact rfl))))
  exact zc (i+1) ⟨by omega,by omega⟩ zRU (by rw [zQh hi0 hlt];(first|exact lK1|(repeat (first|exact lK1|(refine zL rfl ?_))))) zRQ
 ·obtain rfl:i=l.length:=by omega
  rw [List.take_length]
  (repeat' (first|((with_reducible refine zG ?_);first|refine zE rfl rfl rfl rfl rfl ?_|refine zC rfl rfl rfl rfl rfl ?_|(refine zQ rfl rfl rfl rfl rfl rfl rfl (fun h=>?_) (fun h=>?_)<;>(dsimp only [cmpP] at h;(try (exfalso;omega))))|refine zp rfl rfl rfl rfl rfl ?_)|(with_reducible first|refine zI ?_|refine zB ?_|refine zD ?_|refine zA ?_|refine za ?_|refine zk ?_|refine zR ?_|refine zY ?_)|((with_reducible refine zF ?_ ?_);(· exact rfl))))
  exact zU zRZ () trivial rfl (fun _ _=>Own.nil _ _)
def needG (c:Cov) (z:Bed):Nat→Int × Int
 | 0=>(z.thick.lo,0)
 | h+1=>((needG c z h).1 - (zBB c z (c.hours.getD h default)).hi,
   if 0<zCZ c (c.hours.getD h default) - ((needG c z h).1 - (zBB c z (c.hours.getD h default)).hi) then max (needG c z h).2 ((zCZ c (c.hours.getD h default) - ((needG c z h).1 - (zBB c z (c.hours.getD h default)).hi)+c.layer.lo - 1) / c.layer.lo) else (needG c z h).2)
def zBj (c:Cov) (z:Bed) (m:Nat):List Int:=(List.range m).map fun h=>(needG c z (h+1)).2
def zAu (c:Cov):List (List Int):=c.beds.map fun z=>zBj c z c.hours.length
theorem zEl {c:Cov} {z:Bed} {m:Nat}:(zBj c z m).length=m:=by simp [zBj]
theorem zHi {c:Cov} {z:Bed} {m:Nat}:zBj c z (m+1)=zBj c z m++[(needG c z (m+1)).2]:=by simp [zBj,List.range_succ]
theorem zKf {c:Cov} {u:Hour} (hf:zBm c):0≤zCZ c u∧zCZ c u≤2000:=by
 have h1:=hf.limit;have h2:=hf.base
 simp only [zx] at h1 h2
 unfold zCZ;split<;>omega
theorem zHk {c:Cov} {z:Bed} (hf:zBm c) (hz:z∈c.beds):∀ h,h≤c.hours.length→-(1650 * (h:Int))≤(needG c z h).1∧(needG c z h).1≤2000∧0≤(needG c z h).2∧(needG c z h).2≤2200+1650 * h
 | 0,_=>by
  have:=hf.bed z hz
  simp only [zCm,Bool.and_eq_true,zAE] at this
  simp only [needG];omega
 | h+1,hh=>by
  obtain ⟨i1,i2,i3,i4⟩:=zHk hf hz h zRU
  have hu:c.hours.getD h default∈c.hours:=by rw [zAS (List.getElem?_eq_getElem zRU)];exact List.getElem_mem zRU
  have l1:=zFB hf hz hu
  have a1:=zKf (u:=c.hours.getD h default) hf
  have y1:=hf.layer
  simp only [zAE] at y1
  simp only [needG]
  generalize (needG c z h).1=p at *
  generalize (needG c z h).2=q at *
  generalize (zBB c z (c.hours.getD h default)).hi=r at *
  generalize zCZ c (c.hours.getD h default)=s at *
  refine ⟨by omega,by omega,?_,?_⟩
  ·split
   ·exact Int.le_trans i3 (Int.le_max_left _ _)
   ·exact i3
  ·split
   ·have h1:(s - (p - r)+c.layer.lo - 1) / c.layer.lo≤s - (p - r)+c.layer.lo - 1:=Int.ediv_le_self _ zRU
    omega
   ·omega
def zCk (c:Cov) (i:Nat):List (List Int):=(c.beds.take i).map (fun z=>zBj c z c.hours.length)++List.replicate (c.beds.length - i) []
theorem zMr {c:Cov}:zCk c c.beds.length=zAu c:=by simp [zCk,zAu]
theorem zMq {c:Cov} {i:Nat} {z:Bed} (hz:c.beds[i]?=some z):(zCk c i).set i (zBj c z c.hours.length)=zCk c (i+1):=by
 obtain ⟨hi,e⟩:=List.getElem?_eq_some_iff.1 hz
 unfold zCk
 have hl:((c.beds.take i).map (fun z=>zBj c z c.hours.length)).length=i:=by simp;omega
 rw [List.set_append_right _ _ zRU,hl,Nat.sub_self]
 have e1:c.beds.take (i+1)=c.beds.take i++[z]:=by rw [List.take_add_one,hz];rfl
 rw [e1,List.map_append,List.append_assoc]
 congr 1
 obtain ⟨m,hm⟩:∃ m,c.beds.length - i=m+1:=⟨c.beds.length - i - 1,by omega⟩
 rw [hm,show c.beds.length - (i+1)=m by omega,List.replicate_succ]
 rfl
theorem zOL {c:Cov} {i:Nat} (hi:i<c.beds.length):(zCk c i)[i]?=some []:=by
 unfold zCk
 have hl:((c.beds.take i).map (fun z=>zBj c z c.hours.length)).length=i:=by simp;omega
 rw [List.getElem?_append_right zRU,hl,List.getElem?_replicate,if_pos zRU]
theorem zK1 {c:Cov}:zCk c 0=List.replicate c.beds.length []:=by simp [zCk]
set_option maxHeartbeats 4000000 in
theorem zKF (c:Cov) (A:Option Addr) (ca:Nat) (B:Option Addr) (cb:Nat) (C:Option Addr) (cc g:Nat) (w:World) (hr:InC w g 0 (zH c A ca B cb C cc)) (hG:InC w 0 0 zCS) (h:zAl w c A B C) (hs:Small c) (hf:zBm c) :
  Ret Tryz.prog 63 [.pointer (some ⟨g,0,none⟩)] w (fun p:Nat × List (zAH Int)=>.slice (some ⟨p.1,0,none⟩) p.2.length p.2.length) (fun p=>[.zBV zAF (rowOf encI 1 3) p.1 p.2]) (fun p=>p.2.map (·.xs)=zAu c):=by
 have h4:=hs.b;have h5:=hs.h
 have hb:=h.b;have hh:=h.h
 have hlo:=fun W (hb:Below w.heap.size w W) i j z u (hz:c.beds[i]?=some z) (hu:c.hours[j]?=some u)=>zFG c A ca B cb C cc g i j z u W (hr.below hb) (h.below hb) hs hf hz hu
 have has:=fun W (hb:Below w.heap.size w W) u=>zLl c A ca B cb C cc g u W (hr.below hb) (hG.below hb) hf
 unfold vSp at hlo
 unfold zE0 at has
 unfold zH at hr
 (refine zM (n:=92) Tryz.func63 rfl rfl rfl ?_)
 (repeat' (first|((with_reducible refine zG ?_);first|refine zE rfl rfl rfl rfl rfl ?_|refine zC rfl rfl rfl rfl rfl ?_|(refine zK rfl rfl rfl rfl rfl ?_;refine ⟨_,rfl,?_⟩)|refine zd rfl rfl rfl rfl rfl ?_|refine zMF rfl rfl rfl rfl rfl rfl rfl rfl rfl rfl rfl zRU (fun gt=>?_)|refine zp rfl rfl rfl rfl rfl ?_|refine zBI rfl rfl rfl rfl rfl ?_)|(with_reducible first|refine zI ?_|refine zB ?_|refine zD ?_|refine zA ?_|refine zN ?_)))
 refine zJW (enc:=encI) (k:=1) (e:=3) (Take.here _ _) ?_
 refine zq (ι:=Nat × List (zAH Int)) [0,3,21,22] rfl (fun p=>p.1≤c.beds.length∧p.2.map (·.xs)=zCk c p.1) (fun p=>[(23,.int .i64 (p.1:Int))]) (fun p=>[.zBV zAF (rowOf encI 1 3) gt p.2]) (fun p=>c.beds.length - p.1) (0,List.replicate c.beds.length zBH) ⟨Nat.zero_le _,by simp [zK1,zBH]⟩ zRS zRQ ?_
 rintro ⟨i,L⟩ ⟨hi,hL⟩
 simp only at hi hL
 have hLl:L.length=c.beds.length:=by
  have:=congrArg List.length hL
  simp [zCk] at this;omega
 simp only [zAn,List.cons_append,List.nil_append]
 by_cases hlt:i<c.beds.length
 ·obtain ⟨z,hz⟩:∃ z,c.beds[i]?=some z:=⟨_,List.getElem?_eq_getElem hlt⟩
  obtain ⟨bb,o,rfl,_,_⟩:=hb.at_ hlt
  have:InS w bb o zAX 3 c.beds:=⟨hb⟩
  have:zAP c.beds i z:=⟨hz⟩
  obtain ⟨s0,hs0⟩:∃ s0,L[i]?=some s0:=⟨_,List.getElem?_eq_getElem zRU⟩
  have hx0:s0.xs=[]:=by
   have h1:=zOL (c:=c) hlt
   rw [← hL,List.getElem?_map,hs0] at h1
   exact Option.some.inj h1
  (repeat' (first|((with_reducible refine zG ?_);first|refine zE rfl rfl rfl rfl rfl ?_|refine zC rfl rfl rfl rfl rfl ?_|(refine zK rfl rfl rfl rfl rfl ?_;refine ⟨_,rfl,?_⟩)|refine zd rfl rfl rfl rfl rfl ?_|(refine zQ rfl rfl rfl rfl rfl rfl rfl (fun h=>?_) (fun h=>?_)<;>(dsimp only [cmpP] at h;(try (exfalso;omega))))|refine ze rfl rfl rfl rfl rfl rfl rfl zRU ?_|refine zp rfl rfl rfl rfl rfl ?_|(refine zf rfl rfl rfl rfl rfl ?_;refine And.intro rfl (And.intro zRY ⟨_,rfl,?_⟩))|(refine zr rfl rfl rfl rfl (fun b=>?_))|refine zBI rfl rfl rfl rfl rfl ?_)|(with_reducible first|refine zI ?_|refine zB ?_|refine zD ?_|refine zA ?_|refine zP ?_|refine zN ?_)|((with_reducible refine zJ ?_ ?_);(· exact rfl))))
  refine zC9 i hs0 zRT ?_
  refine zq (ι:=Nat × zAH Int) [0,3,4,21,22,23,36] rfl (fun p=>p.1≤c.hours.length∧p.2.xs=zBj c z p.1) (fun p=>[(37,.int .i64 (p.1:Int)),(6,.int .i64 (needG c z p.1).1),(7,.int .i64 (needG c z p.1).2)]) (fun p=>[.arr zAF 1 gt (L.set i p.2),rowOf encI 1 3 p.2,.all ((L.eraseIdx i).map (rowOf encI 1 3))]) (fun p=>c.hours.length - p.1) (0,s0) ⟨Nat.zero_le _,by rw [hx0];rfl⟩ zRS zRQ ?_
  rintro ⟨j,s⟩ ⟨hj,hsx⟩
  simp only at hj hsx
  simp only [zAn,List.cons_append,List.nil_append]
  by_cases hjl:j<c.hours.length
  ·obtain ⟨u,hu⟩:∃ u,c.hours[j]?=some u:=⟨_,List.getElem?_eq_getElem hjl⟩
   obtain ⟨bc,oc,rfl,_,_⟩:=hh.at_ hjl
   have:InS w bc oc zw 5 c.hours:=⟨hh⟩
   have:zAP c.hours j u:=⟨hu⟩
   have hG1:=zHk hf (List.mem_of_getElem? hz) j hj
   have l1:=zFB hf (List.mem_of_getElem? hz) (List.mem_of_getElem? hu)
   have a1:=zKf (u:=u) hf
   have y1:=hf.layer
   simp only [zAE] at y1
   have eG:needG c z (j+1)=((needG c z j).1 - (zBB c z u).hi,if 0<zCZ c u - ((needG c z j).1 - (zBB c z u).hi) then max (needG c z j).2 ((zCZ c u - ((needG c z j).1 - (zBB c z u).hi)+c.layer.lo - 1) / c.layer.lo) else (needG c z j).2):=by simp only [needG,zAS hu]
   have:=hlo
   (repeat' (first|((with_reducible refine zG ?_);first|refine zE rfl rfl rfl rfl rfl ?_|refine zC rfl rfl rfl rfl rfl ?_|(refine zK rfl rfl rfl rfl rfl ?_;refine ⟨_,rfl,?_⟩)|refine zd rfl rfl rfl rfl rfl ?_|(refine zQ rfl rfl rfl rfl rfl rfl rfl (fun h=>?_) (fun h=>?_)<;>(dsimp only [cmpP] at h;(try (exfalso;omega))))|refine zV rfl rfl rfl rfl rfl rfl (fun _ _ q=>hlo _ q.below i j z u hz hu) ?_|refine zV rfl rfl rfl rfl rfl rfl (fun _ _ q=>has _ q.below u) ?_|refine zAb rfl rfl rfl (e_spanHi rfl rfl) ?_|refine zCc rfl rfl rfl rfl rfl rfl (IntWalk.i64_in _ zRU) ?_|refine ze rfl rfl rfl rfl rfl rfl rfl zRU ?_|refine zBI rfl rfl rfl rfl rfl ?_)|(with_reducible first|refine zI ?_|refine zB ?_|refine zD ?_|refine zA ?_|refine zP ?_|refine zN ?_)|((with_reducible refine zJ ?_ ?_);(· exact rfl))|((with_reducible refine zF ?_ ?_);(· exact rfl))))
   ·have hq1:0≤(zCZ c u - ((needG c z j).1 - (zBB c z u).hi)+c.layer.lo - 1) / c.layer.lo:=Int.ediv_nonneg zRU zRU
    have hq2:(zCZ c u - ((needG c z j).1 - (zBB c z u).hi)+c.layer.lo - 1) / c.layer.lo≤zCZ c u - ((needG c z j).1 - (zBB c z u).hi)+c.layer.lo - 1:=Int.ediv_le_self _ zRU
    (refine zAr zRW zRW zRW ?_)
    (repeat' (first|((with_reducible refine zBD ?_);first|refine zW (zAM rfl rfl) rfl rfl rfl ?_|refine zW (zy rfl rfl zRe) rfl rfl rfl ?_|refine zW (zAJ rfl rfl) rfl rfl rfl ?_|refine zW (zBe rfl rfl) rfl rfl rfl ?_|refine zW (zDS rfl rfl rfl (IntWalk.i64_in _ zRU)) rfl rfl rfl ?_|refine zW (zFS rfl rfl rfl (IntWalk.i64_in _ zRU)) rfl rfl rfl ?_|refine zW (zAY rfl rfl) rfl rfl rfl ?_|refine zW (e_quo rfl rfl rfl zRU zRU (IntWalk.i64_in _ zRU)) rfl rfl rfl ?_|refine zW (e_max rfl rfl rfl) rfl rfl rfl ?_)|(with_reducible refine zBw ?_)))
    have:zAP (L.set i s) i s:=⟨List.getElem?_set_self zRU⟩
    have hsl:s.xs.length≤12:=by rw [hsx,zEl];omega
    (repeat' (first|((with_reducible refine zG ?_);first|refine zE rfl rfl rfl rfl rfl ?_|(refine zK rfl rfl rfl rfl rfl ?_;refine ⟨_,rfl,?_⟩)|(refine zAq (enc:=encI) [_] rfl rfl rfl rfl rfl zRT rfl rfl (zAd zRe) zRc (fun A' c'=>?_))|refine zDG (i:=i) (s:=s) ⟨A',s.xs++[_],c'⟩ rfl rfl rfl rfl rfl rfl zRT zRU ?_|refine zg rfl rfl rfl rfl rfl rfl zRU ?_|refine ze rfl rfl rfl rfl rfl rfl rfl zRU ?_|(refine zz rfl rfl rfl rfl rfl ?_;refine ⟨rfl,_,rfl,fun b=>?_⟩))|(with_reducible first|refine zB ?_|refine zD ?_|refine zA ?_|refine zi ?_)))
    exact zc (j+1,⟨A',s.xs++[_],c'⟩) ⟨by simp only;omega,by simp only;rw [hsx,zHi,eG,if_pos zRU]⟩ zRi (by simp only [eG];rw [if_pos zRU];(first|exact lK1|(repeat (first|exact lK1|(refine zL rfl ?_))))) zRQ
   ·have:zAP (L.set i s) i s:=⟨List.getElem?_set_self zRU⟩
    have hsl:s.xs.length≤12:=by rw [hsx,zEl];omega
    (repeat' (first|((with_reducible refine zG ?_);first|refine zE rfl rfl rfl rfl rfl ?_|(refine zK rfl rfl rfl rfl rfl ?_;refine ⟨_,rfl,?_⟩)|(refine zAq (enc:=encI) [_] rfl rfl rfl rfl rfl zRT rfl rfl (zAd zRe) zRc (fun A' c'=>?_))|refine zDG (i:=i) (s:=s) ⟨A',s.xs++[_],c'⟩ rfl rfl rfl rfl rfl rfl zRT zRU ?_|refine zg rfl rfl rfl rfl rfl rfl zRU ?_|refine ze rfl rfl rfl rfl rfl rfl rfl zRU ?_|(refine zz rfl rfl rfl rfl rfl ?_;refine ⟨rfl,_,rfl,fun b=>?_⟩))|(with_reducible first|refine zB ?_|refine zD ?_|refine zA ?_|refine zi ?_)))
    exact zc (j+1,⟨A',s.xs++[_],c'⟩) ⟨by simp only;omega,by simp only;rw [hsx,zHi,eG,if_neg zRU]⟩ zRi (by simp only [eG];rw [if_neg zRU];(first|exact lK1|(repeat (first|exact lK1|(refine zL rfl ?_))))) zRQ
  ·obtain rfl:j=c.hours.length:=by omega
   (repeat' (first|((with_reducible refine zG ?_);first|refine zE rfl rfl rfl rfl rfl ?_|(refine zQ rfl rfl rfl rfl rfl rfl rfl (fun h=>?_) (fun h=>?_)<;>(dsimp only [cmpP] at h;(try (exfalso;omega))))|refine zg rfl rfl rfl rfl rfl rfl zRU ?_)|(with_reducible first|refine zI ?_|refine zB ?_|refine zD ?_|refine zA ?_|refine zk ?_|refine zi ?_|refine zR ?_|refine zY ?_)|((with_reducible refine zF ?_ ?_);(· exact rfl))))
   refine zC8 i s hs0 zRT zRT zRT ?_
   refine zc (i+1,L.set i s) ⟨by simp only;omega,?_⟩ zRi zRS zRQ
   simp only
   rw [List.map_set,hL,hsx,zMq hz]
 ·obtain rfl:i=c.beds.length:=by omega
  (repeat' (first|((with_reducible refine zG ?_);first|refine zE rfl rfl rfl rfl rfl ?_|refine zC rfl rfl rfl rfl rfl ?_|(refine zQ rfl rfl rfl rfl rfl rfl rfl (fun h=>?_) (fun h=>?_)<;>(dsimp only [cmpP] at h;(try (exfalso;omega)))))|(with_reducible first|refine zI ?_|refine zB ?_|refine zD ?_|refine zA ?_|refine za ?_|refine zk ?_|refine zR ?_|refine zY ?_)|((with_reducible refine zF ?_ ?_);(· exact rfl))))
  refine zU zRZ (gt,L) ?_ (by rw [hLl];rfl) (fun _ h=>h.sub zRQ)
  rw [hL,zMr]
end Go.Proofs.YtdigopgncfhiaaaGreatDoor
namespace Go.Proofs.YtdigopgncfhiaaaGreatDoor
open Go.RowKit
set_option maxRecDepth 20000
def zD6 (c:Cov):List Int × Int:=if zAp c=0 then ((zAu c).map Flow.zDx,0) else ([],zAp c)
theorem zHE {c:Cov}:(zAu c).length=c.beds.length:=by simp [zAu]
theorem zJ3 {c:Cov}:∀ r∈zAu c,r.length=c.hours.length:=fun r hr=>by
 obtain ⟨z,_,rfl⟩:=List.mem_map.1 hr
 exact zEl
theorem Ret.newsl {α:Type} {enc:α→List Value} {k:Nat} {xs:List α} {V:Value→Value} {P:Program} {f:FuncId} {args:List Value} {w:World} (h:Ret P f args w (fun p:Option Addr × Nat=>V (.slice p.1 xs.length p.2)) (fun p=>[.sl enc k p.1 xs]) (fun _=>True)):zDV enc k xs V P f args w:=by
 unfold zDV;exact h
theorem zOq {c:Cov} {z:Bed} (h:Nat):(needG c z h).2≤(needG c z (h+1)).2:=by
 simp only [needG];split<;>omega
theorem zHj {c:Cov} {z:Bed} (h:Nat):∀ k,(needG c z h).2≤(needG c z (h+k)).2
 | 0=>Int.le_refl _
 | k+1=>Int.le_trans (zHj h k) (zOq (h+k))
theorem zIz {c:Cov} {z:Bed} {m:Nat}:Flow.zDx (zBj c z (m+1))=(needG c z (m+1)).2:=by
 have h1:(needG c z (m+1)).2∈zBj c z (m+1):=by
  unfold zBj;exact List.mem_map.2 ⟨m,by simp,rfl⟩
 have h2:=Flow.zJL h1
 have h3:Flow.zDx (zBj c z (m+1))∈zBj c z (m+1):=Flow.zGC (by intro e;rw [e] at h1;cases h1)
 unfold zBj at h3
 obtain ⟨k,hk,e⟩:=List.mem_map.1 h3
 have hk:=List.mem_range.1 hk
 have h4:=zHj (c:=c) (z:=z) (k+1) (m - k)
 rw [show k+1+(m - k)=m+1 by omega] at h4
 have e':(needG c z (k+1)).2=Flow.zDx (zBj c z (m+1)):=e
 omega
set_option maxHeartbeats 4000000 in
theorem zGl (c:Cov) (A:Option Addr) (ca:Nat) (B:Option Addr) (cb:Nat) (C:Option Addr) (cc:Nat) (w:World) (h:zAl w c A B C) (hs:Small c) (hG:InC w 0 0 zCS) :
  zDV encI 1 (zD6 c).1 (fun v=>.tuple #[v,.int .i64 (zD6 c).2]) Tryz.prog 24 [zAQ c A ca B cb C cc] w:=by
 have h4:=hs.b;have h5:=hs.h
 have h1:=fun W (hb:Below w.heap.size w W)=>zFD c A ca B cb C cc W (h.below hb) hs
 have h2:=fun W (hb:Below w.heap.size w W)=>zDy c A ca B cb C cc W (h.below hb) hs
 unfold zAQ at h1 h2
 apply Ret.newsl
 unfold zAQ zD6
 by_cases h0:zAp c=0
 ·have hf:=zAy h0
  have hh1:=hf.hours
  rw [zx] at hh1
  have h3:=fun W (hb:Below w.heap.size w W) g (hr:InC W g 0 (zH c A ca B cb C cc))=>zKF c A ca B cb C cc g W hr (hG.below hb) (h.below hb) hs hf
  rw [if_pos h0]
  unfold zH at h2 h3 ⊢
  (refine zM (n:=31) Tryz.func24 rfl rfl rfl ?_)
  (repeat' (first|((with_reducible refine zG ?_);first|refine zE rfl rfl rfl rfl rfl ?_|refine zC rfl rfl rfl rfl rfl ?_|(refine zK rfl rfl rfl rfl rfl ?_;refine ⟨_,rfl,?_⟩)|(refine zQ rfl rfl rfl rfl rfl rfl rfl (fun h=>?_) (fun h=>?_)<;>(dsimp only [cmpP] at h;(try (exfalso;omega))))|(refine zAV rfl rfl rfl rfl rfl rfl (fun _ _ q=>h2 _ q.below h0) ?_;rintro g -;dsimp only [List.cons_append,List.nil_append])|(refine zAV rfl rfl rfl rfl rfl rfl (fun _ _ q=>h3 _ q.below g (zBf q.own (Below.refl _ _) rfl)) ?_;rintro ⟨gt,L⟩ hL;dsimp only [List.cons_append,List.nil_append])|refine zj rfl rfl rfl rfl rfl rfl ?_|refine zp rfl rfl rfl rfl rfl ?_|(refine zAI rfl rfl rfl rfl rfl rfl (fun b=>?_)))|(with_reducible first|refine zI ?_|refine zB ?_|refine zD ?_|refine zA ?_|refine zP ?_|refine zN ?_)|((with_reducible refine zF ?_ ?_);(· exact rfl))))
  simp only at hL
  have hLl:L.length=c.beds.length:=by
   have:=congrArg List.length hL
   rw [zHE] at this;simpa using this
  have hrow:∀ s∈L,s.xs.length=c.hours.length:=fun s hs=>zJ3 s.xs (by rw [← hL];exact List.mem_map_of_mem hs)
  rw [← hL]
  refine zM8 (enc:=encI) (k:=1) (e:=3) ?_
  refine zq (ι:=Nat × Option Addr × Nat) [18,19] rfl (fun p=>p.1≤L.length) (fun p=>[(20,.int .i64 (p.1:Int)),(6,.slice p.2.1 (((L.take p.1).map (·.xs)).map Flow.zDx).length p.2.2)]) (fun p=>[.row encI 1 3 (.slice p.2.1 (((L.take p.1).map (·.xs)).map Flow.zDx).length p.2.2) (((L.take p.1).map (·.xs)).map Flow.zDx),.zBV zAF (rowOf encI 1 3) gt L]) (fun p=>L.length - p.1) (0,none,0) (Nat.zero_le _) zRS zRQ ?_
  rintro ⟨i,A1,c1⟩ hi
  simp only at hi
  simp only [zAn,List.cons_append,List.nil_append]
  by_cases hlt:i<L.length
  ·obtain ⟨s,hs1⟩:∃ s,L[i]?=some s:=⟨_,List.getElem?_eq_getElem hlt⟩
   have:zAP L i s:=⟨hs1⟩
   have hsm:=List.mem_of_getElem? hs1
   have hsl:=hrow s hsm
   have hcl:(((L.take i).map (·.xs)).map Flow.zDx).length=i:=by simp;omega
   have e1:((L.take (i+1)).map (·.xs)).map Flow.zDx=((L.take i).map (·.xs)).map Flow.zDx++[Flow.zDx s.xs]:=by rw [List.take_add_one,hs1];simp
   (repeat' (first|((with_reducible refine zG ?_);first|refine zE rfl rfl rfl rfl rfl ?_|refine zC rfl rfl rfl rfl rfl ?_|(refine zK rfl rfl rfl rfl rfl ?_;refine ⟨_,rfl,?_⟩)|(refine zQ rfl rfl rfl rfl rfl rfl rfl (fun h=>?_) (fun h=>?_)<;>(dsimp only [cmpP] at h;(try (exfalso;omega))))|refine zV rfl rfl rfl rfl rfl rfl (fun _ _ q=>zMZ s.xs s.A s.c _ ((zDJ (enc:=encI) (k:=1) (e:=3) q.own zRT).rows s hsm) zRU zRU) ?_|(refine zAq (enc:=encI) [_] rfl rfl rfl rfl rfl zRT rfl rfl (zAd zRe) zRc (fun A' c'=>?_))|refine zg rfl rfl rfl rfl rfl rfl zRU ?_|refine ze rfl rfl rfl rfl rfl rfl rfl zRU ?_|(refine zz rfl rfl rfl rfl rfl ?_;refine ⟨rfl,_,rfl,fun b=>?_⟩))|(with_reducible first|refine zI ?_|refine zB ?_|refine zD ?_|refine zA ?_|refine zP ?_|refine zN ?_|refine zi ?_)|((with_reducible refine zJ ?_ ?_);(· exact rfl))))
   refine zc (i+1,A',c') zRi zRi (by simp only [e1];(first|exact lK1|(repeat (first|exact lK1|(refine zL rfl ?_))))) ?_
   simp only [e1]
   (repeat (first|exact oK1 _|(refine oK2 zRT ?_)))
  ·obtain rfl:i=L.length:=by omega
   rw [List.take_length]
   (repeat' (first|((with_reducible refine zG ?_);first|refine zE rfl rfl rfl rfl rfl ?_|refine zC rfl rfl rfl rfl rfl ?_|(refine zQ rfl rfl rfl rfl rfl rfl rfl (fun h=>?_) (fun h=>?_)<;>(dsimp only [cmpP] at h;(try (exfalso;omega)))))|(with_reducible first|refine zI ?_|refine zB ?_|refine zD ?_|refine zA ?_|refine za ?_|refine zk ?_|refine zR ?_|refine zY ?_)|((with_reducible refine zF ?_ ?_);(· exact rfl))))
   exact zU zRd (A1,c1) trivial rfl (fun _ h=>(h.zCK zRT).sub zRQ)
 ·rw [if_neg h0]
  unfold zH at h1 ⊢
  generalize zAp c=e at *
  (refine zM (n:=31) Tryz.func24 rfl rfl rfl ?_)
  (repeat' (first|((with_reducible refine zG ?_);first|refine zE rfl rfl rfl rfl rfl ?_|refine zC rfl rfl rfl rfl rfl ?_|(refine zK rfl rfl rfl rfl rfl ?_;refine ⟨_,rfl,?_⟩)|(refine zQ rfl rfl rfl rfl rfl rfl rfl (fun h=>?_) (fun h=>?_)<;>(dsimp only [cmpP] at h;(try (exfalso;omega))))|refine zV rfl rfl rfl rfl rfl rfl (fun _ _ q=>h1 _ q.below h0) ?_|refine zj rfl rfl rfl rfl rfl rfl ?_|(refine zAI rfl rfl rfl rfl rfl rfl (fun b=>?_)))|(with_reducible first|refine zI ?_|refine zB ?_|refine zD ?_|refine zA ?_|refine za ?_|refine zb ?_)|((with_reducible refine zJ ?_ ?_);(· exact rfl))))
  exact zU zRd (none,0) trivial rfl (fun _ h=>zII h)
end Go.Proofs.YtdigopgncfhiaaaGreatDoor
namespace Go.Proofs.YtdigopgncfhiaaaGreatDoor
variable {ro : Option Nat}
open Go.RowKit
set_option linter.unusedSectionVars false
def Ent.hidT {α:Type} (enc:α→List Value) (k e gt lo hi:Nat) (xss:List (List α)):Ent :=
 ⟨fun b=>lo≤b∧b<hi,fun w=>∃ L:List (zAH α),L.map (·.xs)=xss∧Own lo w [.zBV zAF (rowOf enc k e) gt L]∧∀ b,(Ent.zBV zAF (rowOf enc k e) gt L).S b→b<hi,fun w w' hs h hp=>by
  obtain ⟨L,h1,h2,h3⟩:=hp
  exact ⟨L,h1,h2.past hs (fun f hf b hb=>by
   simp only [List.mem_singleton] at hf;subst hf
   exact h b ⟨(h2.foot _ zRf b hb).1,h3 b hb⟩),h3⟩⟩
theorem zKR {α:Type}:∀ m:Nat,(List.replicate m (zBH:zAH α)).flatMap zAF=List.replicate m (.slice none 0 0)
 | 0=>rfl
 | m+1=>by rw [List.replicate_succ,List.flatMap_cons,zKR m,List.replicate_succ];rfl
section
variable {P : Program} {w0:World} {n:Nat} {d:List Deferred} {R R0:List (Nat × Value)} {H H' H0:List Ent} {Q:Exit→Act→World→Prop} {ops:Array Oper} {bs:List (List Bool)} {b:List Bool} {k:Nat} {o:Oper} {rest:List Oper} {T:List Rw} {t:Tmp} {Hk:zBO→List Ent} {x y:Operand} {v:Value} {X:Act→World→Prop}
theorem u_hidT {α:Type} {enc:α→List Value} {kk e gt lo hi:Nat} {xss:List (List α)} (ht:Take H (.hidT enc kk e gt lo hi xss) H') (h:∀ L:List (zAH α),L.map (·.xs)=xss→U w0 n d R (.zBV zAF (rowOf enc kk e) gt L::H') X):U w0 n d R H X:=fun a w q=>by
 have ho:=q.own.take ht
 obtain ⟨L,h1,h2,h3⟩:=ho.here (.hidT enc kk e gt lo hi xss) zRf
 exact h L h1 a w (q.heap q.below (ho.recast (fun _=>h2.here _ zRf) (fun b hb=>⟨(h2.foot _ zRf b hb).1,h3 b hb⟩)))
theorem zQd {α:Type} {enc:α→List Value} {z0:α} {z:Value} {e n0:Nat} (hez:enc z0=[z]) (hn:n0≤1000) (w:World):Own w.heap.size (w.alloc (.cells (madeCells #[z] n0) e)) [.row enc 1 e (.slice (some ⟨w.heap.size,0,none⟩) n0 n0) (List.replicate n0 z0)]:=by
 have hfl:(List.replicate n0 z0).flatMap enc=List.replicate n0 z:=by
  clear hn
  induction n0 with
  | zero=>rfl
  | succ m ih=>rw [List.replicate_succ,List.flatMap_cons,ih,hez,List.replicate_succ];rfl
 refine ⟨fun f hf=>?_,fun f hf b hb=>?_,by simp⟩
 ·simp only [List.mem_singleton] at hf
  subst hf
  show Row enc 1 e 0 _ _ _
  unfold Row
  rw [hfl]
  refine ⟨by simp,.inr ⟨w.heap.size,n0,madeCells #[z] n0,by simp,Nat.zero_le _,heap_alloc_new w _,by simp,by simp [maxLen];omega,by simp [madeCells],?_⟩⟩
  have:=toList_madeCells_one z n0
  rw [this];simp
 ·simp only [List.mem_singleton] at hf;subst hf;cases hb;simp
theorem zLL {T1 e:TypeId} {i:TypeInfo} {z:Value} {n0 s:Nat} {g:Bool} [i1:TyI P T1 (.slice e) s g] (hi:P.info? e=some i) (hz:i.zero=some z) (h1:i.size=1) (hcz:z.cells=#[z]) (hb:Nat.ble (i.bytes * 1000) 281474976710656=true) (hn:n0≤1000) (w:World):(Instr.makeSlice T1 (.int .i64 (n0:Int)) (.int .i64 (n0:Int))).run P w = .ok (.slice (some ⟨w.heap.size,0,none⟩) n0 n0) (w.alloc (.cells (madeCells #[z] n0) e)):=by
 have hb':(i.bytes:Int) * (n0:Int)≤281474976710656:=by
  have h9:=Nat.le_of_ble_eq_true hb
  have h8:i.bytes * n0≤i.bytes * 1000:=Nat.mul_le_mul_left _ hn
  have h7:((i.bytes * n0:Nat):Int)≤281474976710656:=by omega
  rwa [Int.natCast_mul] at h7
 have hr:=run_make (P:=P) w T1 e i z i1.und hi hz .i64 .i64 n0 n0 zRU (Int.le_refl _) hb' zRU
 simpa only [Int.toNat_natCast,h1,Nat.mul_one,hcz] using hr
end
end Go.Proofs.YtdigopgncfhiaaaGreatDoor
namespace Go.Proofs.YtdigopgncfhiaaaGreatDoor.Two
variable {ro : Option Nat}
open Go.RowKit
set_option linter.unusedSectionVars false
section
variable {S : List (Nat × Nat)} {I:List (Nat × Nat × Nat × List Ent)} {P:Program} {w0:World} {n:Nat} {d:List Deferred} {R R0:List (Nat × Value)} {H H' H0:List Ent} {Q:Exit→Act→World→Prop} {ops:Array Oper} {bs:List (List Bool)} {b:List Bool} {k:Nat} {o:Oper} {rest:List Oper} {T:List Rw} {t:Tmp} {Hk:zBO→List Ent} {x y:Operand} {v:Value} {X:Act→World→Prop}
theorem c_tab {α:Type} {enc:α→List Value} {kk e nn:Nat} {xss:List (List α)} {f:FuncId} {fx:Operand} {xs:Array Operand} {ts:Array TypeId} {vs:zBO→List Value} {cap:Array Value} (hn:xss.length=nn) (hop:o.op = .call ⟨.value fx,xs,ts⟩) (hw:∀ G,want (Rk R0 ops b o T G) ops o=some true) (hd:o.dst=some t) (hf:∀ G,evR (Rk R0 ops b o T G) fx=some (.func (.func f) #[] cap)) (hx:∀ G,evs (Rk R0 ops b o T G) xs.toList=some (vs G)) [ci:zZ P f]
  (hc:∀ G a w,Kn w0 n d (Rk R0 ops b o T G) (Hk G) a w→Ret P f (vs G++cap.toList) w (fun p:Nat × List (zAH α)=>.slice (some ⟨p.1,0,none⟩) p.2.length p.2.length) (fun p=>[.zBV zAF (rowOf enc kk e) p.1 p.2]) (fun p=>p.2.map (·.xs)=xss))
  (h:zBo ro S I P w0 n d ops R0 H0 Q bs (k+1) rest (⟨k,some t,fun G=>(.slice (some ⟨(G k).g,0,none⟩) nn nn,[.hidT enc kk e (G k).g ((G k).A.getD ⟨0,0,none⟩).block (G k).m xss])⟩::T)):CAt ro S I P w0 n d ops R0 H0 Q b bs k o rest T Hk:=by
 refine zFy (f:=fun G=>(.slice (some ⟨(G k).g,0,none⟩) nn nn,[.hidT enc kk e (G k).g ((G k).A.getD ⟨0,0,none⟩).block (G k).m xss])) (fun G G' hG=>by simp only [hG k (.inl rfl)]) (fun G a w q K hK=>?_) zRt
 rw [zBs q (hw G),if_pos rfl]
 unfold Oper.wp execOp;rw [hop]
 have e1:xs.map a.eval=(vs G).toArray:=by apply Array.ext';simpa using q.evs (hx G)
 have e2:(vs G).toArray++cap=(vs G++cap.toList).toArray:=by apply Array.ext';simp
 simp only [resolve,q.ev (hf G),e1,Deferred.ofValue,Sem.run_bind,Sem.run_pure,Result.andThen_ok,invoke,Array.empty_append,e2,ci.ent,Oper.upon_enter]
 refine Calls.mono (hc G a w q).calls ?_
 rintro en w' ⟨⟨g,L⟩,hp,rfl,hb,hE⟩
 simp only at hp hE
 have hl:L.length=nn:=by rw [← hn,← hp];simp
 refine hK _ [.hidT enc kk e g w.heap.size w'.heap.size xss] _ ⟨⟨g,some ⟨w.heap.size,0,none⟩,w'.heap.size⟩,by simp [upW,hl]⟩ hb ⟨fun f hf=>?_,fun f hf b hb'=>?_,by simp⟩
 ·simp only [List.mem_singleton] at hf;subst hf
  exact ⟨L,hp,hE,fun b hb=>(hE.foot _ zRf b hb).2⟩
 ·simp only [List.mem_singleton] at hf;subst hf
  exact hb'
theorem c_makeR {α:Type} {enc:α→List Value} [ei:zCQ enc 1] (z0:α) {T1 e:TypeId} {i:TypeInfo} {z:Value} {n0 s:Nat} {g:Bool} (hop:o.op = .makeSlice T1 x y) [i1:TyI P T1 (.slice e) s g] (hi:P.info? e=some i) (hz:i.zero=some z) (h1:i.size=1) (hcz:z.cells=#[z]) (hez:enc z0=[z]) (hb:Nat.ble (i.bytes * 1000) 281474976710656=true) (hw:∀ G,want (Rk R0 ops b o T G) ops o=some true) (hd:o.dst=some t) (hx:∀ G,evR (Rk R0 ops b o T G) x=some (.int .i64 (n0:Int))) (hy:∀ G,evR (Rk R0 ops b o T G) y=some (.int .i64 (n0:Int))) (hn:n0≤1000)
  (h:zBo ro S I P w0 n d ops R0 H0 Q bs (k+1) rest (⟨k,some t,fun G=>(.slice (some ⟨(G k).g,0,none⟩) n0 n0,[.row enc 1 e (.slice (some ⟨(G k).g,0,none⟩) n0 n0) (List.replicate n0 z0)])⟩::T)):CAt ro S I P w0 n d ops R0 H0 Q b bs k o rest T Hk:=by
 refine zFy (f:=fun G=>(.slice (some ⟨(G k).g,0,none⟩) n0 n0,[.row enc 1 e (.slice (some ⟨(G k).g,0,none⟩) n0 n0) (List.replicate n0 z0)])) (fun G G' hG=>by simp only [hG k (.inl rfl)]) (fun G a w q K hK=>?_) zRt
 rw [zBs q (hw G),if_pos rfl]
 unfold Oper.wp execOp;rw [hop]
 simp only [Sem.run_bind,q.ev (hx G),q.ev (hy G),zLL hi hz h1 hcz hb hn w,Result.andThen_ok,Sem.run_pure,Oper.upon_value]
 exact hK _ _ _ ⟨⟨w.heap.size,none,0⟩,by simp only [upW,if_true]⟩ (zAL w _) (zQd hez hn w)
theorem c_makeT {α:Type} {enc:α→List Value} {kk e2:Nat} {T1 e:TypeId} {i:TypeInfo} {n0 s:Nat} {g:Bool} (hop:o.op = .makeSlice T1 x y) [i1:TyI P T1 (.slice e) s g] (hi:P.info? e=some i) (hz:i.zero=some (.slice none 0 0)) (h1:i.size=1) (hb:Nat.ble (i.bytes * 1000) 281474976710656=true) (hw:∀ G,want (Rk R0 ops b o T G) ops o=some true) (hd:o.dst=some t) (hx:∀ G,evR (Rk R0 ops b o T G) x=some (.int .i64 (n0:Int))) (hy:∀ G,evR (Rk R0 ops b o T G) y=some (.int .i64 (n0:Int))) (hn:n0≤1000)
  (h:zBo ro S I P w0 n d ops R0 H0 Q bs (k+1) rest (⟨k,some t,fun G=>(.slice (some ⟨(G k).g,0,none⟩) n0 n0,[.zBV zAF (rowOf enc kk e2) (G k).g (List.replicate n0 (zBH:zAH α))])⟩::T)):CAt ro S I P w0 n d ops R0 H0 Q b bs k o rest T Hk:=by
 refine zFy (f:=fun G=>(.slice (some ⟨(G k).g,0,none⟩) n0 n0,[.zBV zAF (rowOf enc kk e2) (G k).g (List.replicate n0 (zBH:zAH α))])) (fun G G' hG=>by simp only [hG k (.inl rfl)]) (fun G a w q K hK=>?_) zRt
 rw [zBs q (hw G),if_pos rfl]
 unfold Oper.wp execOp;rw [hop]
 simp only [Sem.run_bind,q.ev (hx G),q.ev (hy G),zLL hi hz h1 rfl hb hn w,Result.andThen_ok,Sem.run_pure,Oper.upon_value]
 refine hK _ [.zBV zAF (rowOf enc kk e2) w.heap.size (List.replicate n0 (zBH:zAH α))] _ ⟨⟨w.heap.size,none,0⟩,by simp only [upW,if_true]⟩ (zAL w _) ?_
 have h2:Own w.heap.size (w.alloc (.cells (madeCells #[.slice none 0 0] n0) e)) [.blk w.heap.size (List.replicate n0 (.slice none 0 0))]:=by
  have e3:madeCells #[Value.slice none 0 0] n0=(List.replicate n0 (Value.slice none 0 0)).toArray:=by
   apply Array.ext'
   have:=toList_madeCells_one (Value.slice none 0 0) n0
   rw [this]
  rw [e3]
  exact zJJ w _ e
 have h3:Own w.heap.size (w.alloc (.cells (madeCells #[.slice none 0 0] n0) e)) [.arr zAF 1 w.heap.size (List.replicate n0 (zBH:zAH α))]:=h2.recast (fun hp=>⟨[],by rw [zKR,List.append_nil];exact hp⟩) (fun b hb=>hb)
 have h4:=zF6 (α:=α) (enc:=enc) (k:=kk) (e:=e2) (g:=w.heap.size) n0 h3
 refine zBn.1 (h4.perm ?_)
 rw [List.append_nil]
 exact List.perm_append_comm
end
end Go.Proofs.YtdigopgncfhiaaaGreatDoor.Two
