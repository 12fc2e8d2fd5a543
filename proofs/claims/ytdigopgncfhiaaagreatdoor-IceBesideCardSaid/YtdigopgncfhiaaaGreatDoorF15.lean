/- F15 -/
import Derived.Test.YtdigopgncfhiaaaGreatDoorF11
import Derived.Test.YtdigopgncfhiaaaGreatDoorF13
import Derived.Test.YtdigopgncfhiaaaGreatDoorF14
import Derived.Test.YtdigopgncfhiaaaGreatDoorF7
import Derived.Test.YtdigopgncfhiaaaGreatDoorF9
import Derived.Test.YtdigopgncfhiaaaGreatDoorF5
set_option linter.unusedSimpArgs false
set_option linter.unusedVariables false
namespace Go.Proofs.YtdigopgncfhiaaaGreatDoor
open Go.RowKit
set_option maxRecDepth 20000
section
variable {w0 : World} {n:Nat} {d:List Deferred} {R:List (Nat × Value)} {H:List Ent} {o:Oper} {x:Operand} {a b:Int}
theorem e_spanHi (hop:o.op = .field 28 x 1) (hx:evR R x=some (.agg #[.int .i64 a,.int .i64 b])):Ev Tryz.prog w0 n d R H o (.int .i64 b) :=
 e_fieldV (vs:=[.int .i64 a,.int .i64 b]) hop hx rfl (inferInstance:TyI Tryz.prog 3 _ _ _) rfl
end
theorem zNk {l:List Int} {i:Nat} (h0:0<i) (hi:i<l.length):Flow.zBl (l.take (i+1))=max (Flow.zBl (l.take i)) l[i]:=by
 cases l with
 | nil=>simp at hi
 | cons x r =>
  cases i with
  | zero=>omega
  | succ i =>
   have hi':i<r.length:=by simpa using hi
   have e:r.take (i+1)=r.take i++[r[i]]:=by rw [List.take_add_one];simp [hi']
   show (r.take (i+1)).foldl max x=max ((r.take i).foldl max x) r[i]
   rw [e,List.foldl_append];rfl
theorem zHS (l:List Int) (A:Option Addr) (c:Nat) (w:World) (h:zq encI 1 w A l) (h0:0<l.length) (hl:l.length≤1000):Gv Tryz.prog 64 [.slice A l.length c] w (.int .i64 (Flow.zBl l)):=by
 obtain ⟨b,o,rfl,_,_⟩:=h.at_ h0
 have:InS w b o encI 1 l:=⟨h⟩
 have:zAT l 0 l[0]:=⟨by simp [h0]⟩
 unfold Gv
 (refine zJ (n:=25) Tryz.func64 rfl rfl rfl ?_)
 (repeat' (first|((with_reducible refine zF ?_);first|refine zE rfl rfl rfl ?_|refine zC rfl rfl rfl ?_|(refine zK rfl rfl rfl ?_;refine ⟨_,rfl,?_⟩)|(refine zQ rfl rfl rfl rfl rfl (fun h=>?_) (fun h=>?_)<;>(dsimp only [cmpP] at h;(try (exfalso;omega))))|refine zl rfl rfl rfl rfl rfl (by omega) ?_|refine zo rfl rfl rfl ?_)|(with_reducible first|refine zH ?_|refine zB ?_|refine zD ?_|refine zA ?_|refine zT ?_|refine zP ?_)|((with_reducible refine zG ?_ ?_);(· exact rfl))))
 have e0:Flow.zBl (l.take 1)=l[0]:=by
  cases l with
  | nil=>simp at h0
  | cons x r=>rfl
 refine zw (ι:=Nat) [0] rfl (fun i=>0<i∧i≤l.length) (fun i=>[(4,.int .i64 (i:Int)),(3,.int .i64 (Flow.zBl (l.take i)))]) (fun _=>[]) (fun i=>l.length - i) 1 ⟨by omega,by omega⟩ (by rw [e0];(repeat first|exact lK1|refine zL rfl ?_)) (by (repeat constructor)) ?_
 rintro i ⟨hi0,hi⟩
 simp only [zAt,List.cons_append,List.nil_append]
 by_cases hlt:i<l.length
 ·have:zAT l i l[i]:=⟨by simp [hlt]⟩
  (repeat' (first|((with_reducible refine zF ?_);first|refine zE rfl rfl rfl ?_|refine zC rfl rfl rfl ?_|(refine zK rfl rfl rfl ?_;refine ⟨_,rfl,?_⟩)|(refine zQ rfl rfl rfl rfl rfl (fun h=>?_) (fun h=>?_)<;>(dsimp only [cmpP] at h;(try (exfalso;omega))))|refine zh rfl rfl rfl rfl (by omega) ?_|refine zl rfl rfl rfl rfl rfl (by omega) ?_|refine zo rfl rfl rfl ?_|refine zIv rfl rfl rfl rfl ?_)|(with_reducible first|refine zH ?_|refine zB ?_|refine zD ?_|refine zA ?_|refine zT ?_|refine zP ?_|refine zg ?_)|((with_reducible refine zI ?_ ?_);(· exact rfl))))
  exact zf (i+1) ⟨by omega,by omega⟩ (by omega) (by rw [zNk hi0 hlt];(repeat first|exact lK1|refine zL rfl ?_)) (by (repeat constructor))
 ·obtain rfl:i=l.length:=by omega
  rw [List.take_length]
  (repeat' (first|((with_reducible refine zF ?_);first|refine zE rfl rfl rfl ?_|refine zC rfl rfl rfl ?_|(refine zQ rfl rfl rfl rfl rfl (fun h=>?_) (fun h=>?_)<;>(dsimp only [cmpP] at h;(try (exfalso;omega))))|refine zo rfl rfl rfl ?_)|(with_reducible first|refine zH ?_|refine zB ?_|refine zD ?_|refine zA ?_|refine zX ?_|refine zk ?_|refine zR ?_|refine zW ?_)|((with_reducible refine zG ?_ ?_);(· exact rfl))))
  exact zS (by exact rTm rfl) () trivial rfl (fun _ h=>h.sub (by (repeat constructor)))
def needG (c:Cov) (z:Bed):Nat→Int × Int
 | 0=>(z.thick.lo,0)
 | h+1=>((needG c z h).1 - (zBh c z (c.hours.getD h default)).hi,
   if 0<zC2 c (c.hours.getD h default) - ((needG c z h).1 - (zBh c z (c.hours.getD h default)).hi) then max (needG c z h).2 ((zC2 c (c.hours.getD h default) - ((needG c z h).1 - (zBh c z (c.hours.getD h default)).hi)+c.layer.lo - 1) / c.layer.lo) else (needG c z h).2)
def zBX (c:Cov) (z:Bed) (m:Nat):List Int:=(List.range m).map fun h=>(needG c z (h+1)).2
def zAk (c:Cov):List (List Int):=c.beds.map fun z=>zBX c z c.hours.length
theorem zDZ {c:Cov} {z:Bed} {m:Nat}:(zBX c z m).length=m:=by simp [zBX]
theorem zF8 {c:Cov} {z:Bed} {m:Nat}:zBX c z (m+1)=zBX c z m++[(needG c z (m+1)).2]:=by simp [zBX,List.range_succ]
theorem zLb {c:Cov} {u:Hour} (hf:zDo c):0≤zC2 c u∧zC2 c u≤2000:=by
 have h1:=hf.limit;have h2:=hf.base
 simp only [zAC] at h1 h2
 unfold zC2;split<;>omega
theorem zIA {c:Cov} {z:Bed} (hf:zDo c) (hz:z∈c.beds):∀ h,h≤c.hours.length→-(1650 * (h:Int))≤(needG c z h).1∧(needG c z h).1≤2000∧0≤(needG c z h).2∧(needG c z h).2≤2200+1650 * h
 | 0,_=>by
  have:=hf.bed z hz
  simp only [zEG,Bool.and_eq_true,zBD] at this
  simp only [needG];omega
 | h+1,hh=>by
  obtain ⟨i1,i2,i3,i4⟩:=zIA hf hz h (by omega)
  have hu:c.hours.getD h default∈c.hours:=by rw [zBB (List.getElem?_eq_getElem (by omega))];exact List.getElem_mem (by omega)
  have l1:=zDv hf hz hu
  have a1:=zLb (u:=c.hours.getD h default) hf
  have y1:=hf.layer
  simp only [zBD] at y1
  simp only [needG]
  generalize (needG c z h).1=p at *
  generalize (needG c z h).2=q at *
  generalize (zBh c z (c.hours.getD h default)).hi=r at *
  generalize zC2 c (c.hours.getD h default)=s at *
  refine ⟨by omega,by omega,?_,?_⟩
  ·split
   ·exact Int.le_trans i3 (Int.le_max_left _ _)
   ·exact i3
  ·split
   ·have h1:(s - (p - r)+c.layer.lo - 1) / c.layer.lo≤s - (p - r)+c.layer.lo - 1:=Int.ediv_le_self _ (by omega)
    omega
   ·omega
def zB2 (c:Cov) (i:Nat):List (List Int):=(c.beds.take i).map (fun z=>zBX c z c.hours.length)++List.replicate (c.beds.length - i) []
theorem zKG {c:Cov}:zB2 c c.beds.length=zAk c:=by simp [zB2,zAk]
theorem zKF {c:Cov} {i:Nat} {z:Bed} (hz:c.beds[i]?=some z):(zB2 c i).set i (zBX c z c.hours.length)=zB2 c (i+1):=by
 obtain ⟨hi,e⟩:=List.getElem?_eq_some_iff.1 hz
 unfold zB2
 have hl:((c.beds.take i).map (fun z=>zBX c z c.hours.length)).length=i:=by simp;omega
 rw [List.set_append_right _ _ (by omega),hl,Nat.sub_self]
 have e1:c.beds.take (i+1)=c.beds.take i++[z]:=by rw [List.take_add_one,hz];rfl
 rw [e1,List.map_append,List.append_assoc]
 congr 1
 obtain ⟨m,hm⟩:∃ m,c.beds.length - i=m+1:=⟨c.beds.length - i - 1,by omega⟩
 rw [hm,show c.beds.length - (i+1)=m by omega,List.replicate_succ]
 rfl
theorem zLT {c:Cov} {i:Nat} (hi:i<c.beds.length):(zB2 c i)[i]?=some []:=by
 unfold zB2
 have hl:((c.beds.take i).map (fun z=>zBX c z c.hours.length)).length=i:=by simp;omega
 rw [List.getElem?_append_right (by omega),hl,List.getElem?_replicate,if_pos (by omega)]
theorem zIq {c:Cov}:zB2 c 0=List.replicate c.beds.length []:=by simp [zB2]
set_option maxHeartbeats 4000000 in
theorem zFo (c:Cov) (A:Option Addr) (ca:Nat) (B:Option Addr) (cb:Nat) (C:Option Addr) (cc g:Nat) (w:World) (hr:InC w g 0 (zM c A ca B cb C cc)) (hG:InC w 0 0 zCP) (h:zAe w c A B C) (hs:Small c) (hf:zDo c) :
  Ret Tryz.prog 63 [.pointer (some ⟨g,0,none⟩)] w (fun p:Nat × List (zx Int)=>.slice (some ⟨p.1,0,none⟩) p.2.length p.2.length) (fun p=>[.zA0 zp (rowOf encI 1 3) p.1 p.2]) (fun p=>p.2.map (·.xs)=zAk c):=by
 have h4:=hs.b;have h5:=hs.h
 have hb:=h.b;have hh:=h.h
 have hlo:=fun W (hb:Below w.heap.size w W) i j z u (hz:c.beds[i]?=some z) (hu:c.hours[j]?=some u)=>zFG c A ca B cb C cc g i j z u W (hr.below hb) (h.below hb) hs hf hz hu
 have has:=fun W (hb:Below w.heap.size w W) u=>zJP c A ca B cb C cc g u W (hr.below hb) (hG.below hb) hf
 unfold vSp at hlo
 unfold zDq at has
 unfold zM at hr
 (refine zJ (n:=92) Tryz.func63 rfl rfl rfl ?_)
 (repeat' (first|((with_reducible refine zF ?_);first|refine zE rfl rfl rfl ?_|refine zC rfl rfl rfl ?_|(refine zK rfl rfl rfl ?_;refine ⟨_,rfl,?_⟩)|refine za rfl rfl rfl ?_|refine zJm rfl rfl rfl rfl rfl rfl rfl rfl rfl (by omega) (fun gt=>?_)|refine zo rfl rfl rfl ?_|refine zA6 rfl rfl rfl ?_)|(with_reducible first|refine zH ?_|refine zB ?_|refine zD ?_|refine zA ?_|refine zP ?_)))
 refine zHd (enc:=encI) (k:=1) (e:=3) (Take.here _ _) ?_
 refine zw (ι:=Nat × List (zx Int)) [0,3,21,22] rfl (fun p=>p.1≤c.beds.length∧p.2.map (·.xs)=zB2 c p.1) (fun p=>[(23,.int .i64 (p.1:Int))]) (fun p=>[.zA0 zp (rowOf encI 1 3) gt p.2]) (fun p=>c.beds.length - p.1) (0,List.replicate c.beds.length zAs) ⟨Nat.zero_le _,by simp [zIq,zAs]⟩ (by (repeat first|exact lK1|refine zL rfl ?_)) (by (repeat constructor)) ?_
 rintro ⟨i,L⟩ ⟨hi,hL⟩
 simp only at hi hL
 have hLl:L.length=c.beds.length:=by
  have:=congrArg List.length hL
  simp [zB2] at this;omega
 simp only [zAt,List.cons_append,List.nil_append]
 by_cases hlt:i<c.beds.length
 ·obtain ⟨z,hz⟩:∃ z,c.beds[i]?=some z:=⟨_,List.getElem?_eq_getElem hlt⟩
  obtain ⟨bb,o,rfl,_,_⟩:=hb.at_ hlt
  have:InS w bb o zAK 3 c.beds:=⟨hb⟩
  have:zAT c.beds i z:=⟨hz⟩
  obtain ⟨s0,hs0⟩:∃ s0,L[i]?=some s0:=⟨_,List.getElem?_eq_getElem (by omega)⟩
  have hx0:s0.xs=[]:=by
   have h1:=zLT (c:=c) hlt
   rw [← hL,List.getElem?_map,hs0] at h1
   exact Option.some.inj h1
  (repeat' (first|((with_reducible refine zF ?_);first|refine zE rfl rfl rfl ?_|refine zC rfl rfl rfl ?_|(refine zK rfl rfl rfl ?_;refine ⟨_,rfl,?_⟩)|refine za rfl rfl rfl ?_|(refine zQ rfl rfl rfl rfl rfl (fun h=>?_) (fun h=>?_)<;>(dsimp only [cmpP] at h;(try (exfalso;omega))))|refine zl rfl rfl rfl rfl rfl (by omega) ?_|refine zo rfl rfl rfl ?_|(refine zb rfl rfl rfl rfl rfl ?_;refine ⟨rfl,by first|decide|exact Nat.le_of_ble_eq_true rfl|(simp;omega),_,rfl,?_⟩)|(refine zj rfl rfl (fun b=>?_))|refine zA6 rfl rfl rfl ?_)|(with_reducible first|refine zH ?_|refine zB ?_|refine zD ?_|refine zA ?_|refine zT ?_|refine zP ?_)|((with_reducible refine zI ?_ ?_);(· exact rfl))))
  refine zCK i hs0 (by (repeat constructor)) ?_
  refine zw (ι:=Nat × zx Int) [0,3,4,21,22,23,36] rfl (fun p=>p.1≤c.hours.length∧p.2.xs=zBX c z p.1) (fun p=>[(37,.int .i64 (p.1:Int)),(6,.int .i64 (needG c z p.1).1),(7,.int .i64 (needG c z p.1).2)]) (fun p=>[.arr zp 1 gt (L.set i p.2),rowOf encI 1 3 p.2,.all ((L.eraseIdx i).map (rowOf encI 1 3))]) (fun p=>c.hours.length - p.1) (0,s0) ⟨Nat.zero_le _,by rw [hx0];rfl⟩ (by (repeat first|exact lK1|refine zL rfl ?_)) (by (repeat constructor)) ?_
  rintro ⟨j,s⟩ ⟨hj,hsx⟩
  simp only at hj hsx
  simp only [zAt,List.cons_append,List.nil_append]
  by_cases hjl:j<c.hours.length
  ·obtain ⟨u,hu⟩:∃ u,c.hours[j]?=some u:=⟨_,List.getElem?_eq_getElem hjl⟩
   obtain ⟨bc,oc,rfl,_,_⟩:=hh.at_ hjl
   have:InS w bc oc zr 5 c.hours:=⟨hh⟩
   have:zAT c.hours j u:=⟨hu⟩
   have hG1:=zIA hf (List.mem_of_getElem? hz) j hj
   have l1:=zDv hf (List.mem_of_getElem? hz) (List.mem_of_getElem? hu)
   have a1:=zLb (u:=u) hf
   have y1:=hf.layer
   simp only [zBD] at y1
   have eG:needG c z (j+1)=((needG c z j).1 - (zBh c z u).hi,if 0<zC2 c u - ((needG c z j).1 - (zBh c z u).hi) then max (needG c z j).2 ((zC2 c u - ((needG c z j).1 - (zBh c z u).hi)+c.layer.lo - 1) / c.layer.lo) else (needG c z j).2):=by simp only [needG,zBB hu]
   have:=hlo
   (repeat' (first|((with_reducible refine zF ?_);first|refine zE rfl rfl rfl ?_|refine zC rfl rfl rfl ?_|(refine zK rfl rfl rfl ?_;refine ⟨_,rfl,?_⟩)|refine za rfl rfl rfl ?_|(refine zQ rfl rfl rfl rfl rfl (fun h=>?_) (fun h=>?_)<;>(dsimp only [cmpP] at h;(try (exfalso;omega))))|refine zV rfl rfl rfl rfl (fun _ _ q=>hlo _ q.below i j z u hz hu) ?_|refine zV rfl rfl rfl rfl (fun _ _ q=>has _ q.below u) ?_|refine zAL rfl (e_spanHi rfl rfl) ?_|refine zCC rfl rfl rfl rfl (IntWalk.i64_in _ (by omega)) ?_|refine zl rfl rfl rfl rfl rfl (by omega) ?_|refine zA6 rfl rfl rfl ?_)|(with_reducible first|refine zH ?_|refine zB ?_|refine zD ?_|refine zA ?_|refine zT ?_|refine zP ?_)|((with_reducible refine zI ?_ ?_);(· exact rfl))|((with_reducible refine zG ?_ ?_);(· exact rfl))))
   ·have hq1:0≤(zC2 c u - ((needG c z j).1 - (zBh c z u).hi)+c.layer.lo - 1) / c.layer.lo:=Int.ediv_nonneg (by omega) (by omega)
    have hq2:(zC2 c u - ((needG c z j).1 - (zBh c z u).hi)+c.layer.lo - 1) / c.layer.lo≤zC2 c u - ((needG c z j).1 - (zBh c z u).hi)+c.layer.lo - 1:=Int.ediv_le_self _ (by omega)
    (refine zBP (by kernel_rfl) (by kernel_rfl) (by kernel_rfl) ?_)
    (repeat' (first|((with_reducible refine zBr ?_);first|refine zn (zAi rfl rfl) rfl ?_|refine zn (zAG rfl rfl (by exact rfl)) rfl ?_|refine zn (zAU rfl rfl) rfl ?_|refine zn (zCE rfl rfl) rfl ?_|refine zn (zLR rfl rfl rfl (IntWalk.i64_in _ (by omega))) rfl ?_|refine zn (e_sub rfl rfl rfl (IntWalk.i64_in _ (by omega))) rfl ?_|refine zn (zAg rfl rfl) rfl ?_|refine zn (e_quo rfl rfl rfl (by omega) (by omega) (IntWalk.i64_in _ (by omega))) rfl ?_|refine zn (e_max rfl rfl rfl) rfl ?_)|(with_reducible refine zCZ ?_)))
    have:zAT (L.set i s) i s:=⟨List.getElem?_set_self (by omega)⟩
    have hsl:s.xs.length≤12:=by rw [hsx,zDZ];omega
    (repeat' (first|((with_reducible refine zF ?_);first|refine zE rfl rfl rfl ?_|(refine zK rfl rfl rfl ?_;refine ⟨_,rfl,?_⟩)|(refine zAn (enc:=encI) [_] rfl rfl rfl (by (repeat constructor)) rfl rfl (zAY (by exact rfl)) (by refine ⟨?_,by decide⟩;(try simp only [List.length_append,List.length_cons,List.length_nil]);omega) (fun A' c'=>?_))|refine zCS (i:=i) (s:=s) ⟨A',s.xs++[_],c'⟩ rfl rfl rfl rfl rfl rfl (by (repeat constructor)) (by omega) ?_|refine zh rfl rfl rfl rfl (by omega) ?_|refine zl rfl rfl rfl rfl rfl (by omega) ?_|(refine zY rfl rfl rfl ?_;refine ⟨rfl,_,rfl,fun b=>?_⟩))|(with_reducible first|refine zB ?_|refine zD ?_|refine zA ?_|refine zg ?_)))
    exact zf (j+1,⟨A',s.xs++[_],c'⟩) ⟨by simp only;omega,by simp only;rw [hsx,zF8,eG,if_pos (by omega)]⟩ (by simp only;omega) (by simp only [eG];rw [if_pos (by omega)];(repeat first|exact lK1|refine zL rfl ?_)) (by (repeat constructor))
   ·have:zAT (L.set i s) i s:=⟨List.getElem?_set_self (by omega)⟩
    have hsl:s.xs.length≤12:=by rw [hsx,zDZ];omega
    (repeat' (first|((with_reducible refine zF ?_);first|refine zE rfl rfl rfl ?_|(refine zK rfl rfl rfl ?_;refine ⟨_,rfl,?_⟩)|(refine zAn (enc:=encI) [_] rfl rfl rfl (by (repeat constructor)) rfl rfl (zAY (by exact rfl)) (by refine ⟨?_,by decide⟩;(try simp only [List.length_append,List.length_cons,List.length_nil]);omega) (fun A' c'=>?_))|refine zCS (i:=i) (s:=s) ⟨A',s.xs++[_],c'⟩ rfl rfl rfl rfl rfl rfl (by (repeat constructor)) (by omega) ?_|refine zh rfl rfl rfl rfl (by omega) ?_|refine zl rfl rfl rfl rfl rfl (by omega) ?_|(refine zY rfl rfl rfl ?_;refine ⟨rfl,_,rfl,fun b=>?_⟩))|(with_reducible first|refine zB ?_|refine zD ?_|refine zA ?_|refine zg ?_)))
    exact zf (j+1,⟨A',s.xs++[_],c'⟩) ⟨by simp only;omega,by simp only;rw [hsx,zF8,eG,if_neg (by omega)]⟩ (by simp only;omega) (by simp only [eG];rw [if_neg (by omega)];(repeat first|exact lK1|refine zL rfl ?_)) (by (repeat constructor))
  ·obtain rfl:j=c.hours.length:=by omega
   (repeat' (first|((with_reducible refine zF ?_);first|refine zE rfl rfl rfl ?_|(refine zQ rfl rfl rfl rfl rfl (fun h=>?_) (fun h=>?_)<;>(dsimp only [cmpP] at h;(try (exfalso;omega))))|refine zh rfl rfl rfl rfl (by omega) ?_)|(with_reducible first|refine zH ?_|refine zB ?_|refine zD ?_|refine zA ?_|refine zk ?_|refine zg ?_|refine zR ?_|refine zW ?_)|((with_reducible refine zG ?_ ?_);(· exact rfl))))
   refine zCJ i s hs0 (by (repeat constructor)) (by (repeat constructor)) (by (repeat constructor)) ?_
   refine zf (i+1,L.set i s) ⟨by simp only;omega,?_⟩ (by simp only;omega) (by (repeat first|exact lK1|refine zL rfl ?_)) (by (repeat constructor))
   simp only
   rw [List.map_set,hL,hsx,zKF hz]
 ·obtain rfl:i=c.beds.length:=by omega
  (repeat' (first|((with_reducible refine zF ?_);first|refine zE rfl rfl rfl ?_|refine zC rfl rfl rfl ?_|(refine zQ rfl rfl rfl rfl rfl (fun h=>?_) (fun h=>?_)<;>(dsimp only [cmpP] at h;(try (exfalso;omega)))))|(with_reducible first|refine zH ?_|refine zB ?_|refine zD ?_|refine zA ?_|refine zX ?_|refine zk ?_|refine zR ?_|refine zW ?_)|((with_reducible refine zG ?_ ?_);(· exact rfl))))
  refine zS (by exact rTm rfl) (gt,L) ?_ (by rw [hLl];rfl) (fun _ h=>h.sub (by (repeat constructor)))
  rw [hL,zKG]
end Go.Proofs.YtdigopgncfhiaaaGreatDoor
namespace Go.Proofs.YtdigopgncfhiaaaGreatDoor
open Go.RowKit
set_option maxRecDepth 20000
def zJG (c:Cov):List Int × Int:=if zAm c=0 then ((zAk c).map Flow.zBl,0) else ([],zAm c)
theorem zCg {c:Cov}:(zAk c).length=c.beds.length:=by simp [zAk]
theorem zFj {c:Cov}:∀ r∈zAk c,r.length=c.hours.length:=fun r hr=>by
 obtain ⟨z,_,rfl⟩:=List.mem_map.1 hr
 exact zDZ
theorem Ret.newsl {α:Type} {enc:α→List Value} {k:Nat} {xs:List α} {V:Value→Value} {P:Program} {f:FuncId} {args:List Value} {w:World} (h:Ret P f args w (fun p:Option Addr × Nat=>V (.slice p.1 xs.length p.2)) (fun p=>[.sl enc k p.1 xs]) (fun _=>True)):zCB enc k xs V P f args w:=by
 unfold zCB;exact h
theorem zL2 {c:Cov} {z:Bed} (h:Nat):(needG c z h).2≤(needG c z (h+1)).2:=by
 simp only [needG];split<;>omega
theorem zKz {c:Cov} {z:Bed} (h:Nat):∀ k,(needG c z h).2≤(needG c z (h+k)).2
 | 0=>Int.le_refl _
 | k+1=>Int.le_trans (zKz h k) (zL2 (h+k))
set_option maxHeartbeats 4000000 in
theorem zJQ (c:Cov) (A:Option Addr) (ca:Nat) (B:Option Addr) (cb:Nat) (C:Option Addr) (cc:Nat) (w:World) (h:zAe w c A B C) (hs:Small c) (hG:InC w 0 0 zCP) :
  zCB encI 1 (zJG c).1 (fun v=>.tuple #[v,.int .i64 (zJG c).2]) Tryz.prog 24 [zAH c A ca B cb C cc] w:=by
 have h4:=hs.b;have h5:=hs.h
 have h1:=fun W (hb:Below w.heap.size w W)=>zEw c A ca B cb C cc W (h.below hb) hs
 have h2:=fun W (hb:Below w.heap.size w W)=>zCu c A ca B cb C cc W (h.below hb) hs
 unfold zAH at h1 h2
 apply Ret.newsl
 unfold zAH zJG
 by_cases h0:zAm c=0
 ·have hf:=zBu h0
  have hh1:=hf.hours
  rw [zAC] at hh1
  have h3:=fun W (hb:Below w.heap.size w W) g (hr:InC W g 0 (zM c A ca B cb C cc))=>zFo c A ca B cb C cc g W hr (hG.below hb) (h.below hb) hs hf
  rw [if_pos h0]
  unfold zM at h2 h3 ⊢
  (refine zJ (n:=31) Tryz.func24 rfl rfl rfl ?_)
  (repeat' (first|((with_reducible refine zF ?_);first|refine zE rfl rfl rfl ?_|refine zC rfl rfl rfl ?_|(refine zK rfl rfl rfl ?_;refine ⟨_,rfl,?_⟩)|(refine zQ rfl rfl rfl rfl rfl (fun h=>?_) (fun h=>?_)<;>(dsimp only [cmpP] at h;(try (exfalso;omega))))|(refine zAQ rfl rfl rfl rfl (fun _ _ q=>h2 _ q.below h0) ?_;rintro g -;dsimp only [List.cons_append,List.nil_append])|(refine zAQ rfl rfl rfl rfl (fun _ _ q=>h3 _ q.below g (zA5 q.own (Below.refl _ _) rfl)) ?_;rintro ⟨gt,L⟩ hL;dsimp only [List.cons_append,List.nil_append])|refine zc rfl rfl rfl rfl ?_|refine zo rfl rfl rfl ?_|(refine zu rfl rfl rfl rfl (fun b=>?_)))|(with_reducible first|refine zH ?_|refine zB ?_|refine zD ?_|refine zA ?_|refine zT ?_|refine zP ?_)|((with_reducible refine zG ?_ ?_);(· exact rfl))))
  simp only at hL
  have hLl:L.length=c.beds.length:=by
   have:=congrArg List.length hL
   rw [zCg] at this;simpa using this
  have hrow:∀ s∈L,s.xs.length=c.hours.length:=fun s hs=>zFj s.xs (by rw [← hL];exact List.mem_map_of_mem hs)
  rw [← hL]
  refine zHf (enc:=encI) (k:=1) (e:=3) ?_
  refine zw (ι:=Nat × Option Addr × Nat) [18,19] rfl (fun p=>p.1≤L.length) (fun p=>[(20,.int .i64 (p.1:Int)),(6,.slice p.2.1 (((L.take p.1).map (·.xs)).map Flow.zBl).length p.2.2)]) (fun p=>[.row encI 1 3 (.slice p.2.1 (((L.take p.1).map (·.xs)).map Flow.zBl).length p.2.2) (((L.take p.1).map (·.xs)).map Flow.zBl),.zA0 zp (rowOf encI 1 3) gt L]) (fun p=>L.length - p.1) (0,none,0) (Nat.zero_le _) (by (repeat first|exact lK1|refine zL rfl ?_)) (by (repeat constructor)) ?_
  rintro ⟨i,A1,c1⟩ hi
  simp only at hi
  simp only [zAt,List.cons_append,List.nil_append]
  by_cases hlt:i<L.length
  ·obtain ⟨s,hs1⟩:∃ s,L[i]?=some s:=⟨_,List.getElem?_eq_getElem hlt⟩
   have:zAT L i s:=⟨hs1⟩
   have hsm:=List.mem_of_getElem? hs1
   have hsl:=hrow s hsm
   have hcl:(((L.take i).map (·.xs)).map Flow.zBl).length=i:=by simp;omega
   have e1:((L.take (i+1)).map (·.xs)).map Flow.zBl=((L.take i).map (·.xs)).map Flow.zBl++[Flow.zBl s.xs]:=by rw [List.take_add_one,hs1];simp
   (repeat' (first|((with_reducible refine zF ?_);first|refine zE rfl rfl rfl ?_|refine zC rfl rfl rfl ?_|(refine zK rfl rfl rfl ?_;refine ⟨_,rfl,?_⟩)|(refine zQ rfl rfl rfl rfl rfl (fun h=>?_) (fun h=>?_)<;>(dsimp only [cmpP] at h;(try (exfalso;omega))))|refine zV rfl rfl rfl rfl (fun _ _ q=>zHS s.xs s.A s.c _ ((zCG (enc:=encI) (k:=1) (e:=3) q.own (by (repeat constructor))).rows s hsm) (by omega) (by omega)) ?_|(refine zAn (enc:=encI) [_] rfl rfl rfl (by (repeat constructor)) rfl rfl (zAY (by exact rfl)) (by refine ⟨?_,by decide⟩;(try simp only [List.length_append,List.length_cons,List.length_nil]);omega) (fun A' c'=>?_))|refine zh rfl rfl rfl rfl (by omega) ?_|refine zl rfl rfl rfl rfl rfl (by omega) ?_|(refine zY rfl rfl rfl ?_;refine ⟨rfl,_,rfl,fun b=>?_⟩))|(with_reducible first|refine zH ?_|refine zB ?_|refine zD ?_|refine zA ?_|refine zT ?_|refine zP ?_|refine zg ?_)|((with_reducible refine zI ?_ ?_);(· exact rfl))))
   refine zf (i+1,A',c') (by simp only;omega) (by simp only;omega) (by simp only [e1];(repeat first|exact lK1|refine zL rfl ?_)) ?_
   simp only [e1]
   (repeat constructor)
  ·obtain rfl:i=L.length:=by omega
   rw [List.take_length]
   (repeat' (first|((with_reducible refine zF ?_);first|refine zE rfl rfl rfl ?_|refine zC rfl rfl rfl ?_|(refine zQ rfl rfl rfl rfl rfl (fun h=>?_) (fun h=>?_)<;>(dsimp only [cmpP] at h;(try (exfalso;omega)))))|(with_reducible first|refine zH ?_|refine zB ?_|refine zD ?_|refine zA ?_|refine zX ?_|refine zk ?_|refine zR ?_|refine zW ?_)|((with_reducible refine zG ?_ ?_);(· exact rfl))))
   exact zS (by (exact zi.cons (by exact zAR.tmp rfl) (zi.cons (by exact zAR.tmp rfl) zi.nil))) (A1,c1) trivial rfl (fun _ h=>(h.zER (by (repeat constructor))).sub (by (repeat constructor)))
 ·rw [if_neg h0]
  unfold zM at h1 ⊢
  generalize zAm c=e at *
  (refine zJ (n:=31) Tryz.func24 rfl rfl rfl ?_)
  (repeat' (first|((with_reducible refine zF ?_);first|refine zE rfl rfl rfl ?_|refine zC rfl rfl rfl ?_|(refine zK rfl rfl rfl ?_;refine ⟨_,rfl,?_⟩)|(refine zQ rfl rfl rfl rfl rfl (fun h=>?_) (fun h=>?_)<;>(dsimp only [cmpP] at h;(try (exfalso;omega))))|refine zV rfl rfl rfl rfl (fun _ _ q=>h1 _ q.below h0) ?_|refine zc rfl rfl rfl rfl ?_|(refine zu rfl rfl rfl rfl (fun b=>?_)))|(with_reducible first|refine zH ?_|refine zB ?_|refine zD ?_|refine zA ?_|refine zX ?_|refine zZ ?_)|((with_reducible refine zI ?_ ?_);(· exact rfl))))
  exact zS (by (exact zi.cons (by exact zAR.tmp rfl) (zi.cons (by exact zAR.tmp rfl) zi.nil))) (none,0) trivial rfl (fun _ h=>zDi h)
end Go.Proofs.YtdigopgncfhiaaaGreatDoor
namespace Go.Proofs.YtdigopgncfhiaaaGreatDoor
variable {ro : Option Nat}
open Go.RowKit
set_option linter.unusedSectionVars false
def Ent.hidT {α:Type} (enc:α→List Value) (k e gt lo hi:Nat) (xss:List (List α)):Ent :=
 ⟨fun b=>lo≤b∧b<hi,fun w=>∃ L:List (zx α),L.map (·.xs)=xss∧Own lo w [.zA0 zp (rowOf enc k e) gt L]∧∀ b,(Ent.zA0 zp (rowOf enc k e) gt L).S b→b<hi,fun w w' hs h hp=>by
  obtain ⟨L,h1,h2,h3⟩:=hp
  exact ⟨L,h1,h2.past hs (fun f hf b hb=>by
   simp only [List.mem_singleton] at hf;subst hf
   exact h b ⟨(h2.foot _ (by simp) b hb).1,h3 b hb⟩),h3⟩⟩
theorem zIM {α:Type}:∀ m:Nat,(List.replicate m (zAs:zx α)).flatMap zp=List.replicate m (.slice none 0 0)
 | 0=>rfl
 | m+1=>by rw [List.replicate_succ,List.flatMap_cons,zIM m,List.replicate_succ];rfl
section
variable {P : Program} {w0:World} {n:Nat} {d:List Deferred} {R R0:List (Nat × Value)} {H H' H0:List Ent} {Q:Exit→Act→World→Prop} {ops:Array Oper} {bs:List (List Bool)} {b:List Bool} {k:Nat} {o:Oper} {rest:List Oper} {T:List Rw} {t:Tmp} {Hk:zA9→List Ent} {x y:Operand} {v:Value} {X:Act→World→Prop}
theorem u_hidT {α:Type} {enc:α→List Value} {kk e gt lo hi:Nat} {xss:List (List α)} (ht:Take H (.hidT enc kk e gt lo hi xss) H') (h:∀ L:List (zx α),L.map (·.xs)=xss→U w0 n d R (.zA0 zp (rowOf enc kk e) gt L::H') X):U w0 n d R H X:=fun a w q=>by
 have ho:=q.own.take ht
 obtain ⟨L,h1,h2,h3⟩:=ho.here (.hidT enc kk e gt lo hi xss) (by simp)
 exact h L h1 a w (q.heap q.below (ho.recast (fun _=>h2.here _ (by simp)) (fun b hb=>⟨(h2.foot _ (by simp) b hb).1,h3 b hb⟩)))
theorem zNd {α:Type} {enc:α→List Value} {z0:α} {z:Value} {e n0:Nat} (hez:enc z0=[z]) (hn:n0≤1000) (w:World):Own w.heap.size (w.alloc (.cells (madeCells #[z] n0) e)) [.row enc 1 e (.slice (some ⟨w.heap.size,0,none⟩) n0 n0) (List.replicate n0 z0)]:=by
 have hfl:(List.replicate n0 z0).flatMap enc=List.replicate n0 z:=by
  clear hn
  induction n0 with
  | zero=>rfl
  | succ m ih=>rw [List.replicate_succ,List.flatMap_cons,ih,hez,List.replicate_succ];rfl
 refine ⟨fun f hf=>?_,fun f hf b hb=>?_,by simp⟩
 ·simp only [List.mem_singleton] at hf
  subst hf
  show Row enc 1 e 0 _ _ _
  unfold Row
  rw [hfl]
  refine ⟨by simp,.inr ⟨w.heap.size,n0,madeCells #[z] n0,by simp,Nat.zero_le _,heap_alloc_new w _,by simp,by simp [maxLen];omega,by simp [madeCells],?_⟩⟩
  have:=toList_madeCells_one z n0
  rw [this];simp
 ·simp only [List.mem_singleton] at hf;subst hf;cases hb;simp
theorem zI5 {T1 e:TypeId} {i:TypeInfo} {z:Value} {n0 s:Nat} {g:Bool} [i1:TyI P T1 (.slice e) s g] (hi:P.info? e=some i) (hz:i.zero=some z) (h1:i.size=1) (hcz:z.cells=#[z]) (hb:Nat.ble (i.bytes * 1000) 281474976710656=true) (hn:n0≤1000) (w:World):(Instr.makeSlice T1 (.int .i64 (n0:Int)) (.int .i64 (n0:Int))).run P w = .ok (.slice (some ⟨w.heap.size,0,none⟩) n0 n0) (w.alloc (.cells (madeCells #[z] n0) e)):=by
 have hb':(i.bytes:Int) * (n0:Int)≤281474976710656:=by
  have h9:=Nat.le_of_ble_eq_true hb
  have h8:i.bytes * n0≤i.bytes * 1000:=Nat.mul_le_mul_left _ hn
  have h7:((i.bytes * n0:Nat):Int)≤281474976710656:=by omega
  rwa [Int.natCast_mul] at h7
 have hr:=run_make (P:=P) w T1 e i z i1.und hi hz .i64 .i64 n0 n0 (by omega) (Int.le_refl _) hb' (by omega)
 simpa only [Int.toNat_natCast,h1,Nat.mul_one,hcz] using hr
end
end Go.Proofs.YtdigopgncfhiaaaGreatDoor
namespace Go.Proofs.YtdigopgncfhiaaaGreatDoor.Two
variable {ro : Option Nat}
open Go.RowKit
set_option linter.unusedSectionVars false
section
variable {S : List (Nat × Nat)} {I:List (Nat × Nat × Nat × List Ent)} {P:Program} {w0:World} {n:Nat} {d:List Deferred} {R R0:List (Nat × Value)} {H H' H0:List Ent} {Q:Exit→Act→World→Prop} {ops:Array Oper} {bs:List (List Bool)} {b:List Bool} {k:Nat} {o:Oper} {rest:List Oper} {T:List Rw} {t:Tmp} {Hk:zA9→List Ent} {x y:Operand} {v:Value} {X:Act→World→Prop}
theorem c_tab {α:Type} {enc:α→List Value} {kk e nn:Nat} {xss:List (List α)} {f:FuncId} {fx:Operand} {xs:Array Operand} {ts:Array TypeId} {vs:zA9→List Value} {cap:Array Value} (hn:xss.length=nn) (hop:o.op = .call ⟨.value fx,xs,ts⟩) (hw:∀ G,want (Rk R0 ops b o T G) ops o=some true) (hd:o.dst=some t) (hf:∀ G,evR (Rk R0 ops b o T G) fx=some (.func (.func f) #[] cap)) (hx:∀ G,evs (Rk R0 ops b o T G) xs.toList=some (vs G)) [ci:zU P f]
  (hc:∀ G a w,Kn w0 n d (Rk R0 ops b o T G) (Hk G) a w→Ret P f (vs G++cap.toList) w (fun p:Nat × List (zx α)=>.slice (some ⟨p.1,0,none⟩) p.2.length p.2.length) (fun p=>[.zA0 zp (rowOf enc kk e) p.1 p.2]) (fun p=>p.2.map (·.xs)=xss))
  (h:zBS ro S I P w0 n d ops R0 H0 Q bs (k+1) rest (⟨k,some t,fun G=>(.slice (some ⟨(G k).g,0,none⟩) nn nn,[.hidT enc kk e (G k).g ((G k).A.getD ⟨0,0,none⟩).block (G k).m xss])⟩::T)):CAt ro S I P w0 n d ops R0 H0 Q b bs k o rest T Hk:=by
 refine zFW (f:=fun G=>(.slice (some ⟨(G k).g,0,none⟩) nn nn,[.hidT enc kk e (G k).g ((G k).A.getD ⟨0,0,none⟩).block (G k).m xss])) (fun G G' hG=>by simp only [hG k (.inl rfl)]) (fun G a w q K hK=>?_) (by rw [hd];exact h)
 rw [zBO q (hw G),if_pos rfl]
 unfold Oper.wp execOp;rw [hop]
 have e1:xs.map a.eval=(vs G).toArray:=by apply Array.ext';simpa using q.evs (hx G)
 have e2:(vs G).toArray++cap=(vs G++cap.toList).toArray:=by apply Array.ext';simp
 simp only [resolve,q.ev (hf G),e1,Deferred.ofValue,Sem.run_bind,Sem.run_pure,Result.andThen_ok,invoke,Array.empty_append,e2,ci.ent,Oper.upon_enter]
 refine Calls.mono (hc G a w q).calls ?_
 rintro en w' ⟨⟨g,L⟩,hp,rfl,hb,hE⟩
 simp only at hp hE
 have hl:L.length=nn:=by rw [← hn,← hp];simp
 refine hK _ [.hidT enc kk e g w.heap.size w'.heap.size xss] _ ⟨⟨g,some ⟨w.heap.size,0,none⟩,w'.heap.size⟩,by simp [upW,hl]⟩ hb ⟨fun f hf=>?_,fun f hf b hb'=>?_,by simp⟩
 ·simp only [List.mem_singleton] at hf;subst hf
  exact ⟨L,hp,hE,fun b hb=>(hE.foot _ (by simp) b hb).2⟩
 ·simp only [List.mem_singleton] at hf;subst hf
  exact hb'
theorem c_makeR {α:Type} {enc:α→List Value} [ei:zBw enc 1] (z0:α) {T1 e:TypeId} {i:TypeInfo} {z:Value} {n0 s:Nat} {g:Bool} (hop:o.op = .makeSlice T1 x y) [i1:TyI P T1 (.slice e) s g] (hi:P.info? e=some i) (hz:i.zero=some z) (h1:i.size=1) (hcz:z.cells=#[z]) (hez:enc z0=[z]) (hb:Nat.ble (i.bytes * 1000) 281474976710656=true) (hw:∀ G,want (Rk R0 ops b o T G) ops o=some true) (hd:o.dst=some t) (hx:∀ G,evR (Rk R0 ops b o T G) x=some (.int .i64 (n0:Int))) (hy:∀ G,evR (Rk R0 ops b o T G) y=some (.int .i64 (n0:Int))) (hn:n0≤1000)
  (h:zBS ro S I P w0 n d ops R0 H0 Q bs (k+1) rest (⟨k,some t,fun G=>(.slice (some ⟨(G k).g,0,none⟩) n0 n0,[.row enc 1 e (.slice (some ⟨(G k).g,0,none⟩) n0 n0) (List.replicate n0 z0)])⟩::T)):CAt ro S I P w0 n d ops R0 H0 Q b bs k o rest T Hk:=by
 refine zFW (f:=fun G=>(.slice (some ⟨(G k).g,0,none⟩) n0 n0,[.row enc 1 e (.slice (some ⟨(G k).g,0,none⟩) n0 n0) (List.replicate n0 z0)])) (fun G G' hG=>by simp only [hG k (.inl rfl)]) (fun G a w q K hK=>?_) (by rw [hd];exact h)
 rw [zBO q (hw G),if_pos rfl]
 unfold Oper.wp execOp;rw [hop]
 simp only [Sem.run_bind,q.ev (hx G),q.ev (hy G),zI5 hi hz h1 hcz hb hn w,Result.andThen_ok,Sem.run_pure,Oper.upon_value]
 exact hK _ _ _ ⟨⟨w.heap.size,none,0⟩,by simp only [upW,if_true]⟩ (zy w _) (zNd hez hn w)
theorem c_makeT {α:Type} {enc:α→List Value} {kk e2:Nat} {T1 e:TypeId} {i:TypeInfo} {n0 s:Nat} {g:Bool} (hop:o.op = .makeSlice T1 x y) [i1:TyI P T1 (.slice e) s g] (hi:P.info? e=some i) (hz:i.zero=some (.slice none 0 0)) (h1:i.size=1) (hb:Nat.ble (i.bytes * 1000) 281474976710656=true) (hw:∀ G,want (Rk R0 ops b o T G) ops o=some true) (hd:o.dst=some t) (hx:∀ G,evR (Rk R0 ops b o T G) x=some (.int .i64 (n0:Int))) (hy:∀ G,evR (Rk R0 ops b o T G) y=some (.int .i64 (n0:Int))) (hn:n0≤1000)
  (h:zBS ro S I P w0 n d ops R0 H0 Q bs (k+1) rest (⟨k,some t,fun G=>(.slice (some ⟨(G k).g,0,none⟩) n0 n0,[.zA0 zp (rowOf enc kk e2) (G k).g (List.replicate n0 (zAs:zx α))])⟩::T)):CAt ro S I P w0 n d ops R0 H0 Q b bs k o rest T Hk:=by
 refine zFW (f:=fun G=>(.slice (some ⟨(G k).g,0,none⟩) n0 n0,[.zA0 zp (rowOf enc kk e2) (G k).g (List.replicate n0 (zAs:zx α))])) (fun G G' hG=>by simp only [hG k (.inl rfl)]) (fun G a w q K hK=>?_) (by rw [hd];exact h)
 rw [zBO q (hw G),if_pos rfl]
 unfold Oper.wp execOp;rw [hop]
 simp only [Sem.run_bind,q.ev (hx G),q.ev (hy G),zI5 hi hz h1 rfl hb hn w,Result.andThen_ok,Sem.run_pure,Oper.upon_value]
 refine hK _ [.zA0 zp (rowOf enc kk e2) w.heap.size (List.replicate n0 (zAs:zx α))] _ ⟨⟨w.heap.size,none,0⟩,by simp only [upW,if_true]⟩ (zy w _) ?_
 have h2:Own w.heap.size (w.alloc (.cells (madeCells #[.slice none 0 0] n0) e)) [.blk w.heap.size (List.replicate n0 (.slice none 0 0))]:=by
  have e3:madeCells #[Value.slice none 0 0] n0=(List.replicate n0 (Value.slice none 0 0)).toArray:=by
   apply Array.ext'
   have:=toList_madeCells_one (Value.slice none 0 0) n0
   rw [this]
  rw [e3]
  exact zHR w _ e
 have h3:Own w.heap.size (w.alloc (.cells (madeCells #[.slice none 0 0] n0) e)) [.arr zp 1 w.heap.size (List.replicate n0 (zAs:zx α))]:=h2.recast (fun hp=>⟨[],by rw [zIM,List.append_nil];exact hp⟩) (fun b hb=>hb)
 have h4:=zEs (α:=α) (enc:=enc) (k:=kk) (e:=e2) (g:=w.heap.size) n0 h3
 refine zBI.1 (h4.perm ?_)
 rw [List.append_nil]
 exact List.perm_append_comm
end
end Go.Proofs.YtdigopgncfhiaaaGreatDoor.Two
