/- E16 -/
import Derived.Test.YtdigopgncfhiaaaGreatDoorE12
import Derived.Test.YtdigopgncfhiaaaGreatDoorE14
import Derived.Test.YtdigopgncfhiaaaGreatDoorE15
import Derived.Test.YtdigopgncfhiaaaGreatDoorE7
import Derived.Test.YtdigopgncfhiaaaGreatDoorE10
import Derived.Test.YtdigopgncfhiaaaGreatDoorE5
set_option linter.unusedSimpArgs false
set_option linter.unusedVariables false
namespace Go.Proofs.YtdigopgncfhiaaaGreatDoor
open Go.RowKit
set_option maxRecDepth 20000
section
variable {w0 : World} {n:Nat} {d:List Deferred} {R:List (Nat × Value)} {H:List Ent} {o:Oper} {x:Operand} {a b:Int}
theorem e_spanHi (hop:o.op = .field 28 x 1) (hx:evR R x=some (.agg #[.int .i64 a,.int .i64 b])):Ev Tryz.prog w0 n d R H o (.int .i64 b) :=
 e_fieldV (vs:=[.int .i64 a,.int .i64 b]) hop hx rfl (inferInstance:TyI Tryz.prog 3 _ _ _) rfl
end
theorem zPC {l:List Int} {i:Nat} (h0:0<i) (hi:i<l.length):Flow.zDM (l.take (i+1))=max (Flow.zDM (l.take i)) l[i]:=by
 cases l with
 | nil=>simp at hi
 | cons x r =>
  cases i with
  | zero=>omega
  | succ i =>
   have hi':i<r.length:=by simpa using hi
   have e:r.take (i+1)=r.take i++[r[i]]:=by rw [List.take_add_one];simp [hi']
   show (r.take (i+1)).foldl max x=max ((r.take i).foldl max x) r[i]
   rw [e,List.foldl_append];rfl
theorem zLF (l:List Int) (A:Option Addr) (c:Nat) (w:World) (h:zx encI 1 w A l) (h0:0<l.length) (hl:l.length≤1000):Gv Tryz.prog 64 [.slice A l.length c] w (.int .i64 (Flow.zDM l)):=by
 obtain ⟨b,o,rfl,_,_⟩:=h.at_ h0
 have:InS w b o encI 1 l:=⟨h⟩
 have:zAU l 0 l[0]:=⟨by simp [h0]⟩
 unfold Gv
 (refine zL (n:=25) Tryz.func64 rfl rfl rfl ?_)
 (repeat' (first|((with_reducible refine zG ?_);first|refine zE rfl rfl rfl rfl rfl ?_|refine zC rfl rfl rfl rfl rfl ?_|(refine zK rfl rfl rfl rfl rfl ?_;refine ⟨_,rfl,?_⟩)|(refine zU rfl rfl rfl rfl rfl rfl rfl (fun h=>?_) (fun h=>?_)<;>(dsimp only [cmpP] at h;(try (exfalso;omega))))|refine zb rfl rfl rfl rfl rfl rfl rfl (by omega) ?_|refine zp rfl rfl rfl rfl rfl ?_)|(with_reducible first|refine zH ?_|refine zB ?_|refine zD ?_|refine zA ?_|refine zS ?_|refine zQ ?_)|((with_reducible refine zF ?_ ?_);(· exact rfl))))
 have e0:Flow.zDM (l.take 1)=l[0]:=by
  cases l with
  | nil=>simp at h0
  | cons x r=>rfl
 refine zw (ι:=Nat) [0] rfl (fun i=>0<i∧i≤l.length) (fun i=>[(4,.int .i64 (i:Int)),(3,.int .i64 (Flow.zDM (l.take i)))]) (fun _=>[]) (fun i=>l.length - i) 1 ⟨by omega,by omega⟩ (by rw [e0];(first|exact lK1|(repeat (first|exact lK1|(refine zM rfl ?_))))) (by (repeat (first|exact oK1 _|(refine oK2 (by (repeat (first|exact tK1 _ _|apply tK2))) ?_)))) ?_
 rintro i ⟨hi0,hi⟩
 simp only [zAx,List.cons_append,List.nil_append]
 by_cases hlt:i<l.length
 ·have:zAU l i l[i]:=⟨by simp [hlt]⟩
  (repeat' (first|((with_reducible refine zG ?_);first|refine zE rfl rfl rfl rfl rfl ?_|refine zC rfl rfl rfl rfl rfl ?_|(refine zK rfl rfl rfl rfl rfl ?_;refine ⟨_,rfl,?_⟩)|(refine zU rfl rfl rfl rfl rfl rfl rfl (fun h=>?_) (fun h=>?_)<;>(dsimp only [cmpP] at h;(try (exfalso;omega))))|refine zf rfl rfl rfl rfl rfl rfl (by omega) ?_|refine zb rfl rfl rfl rfl rfl rfl rfl (by omega) ?_|refine zp rfl rfl rfl rfl rfl ?_|refine zCG rfl rfl rfl rfl rfl rfl ?_)|(with_reducible first|refine zH ?_|refine zB ?_|refine zD ?_|refine zA ?_|refine zS ?_|refine zQ ?_|refine zh ?_)|((with_reducible refine zI ?_ ?_);(· exact rfl))))
  exact zi (i+1) ⟨by omega,by omega⟩ (by omega) (by rw [zPC hi0 hlt];(first|exact lK1|(repeat (first|exact lK1|(refine zM rfl ?_))))) (by (repeat (first|exact oK1 _|(refine oK2 (by (repeat (first|exact tK1 _ _|apply tK2))) ?_))))
 ·obtain rfl:i=l.length:=by omega
  rw [List.take_length]
  (repeat' (first|((with_reducible refine zG ?_);first|refine zE rfl rfl rfl rfl rfl ?_|refine zC rfl rfl rfl rfl rfl ?_|(refine zU rfl rfl rfl rfl rfl rfl rfl (fun h=>?_) (fun h=>?_)<;>(dsimp only [cmpP] at h;(try (exfalso;omega))))|refine zp rfl rfl rfl rfl rfl ?_)|(with_reducible first|refine zH ?_|refine zB ?_|refine zD ?_|refine zA ?_|refine zc ?_|refine zj ?_|refine zR ?_|refine zW ?_)|((with_reducible refine zF ?_ ?_);(· exact rfl))))
  exact zV (by (exact zO.cons (by exact zn.tmp rfl) zO.nil)) () trivial rfl (fun _ _=>Own.nil _ _)
def needG (c:Cov) (z:Bed):Nat→Int × Int
 | 0=>(z.thick.lo,0)
 | h+1=>((needG c z h).1 - (zBk c z (c.hours.getD h default)).hi,
   if 0<zCp c (c.hours.getD h default) - ((needG c z h).1 - (zBk c z (c.hours.getD h default)).hi) then max (needG c z h).2 ((zCp c (c.hours.getD h default) - ((needG c z h).1 - (zBk c z (c.hours.getD h default)).hi)+c.layer.lo - 1) / c.layer.lo) else (needG c z h).2)
def zBS (c:Cov) (z:Bed) (m:Nat):List Int:=(List.range m).map fun h=>(needG c z (h+1)).2
def zAg (c:Cov):List (List Int):=c.beds.map fun z=>zBS c z c.hours.length
theorem zD9 {c:Cov} {z:Bed} {m:Nat}:(zBS c z m).length=m:=by simp [zBS]
theorem zGu {c:Cov} {z:Bed} {m:Nat}:zBS c z (m+1)=zBS c z m++[(needG c z (m+1)).2]:=by simp [zBS,List.range_succ]
theorem zMv {c:Cov} {u:Hour} (hf:zB4 c):0≤zCp c u∧zCp c u≤2000:=by
 have h1:=hf.limit;have h2:=hf.base
 simp only [zAL] at h1 h2
 unfold zCp;split<;>omega
theorem zFP {c:Cov} {z:Bed} (hf:zB4 c) (hz:z∈c.beds):∀ h,h≤c.hours.length→-(1650 * (h:Int))≤(needG c z h).1∧(needG c z h).1≤2000∧0≤(needG c z h).2∧(needG c z h).2≤2200+1650 * h
 | 0,_=>by
  have:=hf.bed z hz
  simp only [zDX,Bool.and_eq_true,zAn] at this
  simp only [needG];omega
 | h+1,hh=>by
  obtain ⟨i1,i2,i3,i4⟩:=zFP hf hz h (by omega)
  have hu:c.hours.getD h default∈c.hours:=by rw [zAh (List.getElem?_eq_getElem (by omega))];exact List.getElem_mem (by omega)
  have l1:=zER hf hz hu
  have a1:=zMv (u:=c.hours.getD h default) hf
  have y1:=hf.layer
  simp only [zAn] at y1
  simp only [needG]
  generalize (needG c z h).1=p at *
  generalize (needG c z h).2=q at *
  generalize (zBk c z (c.hours.getD h default)).hi=r at *
  generalize zCp c (c.hours.getD h default)=s at *
  refine ⟨by omega,by omega,?_,?_⟩
  ·split
   ·exact Int.le_trans i3 (Int.le_max_left _ _)
   ·exact i3
  ·split
   ·have h1:(s - (p - r)+c.layer.lo - 1) / c.layer.lo≤s - (p - r)+c.layer.lo - 1:=Int.ediv_le_self _ (by omega)
    omega
   ·omega
def zCV (c:Cov) (i:Nat):List (List Int):=(c.beds.take i).map (fun z=>zBS c z c.hours.length)++List.replicate (c.beds.length - i) []
theorem zLT {c:Cov}:zCV c c.beds.length=zAg c:=by simp [zCV,zAg]
theorem zLS {c:Cov} {i:Nat} {z:Bed} (hz:c.beds[i]?=some z):(zCV c i).set i (zBS c z c.hours.length)=zCV c (i+1):=by
 obtain ⟨hi,e⟩:=List.getElem?_eq_some_iff.1 hz
 unfold zCV
 have hl:((c.beds.take i).map (fun z=>zBS c z c.hours.length)).length=i:=by simp;omega
 rw [List.set_append_right _ _ (by omega),hl,Nat.sub_self]
 have e1:c.beds.take (i+1)=c.beds.take i++[z]:=by rw [List.take_add_one,hz];rfl
 rw [e1,List.map_append,List.append_assoc]
 congr 1
 obtain ⟨m,hm⟩:∃ m,c.beds.length - i=m+1:=⟨c.beds.length - i - 1,by omega⟩
 rw [hm,show c.beds.length - (i+1)=m by omega,List.replicate_succ]
 rfl
theorem zMo {c:Cov} {i:Nat} (hi:i<c.beds.length):(zCV c i)[i]?=some []:=by
 unfold zCV
 have hl:((c.beds.take i).map (fun z=>zBS c z c.hours.length)).length=i:=by simp;omega
 rw [List.getElem?_append_right (by omega),hl,List.getElem?_replicate,if_pos (by omega)]
theorem zJz {c:Cov}:zCV c 0=List.replicate c.beds.length []:=by simp [zCV]
set_option maxHeartbeats 4000000 in
theorem zJI (c:Cov) (A:Option Addr) (ca:Nat) (B:Option Addr) (cb:Nat) (C:Option Addr) (cc g:Nat) (w:World) (hr:InC w g 0 (zJ c A ca B cb C cc)) (hG:InC w 0 0 zCc) (h:zAk w c A B C) (hs:Small c) (hf:zB4 c) :
  Ret Tryz.prog 63 [.pointer (some ⟨g,0,none⟩)] w (fun p:Nat × List (zAC Int)=>.slice (some ⟨p.1,0,none⟩) p.2.length p.2.length) (fun p=>[.zBJ zy (rowOf encI 1 3) p.1 p.2]) (fun p=>p.2.map (·.xs)=zAg c):=by
 have h4:=hs.b;have h5:=hs.h
 have hb:=h.b;have hh:=h.h
 have hlo:=fun W (hb:Below w.heap.size w W) i j z u (hz:c.beds[i]?=some z) (hu:c.hours[j]?=some u)=>zFt c A ca B cb C cc g i j z u W (hr.below hb) (h.below hb) hs hf hz hu
 have has:=fun W (hb:Below w.heap.size w W) u=>zKY c A ca B cb C cc g u W (hr.below hb) (hG.below hb) hf
 unfold vSp at hlo
 unfold zCd at has
 unfold zJ at hr
 (refine zL (n:=92) Tryz.func63 rfl rfl rfl ?_)
 (repeat' (first|((with_reducible refine zG ?_);first|refine zE rfl rfl rfl rfl rfl ?_|refine zC rfl rfl rfl rfl rfl ?_|(refine zK rfl rfl rfl rfl rfl ?_;refine ⟨_,rfl,?_⟩)|refine za rfl rfl rfl rfl rfl ?_|refine zKy rfl rfl rfl rfl rfl rfl rfl rfl rfl rfl rfl (by omega) (fun gt=>?_)|refine zp rfl rfl rfl rfl rfl ?_|refine zBM rfl rfl rfl rfl rfl ?_)|(with_reducible first|refine zH ?_|refine zB ?_|refine zD ?_|refine zA ?_|refine zQ ?_)))
 refine zIW (enc:=encI) (k:=1) (e:=3) (Take.here _ _) ?_
 refine zw (ι:=Nat × List (zAC Int)) [0,3,21,22] rfl (fun p=>p.1≤c.beds.length∧p.2.map (·.xs)=zCV c p.1) (fun p=>[(23,.int .i64 (p.1:Int))]) (fun p=>[.zBJ zy (rowOf encI 1 3) gt p.2]) (fun p=>c.beds.length - p.1) (0,List.replicate c.beds.length zA3) ⟨Nat.zero_le _,by simp [zJz,zA3]⟩ (by (first|exact lK1|(repeat (first|exact lK1|(refine zM rfl ?_))))) (by (repeat (first|exact oK1 _|(refine oK2 (by (repeat (first|exact tK1 _ _|apply tK2))) ?_)))) ?_
 rintro ⟨i,L⟩ ⟨hi,hL⟩
 simp only at hi hL
 have hLl:L.length=c.beds.length:=by
  have:=congrArg List.length hL
  simp [zCV] at this;omega
 simp only [zAx,List.cons_append,List.nil_append]
 by_cases hlt:i<c.beds.length
 ·obtain ⟨z,hz⟩:∃ z,c.beds[i]?=some z:=⟨_,List.getElem?_eq_getElem hlt⟩
  obtain ⟨bb,o,rfl,_,_⟩:=hb.at_ hlt
  have:InS w bb o zAd 3 c.beds:=⟨hb⟩
  have:zAU c.beds i z:=⟨hz⟩
  obtain ⟨s0,hs0⟩:∃ s0,L[i]?=some s0:=⟨_,List.getElem?_eq_getElem (by omega)⟩
  have hx0:s0.xs=[]:=by
   have h1:=zMo (c:=c) hlt
   rw [← hL,List.getElem?_map,hs0] at h1
   exact Option.some.inj h1
  (repeat' (first|((with_reducible refine zG ?_);first|refine zE rfl rfl rfl rfl rfl ?_|refine zC rfl rfl rfl rfl rfl ?_|(refine zK rfl rfl rfl rfl rfl ?_;refine ⟨_,rfl,?_⟩)|refine za rfl rfl rfl rfl rfl ?_|(refine zU rfl rfl rfl rfl rfl rfl rfl (fun h=>?_) (fun h=>?_)<;>(dsimp only [cmpP] at h;(try (exfalso;omega))))|refine zb rfl rfl rfl rfl rfl rfl rfl (by omega) ?_|refine zp rfl rfl rfl rfl rfl ?_|(refine ze rfl rfl rfl rfl rfl ?_;refine And.intro rfl (And.intro (by first|decide|exact Nat.le_of_ble_eq_true rfl|(simp;omega)) ⟨_,rfl,?_⟩))|(refine zm rfl rfl rfl rfl (fun b=>?_))|refine zBM rfl rfl rfl rfl rfl ?_)|(with_reducible first|refine zH ?_|refine zB ?_|refine zD ?_|refine zA ?_|refine zS ?_|refine zQ ?_)|((with_reducible refine zI ?_ ?_);(· exact rfl))))
  refine zCj i hs0 (by (repeat (first|exact tK1 _ _|apply tK2))) ?_
  refine zw (ι:=Nat × zAC Int) [0,3,4,21,22,23,36] rfl (fun p=>p.1≤c.hours.length∧p.2.xs=zBS c z p.1) (fun p=>[(37,.int .i64 (p.1:Int)),(6,.int .i64 (needG c z p.1).1),(7,.int .i64 (needG c z p.1).2)]) (fun p=>[.arr zy 1 gt (L.set i p.2),rowOf encI 1 3 p.2,.all ((L.eraseIdx i).map (rowOf encI 1 3))]) (fun p=>c.hours.length - p.1) (0,s0) ⟨Nat.zero_le _,by rw [hx0];rfl⟩ (by (first|exact lK1|(repeat (first|exact lK1|(refine zM rfl ?_))))) (by (repeat (first|exact oK1 _|(refine oK2 (by (repeat (first|exact tK1 _ _|apply tK2))) ?_)))) ?_
  rintro ⟨j,s⟩ ⟨hj,hsx⟩
  simp only at hj hsx
  simp only [zAx,List.cons_append,List.nil_append]
  by_cases hjl:j<c.hours.length
  ·obtain ⟨u,hu⟩:∃ u,c.hours[j]?=some u:=⟨_,List.getElem?_eq_getElem hjl⟩
   obtain ⟨bc,oc,rfl,_,_⟩:=hh.at_ hjl
   have:InS w bc oc zq 5 c.hours:=⟨hh⟩
   have:zAU c.hours j u:=⟨hu⟩
   have hG1:=zFP hf (List.mem_of_getElem? hz) j hj
   have l1:=zER hf (List.mem_of_getElem? hz) (List.mem_of_getElem? hu)
   have a1:=zMv (u:=u) hf
   have y1:=hf.layer
   simp only [zAn] at y1
   have eG:needG c z (j+1)=((needG c z j).1 - (zBk c z u).hi,if 0<zCp c u - ((needG c z j).1 - (zBk c z u).hi) then max (needG c z j).2 ((zCp c u - ((needG c z j).1 - (zBk c z u).hi)+c.layer.lo - 1) / c.layer.lo) else (needG c z j).2):=by simp only [needG,zAh hu]
   have:=hlo
   (repeat' (first|((with_reducible refine zG ?_);first|refine zE rfl rfl rfl rfl rfl ?_|refine zC rfl rfl rfl rfl rfl ?_|(refine zK rfl rfl rfl rfl rfl ?_;refine ⟨_,rfl,?_⟩)|refine za rfl rfl rfl rfl rfl ?_|(refine zU rfl rfl rfl rfl rfl rfl rfl (fun h=>?_) (fun h=>?_)<;>(dsimp only [cmpP] at h;(try (exfalso;omega))))|refine zX rfl rfl rfl rfl rfl rfl (fun _ _ q=>hlo _ q.below i j z u hz hu) ?_|refine zX rfl rfl rfl rfl rfl rfl (fun _ _ q=>has _ q.below u) ?_|refine zAa rfl rfl rfl (e_spanHi rfl rfl) ?_|refine zCY rfl rfl rfl rfl rfl rfl (IntWalk.i64_in _ (by omega)) ?_|refine zb rfl rfl rfl rfl rfl rfl rfl (by omega) ?_|refine zBM rfl rfl rfl rfl rfl ?_)|(with_reducible first|refine zH ?_|refine zB ?_|refine zD ?_|refine zA ?_|refine zS ?_|refine zQ ?_)|((with_reducible refine zI ?_ ?_);(· exact rfl))|((with_reducible refine zF ?_ ?_);(· exact rfl))))
   ·have hq1:0≤(zCp c u - ((needG c z j).1 - (zBk c z u).hi)+c.layer.lo - 1) / c.layer.lo:=Int.ediv_nonneg (by omega) (by omega)
    have hq2:(zCp c u - ((needG c z j).1 - (zBk c z u).hi)+c.layer.lo - 1) / c.layer.lo≤zCp c u - ((needG c z j).1 - (zBk c z u).hi)+c.layer.lo - 1:=Int.ediv_le_self _ (by omega)
    (refine zAy (by kernel_rfl) (by kernel_rfl) (by kernel_rfl) ?_)
    (repeat' (first|((with_reducible refine zBV ?_);first|refine zN (zAe rfl rfl) rfl rfl rfl ?_|refine zN (zAE rfl rfl (by exact rfl)) rfl rfl rfl ?_|refine zN (zAP rfl rfl) rfl rfl rfl ?_|refine zN (zBW rfl rfl) rfl rfl rfl ?_|refine zN (zE9 rfl rfl rfl (IntWalk.i64_in _ (by omega))) rfl rfl rfl ?_|refine zN (zFY rfl rfl rfl (IntWalk.i64_in _ (by omega))) rfl rfl rfl ?_|refine zN (zAW rfl rfl) rfl rfl rfl ?_|refine zN (zJW rfl rfl rfl (by omega) (by omega) (IntWalk.i64_in _ (by omega))) rfl rfl rfl ?_|refine zN (zGE rfl rfl rfl) rfl rfl rfl ?_)|(with_reducible refine zB6 ?_)))
    have:zAU (L.set i s) i s:=⟨List.getElem?_set_self (by omega)⟩
    have hsl:s.xs.length≤12:=by rw [hsx,zD9];omega
    (repeat' (first|((with_reducible refine zG ?_);first|refine zE rfl rfl rfl rfl rfl ?_|(refine zK rfl rfl rfl rfl rfl ?_;refine ⟨_,rfl,?_⟩)|(refine zBT (enc:=encI) [_] rfl rfl rfl rfl rfl (by (repeat (first|exact tK1 _ _|apply tK2))) rfl rfl (zAt (by exact rfl)) (by refine ⟨?_,by decide⟩;(try simp only [List.length_append,List.length_cons,List.length_nil]);omega) (fun A' c'=>?_))|refine zCs (i:=i) (s:=s) ⟨A',s.xs++[_],c'⟩ rfl rfl rfl rfl rfl rfl (by (repeat (first|exact tK1 _ _|apply tK2))) (by omega) ?_|refine zf rfl rfl rfl rfl rfl rfl (by omega) ?_|refine zb rfl rfl rfl rfl rfl rfl rfl (by omega) ?_|(refine zAD rfl rfl rfl rfl rfl ?_;refine ⟨rfl,_,rfl,fun b=>?_⟩))|(with_reducible first|refine zB ?_|refine zD ?_|refine zA ?_|refine zh ?_)))
    exact zi (j+1,⟨A',s.xs++[_],c'⟩) ⟨by simp only;omega,by simp only;rw [hsx,zGu,eG,if_pos (by omega)]⟩ (by simp only;omega) (by simp only [eG];rw [if_pos (by omega)];(first|exact lK1|(repeat (first|exact lK1|(refine zM rfl ?_))))) (by (repeat (first|exact oK1 _|(refine oK2 (by (repeat (first|exact tK1 _ _|apply tK2))) ?_))))
   ·have:zAU (L.set i s) i s:=⟨List.getElem?_set_self (by omega)⟩
    have hsl:s.xs.length≤12:=by rw [hsx,zD9];omega
    (repeat' (first|((with_reducible refine zG ?_);first|refine zE rfl rfl rfl rfl rfl ?_|(refine zK rfl rfl rfl rfl rfl ?_;refine ⟨_,rfl,?_⟩)|(refine zBT (enc:=encI) [_] rfl rfl rfl rfl rfl (by (repeat (first|exact tK1 _ _|apply tK2))) rfl rfl (zAt (by exact rfl)) (by refine ⟨?_,by decide⟩;(try simp only [List.length_append,List.length_cons,List.length_nil]);omega) (fun A' c'=>?_))|refine zCs (i:=i) (s:=s) ⟨A',s.xs++[_],c'⟩ rfl rfl rfl rfl rfl rfl (by (repeat (first|exact tK1 _ _|apply tK2))) (by omega) ?_|refine zf rfl rfl rfl rfl rfl rfl (by omega) ?_|refine zb rfl rfl rfl rfl rfl rfl rfl (by omega) ?_|(refine zAD rfl rfl rfl rfl rfl ?_;refine ⟨rfl,_,rfl,fun b=>?_⟩))|(with_reducible first|refine zB ?_|refine zD ?_|refine zA ?_|refine zh ?_)))
    exact zi (j+1,⟨A',s.xs++[_],c'⟩) ⟨by simp only;omega,by simp only;rw [hsx,zGu,eG,if_neg (by omega)]⟩ (by simp only;omega) (by simp only [eG];rw [if_neg (by omega)];(first|exact lK1|(repeat (first|exact lK1|(refine zM rfl ?_))))) (by (repeat (first|exact oK1 _|(refine oK2 (by (repeat (first|exact tK1 _ _|apply tK2))) ?_))))
  ·obtain rfl:j=c.hours.length:=by omega
   (repeat' (first|((with_reducible refine zG ?_);first|refine zE rfl rfl rfl rfl rfl ?_|(refine zU rfl rfl rfl rfl rfl rfl rfl (fun h=>?_) (fun h=>?_)<;>(dsimp only [cmpP] at h;(try (exfalso;omega))))|refine zf rfl rfl rfl rfl rfl rfl (by omega) ?_)|(with_reducible first|refine zH ?_|refine zB ?_|refine zD ?_|refine zA ?_|refine zj ?_|refine zh ?_|refine zR ?_|refine zW ?_)|((with_reducible refine zF ?_ ?_);(· exact rfl))))
   refine zCi i s hs0 (by (repeat (first|exact tK1 _ _|apply tK2))) (by (repeat (first|exact tK1 _ _|apply tK2))) (by (repeat (first|exact tK1 _ _|apply tK2))) ?_
   refine zi (i+1,L.set i s) ⟨by simp only;omega,?_⟩ (by simp only;omega) (by (first|exact lK1|(repeat (first|exact lK1|(refine zM rfl ?_))))) (by (repeat (first|exact oK1 _|(refine oK2 (by (repeat (first|exact tK1 _ _|apply tK2))) ?_))))
   simp only
   rw [List.map_set,hL,hsx,zLS hz]
 ·obtain rfl:i=c.beds.length:=by omega
  (repeat' (first|((with_reducible refine zG ?_);first|refine zE rfl rfl rfl rfl rfl ?_|refine zC rfl rfl rfl rfl rfl ?_|(refine zU rfl rfl rfl rfl rfl rfl rfl (fun h=>?_) (fun h=>?_)<;>(dsimp only [cmpP] at h;(try (exfalso;omega)))))|(with_reducible first|refine zH ?_|refine zB ?_|refine zD ?_|refine zA ?_|refine zc ?_|refine zj ?_|refine zR ?_|refine zW ?_)|((with_reducible refine zF ?_ ?_);(· exact rfl))))
  refine zV (by (exact zO.cons (by exact zn.tmp rfl) zO.nil)) (gt,L) ?_ (by rw [hLl];rfl) (fun _ h=>h.sub (by (repeat (first|exact oK1 _|(refine oK2 (by (repeat (first|exact tK1 _ _|apply tK2))) ?_)))))
  rw [hL,zLT]
end Go.Proofs.YtdigopgncfhiaaaGreatDoor
namespace Go.Proofs.YtdigopgncfhiaaaGreatDoor
open Go.RowKit
set_option maxRecDepth 20000
def zKQ (c:Cov):List Int × Int:=if zAm c=0 then ((zAg c).map Flow.zDM,0) else ([],zAm c)
theorem zBx {c:Cov}:(zAg c).length=c.beds.length:=by simp [zAg]
theorem zGR {c:Cov}:∀ r∈zAg c,r.length=c.hours.length:=fun r hr=>by
 obtain ⟨z,_,rfl⟩:=List.mem_map.1 hr
 exact zD9
theorem Ret.newsl {α:Type} {enc:α→List Value} {k:Nat} {xs:List α} {V:Value→Value} {P:Program} {f:FuncId} {args:List Value} {w:World} (h:Ret P f args w (fun p:Option Addr × Nat=>V (.slice p.1 xs.length p.2)) (fun p=>[.sl enc k p.1 xs]) (fun _=>True)):zC4 enc k xs V P f args w:=by
 unfold zC4;exact h
theorem zNI {c:Cov} {z:Bed} (h:Nat):(needG c z h).2≤(needG c z (h+1)).2:=by
 simp only [needG];split<;>omega
theorem zI4 {c:Cov} {z:Bed} (h:Nat):∀ k,(needG c z h).2≤(needG c z (h+k)).2
 | 0=>Int.le_refl _
 | k+1=>Int.le_trans (zI4 h k) (zNI (h+k))
theorem zMI {c:Cov} {z:Bed} {m:Nat}:Flow.zDM (zBS c z (m+1))=(needG c z (m+1)).2:=by
 have h1:(needG c z (m+1)).2∈zBS c z (m+1):=by
  unfold zBS;exact List.mem_map.2 ⟨m,by simp,rfl⟩
 have h2:=Flow.zLG h1
 have h3:Flow.zDM (zBS c z (m+1))∈zBS c z (m+1):=Flow.zFS (by intro e;rw [e] at h1;cases h1)
 unfold zBS at h3
 obtain ⟨k,hk,e⟩:=List.mem_map.1 h3
 have hk:=List.mem_range.1 hk
 have h4:=zI4 (c:=c) (z:=z) (k+1) (m - k)
 rw [show k+1+(m - k)=m+1 by omega] at h4
 have e':(needG c z (k+1)).2=Flow.zDM (zBS c z (m+1)):=e
 omega
set_option maxHeartbeats 4000000 in
theorem zKZ (c:Cov) (A:Option Addr) (ca:Nat) (B:Option Addr) (cb:Nat) (C:Option Addr) (cc:Nat) (w:World) (h:zAk w c A B C) (hs:Small c) (hG:InC w 0 0 zCc) :
  zC4 encI 1 (zKQ c).1 (fun v=>.tuple #[v,.int .i64 (zKQ c).2]) Tryz.prog 24 [zAI c A ca B cb C cc] w:=by
 have h4:=hs.b;have h5:=hs.h
 have h1:=fun W (hb:Below w.heap.size w W)=>zFV c A ca B cb C cc W (h.below hb) hs
 have h2:=fun W (hb:Below w.heap.size w W)=>zDr c A ca B cb C cc W (h.below hb) hs
 unfold zAI at h1 h2
 apply Ret.newsl
 unfold zAI zKQ
 by_cases h0:zAm c=0
 ·have hf:=zBi h0
  have hh1:=hf.hours
  rw [zAL] at hh1
  have h3:=fun W (hb:Below w.heap.size w W) g (hr:InC W g 0 (zJ c A ca B cb C cc))=>zJI c A ca B cb C cc g W hr (hG.below hb) (h.below hb) hs hf
  rw [if_pos h0]
  unfold zJ at h2 h3 ⊢
  (refine zL (n:=31) Tryz.func24 rfl rfl rfl ?_)
  (repeat' (first|((with_reducible refine zG ?_);first|refine zE rfl rfl rfl rfl rfl ?_|refine zC rfl rfl rfl rfl rfl ?_|(refine zK rfl rfl rfl rfl rfl ?_;refine ⟨_,rfl,?_⟩)|(refine zU rfl rfl rfl rfl rfl rfl rfl (fun h=>?_) (fun h=>?_)<;>(dsimp only [cmpP] at h;(try (exfalso;omega))))|(refine zAN rfl rfl rfl rfl rfl rfl (fun _ _ q=>h2 _ q.below h0) ?_;rintro g -;dsimp only [List.cons_append,List.nil_append])|(refine zAN rfl rfl rfl rfl rfl rfl (fun _ _ q=>h3 _ q.below g (zAc q.own (Below.refl _ _) rfl)) ?_;rintro ⟨gt,L⟩ hL;dsimp only [List.cons_append,List.nil_append])|refine zd rfl rfl rfl rfl rfl rfl ?_|refine zp rfl rfl rfl rfl rfl ?_|(refine zt rfl rfl rfl rfl rfl rfl (fun b=>?_)))|(with_reducible first|refine zH ?_|refine zB ?_|refine zD ?_|refine zA ?_|refine zS ?_|refine zQ ?_)|((with_reducible refine zF ?_ ?_);(· exact rfl))))
  simp only at hL
  have hLl:L.length=c.beds.length:=by
   have:=congrArg List.length hL
   rw [zBx] at this;simpa using this
  have hrow:∀ s∈L,s.xs.length=c.hours.length:=fun s hs=>zGR s.xs (by rw [← hL];exact List.mem_map_of_mem hs)
  rw [← hL]
  refine zLg (enc:=encI) (k:=1) (e:=3) ?_
  refine zw (ι:=Nat × Option Addr × Nat) [18,19] rfl (fun p=>p.1≤L.length) (fun p=>[(20,.int .i64 (p.1:Int)),(6,.slice p.2.1 (((L.take p.1).map (·.xs)).map Flow.zDM).length p.2.2)]) (fun p=>[.row encI 1 3 (.slice p.2.1 (((L.take p.1).map (·.xs)).map Flow.zDM).length p.2.2) (((L.take p.1).map (·.xs)).map Flow.zDM),.zBJ zy (rowOf encI 1 3) gt L]) (fun p=>L.length - p.1) (0,none,0) (Nat.zero_le _) (by (first|exact lK1|(repeat (first|exact lK1|(refine zM rfl ?_))))) (by (repeat (first|exact oK1 _|(refine oK2 (by (repeat (first|exact tK1 _ _|apply tK2))) ?_)))) ?_
  rintro ⟨i,A1,c1⟩ hi
  simp only at hi
  simp only [zAx,List.cons_append,List.nil_append]
  by_cases hlt:i<L.length
  ·obtain ⟨s,hs1⟩:∃ s,L[i]?=some s:=⟨_,List.getElem?_eq_getElem hlt⟩
   have:zAU L i s:=⟨hs1⟩
   have hsm:=List.mem_of_getElem? hs1
   have hsl:=hrow s hsm
   have hcl:(((L.take i).map (·.xs)).map Flow.zDM).length=i:=by simp;omega
   have e1:((L.take (i+1)).map (·.xs)).map Flow.zDM=((L.take i).map (·.xs)).map Flow.zDM++[Flow.zDM s.xs]:=by rw [List.take_add_one,hs1];simp
   (repeat' (first|((with_reducible refine zG ?_);first|refine zE rfl rfl rfl rfl rfl ?_|refine zC rfl rfl rfl rfl rfl ?_|(refine zK rfl rfl rfl rfl rfl ?_;refine ⟨_,rfl,?_⟩)|(refine zU rfl rfl rfl rfl rfl rfl rfl (fun h=>?_) (fun h=>?_)<;>(dsimp only [cmpP] at h;(try (exfalso;omega))))|refine zX rfl rfl rfl rfl rfl rfl (fun _ _ q=>zLF s.xs s.A s.c _ ((zCv (enc:=encI) (k:=1) (e:=3) q.own (by (repeat (first|exact tK1 _ _|apply tK2)))).rows s hsm) (by omega) (by omega)) ?_|(refine zBT (enc:=encI) [_] rfl rfl rfl rfl rfl (by (repeat (first|exact tK1 _ _|apply tK2))) rfl rfl (zAt (by exact rfl)) (by refine ⟨?_,by decide⟩;(try simp only [List.length_append,List.length_cons,List.length_nil]);omega) (fun A' c'=>?_))|refine zf rfl rfl rfl rfl rfl rfl (by omega) ?_|refine zb rfl rfl rfl rfl rfl rfl rfl (by omega) ?_|(refine zAD rfl rfl rfl rfl rfl ?_;refine ⟨rfl,_,rfl,fun b=>?_⟩))|(with_reducible first|refine zH ?_|refine zB ?_|refine zD ?_|refine zA ?_|refine zS ?_|refine zQ ?_|refine zh ?_)|((with_reducible refine zI ?_ ?_);(· exact rfl))))
   refine zi (i+1,A',c') (by simp only;omega) (by simp only;omega) (by simp only [e1];(first|exact lK1|(repeat (first|exact lK1|(refine zM rfl ?_))))) ?_
   simp only [e1]
   (repeat (first|exact oK1 _|(refine oK2 (by (repeat (first|exact tK1 _ _|apply tK2))) ?_)))
  ·obtain rfl:i=L.length:=by omega
   rw [List.take_length]
   (repeat' (first|((with_reducible refine zG ?_);first|refine zE rfl rfl rfl rfl rfl ?_|refine zC rfl rfl rfl rfl rfl ?_|(refine zU rfl rfl rfl rfl rfl rfl rfl (fun h=>?_) (fun h=>?_)<;>(dsimp only [cmpP] at h;(try (exfalso;omega)))))|(with_reducible first|refine zH ?_|refine zB ?_|refine zD ?_|refine zA ?_|refine zc ?_|refine zj ?_|refine zR ?_|refine zW ?_)|((with_reducible refine zF ?_ ?_);(· exact rfl))))
   exact zV (by (exact zO.cons (by exact zn.tmp rfl) (zO.cons (by exact zn.tmp rfl) zO.nil))) (A1,c1) trivial rfl (fun _ h=>(h.zFJ (by (repeat (first|exact tK1 _ _|apply tK2)))).sub (by (repeat (first|exact oK1 _|(refine oK2 (by (repeat (first|exact tK1 _ _|apply tK2))) ?_)))))
 ·rw [if_neg h0]
  unfold zJ at h1 ⊢
  generalize zAm c=e at *
  (refine zL (n:=31) Tryz.func24 rfl rfl rfl ?_)
  (repeat' (first|((with_reducible refine zG ?_);first|refine zE rfl rfl rfl rfl rfl ?_|refine zC rfl rfl rfl rfl rfl ?_|(refine zK rfl rfl rfl rfl rfl ?_;refine ⟨_,rfl,?_⟩)|(refine zU rfl rfl rfl rfl rfl rfl rfl (fun h=>?_) (fun h=>?_)<;>(dsimp only [cmpP] at h;(try (exfalso;omega))))|refine zX rfl rfl rfl rfl rfl rfl (fun _ _ q=>h1 _ q.below h0) ?_|refine zd rfl rfl rfl rfl rfl rfl ?_|(refine zt rfl rfl rfl rfl rfl rfl (fun b=>?_)))|(with_reducible first|refine zH ?_|refine zB ?_|refine zD ?_|refine zA ?_|refine zc ?_|refine zY ?_)|((with_reducible refine zI ?_ ?_);(· exact rfl))))
  exact zV (by (exact zO.cons (by exact zn.tmp rfl) (zO.cons (by exact zn.tmp rfl) zO.nil))) (none,0) trivial rfl (fun _ h=>zHQ h)
end Go.Proofs.YtdigopgncfhiaaaGreatDoor
namespace Go.Proofs.YtdigopgncfhiaaaGreatDoor
variable {ro : Option Nat}
open Go.RowKit
set_option linter.unusedSectionVars false
def Ent.hidT {α:Type} (enc:α→List Value) (k e gt lo hi:Nat) (xss:List (List α)):Ent :=
 ⟨fun b=>lo≤b∧b<hi,fun w=>∃ L:List (zAC α),L.map (·.xs)=xss∧Own lo w [.zBJ zy (rowOf enc k e) gt L]∧∀ b,(Ent.zBJ zy (rowOf enc k e) gt L).S b→b<hi,fun w w' hs h hp=>by
  obtain ⟨L,h1,h2,h3⟩:=hp
  exact ⟨L,h1,h2.past hs (fun f hf b hb=>by
   simp only [List.mem_singleton] at hf;subst hf
   exact h b ⟨(h2.foot _ (by simp) b hb).1,h3 b hb⟩),h3⟩⟩
theorem zJR {α:Type}:∀ m:Nat,(List.replicate m (zA3:zAC α)).flatMap zy=List.replicate m (.slice none 0 0)
 | 0=>rfl
 | m+1=>by rw [List.replicate_succ,List.flatMap_cons,zJR m,List.replicate_succ];rfl
section
variable {P : Program} {w0:World} {n:Nat} {d:List Deferred} {R R0:List (Nat × Value)} {H H' H0:List Ent} {Q:Exit→Act→World→Prop} {ops:Array Oper} {bs:List (List Bool)} {b:List Bool} {k:Nat} {o:Oper} {rest:List Oper} {T:List Rw} {t:Tmp} {Hk:zBO→List Ent} {x y:Operand} {v:Value} {X:Act→World→Prop}
theorem u_hidT {α:Type} {enc:α→List Value} {kk e gt lo hi:Nat} {xss:List (List α)} (ht:Take H (.hidT enc kk e gt lo hi xss) H') (h:∀ L:List (zAC α),L.map (·.xs)=xss→U w0 n d R (.zBJ zy (rowOf enc kk e) gt L::H') X):U w0 n d R H X:=fun a w q=>by
 have ho:=q.own.take ht
 obtain ⟨L,h1,h2,h3⟩:=ho.here (.hidT enc kk e gt lo hi xss) (by simp)
 exact h L h1 a w (q.heap q.below (ho.recast (fun _=>h2.here _ (by simp)) (fun b hb=>⟨(h2.foot _ (by simp) b hb).1,h3 b hb⟩)))
theorem zO4 {α:Type} {enc:α→List Value} {z0:α} {z:Value} {e n0:Nat} (hez:enc z0=[z]) (hn:n0≤1000) (w:World):Own w.heap.size (w.alloc (.cells (madeCells #[z] n0) e)) [.row enc 1 e (.slice (some ⟨w.heap.size,0,none⟩) n0 n0) (List.replicate n0 z0)]:=by
 have hfl:(List.replicate n0 z0).flatMap enc=List.replicate n0 z:=by
  clear hn
  induction n0 with
  | zero=>rfl
  | succ m ih=>rw [List.replicate_succ,List.flatMap_cons,ih,hez,List.replicate_succ];rfl
 refine ⟨fun f hf=>?_,fun f hf b hb=>?_,by simp⟩
 ·simp only [List.mem_singleton] at hf
  subst hf
  show Row enc 1 e 0 _ _ _
  unfold Row
  rw [hfl]
  refine ⟨by simp,.inr ⟨w.heap.size,n0,madeCells #[z] n0,by simp,Nat.zero_le _,heap_alloc_new w _,by simp,by simp [maxLen];omega,by simp [madeCells],?_⟩⟩
  have:=toList_madeCells_one z n0
  rw [this];simp
 ·simp only [List.mem_singleton] at hf;subst hf;cases hb;simp
theorem zKE {T1 e:TypeId} {i:TypeInfo} {z:Value} {n0 s:Nat} {g:Bool} [i1:TyI P T1 (.slice e) s g] (hi:P.info? e=some i) (hz:i.zero=some z) (h1:i.size=1) (hcz:z.cells=#[z]) (hb:Nat.ble (i.bytes * 1000) 281474976710656=true) (hn:n0≤1000) (w:World):(Instr.makeSlice T1 (.int .i64 (n0:Int)) (.int .i64 (n0:Int))).run P w = .ok (.slice (some ⟨w.heap.size,0,none⟩) n0 n0) (w.alloc (.cells (madeCells #[z] n0) e)):=by
 have hb':(i.bytes:Int) * (n0:Int)≤281474976710656:=by
  have h9:=Nat.le_of_ble_eq_true hb
  have h8:i.bytes * n0≤i.bytes * 1000:=Nat.mul_le_mul_left _ hn
  have h7:((i.bytes * n0:Nat):Int)≤281474976710656:=by omega
  rwa [Int.natCast_mul] at h7
 have hr:=run_make (P:=P) w T1 e i z i1.und hi hz .i64 .i64 n0 n0 (by omega) (Int.le_refl _) hb' (by omega)
 simpa only [Int.toNat_natCast,h1,Nat.mul_one,hcz] using hr
end
end Go.Proofs.YtdigopgncfhiaaaGreatDoor
namespace Go.Proofs.YtdigopgncfhiaaaGreatDoor.Two
variable {ro : Option Nat}
open Go.RowKit
set_option linter.unusedSectionVars false
section
variable {S : List (Nat × Nat)} {I:List (Nat × Nat × Nat × List Ent)} {P:Program} {w0:World} {n:Nat} {d:List Deferred} {R R0:List (Nat × Value)} {H H' H0:List Ent} {Q:Exit→Act→World→Prop} {ops:Array Oper} {bs:List (List Bool)} {b:List Bool} {k:Nat} {o:Oper} {rest:List Oper} {T:List Rw} {t:Tmp} {Hk:zBO→List Ent} {x y:Operand} {v:Value} {X:Act→World→Prop}
theorem c_tab {α:Type} {enc:α→List Value} {kk e nn:Nat} {xss:List (List α)} {f:FuncId} {fx:Operand} {xs:Array Operand} {ts:Array TypeId} {vs:zBO→List Value} {cap:Array Value} (hn:xss.length=nn) (hop:o.op = .call ⟨.value fx,xs,ts⟩) (hw:∀ G,want (Rk R0 ops b o T G) ops o=some true) (hd:o.dst=some t) (hf:∀ G,evR (Rk R0 ops b o T G) fx=some (.func (.func f) #[] cap)) (hx:∀ G,evs (Rk R0 ops b o T G) xs.toList=some (vs G)) [ci:zZ P f]
  (hc:∀ G a w,Kn w0 n d (Rk R0 ops b o T G) (Hk G) a w→Ret P f (vs G++cap.toList) w (fun p:Nat × List (zAC α)=>.slice (some ⟨p.1,0,none⟩) p.2.length p.2.length) (fun p=>[.zBJ zy (rowOf enc kk e) p.1 p.2]) (fun p=>p.2.map (·.xs)=xss))
  (h:zBt ro S I P w0 n d ops R0 H0 Q bs (k+1) rest (⟨k,some t,fun G=>(.slice (some ⟨(G k).g,0,none⟩) nn nn,[.hidT enc kk e (G k).g ((G k).A.getD ⟨0,0,none⟩).block (G k).m xss])⟩::T)):CAt ro S I P w0 n d ops R0 H0 Q b bs k o rest T Hk:=by
 refine zGG (f:=fun G=>(.slice (some ⟨(G k).g,0,none⟩) nn nn,[.hidT enc kk e (G k).g ((G k).A.getD ⟨0,0,none⟩).block (G k).m xss])) (fun G G' hG=>by simp only [hG k (.inl rfl)]) (fun G a w q K hK=>?_) (by rw [hd];exact h)
 rw [zBq q (hw G),if_pos rfl]
 unfold Oper.wp execOp;rw [hop]
 have e1:xs.map a.eval=(vs G).toArray:=by apply Array.ext';simpa using q.evs (hx G)
 have e2:(vs G).toArray++cap=(vs G++cap.toList).toArray:=by apply Array.ext';simp
 simp only [resolve,q.ev (hf G),e1,Deferred.ofValue,Sem.run_bind,Sem.run_pure,Result.andThen_ok,invoke,Array.empty_append,e2,ci.ent,Oper.upon_enter]
 refine Calls.mono (hc G a w q).calls ?_
 rintro en w' ⟨⟨g,L⟩,hp,rfl,hb,hE⟩
 simp only at hp hE
 have hl:L.length=nn:=by rw [← hn,← hp];simp
 refine hK _ [.hidT enc kk e g w.heap.size w'.heap.size xss] _ ⟨⟨g,some ⟨w.heap.size,0,none⟩,w'.heap.size⟩,by simp [upW,hl]⟩ hb ⟨fun f hf=>?_,fun f hf b hb'=>?_,by simp⟩
 ·simp only [List.mem_singleton] at hf;subst hf
  exact ⟨L,hp,hE,fun b hb=>(hE.foot _ (by simp) b hb).2⟩
 ·simp only [List.mem_singleton] at hf;subst hf
  exact hb'
theorem c_makeR {α:Type} {enc:α→List Value} [ei:zCM enc 1] (z0:α) {T1 e:TypeId} {i:TypeInfo} {z:Value} {n0 s:Nat} {g:Bool} (hop:o.op = .makeSlice T1 x y) [i1:TyI P T1 (.slice e) s g] (hi:P.info? e=some i) (hz:i.zero=some z) (h1:i.size=1) (hcz:z.cells=#[z]) (hez:enc z0=[z]) (hb:Nat.ble (i.bytes * 1000) 281474976710656=true) (hw:∀ G,want (Rk R0 ops b o T G) ops o=some true) (hd:o.dst=some t) (hx:∀ G,evR (Rk R0 ops b o T G) x=some (.int .i64 (n0:Int))) (hy:∀ G,evR (Rk R0 ops b o T G) y=some (.int .i64 (n0:Int))) (hn:n0≤1000)
  (h:zBt ro S I P w0 n d ops R0 H0 Q bs (k+1) rest (⟨k,some t,fun G=>(.slice (some ⟨(G k).g,0,none⟩) n0 n0,[.row enc 1 e (.slice (some ⟨(G k).g,0,none⟩) n0 n0) (List.replicate n0 z0)])⟩::T)):CAt ro S I P w0 n d ops R0 H0 Q b bs k o rest T Hk:=by
 refine zGG (f:=fun G=>(.slice (some ⟨(G k).g,0,none⟩) n0 n0,[.row enc 1 e (.slice (some ⟨(G k).g,0,none⟩) n0 n0) (List.replicate n0 z0)])) (fun G G' hG=>by simp only [hG k (.inl rfl)]) (fun G a w q K hK=>?_) (by rw [hd];exact h)
 rw [zBq q (hw G),if_pos rfl]
 unfold Oper.wp execOp;rw [hop]
 simp only [Sem.run_bind,q.ev (hx G),q.ev (hy G),zKE hi hz h1 hcz hb hn w,Result.andThen_ok,Sem.run_pure,Oper.upon_value]
 exact hK _ _ _ ⟨⟨w.heap.size,none,0⟩,by simp only [upW,if_true]⟩ (zAB w _) (zO4 hez hn w)
theorem c_makeT {α:Type} {enc:α→List Value} {kk e2:Nat} {T1 e:TypeId} {i:TypeInfo} {n0 s:Nat} {g:Bool} (hop:o.op = .makeSlice T1 x y) [i1:TyI P T1 (.slice e) s g] (hi:P.info? e=some i) (hz:i.zero=some (.slice none 0 0)) (h1:i.size=1) (hb:Nat.ble (i.bytes * 1000) 281474976710656=true) (hw:∀ G,want (Rk R0 ops b o T G) ops o=some true) (hd:o.dst=some t) (hx:∀ G,evR (Rk R0 ops b o T G) x=some (.int .i64 (n0:Int))) (hy:∀ G,evR (Rk R0 ops b o T G) y=some (.int .i64 (n0:Int))) (hn:n0≤1000)
  (h:zBt ro S I P w0 n d ops R0 H0 Q bs (k+1) rest (⟨k,some t,fun G=>(.slice (some ⟨(G k).g,0,none⟩) n0 n0,[.zBJ zy (rowOf enc kk e2) (G k).g (List.replicate n0 (zA3:zAC α))])⟩::T)):CAt ro S I P w0 n d ops R0 H0 Q b bs k o rest T Hk:=by
 refine zGG (f:=fun G=>(.slice (some ⟨(G k).g,0,none⟩) n0 n0,[.zBJ zy (rowOf enc kk e2) (G k).g (List.replicate n0 (zA3:zAC α))])) (fun G G' hG=>by simp only [hG k (.inl rfl)]) (fun G a w q K hK=>?_) (by rw [hd];exact h)
 rw [zBq q (hw G),if_pos rfl]
 unfold Oper.wp execOp;rw [hop]
 simp only [Sem.run_bind,q.ev (hx G),q.ev (hy G),zKE hi hz h1 rfl hb hn w,Result.andThen_ok,Sem.run_pure,Oper.upon_value]
 refine hK _ [.zBJ zy (rowOf enc kk e2) w.heap.size (List.replicate n0 (zA3:zAC α))] _ ⟨⟨w.heap.size,none,0⟩,by simp only [upW,if_true]⟩ (zAB w _) ?_
 have h2:Own w.heap.size (w.alloc (.cells (madeCells #[.slice none 0 0] n0) e)) [.blk w.heap.size (List.replicate n0 (.slice none 0 0))]:=by
  have e3:madeCells #[Value.slice none 0 0] n0=(List.replicate n0 (Value.slice none 0 0)).toArray:=by
   apply Array.ext'
   have:=toList_madeCells_one (Value.slice none 0 0) n0
   rw [this]
  rw [e3]
  exact zIM w _ e
 have h3:Own w.heap.size (w.alloc (.cells (madeCells #[.slice none 0 0] n0) e)) [.arr zy 1 w.heap.size (List.replicate n0 (zA3:zAC α))]:=h2.recast (fun hp=>⟨[],by rw [zJR,List.append_nil];exact hp⟩) (fun b hb=>hb)
 have h4:=zFO (α:=α) (enc:=enc) (k:=kk) (e:=e2) (g:=w.heap.size) n0 h3
 refine zBh.1 (h4.perm ?_)
 rw [List.append_nil]
 exact List.perm_append_comm
end
end Go.Proofs.YtdigopgncfhiaaaGreatDoor.Two
