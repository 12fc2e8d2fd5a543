/- C35 -/
import Derived.Test.YtdigopgncfhiaaaGreatDoorC34
import Derived.Test.YtdigopgncfhiaaaGreatDoorC14
import Derived.Test.YtdigopgncfhiaaaGreatDoorC18
import Derived.Test.YtdigopgncfhiaaaGreatDoorC15
import Derived.Test.YtdigopgncfhiaaaGreatDoorC29
import Derived.Test.YtdigopgncfhiaaaGreatDoorC30
import Derived.Test.YtdigopgncfhiaaaGreatDoorC31
set_option linter.unusedSimpArgs false
set_option linter.unusedVariables false
namespace Go.Proofs.YtdigopgncfhiaaaGreatDoor
open Go.RowKit
set_option maxRecDepth 20000
def zHC (t:Tru) (TA:Option Addr) (tc:Nat) (MA:Option Addr) (mc:Nat):List Value:=[.slice TA t.th.length tc,.slice MA t.me.length mc,.int .i64 t.we,.int .i64 t.la]
def goL (c:Cov) (pl:List Sli) (t:Tru) (k:Nat):List (List Int):=(List.range k).map (goA c pl t)
theorem goL_succ {c:Cov} {pl:List Sli} {t:Tru} {k:Nat}:goL c pl t (k+1)=goL c pl t k++[goA c pl t k]:=by simp [goL,List.range_succ]
end Go.Proofs.YtdigopgncfhiaaaGreatDoor
namespace Go.Proofs.YtdigopgncfhiaaaGreatDoor.Two
variable {ro : Option Nat}
open Go.RowKit
set_option maxRecDepth 20000
set_option maxHeartbeats 8000000 in
theorem zRh (c:Cov) (A:Option Addr) (ca:Nat) (B:Option Addr) (cb:Nat) (C:Option Addr) (cc:Nat) (t:Tru) (TA:Option Addr) (tc:Nat) (MA:Option Addr) (mc:Nat) (pl:List Sli) (P:Option Addr) (cp:Nat) (w:World) (hc:zAU w c A B C) (hs:Small c) (hf:zBl c) (ht:zFv c t) (hb0:0<c.beds.length) (hT:zAB encI 1 w TA t.th) (hM:zAB encI 1 w MA t.me) (hp:zAu w P pl) (hl:pl.length=c.hours.length) (hrl:∀ s∈pl,s.xs.length≤20) :
  Ret Tryz.prog 19 [.agg (zHC t TA tc MA mc).toArray,zAI c A ca B cb C cc,.slice P pl.length cp] w (fun z:((Option Addr × Nat) × List Sli) × (Option Addr × Nat)=>.tuple #[.slice z.1.1.1 z.1.2.length z.1.1.2,.slice z.2.1 (goS c pl t c.hours.length).length z.2.2]) (fun z=>[.sl zAC 1 z.1.1.1 z.1.2,.rows z.1.2,.sl zAX 2 z.2.1 (goS c pl t c.hours.length)]) (fun z=>z.1.2.map Sli.xs=goL c pl t (c.hours.length+1)):=by
 have h4:=hs.b;have h5:=hs.h
 have hb:=hc.b;have hh:=hc.h
 have hpp:=hp.p
 have htl:=ht.tl;have hml:=ht.ml
 have eA0:t.th=goA c pl t 0:=by
  apply List.ext_getElem?
  intro i
  by_cases hi:i<c.beds.length
  ·rw [zNI hi]
   show t.th[i]?=some (t.th.getD i 0)
   rw [Flow.zt (by omega),List.getElem?_eq_getElem (by omega)]
  ·rw [List.getElem?_eq_none (by omega),List.getElem?_eq_none (by rw [zCk];omega)]
 unfold zAI zH zHC
 rw [htl,hml]
 have hmz:=fun i=>goT_room (pl:=pl) hf ht (i:=i)
 (refine zM (n:=118) Tryz.func19 rfl rfl rfl ?_)
 refine zCM zAC 1 38 ?_
 refine zCM zAX 2 75 ?_
 (repeat' (first|((with_reducible refine zG ?_);first|refine zE rfl rfl rfl rfl rfl ?_|refine zC rfl rfl rfl rfl rfl ?_|(refine zK rfl rfl rfl rfl rfl ?_;refine ⟨_,rfl,?_⟩)|refine ze rfl rfl rfl rfl rfl ?_|(refine zCH encI (e:=3) rfl rfl rfl rfl (fun b=>?_))|(refine zAx (enc:=encI) t.th rfl rfl rfl rfl rfl (by (repeat (first|exact tK1 _ _|apply tK2))) rfl htl.symm (zFH hT) (by refine ⟨?_,by decide⟩;(try simp only [List.length_append,List.length_cons,List.length_nil,zCk]);omega) (fun An cn=>?_))|(refine zAM rfl rfl rfl rfl rfl rfl (fun b=>?_)))|(with_reducible first|refine zI ?_|refine zB ?_|refine zD ?_|refine zA ?_)))
 obtain ⟨bx,hbx⟩:∃ x,x=b:=⟨_,rfl⟩
 subst hbx
 obtain ⟨by1,hby⟩:∃ x,x=b:=⟨_,rfl⟩
 subst hby
 obtain ⟨b4,hb4⟩:∃ x,x=b:=⟨_,rfl⟩
 subst hb4
 obtain ⟨b3,hb3⟩:∃ x,x=b:=⟨_,rfl⟩
 subst hb3
 rw [List.nil_append,eA0,zCk]
 refine zGp (enc:=encI) (xs:=goA c pl t 0) (by (repeat (first|exact tK1 _ _|apply tK2))) (by rw [zCk];omega) ?_
 rintro gn rfl
 (repeat' (first|((with_reducible refine zG ?_);first|refine zE rfl rfl rfl rfl rfl ?_|refine zC rfl rfl rfl rfl rfl ?_|(refine zK rfl rfl rfl rfl rfl ?_;refine ⟨_,rfl,?_⟩)|refine ze rfl rfl rfl rfl rfl ?_|(refine zAx (enc:=encI) (goA c pl t 0) rfl rfl rfl rfl rfl (by (repeat (first|exact tK1 _ _|apply tK2))) rfl zCk.symm (fun _ _ h=>zEI (xs:=goA c pl t 0) h (by (repeat (first|exact tK1 _ _|apply tK2)))) (by refine ⟨?_,by decide⟩;(try simp only [List.length_append,List.length_cons,List.length_nil,zCk]);omega) (fun A1 c1=>?_))|(refine zAx (enc:=zAC) [⟨A1,goA c pl t 0,c1⟩] rfl rfl rfl rfl rfl (by (repeat (first|exact tK1 _ _|apply tK2))) rfl rfl (zAl (enc:=zAC) (by exact rfl)) (by refine ⟨?_,by decide⟩;(try simp only [List.length_append,List.length_cons,List.length_nil,zCk]);omega) (fun A2 c2=>?_))|refine zr rfl rfl rfl rfl rfl ?_|(refine zz rfl rfl rfl rfl rfl ?_;refine ⟨rfl,_,rfl,fun b=>?_⟩))|(with_reducible first|refine zI ?_|refine zB ?_|refine zD ?_|refine zA ?_|refine zN ?_)))
 simp only [List.nil_append]
 refine zB5 (fun _ h=>Own.zKF h) ?_
 refine zB5 (H':=.rows ([]++[⟨A1,goA c pl t 0,c1⟩])::[.row zAC 1 38 (.slice A2 [(⟨A1,goA c pl t 0,c1⟩:Sli)].length c2) [⟨A1,goA c pl t 0,c1⟩],.row encI 1 3 (.slice (some ⟨gn,0,none⟩) c.beds.length cn) (goA c pl t 0),.row zAX 2 75 (.slice none 0 0) [],.blk b4 (zH c A ca B cb C cc),.blk b3 [.slice TA c.beds.length tc,.slice MA c.hours.length mc,.int .i64 t.we,.int .i64 t.la]]) (fun W9 h=>Own.zEg ((h.zCT (enc:=encI) (A:=A1) (by (repeat (first|exact tK1 _ _|apply tK2)))).sub (by (repeat (first|exact oK1 _|(refine oK2 (by (repeat (first|exact tK1 _ _|apply tK2))) ?_)))))) ?_
 have hSl:=fun k=>zNH (c:=c) (pl:=pl) (t:=t) k
 have hRl:=fun k i=>zQk (c:=c) (pl:=pl) (t:=t) (h:=k) (i:=i)
 refine zu (ι:=Nat × (Option Addr × Nat) × List Sli × Value) [2,3,4,8,24,25] rfl (fun p=>p.1≤c.hours.length∧p.2.2.1.map Sli.xs=goL c pl t (p.1+1)) (fun p=>[(26,.int .i64 (p.1:Int)),(6,.slice p.2.1.1 p.2.2.1.length p.2.1.2),(7,p.2.2.2)]) (fun p=>[.row encI 1 3 (.slice (some ⟨gn,0,none⟩) c.beds.length cn) (goA c pl t p.1),.rows p.2.2.1,.row zAC 1 38 (.slice p.2.1.1 p.2.2.1.length p.2.1.2) p.2.2.1,.row zAX 2 75 p.2.2.2 (goS c pl t p.1),.blk b4 (zH c A ca B cb C cc),.blk b3 [.slice TA c.beds.length tc,.slice MA c.hours.length mc,.int .i64 t.we,.int .i64 t.la]]) (fun p=>c.hours.length - p.1) (0,(A2,c2),[⟨A1,goA c pl t 0,c1⟩],.slice none 0 0) (by exact ⟨Nat.zero_le _,rfl⟩) (by (first|exact lK1|(repeat (first|exact lK1|(refine zL rfl ?_))))) (by (repeat (first|exact oK1 _|(refine oK2 (by (repeat (first|exact tK1 _ _|apply tK2))) ?_)))) ?_
 rintro ⟨y,⟨A6,c6⟩,L,vt⟩ ⟨hy,hL⟩
 simp only at hy hL
 simp only [zAq,zH,List.cons_append,List.nil_append]
 have hLl:L.length=y+1:=by have:=congrArg List.length hL;simpa [goL] using this
 have hSy:=hSl y
 have hm1:y * c.beds.length≤12 * 20:=Nat.mul_le_mul (by omega) h4
 by_cases hyl:y<c.hours.length
 ·obtain ⟨u,hu⟩:∃ u,c.hours[y]?=some u:=⟨_,List.getElem?_eq_getElem hyl⟩
  obtain ⟨bh,oh,rfl,_,_⟩:=hh.at_ hyl
  have:InS w bh oh zp 5 c.hours:=⟨hh⟩
  have:zAR c.hours y u:=⟨hu⟩
  obtain ⟨m,hm⟩:∃ m,t.me[y]?=some m:=⟨_,List.getElem?_eq_getElem (by omega)⟩
  obtain ⟨bm,om,rfl,_,_⟩:=hM.at_ (show y<t.me.length by omega)
  have:InS w bm om encI 1 t.me:=⟨hM⟩
  have:zAR t.me y m:=⟨hm⟩
  obtain ⟨s,hs1⟩:∃ s,pl[y]?=some s:=⟨_,List.getElem?_eq_getElem (by omega)⟩
  have hsm:=List.mem_of_getElem? hs1
  have hrow:=hp.rows s hsm
  have hsl:=hrl s hsm
  obtain ⟨bp,op,rfl,_,_⟩:=hpp.at_ (show y<pl.length by omega)
  have:InS w bp op zAC 1 pl:=⟨hpp⟩
  have:zAR pl y s:=⟨hs1⟩
  have hou:=hf.hour u (List.mem_of_getElem? hu)
  have hme:=ht.me y hyl
  have hwe:=ht.we;have hla:=ht.la
  have hfw:=hf.wear;have hfl:=hf.layer;have hfb:=hf.base;have hfi:=hf.limit
  rw [zAW hu,zAW hm] at hme
  simp only [zBX,Bool.and_eq_true,zAF,zAA] at hou hfw hfl
  have q2:=Int.mul_le_mul_of_nonneg_right (show u.runs≤60 by omega) (show 0≤t.we by omega)
  have q3:=Int.mul_nonneg (show 0≤u.runs by omega) (show 0≤t.we by omega)
  (repeat' (first|((with_reducible refine zG ?_);first|refine zE rfl rfl rfl rfl rfl ?_|refine zC rfl rfl rfl rfl rfl ?_|(refine zK rfl rfl rfl rfl rfl ?_;refine ⟨_,rfl,?_⟩)|refine ze rfl rfl rfl rfl rfl ?_|(refine zQ rfl rfl rfl rfl rfl rfl rfl (fun h=>?_) (fun h=>?_)<;>(dsimp only [cmpP] at h;(try (exfalso;omega))))|refine zi rfl rfl rfl rfl rfl rfl rfl (by omega) ?_|refine zr rfl rfl rfl rfl rfl ?_|(refine zf rfl rfl rfl rfl rfl ?_;refine And.intro rfl (And.intro (by first|decide|exact Nat.le_of_ble_eq_true rfl|(simp;omega)) ⟨_,rfl,?_⟩))|(refine zo rfl rfl rfl rfl (fun b=>?_)))|(with_reducible first|refine zI ?_|refine zB ?_|refine zD ?_|refine zA ?_|refine zP ?_|refine zN ?_)|((with_reducible refine zJ ?_ ?_);(· exact rfl))))
  refine zu (ι:=Nat × Value) [2,3,4,6,8,9,10,24,25,26,32,33] rfl (fun p=>p.1≤c.beds.length) (fun p=>[(34,.int .i64 (p.1:Int)),(7,p.2)]) (fun p=>[.row encI 1 3 (.slice (some ⟨gn,0,none⟩) c.beds.length cn) (goM c pl t y p.1),.row zAX 2 75 p.2 (goS c pl t y++goR c pl t y p.1),.blk b (zp u),.rows L,.row zAC 1 38 (.slice A6 L.length c6) L,.blk b4 (zH c A ca B cb (some ⟨bh,oh,none⟩) cc),.blk b3 [.slice TA c.beds.length tc,.slice (some ⟨bm,om,none⟩) c.hours.length mc,.int .i64 t.we,.int .i64 t.la]]) (fun p=>c.beds.length - p.1) (0,vt) (Nat.zero_le _) (by (first|exact lK1|(repeat (first|exact lK1|(refine zL rfl ?_))))) (by rw [goM_zero,show goR c pl t y 0=[] from rfl,List.append_nil];(repeat (first|exact oK1 _|(refine oK2 (by (repeat (first|exact tK1 _ _|apply tK2))) ?_)))) ?_
  rintro ⟨i,v⟩ hi
  simp only at hi
  simp only [zAq,zH,List.cons_append,List.nil_append]
  obtain ⟨b10,hb10⟩:∃ x,x=b:=⟨_,rfl⟩
  subst hb10
  by_cases hil:i<c.beds.length
  ·obtain ⟨z,hz⟩:∃ z,c.beds[i]?=some z:=⟨_,List.getElem?_eq_getElem hil⟩
   obtain ⟨bb,ob,rfl,_,_⟩:=hb.at_ hil
   have:InS w bb ob zAJ 3 c.beds:=⟨hb⟩
   have:zAR c.beds i z:=⟨hz⟩
   have hoz:=hf.bed z (List.mem_of_getElem? hz)
   simp only [zC0,Bool.and_eq_true,zAF,zAA] at hoz
   have hrm:=hmz i hil (show y≤c.hours.length by omega) h5
   have hM0:=goM_at (c:=c) (pl:=pl) (t:=t) (h:=y) hil
   have hMs:=goM_set (c:=c) (pl:=pl) (t:=t) (h:=y) hil
   have hMl:=goM_len (c:=c) (pl:=pl) (t:=t) (h:=y) (k:=i)
   have hgr:=goR_succ (c:=c) (pl:=pl) (t:=t) (h:=y) (i:=i)
   have hRi:=hRl y i
   obtain ⟨bb1,hbb⟩:∃ x,x=goB c pl t (c.beds.getD i default) i y:=⟨_,rfl⟩
   rw [← hbb] at hgr
   unfold goB thinX at hbb
   simp only [goT] at hMs
   rw [zAW hu,zAW hs1] at hMs
   rw [zAW hu] at hbb
   unfold zHN at hMs hbb
   rw [zAW hz] at hrm hM0 hMs hbb
   rw [zAW hm] at hMs hbb
   have q1:=Int.mul_le_mul (show z.sun≤9 by omega) (show m≤50 by omega) (show 0≤m by omega) (by omega)
   have q4:=Int.mul_nonneg (show 0≤z.sun by omega) (show 0≤m by omega)
   generalize goT c pl t z i y=x at *
   generalize goM c pl t y i=M0 at *
   have i0:zAR M0 i x:=⟨hM0⟩
   have g1:∀ z,zAR (M0.set i z) i z:=fun z=>⟨List.getElem?_set_self (by omega)⟩
   have i1:=g1 (x - (z.sun * m+u.runs * t.we))
   have i2:=g1 (max 0 (x - (z.sun * m+u.runs * t.we)))
   have i3:=g1 (max 0 (x - (z.sun * m+u.runs * t.we))+t.la)
   have hh9:=fun W (hW:Below w.heap.size w W)=>zKH s.xs (i:Int) s.A s.c W (hrow.below hW) (by omega)
   have i4:zAR ((M0.set i (x - (z.sun * m+u.runs * t.we))).set i (max 0 (x - (z.sun * m+u.runs * t.we)))) i (max 0 (x - (z.sun * m+u.runs * t.we))):=⟨List.getElem?_set_self (by simp;omega)⟩
   cases hon:s.xs.contains (i:Int)
   all_goals
    rw [hon] at hMs hh9
    simp only [layX,if_true,Bool.false_eq_true,if_false] at hMs
    (repeat' (first|((with_reducible refine zG ?_);first|refine zE rfl rfl rfl rfl rfl ?_|refine zC rfl rfl rfl rfl rfl ?_|(refine zK rfl rfl rfl rfl rfl ?_;refine ⟨_,rfl,?_⟩)|(refine zQ rfl rfl rfl rfl rfl rfl rfl (fun h=>?_) (fun h=>?_)<;>(dsimp only [cmpP] at h;(try (exfalso;omega))))|refine zi rfl rfl rfl rfl rfl rfl rfl (by omega) ?_|(refine zf rfl rfl rfl rfl rfl ?_;refine And.intro rfl (And.intro (by first|decide|exact Nat.le_of_ble_eq_true rfl|(simp;omega)) ⟨_,rfl,?_⟩))|(refine zo rfl rfl rfl rfl (fun b=>?_)))|(with_reducible first|refine zI ?_|refine zB ?_|refine zD ?_|refine zA ?_|refine zP ?_|refine zN ?_)|((with_reducible refine zJ ?_ ?_);(· exact rfl))))
    (refine zAd [] [] [] rfl (show ([]:List Nat).Nodup by decide) (fun _ h=>h) (by kernel_rfl) [[],[Y],[Z,Z],[Z,Z,Z],[Y,Y,Y,Y],[Z,Y,Y,Y,Y],[Y,Y,Y,Y,Y,Y],[Z,Y,Y,Y,Y,Y,Y],[Y,Y,Y,Y,Y,Y,Y,Y],[Z,Z,Z,Y,Y,Y,Y,Y,Y],[Z,Z,Z,Z,Y,Y,Y,Y,Y,Y],[Z,Z,Z,Z,Z,Z,Z,Y,Y,Y,Y],[Y,Y,Y,Y,Y,Y,Y,Y,Y,Y,Y,Y],[Z,Y,Y,Y,Y,Y,Y,Y,Y,Y,Y,Y,Y],[Y,Y,Y,Y,Y,Y,Y,Y,Y,Y,Y,Y,Y,Y],[Z,Y,Y,Y,Y,Y,Y,Y,Y,Y,Y,Y,Y,Y,Y],[Z,Z,Z,Z,Y,Y,Y,Y,Y,Y,Y,Y,Y,Y,Y,Y],[Z,Z,Z,Z,Z,Z,Z,Z,Z,Z,Z,Z,Z,Y,Y,Y,Y],[Z,Z,Z,Z,Z,Z,Z,Z,Z,Z,Z,Z,Z,Z,Z,Z,Z,Z],[Z,Z,Z,Z,Z,Z,Z,Z,Z,Z,Z,Z,Z,Z,Z,Z,Z,Z,Z],[Z,Z,Z,Z,Z,Z,Z,Z,Z,Z,Z,Z,Z,Z,Z,Z,Z,Z,Z,Z]] (by kernel_rfl) (by kernel_rfl) (by kernel_rfl) (by kernel_rfl) (by kernel_rfl) ?_)
    (repeat' (first|(((with_reducible refine zCJ ?_ ?_);(· exact rfl);refine ⟨_,fun G=>(by (try simp (decide:=true) only [vis,see,fltT,zAD,Nat.reduceAdd,Nat.reduceSub,if_true,if_false,List.set_cons_zero,List.set_cons_succ,List.set_nil,List.nil_append,List.cons_append]);rfl),?_⟩);first|refine zX _ (fun _=>zAK rfl rfl) (fun _=>rfl) rfl (by first|exact fun _ _ _=>rfl|(intro G G' h;simp (decide:=true) only [h])) ?_|refine zX _ (fun _=>zy rfl rfl (by exact rfl)) (fun _=>rfl) rfl (by first|exact fun _ _ _=>rfl|(intro G G' h;simp (decide:=true) only [h])) ?_|(refine zAb rfl ?_;refine zX _ (fun _=>zAO rfl rfl) (fun _=>rfl) rfl (by first|exact fun _ _ _=>rfl|(intro G G' h;simp (decide:=true) only [h])) ?_)|refine zX _ (fun _=>zDg rfl rfl rfl (IntWalk.i64_in _ (by omega))) (fun _=>rfl) rfl (by first|exact fun _ _ _=>rfl|(intro G G' h;simp (decide:=true) only [h])) ?_|refine zX _ (fun _=>zEt rfl rfl rfl (IntWalk.i64_in _ (by omega))) (fun _=>rfl) rfl (by first|exact fun _ _ _=>rfl|(intro G G' h;simp (decide:=true) only [h])) ?_|refine zX _ (fun _=>zGg rfl rfl rfl (IntWalk.i64_in _ (by omega))) (fun _=>rfl) rfl (by first|exact fun _ _ _=>rfl|(intro G G' h;simp (decide:=true) only [h])) ?_|refine zX _ (fun _=>zAS rfl rfl rfl rfl (by omega)) (fun _=>rfl) rfl (by first|exact fun _ _ _=>rfl|(intro G G' h;simp (decide:=true) only [h])) ?_)|((with_reducible refine zBa ?_ ?_);(· exact rfl))))
    (intro G;simp only [regsT,zAD,zBU,ini,List.nil_append,List.cons_append])
    refine zCd (enc:=encI) (i:=i) (x - (z.sun * m+u.runs * t.we)) rfl rfl rfl rfl rfl rfl rfl rfl (by omega) ?_
    (repeat' (first|(with_reducible first|refine zI ?_|refine zD ?_|refine zA ?_)))
    (refine zAv (by kernel_rfl) (by kernel_rfl) (by kernel_rfl) ?_)
    (repeat' (first|((with_reducible refine zBH ?_);first|refine zW (zAK rfl rfl) rfl rfl rfl ?_|refine zW (zy rfl rfl (by exact rfl)) rfl rfl rfl ?_|refine zW (zAO rfl rfl) rfl rfl rfl ?_|refine zW (zB8 rfl rfl rfl) rfl rfl rfl ?_|refine zBG rfl rfl rfl ?_|(refine zCj rfl rfl rfl rfl rfl rfl rfl (fun h=>?_) (fun h=>?_)<;>(dsimp only [cmpP] at h;(try (exfalso;omega))))|refine zW (zAS (I:=i) rfl rfl rfl (by omega) (by first|omega|(dsimp only;omega))) rfl rfl rfl ?_)|(with_reducible refine zBs ?_)))
    all_goals
     first
      | have hB:bb1=true:=by rw [hbb];simp only [Bool.or_eq_true,Bool.and_eq_true,decide_eq_true_eq];omega
      | have hB:bb1=false:=by rw [hbb,Bool.or_eq_false_iff,Bool.and_eq_false_iff];simp only [decide_eq_false_iff_not];omega
     simp only [hB,if_true,Bool.false_eq_true,if_false,List.append_nil] at hgr
     (repeat' (first|((with_reducible refine zG ?_);first|refine zE rfl rfl rfl rfl rfl ?_|refine zC rfl rfl rfl rfl rfl ?_|(refine zK rfl rfl rfl rfl rfl ?_;refine ⟨_,rfl,?_⟩)|(refine zCL rfl rfl rfl rfl rfl ?_;refine ⟨_,rfl,?_⟩)|(refine zAx (enc:=zAX) [((y:Int),(i:Int))] rfl rfl rfl rfl rfl (by (repeat (first|exact tK1 _ _|apply tK2))) rfl rfl (zAl (enc:=zAX) (by exact rfl)) (by refine ⟨?_,by decide⟩;(try simp only [List.length_append,List.length_cons,List.length_nil,zCk]);omega) (fun A3 c3=>?_))|refine zCd (enc:=encI) (i:=i) (max 0 (x - (z.sun * m+u.runs * t.we))) rfl rfl rfl rfl rfl rfl rfl rfl (by rw [List.length_set];omega) ?_|refine zS rfl rfl rfl rfl rfl rfl (fun _ _ q=>hh9 _ q.below) ?_|refine zj rfl rfl rfl rfl rfl rfl (by omega) ?_|refine zi rfl rfl rfl rfl rfl rfl rfl (by omega) ?_|(refine zz rfl rfl rfl rfl rfl ?_;refine ⟨rfl,_,rfl,fun b=>?_⟩)|refine zJz rfl rfl rfl rfl rfl rfl ?_)|(with_reducible first|refine zI ?_|refine zB ?_|refine zD ?_|refine zA ?_|refine zP ?_|refine zk ?_)|((with_reducible refine zJ ?_ ?_);(· exact rfl))|((with_reducible refine zF ?_ ?_);(· exact rfl))))
     try
      (refine zAd [] [] [] rfl (show ([]:List Nat).Nodup by decide) (fun _ h=>h) (by kernel_rfl) [[],[Y],[Z,Z],[Z,Z,Z],[Y,Y,Y,Y],[Z,Y,Y,Y,Y],[Z,Z,Z,Z,Z,Z],[Z,Z,Z,Z,Z,Z,Z],[Z,Z,Z,Z,Z,Z,Z,Z]] (by kernel_rfl) (by kernel_rfl) (by kernel_rfl) (by kernel_rfl) (by kernel_rfl) ?_)
      (repeat' (first|(((with_reducible refine zCJ ?_ ?_);(· exact rfl);refine ⟨_,fun G=>(by (try simp (decide:=true) only [vis,see,fltT,zAD,Nat.reduceAdd,Nat.reduceSub,if_true,if_false,List.set_cons_zero,List.set_cons_succ,List.set_nil,List.nil_append,List.cons_append]);rfl),?_⟩);first|refine zX _ (fun _=>zAK rfl rfl) (fun _=>rfl) rfl (by first|exact fun _ _ _=>rfl|(intro G G' h;simp (decide:=true) only [h])) ?_|refine zX _ (fun _=>zy rfl rfl (by exact rfl)) (fun _=>rfl) rfl (by first|exact fun _ _ _=>rfl|(intro G G' h;simp (decide:=true) only [h])) ?_|(refine zAb rfl ?_;refine zX _ (fun _=>zAO rfl rfl) (fun _=>rfl) rfl (by first|exact fun _ _ _=>rfl|(intro G G' h;simp (decide:=true) only [h])) ?_)|refine zX _ (fun _=>zDg rfl rfl rfl (IntWalk.i64_in _ (by omega))) (fun _=>rfl) rfl (by first|exact fun _ _ _=>rfl|(intro G G' h;simp (decide:=true) only [h])) ?_|refine zX _ (fun _=>zAS rfl rfl rfl rfl (by omega)) (fun _=>rfl) rfl (by first|exact fun _ _ _=>rfl|(intro G G' h;simp (decide:=true) only [h])) ?_)|((with_reducible refine zBa ?_ ?_);(· exact rfl))))
      (intro G;simp only [regsT,zAD,zBU,ini,List.nil_append,List.cons_append])
      refine zCd (enc:=encI) (i:=i) (max 0 (x - (z.sun * m+u.runs * t.we))+t.la) rfl rfl rfl rfl rfl rfl rfl rfl (by simp;omega) ?_
      (repeat' (first|((with_reducible refine zG ?_);first|refine zE rfl rfl rfl rfl rfl ?_|refine zj rfl rfl rfl rfl rfl rfl (by omega) ?_)|(with_reducible first|refine zB ?_|refine zD ?_|refine zA ?_|refine zk ?_)))
     first|rw [List.append_assoc,← hgr]|rw [← hgr]
     rw [List.set_set]
     try rw [List.set_set]
     rw [hMs]
     first
      | exact zc (ι:=Nat × Value) (i+1,.slice A3 (goS c pl t y++goR c pl t y (i+1)).length c3) (by simp only;omega) (by simp only;omega) (by (first|exact lK1|(repeat (first|exact lK1|(refine zL rfl ?_))))) (by (repeat (first|exact oK1 _|(refine oK2 (by (repeat (first|exact tK1 _ _|apply tK2))) ?_))))
      | exact zc (ι:=Nat × Value) (i+1,v) (by simp only;omega) (by simp only;omega) (by (first|exact lK1|(repeat (first|exact lK1|(refine zL rfl ?_))))) (by (repeat (first|exact oK1 _|(refine oK2 (by (repeat (first|exact tK1 _ _|apply tK2))) ?_))))
  ·obtain rfl:i=c.beds.length:=by omega
   rw [goM_end,← zOk]
   (repeat' (first|((with_reducible refine zG ?_);first|refine zE rfl rfl rfl rfl rfl ?_|refine zC rfl rfl rfl rfl rfl ?_|(refine zQ rfl rfl rfl rfl rfl rfl rfl (fun h=>?_) (fun h=>?_)<;>(dsimp only [cmpP] at h;(try (exfalso;omega))))|(refine zCH encI (e:=3) rfl rfl rfl rfl (fun b=>?_))|(refine zAx (enc:=encI) (goA c pl t (y+1)) rfl rfl rfl rfl rfl (by (repeat (first|exact tK1 _ _|apply tK2))) rfl zCk.symm (fun _ _ h=>zEI (xs:=goA c pl t (y+1)) h (by (repeat (first|exact tK1 _ _|apply tK2)))) (by refine ⟨?_,by decide⟩;(try simp only [List.length_append,List.length_cons,List.length_nil,zCk]);omega) (fun A1 c1=>?_))|(refine zAx (enc:=zAC) [⟨A1,goA c pl t (y+1),c1⟩] rfl rfl rfl rfl rfl (by (repeat (first|exact tK1 _ _|apply tK2))) rfl rfl (zAl (enc:=zAC) (by exact rfl)) (by refine ⟨?_,by decide⟩;(try simp only [List.length_append,List.length_cons,List.length_nil,zCk]);omega) (fun A2 c2=>?_))|refine zj rfl rfl rfl rfl rfl rfl (by omega) ?_|(refine zz rfl rfl rfl rfl rfl ?_;refine ⟨rfl,_,rfl,fun b=>?_⟩))|(with_reducible first|refine zI ?_|refine zB ?_|refine zD ?_|refine zA ?_|refine zn ?_|refine zk ?_|refine zR ?_|refine zY ?_)|((with_reducible refine zF ?_ ?_);(· exact rfl))))
   simp only [List.nil_append]
   refine zB5 (H':=.rows (L++[⟨A1,goA c pl t (y+1),c1⟩])::[.row zAC 1 38 (.slice A2 (L++[(⟨A1,goA c pl t (y+1),c1⟩:Sli)]).length c2) (L++[⟨A1,goA c pl t (y+1),c1⟩]),.row encI 1 3 (.slice (some ⟨gn,0,none⟩) c.beds.length cn) (goA c pl t (y+1)),.row zAX 2 75 v (goS c pl t (y+1)),.blk b4 (zH c A ca B cb (some ⟨bh,oh,none⟩) cc),.blk b3 [.slice TA c.beds.length tc,.slice (some ⟨bm,om,none⟩) c.hours.length mc,.int .i64 t.we,.int .i64 t.la]]) (fun W9 h=>Own.zEg ((h.zCT (enc:=encI) (A:=A1) (by (repeat (first|exact tK1 _ _|apply tK2)))).sub (by (repeat (first|exact oK1 _|(refine oK2 (by (repeat (first|exact tK1 _ _|apply tK2))) ?_)))))) ?_
   exact zc (ι:=Nat × (Option Addr × Nat) × List Sli × Value) (y+1,(A2,c2),L++[⟨A1,goA c pl t (y+1),c1⟩],v) (by exact ⟨by simp only;omega,by simp only [List.map_append,hL];rw [goL_succ (k:=y+1)];rfl⟩) (by simp only;omega) (by (first|exact lK1|(repeat (first|exact lK1|(refine zL rfl ?_))))) (by (repeat (first|exact oK1 _|(refine oK2 (by (repeat (first|exact tK1 _ _|apply tK2))) ?_))))
 ·obtain rfl:y=c.hours.length:=by omega
  refine zDJ (xs:=goS c pl t c.hours.length) (enc:=zAX) (by (repeat (first|exact tK1 _ _|apply tK2))) ?_
  rintro A7 c7 rfl
  (repeat' (first|((with_reducible refine zG ?_);first|refine zE rfl rfl rfl rfl rfl ?_|refine zC rfl rfl rfl rfl rfl ?_|(refine zQ rfl rfl rfl rfl rfl rfl rfl (fun h=>?_) (fun h=>?_)<;>(dsimp only [cmpP] at h;(try (exfalso;omega)))))|(with_reducible first|refine zI ?_|refine zB ?_|refine zD ?_|refine zA ?_|refine zb ?_|refine zn ?_|refine zR ?_|refine zY ?_)|((with_reducible refine zF ?_ ?_);(· exact rfl))))
  exact zT (by (exact zO.cons (by exact zq.tmp rfl) (zO.cons (by exact zq.tmp rfl) zO.nil))) (((A6,c6),L),(A7,c7)) hL rfl (fun _ h=>((h.zCT (enc:=zAC) (by (repeat (first|exact tK1 _ _|apply tK2)))).zCT (enc:=zAX) (by (repeat (first|exact tK1 _ _|apply tK2)))).sub (by (repeat (first|exact oK1 _|(refine oK2 (by (repeat (first|exact tK1 _ _|apply tK2))) ?_)))))
end Go.Proofs.YtdigopgncfhiaaaGreatDoor.Two
namespace Go.Proofs.YtdigopgncfhiaaaGreatDoor
variable {ro : Option Nat}
open Go.RowKit
set_option maxRecDepth 20000
section
variable {c : Cov} {pl pl':List Sli} {t:Tru}
theorem zI2 (h:pl.map Sli.xs=pl'.map Sli.xs) {z:Bed} {i:Nat}:∀ k,goT c pl t z i k=goT c pl' t z i k
 | 0=>rfl
 | k+1=>by simp only [goT];rw [zI2 h k,zJo h]
theorem zRs (h:pl.map Sli.xs=pl'.map Sli.xs) {k:Nat}:goA c pl t k=goA c pl' t k:=by
 unfold goA;simp only [zI2 h]
theorem zRr (h:pl.map Sli.xs=pl'.map Sli.xs) {k:Nat}:goL c pl t k=goL c pl' t k:=by
 unfold goL
 exact List.map_congr_left fun _ _=>zRs h
theorem zRq (h:pl.map Sli.xs=pl'.map Sli.xs) {k:Nat}:goS c pl t k=goS c pl' t k:=by
 unfold goS goR goB;simp only [zI2 h]
end
theorem zPq (c:Cov) (A:Option Addr) (ca:Nat) (B:Option Addr) (cb:Nat) (C:Option Addr) (cc:Nat) (t:Tru) (TA:Option Addr) (tc:Nat) (MA:Option Addr) (mc:Nat) (xss:List (List Int)) (P:Option Addr) (cp:Nat) (w:World) (hc:zAU w c A B C) (hs:Small c) (hf:zBl c) (ht:zFv c t) (hb0:0<c.beds.length) (hT:zAB encI 1 w TA t.th) (hM:zAB encI 1 w MA t.me) (hp:∃ pl:List Sli,pl.map Sli.xs=(zm xss).map Sli.xs∧zAu w P pl) (hl:xss.length=c.hours.length) (hr:∀ r∈xss,r.length≤20) :
  Ret Tryz.prog 19 [.agg (zHC t TA tc MA mc).toArray,zAI c A ca B cb C cc,.slice P c.hours.length cp] w (fun z:((Option Addr × Nat) × List Sli) × (Option Addr × Nat)=>.tuple #[.slice z.1.1.1 (c.hours.length+1) z.1.1.2,.slice z.2.1 (goS c (zm xss) t c.hours.length).length z.2.2]) (fun z=>[.sl zAC 1 z.1.1.1 z.1.2,.rows z.1.2,.sl zAX 2 z.2.1 (goS c (zm xss) t c.hours.length)]) (fun z=>z.1.2.map Sli.xs=goL c (zm xss) t (c.hours.length+1)):=by
 obtain ⟨pl,hx,hp⟩:=hp
 have hpl:pl.length=c.hours.length:=by rw [zDU hx];exact hl
 have h:=Two.zRh c A ca B cb C cc t TA tc MA mc pl P cp w hc hs hf ht hb0 hT hM hp hpl (zFy hx hr)
 rw [hpl,zRq hx,zRr hx] at h
 refine h.conv fun z hz=>⟨z,hz,?_,fun _ h=>h⟩
 have:z.1.2.length=c.hours.length+1:=by have:=congrArg List.length hz;simpa [goL] using this
 simp only [this]
instance : Ctb Sli:=zNR (α:=Option Addr × List Int × Nat) (fun p=>⟨p.1,p.2.1,p.2.2⟩) fun z=>⟨(z.A,z.xs,z.c),rfl⟩
class zQG (H:List Ent) (L:outParam (List Sli)) (H':outParam (List Ent)):Prop where tk:Take H (.rows L) H'
instance (priority := high) takeRs_here {H:List Ent} {L:List Sli}:zQG (.rows L::H) L H:=⟨Take.here _ _⟩
instance takeRs_there {H H':List Ent} {f:Ent} {L:List Sli} [i:zQG H L H']:zQG (f::H) L (f::H'):=⟨Take.there _ i.tk⟩
class RowE (H:List Ent) (b off:Nat) (xs:outParam (List Int)):Prop where sl:∀ base w,Own base w H→zAB encI 1 w (some ⟨b,off,none⟩) xs
instance (priority := low) srcI_rows {w0:World} {H:List Ent} {b off i:Nat} {xs:List Int} {x:Int} [i1:RowE H b off xs] [i2:zAR xs i x]:zHF w0 H b (off+i * 1) (encI x):=⟨fun w hb ho j v hv=>by
 obtain ⟨b',o',hA,hlt,hc⟩:=i1.sl _ w ho i x i2.get
 cases hA
 exact hc j v hv⟩
theorem rowE_of {H H':List Ent} {L:List Sli} {s:Sli} {b off:Nat} (ht:Take H (.rows L) H') (hm:s∈L) (hA:s.A=some ⟨b,off,none⟩):RowE H b off s.xs:=⟨fun base w ho=>by
 have h:=(ho.here _ ht.mem:∀ s∈L,zAB encI 1 w s.A s.xs) s hm
 rw [hA] at h
 exact h⟩
instance (priority := low) rowE_cons {H:List Ent} {e:Ent} {b off:Nat} {xs:List Int} [i:RowE H b off xs]:RowE (e::H) b off xs:=⟨fun base w ho=>i.sl base w ho.tail⟩
class RowIs (L:List Sli) (b off:Nat) (xs:outParam (List Int)):Prop where mem:∃ s∈L,s.A=some ⟨b,off,none⟩∧s.xs=xs
instance (priority := high) rowE_here {H:List Ent} {L:List Sli} {b off:Nat} {xs:List Int} [i:RowIs L b off xs]:RowE (.rows L::H) b off xs:=⟨fun base w ho=>by
 obtain ⟨s,hm,hA,rfl⟩:=i.mem
 exact (rowE_of (Take.here _ _) hm hA).sl base w ho⟩
theorem zMp {w0:World} {n:Nat} {d:List Deferred} {R:List (Nat × Value)} {H H':List Ent} {X:Act→World→Prop} {L:List Sli} {s:Sli} (ht:Take H (.rows L) H') (hm:s∈L) (h0:0<s.xs.length) (h:∀ b o,s.A=some ⟨b,o,none⟩→U w0 n d R H X):U w0 n d R H X:=fun a w q=>by
 obtain ⟨b,o,hA,_⟩:=zAB.at_ ((q.own.here _ ht.mem:∀ s∈L,zAB encI 1 w s.A s.xs) s hm) h0
 exact h b o hA a w q
theorem zPH {c:Cov} {pl:List Sli} {t:Tru} (h:zCG c pl=0) (hf:zBl c) (ht:zFv c t):(zBR c pl=0∨zBR c pl=1∨zBR c pl=2)∧(zBR c pl=2↔(zAg c pl zAZ).length=0)∧(zBR c pl=2→(goS c pl t c.hours.length).length=0)∧(zBR c pl=0→0<(goS c pl t c.hours.length).length):=by
 have h1:(zAg c pl zAZ).length=0→(goS c pl t c.hours.length).length=0:=fun h=>by
  rw [List.length_eq_zero_iff] at h ⊢
  rw [List.eq_nil_iff_forall_not_mem]
  intro p hp
  have:=zKt hf ht hp
  rw [h] at this
  cases this
 have h2:(zAg c pl zDH).length≠0→0<(goS c pl t c.hours.length).length:=fun h=>by
  obtain ⟨p,hp⟩:=List.exists_mem_of_length_pos (show 0<(zAg c pl zDH).length by omega)
  exact List.length_pos_of_mem (zQj hf ht hp)
 unfold zBR
 rw [if_pos h]
 by_cases h3:(zAg c pl zAZ).length=0
 ·simp [h3,h1 h3]
 ·rw [if_neg h3]
  by_cases h4:(zAg c pl zDH).length=0
  ·simp [h3,h4]
  ·simp [h3,h4,h2 h4]
end Go.Proofs.YtdigopgncfhiaaaGreatDoor
namespace Go.Proofs.YtdigopgncfhiaaaGreatDoor.Two
variable {ro : Option Nat}
open Go.RowKit
set_option maxRecDepth 20000
set_option maxHeartbeats 8000000 in
theorem zOb (c:Cov) (A:Option Addr) (ca:Nat) (B:Option Addr) (cb:Nat) (C:Option Addr) (cc:Nat) (ch:List Int) (D:Option Addr) (cd:Nat) (w:World) (hc:zAU w c A B C) (hfit:zE0 c.t) (hD:zAB zHE 1 w D ch) (hfu:zJB ch) (hG:InC w 0 0 zB7) :
  Gv Tryz.prog 3 [zAI c A ca B cb C cc,.slice D ch.length cd] w (.bool true):=by
 have hAl:=fun W (hW:Below w.heap.size w W)=>zCu W (hG.below hW)
 have hR:=fun W (hW:Below w.heap.size w W)=>zCt c A ca B cb C cc W (hc.below hW) hfit
 cases hr:zDK c
 ·rw [hr] at hR
  unfold zAI zH at hR ⊢
  unfold Gv
  (refine zM (n:=138) Tryz.func3 rfl rfl rfl ?_)
  (repeat' (first|((with_reducible refine zG ?_);first|refine zE rfl rfl rfl rfl rfl ?_|refine zC rfl rfl rfl rfl rfl ?_|(refine zK rfl rfl rfl rfl rfl ?_;refine ⟨_,rfl,?_⟩)|refine zS rfl rfl rfl rfl rfl rfl (fun _ _ q=>hAl _ q.below) ?_|refine zS rfl rfl rfl rfl rfl rfl (fun _ _ q=>hR _ q.below) ?_|refine zAh rfl rfl rfl rfl rfl ?_|(refine zAM rfl rfl rfl rfl rfl rfl (fun b=>?_)))|(with_reducible first|refine zI ?_|refine zB ?_|refine zD ?_|refine zA ?_|refine zb ?_|refine zP ?_|refine zd ?_)|((with_reducible refine zJ ?_ ?_);(· exact rfl))|((with_reducible refine zF ?_ ?_);(· exact rfl))))
  all_goals exact zT (by (exact zO.cons (by exact zq.tmp rfl) zO.nil)) () trivial rfl (fun _ _=>Own.nil _ _)
 rw [hr] at hR
 have hs:=zCU hr hfit
 have h0:=(zCV.1 hr).2
 have hf:=zA1 h0
 have h4:=hs.b;have h5:=hs.h
 have hh1:=hf.hours
 rw [zAA] at hh1
 have hb0:=zFu h0
 have hyo:=zGh (ch:=ch) (f:=0) hf
 have hyl:(zZ c ch 0).length=c.hours.length:=zBQ
 have hyr:∀ r∈zZ c ch 0,r.length≤20:=fun r hr=>Nat.le_trans (zEv r hr) h4
 have hDr:=fun W (hW:Below w.heap.size w W)=>zHg c A ca B cb C cc ch D cd 0 W (hc.below hW) hs (hD.below hW) hfu (by omega)
 have hTo:=zSF (c:=c) (ch:=ch) (f:=7) hf
 have hCh:∀ W,Below w.heap.size w W→Ret Tryz.prog 18 [zAI c A ca B cb C cc,.slice D ch.length cd,.int .i64 (7:Int)] W (fun z:(Option Addr × Nat) × (Option Addr × Nat)=>.agg (zHC (zBp c ch 7) z.1.1 z.1.2 z.2.1 z.2.2).toArray) (fun z=>[.sl encI 1 z.1.1 (zBp c ch 7).th,.sl encI 1 z.2.1 (zBp c ch 7).me]) (fun _=>True):=fun W hW=>zOa c A ca B cb C cc ch D cd 7 W (hc.below hW) hs hf (hD.below hW) hfu (by omega)
 have hek:=zC7 h0 hyo
 have hSf:=zPH hek hf hTo
 have hGi:=fun i h (hi:i<c.beds.length) hh=>zKu (pl:=zm (zZ c ch 0)) hf hTo (i:=i) hi h hh
 have hwi:∀ p∈goS c (zm (zZ c ch 0)) (zBp c ch 7) c.hours.length,p∈zAg c (zm (zZ c ch 0)) zAZ:=fun p hp=>zKt hf hTo hp
 have hgl:=zNH (c:=c) (pl:=zm (zZ c ch 0)) (t:=zBp c ch 7) c.hours.length
 have hml:c.hours.length * c.beds.length≤12 * 20:=Nat.mul_le_mul h5 h4
 have hgo:=fun W (hW:Below w.heap.size w W) TA tc MA mc P cp h1 h2 hp=>zPq c A ca B cb C cc (zBp c ch 7) TA tc MA mc (zZ c ch 0) P cp W (hc.below hW) hs hf hTo hb0 h1 h2 hp hyl hyr
 have hTh:=fun W (hW:Below w.heap.size w W) P cp hp=>zIy c A ca B cb C cc (zZ c ch 0) P cp W (hc.below hW) hs hp (by omega) hyr (hG.below hW)
 have hSa:=fun W (hW:Below w.heap.size w W) P cp hp=>zFJ c A ca B cb C cc (zZ c ch 0) P cp W (hc.below hW) hs hp (by omega) hyr (hG.below hW)
 have hTk:=fun W (hW:Below w.heap.size w W) P cp hp (i k:Nat) (hi:i<c.beds.length) (hk:k≤c.hours.length)=>by
  have:=zD5 c A ca B cb C cc (zZ c ch 0) P cp W (hc.below hW) hs hp (by omega) hyr (i:Int) (k:Int)
  rw [zFQ hek hi hk] at this
  exact this
 have hth:zDl c (zm (zZ c ch 0))=zAg c (zm (zZ c ch 0)) zAZ:=by unfold zDl;rw [if_pos hek]
 have htl:=zGt (c:=c) (pl:=zm (zZ c ch 0)) (en:=zAZ) (by exact h4) (by exact h5)
 rw [hek,hth] at hTh
 rw [hek] at hSa
 rw [hyl] at hTh hSa hTk
 have hWi:=fun W X cx Y cy (h1:zAB zAX 2 W X (goS c (zm (zZ c ch 0)) (zBp c ch 7) c.hours.length)) (h2:zAB zAX 2 W Y (zAg c (zm (zZ c ch 0)) zAZ))=>zO8 _ _ X cx Y cy W h1 h2 (by omega) (by omega) hwi
 have hLat:∀ y i,y≤c.hours.length→i<c.beds.length→(goL c (zm (zZ c ch 0)) (zBp c ch 7) (c.hours.length+1))[y]?=some (goA c (zm (zZ c ch 0)) (zBp c ch 7) y)∧(goA c (zm (zZ c ch 0)) (zBp c ch 7) y)[i]?=some (goT c (zm (zZ c ch 0)) (zBp c ch 7) (c.beds.getD i default) i y):=fun y i hy hi=>by
  refine ⟨?_,zNI hi⟩
  unfold goL
  rw [List.getElem?_map,List.getElem?_range (by omega)];rfl
 have hgz:(goL c (zm (zZ c ch 0)) (zBp c ch 7) (c.hours.length+1)).length=c.hours.length+1:=by simp [goL]
 have hAl2:=fun y=>zCk (c:=c) (pl:=zm (zZ c ch 0)) (t:=zBp c ch 7) (h:=y)
 generalize zBR c (zm (zZ c ch 0))=sf at *
 generalize goS c (zm (zZ c ch 0)) (zBp c ch 7) c.hours.length=gS at *
 generalize zAg c (zm (zZ c ch 0)) zAZ=tS at *
 generalize goA c (zm (zZ c ch 0)) (zBp c ch 7)=gA at *
 generalize goL c (zm (zZ c ch 0)) (zBp c ch 7) (c.hours.length+1)=gL at *
 generalize goT c (zm (zZ c ch 0)) (zBp c ch 7)=gT at *
 generalize zZ c ch 0=yss at *
 generalize zBp c ch 7=T at *
 unfold zAI at hR hDr hCh hgo hTh hSa hTk
 unfold zH at hR hDr hCh hgo hTh hSa hTk
 unfold vSp at hTk
 unfold Gv zAI zH
 (refine zM (n:=138) Tryz.func3 rfl rfl rfl ?_)
 (repeat' (first|((with_reducible refine zG ?_);first|refine zE rfl rfl rfl rfl rfl ?_|refine zC rfl rfl rfl rfl rfl ?_|(refine zK rfl rfl rfl rfl rfl ?_;refine ⟨_,rfl,?_⟩)|refine zS rfl rfl rfl rfl rfl rfl (fun _ _ q=>hAl _ q.below) ?_|refine zS rfl rfl rfl rfl rfl rfl (fun _ _ q=>hR _ q.below) ?_|(refine zAG rfl rfl rfl rfl rfl rfl (fun _ _ q=>hDr _ q.below) ?_;rintro ⟨pg,pn,P,cp⟩ -;dsimp only [List.cons_append,List.nil_append])|refine zAh rfl rfl rfl rfl rfl ?_|(refine zAM rfl rfl rfl rfl rfl rfl (fun b=>?_)))|(with_reducible first|refine zI ?_|refine zB ?_|refine zD ?_|refine zA ?_|refine zP ?_)|((with_reducible refine zF ?_ ?_);(· exact rfl))))
 (refine zAd [] [] [] rfl (show ([]:List Nat).Nodup by decide) (fun _ h=>h) (by kernel_rfl) [[],[Y],[Z,Z],[Y,Y,Y],[Y,Y,Y,Y],[Z,Z,Z,Z,Z],[Z,Z,Z,Z,Z,Z],[Z,Z,Z,Z,Z,Z,Z],[Y,Z,Z,Z,Z,Z,Z,Z],[Y,Z,Z,Z,Z,Z,Z,Z,Z],[Z,Z,Z,Z,Z,Z,Z,Z,Z,Z]] (by kernel_rfl) (by kernel_rfl) (by kernel_rfl) (by kernel_rfl) (by kernel_rfl) ?_)
 (repeat' (first|(((with_reducible refine zCJ ?_ ?_);(· exact rfl);refine ⟨_,fun G=>(by (try simp (decide:=true) only [vis,see,fltT,zAD,Nat.reduceAdd,Nat.reduceSub,if_true,if_false,List.set_cons_zero,List.set_cons_succ,List.set_nil,List.nil_append,List.cons_append]);rfl),?_⟩);first|refine zX _ (fun _=>zAK rfl rfl) (fun _=>rfl) rfl (by first|exact fun _ _ _=>rfl|(intro G G' h;simp (decide:=true) only [h])) ?_|refine zX _ (fun _=>zy rfl rfl (by exact rfl)) (fun _=>rfl) rfl (by first|exact fun _ _ _=>rfl|(intro G G' h;simp (decide:=true) only [h])) ?_|refine zX _ (fun _=>zBK rfl rfl) (fun _=>rfl) rfl (by first|exact fun _ _ _=>rfl|(intro G G' h;simp (decide:=true) only [h])) ?_|(refine zGk (α:=(Option Addr × Nat) × (Option Addr × Nat)) rfl (fun _=>rfl) rfl (fun _=>rfl) (fun _=>rfl) (fun _ _ _ q=>hCh _ q.below) ?_)|(refine zGk (α:=((Option Addr × Nat) × List Sli) × (Option Addr × Nat)) rfl (fun _=>rfl) rfl (fun _=>rfl) (fun _=>rfl) (fun _ _ _ q=>hgo _ q.below _ _ _ _ _ _ (zAL q.own (Below.refl _ _)) (zAL q.own (Below.refl _ _)) (zBJ q.own (by (repeat (first|exact tK1 _ _|apply tK2))))) ?_)|refine zX _ (fun _=>zCR rfl rfl rfl) (fun _=>rfl) rfl (by first|exact fun _ _ _=>rfl|(intro G G' h;simp (decide:=true) only [h])) ?_)|(with_reducible refine zFr ?_)))
 (intro G;simp only [regsT,zAD,zBU,ini,List.nil_append,List.cons_append])
 generalize deC (((Option Addr × Nat) × List Sli) × Option Addr × Nat) _=z2
 obtain ⟨⟨⟨A6,c6⟩,L⟩,A7,c7⟩:=z2
 refine zMr (by (repeat (first|exact tK1 _ _|apply tK2))) fun hL=>?_
 simp only at hL
 simp only
 (repeat' (first|((with_reducible refine zG ?_);first|refine zE rfl rfl rfl rfl rfl ?_|refine zC rfl rfl rfl rfl rfl ?_|(refine zK rfl rfl rfl rfl rfl ?_;refine ⟨_,rfl,?_⟩)|refine zAf rfl rfl rfl rfl rfl rfl ?_|refine zAT rfl rfl rfl ?_|(refine zQ rfl rfl rfl rfl rfl rfl rfl (fun h=>?_) (fun h=>?_)<;>(dsimp only [cmpP] at h;(try (exfalso;omega))))|(refine zAG rfl rfl rfl rfl rfl rfl (fun _ _ q=>hTh _ q.below _ _ (zBJ q.own (by (repeat (first|exact tK1 _ _|apply tK2))))) ?_;rintro ⟨A8,c8⟩ -;dsimp only [List.cons_append,List.nil_append])|refine zS rfl rfl rfl rfl rfl rfl (fun _ _ q=>hSa _ q.below _ _ (zBJ q.own (by (repeat (first|exact tK1 _ _|apply tK2))))) ?_|refine zS rfl rfl rfl rfl rfl rfl (fun _ _ q=>hWi _ _ _ _ _ (zAL q.own (Below.refl _ _)) (zAL q.own (Below.refl _ _))) ?_|refine zAe rfl rfl rfl (zOv rfl rfl rfl) ?_|refine zg rfl rfl rfl rfl rfl rfl ?_|refine zAh rfl rfl rfl rfl rfl ?_|refine zr rfl rfl rfl rfl rfl ?_)|(with_reducible first|refine zI ?_|refine zB ?_|refine zD ?_|refine zA ?_|refine zP ?_|refine zN ?_)|((with_reducible refine zF ?_ ?_);(· exact rfl))))
 all_goals
  have hLl:L.length=c.hours.length+1:=by rw [← hgz,← hL,List.length_map]
  refine zu (ι:=Nat) [2,5,6,7,91] rfl (fun y=>y≤c.hours.length+1) (fun y=>[(92,.int .i64 (y:Int))]) (fun _=>[.zEL pg pn P yss,.sl zAC 1 A6 L,.rows L,.blk b [.slice A c.t.length ca,.slice B c.beds.length cb,.slice C c.hours.length cc,.int .i64 c.wear.lo,.int .i64 c.wear.hi,.int .i64 c.layer.lo,.int .i64 c.layer.hi,.int .i64 c.rate,.int .i64 c.limit,.int .i64 c.base]]) (fun y=>c.hours.length+1 - y) 0 (Nat.zero_le _) (by (first|exact lK1|(repeat (first|exact lK1|(refine zL rfl ?_))))) (by (repeat (first|exact oK1 _|(refine oK2 (by (repeat (first|exact tK1 _ _|apply tK2))) ?_)))) ?_
  rintro y hy
  simp only [zAq,List.cons_append,List.nil_append]
  by_cases hyl:y<c.hours.length+1
  ·obtain ⟨s,hs1⟩:∃ s,L[y]?=some s:=⟨_,List.getElem?_eq_getElem (by omega)⟩
   have hsx:s.xs=gA y:=by
    have h1:=(hLat y 0 (by omega) hb0).1
    rw [← hL,List.getElem?_map,hs1] at h1
    exact Option.some.inj h1
   have hsl:s.xs.length=c.beds.length:=by rw [hsx];exact hAl2 y
   have hsm:=List.mem_of_getElem? hs1
   have:zAR L y s:=⟨hs1⟩
   refine zEb (enc:=zAC) (A:=A6) (xs:=L) (by (repeat (first|exact tK1 _ _|apply tK2))) (by omega) ?_
   rintro ba oa rfl
   refine zMp (s:=s) (by (repeat (first|exact tK1 _ _|apply tK2))) hsm (by omega) ?_
   rintro bs os hA
   have hRI:RowIs L bs os s.xs:=⟨s,hsm,hA,rfl⟩
   obtain ⟨sA,sx,sc⟩:=s
   simp only at hA hsx hsl hRI
   subst hA
   (repeat' (first|((with_reducible refine zG ?_);first|refine zE rfl rfl rfl rfl rfl ?_|refine zC rfl rfl rfl rfl rfl ?_|(refine zK rfl rfl rfl rfl rfl ?_;refine ⟨_,rfl,?_⟩)|refine ze rfl rfl rfl rfl rfl ?_|(refine zQ rfl rfl rfl rfl rfl rfl rfl (fun h=>?_) (fun h=>?_)<;>(dsimp only [cmpP] at h;(try (exfalso;omega))))|refine zr rfl rfl rfl rfl rfl ?_)|(with_reducible first|refine zI ?_|refine zB ?_|refine zD ?_|refine zA ?_|refine zP ?_|refine zN ?_)|((with_reducible refine zJ ?_ ?_);(· exact rfl))))
   refine zu (ι:=Nat) [2,5,6,7,13,91,92,97] rfl (fun i=>i≤c.beds.length) (fun i=>[(98,.int .i64 (i:Int))]) (fun _=>[.zEL pg pn P yss,.sl zAC 1 (some ⟨ba,oa,none⟩) L,.rows L,.blk b [.slice A c.t.length ca,.slice B c.beds.length cb,.slice C c.hours.length cc,.int .i64 c.wear.lo,.int .i64 c.wear.hi,.int .i64 c.layer.lo,.int .i64 c.layer.hi,.int .i64 c.rate,.int .i64 c.limit,.int .i64 c.base]]) (fun i=>c.beds.length - i) 0 (Nat.zero_le _) (by (first|exact lK1|(repeat (first|exact lK1|(refine zL rfl ?_))))) (by (repeat (first|exact oK1 _|(refine oK2 (by (repeat (first|exact tK1 _ _|apply tK2))) ?_)))) ?_
   rintro i hi
   simp only [zAq,List.cons_append,List.nil_append]
   by_cases hil:i<c.beds.length
   ·have hx:=(hLat y i (by omega) hil).2
    rw [← hsx] at hx
    have hTki:=fun W hW P cp hp=>hTk W hW P cp hp i y hil (by omega)
    have hin:=hGi i y hil (by omega)
    generalize gT (c.beds.getD i default) i y=x at *
    generalize thickN c (zm yss) (c.beds.getD i default) (i:Int) y=tk at *
    have:zAR sx i x:=⟨hx⟩
    (repeat' (first|((with_reducible refine zG ?_);first|refine zE rfl rfl rfl rfl rfl ?_|refine zC rfl rfl rfl rfl rfl ?_|(refine zK rfl rfl rfl rfl rfl ?_;refine ⟨_,rfl,?_⟩)|(refine zQ rfl rfl rfl rfl rfl rfl rfl (fun h=>?_) (fun h=>?_)<;>(dsimp only [cmpP] at h;(try (exfalso;omega))))|refine zS rfl rfl rfl rfl rfl rfl (fun _ _ q=>hTki _ q.below _ _ (zBJ q.own (by (repeat (first|exact tK1 _ _|apply tK2))))) ?_|refine zg rfl rfl rfl rfl rfl rfl ?_|(refine zf rfl rfl rfl rfl rfl ?_;refine And.intro rfl (And.intro (by first|decide|exact Nat.le_of_ble_eq_true rfl|(simp;omega)) ⟨_,rfl,?_⟩))|(refine zo rfl rfl rfl rfl (fun b=>?_)))|(with_reducible first|refine zI ?_|refine zB ?_|refine zD ?_|refine zA ?_|refine zP ?_|refine zN ?_)|((with_reducible refine zJ ?_ ?_);(· exact rfl))))
    (refine zAv (by kernel_rfl) (by kernel_rfl) (by kernel_rfl) ?_)
    (repeat' (first|((with_reducible refine zBH ?_);first|refine zW (zAK rfl rfl) rfl rfl rfl ?_|refine zW (zy rfl rfl (by exact rfl)) rfl rfl rfl ?_|refine zW (zAO rfl rfl) rfl rfl rfl ?_|refine zW (zB8 rfl rfl rfl) rfl rfl rfl ?_|(refine zCj rfl rfl rfl rfl rfl rfl rfl (fun h=>?_) (fun h=>?_)<;>(dsimp only [cmpP] at h;(try (exfalso;omega))))|refine zW (zAS (I:=y) rfl rfl rfl (by omega) (by first|omega|(dsimp only;omega))) rfl rfl rfl ?_|refine zW (zAS (I:=i) rfl rfl rfl (by omega) (by first|omega|(dsimp only;omega))) rfl rfl rfl ?_)|(with_reducible refine zBs ?_)))
    (repeat' (first|((with_reducible refine zG ?_);first|refine zE rfl rfl rfl rfl rfl ?_|refine zj rfl rfl rfl rfl rfl rfl (by omega) ?_)|(with_reducible first|refine zB ?_|refine zD ?_|refine zA ?_|refine zP ?_|refine zk ?_)|((with_reducible refine zF ?_ ?_);(· exact rfl))))
    exact zc (ι:=Nat) (i+1) (by omega) (by omega) (by (first|exact lK1|(repeat (first|exact lK1|(refine zL rfl ?_))))) (by (repeat (first|exact oK1 _|(refine oK2 (by (repeat (first|exact tK1 _ _|apply tK2))) ?_))))
   ·obtain rfl:i=c.beds.length:=by omega
    (repeat' (first|((with_reducible refine zG ?_);first|refine zE rfl rfl rfl rfl rfl ?_|(refine zQ rfl rfl rfl rfl rfl rfl rfl (fun h=>?_) (fun h=>?_)<;>(dsimp only [cmpP] at h;(try (exfalso;omega))))|refine zj rfl rfl rfl rfl rfl rfl (by omega) ?_)|(with_reducible first|refine zI ?_|refine zB ?_|refine zD ?_|refine zA ?_|refine zn ?_|refine zk ?_|refine zR ?_|refine zY ?_)|((with_reducible refine zF ?_ ?_);(· exact rfl))))
    exact zc (ι:=Nat) (y+1) (by omega) (by omega) (by (first|exact lK1|(repeat (first|exact lK1|(refine zL rfl ?_))))) (by (repeat (first|exact oK1 _|(refine oK2 (by (repeat (first|exact tK1 _ _|apply tK2))) ?_))))
  ·obtain rfl:y=c.hours.length+1:=by omega
   (repeat' (first|((with_reducible refine zG ?_);first|refine zE rfl rfl rfl rfl rfl ?_|refine zC rfl rfl rfl rfl rfl ?_|(refine zQ rfl rfl rfl rfl rfl rfl rfl (fun h=>?_) (fun h=>?_)<;>(dsimp only [cmpP] at h;(try (exfalso;omega)))))|(with_reducible first|refine zI ?_|refine zB ?_|refine zD ?_|refine zA ?_|refine zb ?_|refine zn ?_|refine zR ?_|refine zY ?_)|((with_reducible refine zF ?_ ?_);(· exact rfl))))
   exact zT (by (exact zO.cons (by exact zq.tmp rfl) zO.nil)) () trivial rfl (fun _ _=>Own.nil _ _)
end Go.Proofs.YtdigopgncfhiaaaGreatDoor.Two
