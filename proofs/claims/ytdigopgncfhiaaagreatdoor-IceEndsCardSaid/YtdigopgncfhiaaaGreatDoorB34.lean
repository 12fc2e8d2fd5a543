/- B34 -/
import Derived.Test.YtdigopgncfhiaaaGreatDoorB6
import Derived.Test.YtdigopgncfhiaaaGreatDoorB11
import Derived.Test.YtdigopgncfhiaaaGreatDoorB1
import Derived.Test.YtdigopgncfhiaaaGreatDoorB10
import Derived.Test.YtdigopgncfhiaaaGreatDoorB8
import Derived.Test.YtdigopgncfhiaaaGreatDoorB33
import Derived.Test.YtdigopgncfhiaaaGreatDoorB14
import Derived.Test.YtdigopgncfhiaaaGreatDoorB18
import Derived.Test.YtdigopgncfhiaaaGreatDoorB15
import Derived.Test.YtdigopgncfhiaaaGreatDoorB29
import Derived.Test.YtdigopgncfhiaaaGreatDoorB30
set_option linter.unusedSimpArgs false
set_option linter.unusedVariables false
namespace Go.Proofs.YtdigopgncfhiaaaGreatDoor
open Go.RowKit
set_option maxRecDepth 20000
def zGq (t:Tru) (TA:Option Addr) (tc:Nat) (MA:Option Addr) (mc:Nat):List Value:=[.slice TA t.th.length tc,.slice MA t.me.length mc,.int .i64 t.we,.int .i64 t.la]
def goL (c:Cov) (pl:List Sli) (t:Tru) (k:Nat):List (List Int):=(List.range k).map (goA c pl t)
theorem goL_succ {c:Cov} {pl:List Sli} {t:Tru} {k:Nat}:goL c pl t (k+1)=goL c pl t k++[goA c pl t k]:=by simp [goL,List.range_succ]
end Go.Proofs.YtdigopgncfhiaaaGreatDoor
namespace Go.Proofs.YtdigopgncfhiaaaGreatDoor.Two
variable {ro : Option Nat}
open Go.RowKit
set_option maxRecDepth 20000
set_option maxHeartbeats 8000000 in
theorem zQq (c:Cov) (A:Option Addr) (ca:Nat) (B:Option Addr) (cb:Nat) (C:Option Addr) (cc:Nat) (t:Tru) (TA:Option Addr) (tc:Nat) (MA:Option Addr) (mc:Nat) (pl:List Sli) (P:Option Addr) (cp:Nat) (w:World) (hc:zAl w c A B C) (hs:Small c) (hf:zBm c) (ht:zFa c t) (hb0:0<c.beds.length) (hT:zAB encI 1 w TA t.th) (hM:zAB encI 1 w MA t.me) (hp:zBA w P pl) (hl:pl.length=c.hours.length) (hrl:∀ s∈pl,s.xs.length≤20) :
  Ret Tryz.prog 19 [.agg (zGq t TA tc MA mc).toArray,zAQ c A ca B cb C cc,.slice P pl.length cp] w (fun z:((Option Addr × Nat) × List Sli) × (Option Addr × Nat)=>.tuple #[.slice z.1.1.1 z.1.2.length z.1.1.2,.slice z.2.1 (goS c pl t c.hours.length).length z.2.2]) (fun z=>[.sl zAA 1 z.1.1.1 z.1.2,.rows z.1.2,.sl zAW 2 z.2.1 (goS c pl t c.hours.length)]) (fun z=>z.1.2.map Sli.xs=goL c pl t (c.hours.length+1)):=by
 have h4:=hs.b;have h5:=hs.h
 have hb:=hc.b;have hh:=hc.h
 have hpp:=hp.p
 have htl:=ht.tl;have hml:=ht.ml
 have eA0:t.th=goA c pl t 0:=by
  apply List.ext_getElem?
  intro i
  by_cases hi:i<c.beds.length
  ·rw [zMk hi]
   show t.th[i]?=some (t.th.getD i 0)
   rw [Flow.zm zRU,List.getElem?_eq_getElem zRU]
  ·rw [List.getElem?_eq_none zRU,List.getElem?_eq_none (by rw [zCY];omega)]
 unfold zAQ zH zGq
 rw [htl,hml]
 have hmz:=fun i=>goT_room (pl:=pl) hf ht (i:=i)
 (refine zM (n:=118) Tryz.func19 rfl rfl rfl ?_)
 refine zCE zAA 1 38 ?_
 refine zCE zAW 2 75 ?_
 (repeat' (first|((with_reducible refine zG ?_);first|refine zE rfl rfl rfl rfl rfl ?_|refine zC rfl rfl rfl rfl rfl ?_|(refine zK rfl rfl rfl rfl rfl ?_;refine ⟨_,rfl,?_⟩)|refine zd rfl rfl rfl rfl rfl ?_|(refine zB9 encI (e:=3) rfl rfl rfl rfl (fun b=>?_))|(refine zAq (enc:=encI) t.th rfl rfl rfl rfl rfl zRT rfl htl.symm (zEu hT) (by refine ⟨?_,by decide⟩;(try simp only [List.length_append,List.length_cons,List.length_nil,zCY]);omega) (fun An cn=>?_))|(refine zAI rfl rfl rfl rfl rfl rfl (fun b=>?_)))|(with_reducible first|refine zI ?_|refine zB ?_|refine zD ?_|refine zA ?_)))
 obtain ⟨bx,hbx⟩:∃ x,x=b:=⟨_,rfl⟩
 subst hbx
 obtain ⟨by1,hby⟩:∃ x,x=b:=⟨_,rfl⟩
 subst hby
 obtain ⟨b4,hb4⟩:∃ x,x=b:=⟨_,rfl⟩
 subst hb4
 obtain ⟨b3,hb3⟩:∃ x,x=b:=⟨_,rfl⟩
 subst hb3
 rw [List.nil_append,eA0,zCY]
 refine zGU (enc:=encI) (xs:=goA c pl t 0) zRT (by rw [zCY];omega) ?_
 rintro gn rfl
 (repeat' (first|((with_reducible refine zG ?_);first|refine zE rfl rfl rfl rfl rfl ?_|refine zC rfl rfl rfl rfl rfl ?_|(refine zK rfl rfl rfl rfl rfl ?_;refine ⟨_,rfl,?_⟩)|refine zd rfl rfl rfl rfl rfl ?_|(refine zAq (enc:=encI) (goA c pl t 0) rfl rfl rfl rfl rfl zRT rfl zCY.symm (fun _ _ h=>zD4 (xs:=goA c pl t 0) h zRT) (by refine ⟨?_,by decide⟩;(try simp only [List.length_append,List.length_cons,List.length_nil,zCY]);omega) (fun A1 c1=>?_))|(refine zAq (enc:=zAA) [⟨A1,goA c pl t 0,c1⟩] rfl rfl rfl rfl rfl zRT rfl rfl (zAd (enc:=zAA) zRe) (by refine ⟨?_,by decide⟩;(try simp only [List.length_append,List.length_cons,List.length_nil,zCY]);omega) (fun A2 c2=>?_))|refine zp rfl rfl rfl rfl rfl ?_|(refine zz rfl rfl rfl rfl rfl ?_;refine ⟨rfl,_,rfl,fun b=>?_⟩))|(with_reducible first|refine zI ?_|refine zB ?_|refine zD ?_|refine zA ?_|refine zN ?_)))
 simp only [List.nil_append]
 refine zB6 (fun _ h=>Own.zJm h) ?_
 refine zB6 (H':=.rows ([]++[⟨A1,goA c pl t 0,c1⟩])::[.row zAA 1 38 (.slice A2 [(⟨A1,goA c pl t 0,c1⟩:Sli)].length c2) [⟨A1,goA c pl t 0,c1⟩],.row encI 1 3 (.slice (some ⟨gn,0,none⟩) c.beds.length cn) (goA c pl t 0),.row zAW 2 75 (.slice none 0 0) [],.blk b4 (zH c A ca B cb C cc),.blk b3 [.slice TA c.beds.length tc,.slice MA c.hours.length mc,.int .i64 t.we,.int .i64 t.la]]) (fun W9 h=>Own.zEN ((h.zCK (enc:=encI) (A:=A1) zRT).sub zRQ)) ?_
 have hSl:=fun k=>zMj (c:=c) (pl:=pl) (t:=t) k
 have hRl:=fun k i=>zPv (c:=c) (pl:=pl) (t:=t) (h:=k) (i:=i)
 refine zq (ι:=Nat × (Option Addr × Nat) × List Sli × Value) [2,3,4,8,24,25] rfl (fun p=>p.1≤c.hours.length∧p.2.2.1.map Sli.xs=goL c pl t (p.1+1)) (fun p=>[(26,.int .i64 (p.1:Int)),(6,.slice p.2.1.1 p.2.2.1.length p.2.1.2),(7,p.2.2.2)]) (fun p=>[.row encI 1 3 (.slice (some ⟨gn,0,none⟩) c.beds.length cn) (goA c pl t p.1),.rows p.2.2.1,.row zAA 1 38 (.slice p.2.1.1 p.2.2.1.length p.2.1.2) p.2.2.1,.row zAW 2 75 p.2.2.2 (goS c pl t p.1),.blk b4 (zH c A ca B cb C cc),.blk b3 [.slice TA c.beds.length tc,.slice MA c.hours.length mc,.int .i64 t.we,.int .i64 t.la]]) (fun p=>c.hours.length - p.1) (0,(A2,c2),[⟨A1,goA c pl t 0,c1⟩],.slice none 0 0) (by exact ⟨Nat.zero_le _,rfl⟩) zRS zRQ ?_
 rintro ⟨y,⟨A6,c6⟩,L,vt⟩ ⟨hy,hL⟩
 simp only at hy hL
 simp only [zAn,zH,List.cons_append,List.nil_append]
 have hLl:L.length=y+1:=by have:=congrArg List.length hL;simpa [goL] using this
 have hSy:=hSl y
 have hm1:y * c.beds.length≤12 * 20:=Nat.mul_le_mul zRU h4
 by_cases hyl:y<c.hours.length
 ·obtain ⟨u,hu⟩:∃ u,c.hours[y]?=some u:=⟨_,List.getElem?_eq_getElem hyl⟩
  obtain ⟨bh,oh,rfl,_,_⟩:=hh.at_ hyl
  have:InS w bh oh zw 5 c.hours:=⟨hh⟩
  have:zAP c.hours y u:=⟨hu⟩
  obtain ⟨m,hm⟩:∃ m,t.me[y]?=some m:=⟨_,List.getElem?_eq_getElem zRU⟩
  obtain ⟨bm,om,rfl,_,_⟩:=hM.at_ (show y<t.me.length by omega)
  have:InS w bm om encI 1 t.me:=⟨hM⟩
  have:zAP t.me y m:=⟨hm⟩
  obtain ⟨s,hs1⟩:∃ s,pl[y]?=some s:=⟨_,List.getElem?_eq_getElem zRU⟩
  have hsm:=List.mem_of_getElem? hs1
  have hrow:=hp.rows s hsm
  have hsl:=hrl s hsm
  obtain ⟨bp,op,rfl,_,_⟩:=hpp.at_ (show y<pl.length by omega)
  have:InS w bp op zAA 1 pl:=⟨hpp⟩
  have:zAP pl y s:=⟨hs1⟩
  have hou:=hf.hour u (List.mem_of_getElem? hu)
  have hme:=ht.me y hyl
  have hwe:=ht.we;have hla:=ht.la
  have hfw:=hf.wear;have hfl:=hf.layer;have hfb:=hf.base;have hfi:=hf.limit
  rw [zAS hu,zAS hm] at hme
  simp only [zBR,Bool.and_eq_true,zAE,zx] at hou hfw hfl
  have q2:=Int.mul_le_mul_of_nonneg_right (show u.runs≤60 by omega) (show 0≤t.we by omega)
  have q3:=Int.mul_nonneg (show 0≤u.runs by omega) (show 0≤t.we by omega)
  (repeat' (first|((with_reducible refine zG ?_);first|refine zE rfl rfl rfl rfl rfl ?_|refine zC rfl rfl rfl rfl rfl ?_|(refine zK rfl rfl rfl rfl rfl ?_;refine ⟨_,rfl,?_⟩)|refine zd rfl rfl rfl rfl rfl ?_|(refine zQ rfl rfl rfl rfl rfl rfl rfl (fun h=>?_) (fun h=>?_)<;>(dsimp only [cmpP] at h;(try (exfalso;omega))))|refine ze rfl rfl rfl rfl rfl rfl rfl zRU ?_|refine zp rfl rfl rfl rfl rfl ?_|(refine zf rfl rfl rfl rfl rfl ?_;refine And.intro rfl (And.intro zRY ⟨_,rfl,?_⟩))|(refine zr rfl rfl rfl rfl (fun b=>?_)))|(with_reducible first|refine zI ?_|refine zB ?_|refine zD ?_|refine zA ?_|refine zP ?_|refine zN ?_)|((with_reducible refine zJ ?_ ?_);(· exact rfl))))
  refine zq (ι:=Nat × Value) [2,3,4,6,8,9,10,24,25,26,32,33] rfl (fun p=>p.1≤c.beds.length) (fun p=>[(34,.int .i64 (p.1:Int)),(7,p.2)]) (fun p=>[.row encI 1 3 (.slice (some ⟨gn,0,none⟩) c.beds.length cn) (goM c pl t y p.1),.row zAW 2 75 p.2 (goS c pl t y++goR c pl t y p.1),.blk b (zw u),.rows L,.row zAA 1 38 (.slice A6 L.length c6) L,.blk b4 (zH c A ca B cb (some ⟨bh,oh,none⟩) cc),.blk b3 [.slice TA c.beds.length tc,.slice (some ⟨bm,om,none⟩) c.hours.length mc,.int .i64 t.we,.int .i64 t.la]]) (fun p=>c.beds.length - p.1) (0,vt) (Nat.zero_le _) zRS (by rw [goM_zero,show goR c pl t y 0=[] from rfl,List.append_nil];(repeat (first|exact oK1 _|(refine oK2 zRT ?_)))) ?_
  rintro ⟨i,v⟩ hi
  simp only at hi
  simp only [zAn,zH,List.cons_append,List.nil_append]
  obtain ⟨b10,hb10⟩:∃ x,x=b:=⟨_,rfl⟩
  subst hb10
  by_cases hil:i<c.beds.length
  ·obtain ⟨z,hz⟩:∃ z,c.beds[i]?=some z:=⟨_,List.getElem?_eq_getElem hil⟩
   obtain ⟨bb,ob,rfl,_,_⟩:=hb.at_ hil
   have:InS w bb ob zAX 3 c.beds:=⟨hb⟩
   have:zAP c.beds i z:=⟨hz⟩
   have hoz:=hf.bed z (List.mem_of_getElem? hz)
   simp only [zCm,Bool.and_eq_true,zAE,zx] at hoz
   have hrm:=hmz i hil (show y≤c.hours.length by omega) h5
   have hM0:=goM_at (c:=c) (pl:=pl) (t:=t) (h:=y) hil
   have hMs:=goM_set (c:=c) (pl:=pl) (t:=t) (h:=y) hil
   have hMl:=goM_len (c:=c) (pl:=pl) (t:=t) (h:=y) (k:=i)
   have hgr:=goR_succ (c:=c) (pl:=pl) (t:=t) (h:=y) (i:=i)
   have hRi:=hRl y i
   obtain ⟨bb1,hbb⟩:∃ x,x=goB c pl t (c.beds.getD i default) i y:=⟨_,rfl⟩
   rw [← hbb] at hgr
   unfold goB thinX at hbb
   simp only [goT] at hMs
   rw [zAS hu,zAS hs1] at hMs
   rw [zAS hu] at hbb
   unfold zG1 at hMs hbb
   rw [zAS hz] at hrm hM0 hMs hbb
   rw [zAS hm] at hMs hbb
   have q1:=Int.mul_le_mul (show z.sun≤9 by omega) (show m≤50 by omega) (show 0≤m by omega) zRU
   have q4:=Int.mul_nonneg (show 0≤z.sun by omega) (show 0≤m by omega)
   generalize goT c pl t z i y=x at *
   generalize goM c pl t y i=M0 at *
   have i0:zAP M0 i x:=⟨hM0⟩
   have g1:∀ z,zAP (M0.set i z) i z:=fun z=>⟨List.getElem?_set_self zRU⟩
   have i1:=g1 (x - (z.sun * m+u.runs * t.we))
   have i2:=g1 (max 0 (x - (z.sun * m+u.runs * t.we)))
   have i3:=g1 (max 0 (x - (z.sun * m+u.runs * t.we))+t.la)
   have hh9:=fun W (hW:Below w.heap.size w W)=>zJo s.xs (i:Int) s.A s.c W (hrow.below hW) zRU
   have i4:zAP ((M0.set i (x - (z.sun * m+u.runs * t.we))).set i (max 0 (x - (z.sun * m+u.runs * t.we)))) i (max 0 (x - (z.sun * m+u.runs * t.we))):=⟨List.getElem?_set_self zRp⟩
   cases hon:s.xs.contains (i:Int)
   all_goals
    rw [hon] at hMs hh9
    simp only [layX,if_true,Bool.false_eq_true,if_false] at hMs
    (repeat' (first|((with_reducible refine zG ?_);first|refine zE rfl rfl rfl rfl rfl ?_|refine zC rfl rfl rfl rfl rfl ?_|(refine zK rfl rfl rfl rfl rfl ?_;refine ⟨_,rfl,?_⟩)|(refine zQ rfl rfl rfl rfl rfl rfl rfl (fun h=>?_) (fun h=>?_)<;>(dsimp only [cmpP] at h;(try (exfalso;omega))))|refine ze rfl rfl rfl rfl rfl rfl rfl zRU ?_|(refine zf rfl rfl rfl rfl rfl ?_;refine And.intro rfl (And.intro zRY ⟨_,rfl,?_⟩))|(refine zr rfl rfl rfl rfl (fun b=>?_)))|(with_reducible first|refine zI ?_|refine zB ?_|refine zD ?_|refine zA ?_|refine zP ?_|refine zN ?_)|((with_reducible refine zJ ?_ ?_);(· exact rfl))))
    (refine zAc [] [] [] rfl (show ([]:List Nat).Nodup by decide) (fun _ h=>h) zRW [[],[O0],[I0,I0],[I0,I0,I0],[O0,O0,O0,O0],[I0,O0,O0,O0,O0],[O0,O0,O0,O0,O0,O0],[I0,O0,O0,O0,O0,O0,O0],[O0,O0,O0,O0,O0,O0,O0,O0],[I0,I0,I0,O0,O0,O0,O0,O0,O0],[I0,I0,I0,I0,O0,O0,O0,O0,O0,O0],[I0,I0,I0,I0,I0,I0,I0,O0,O0,O0,O0],[O0,O0,O0,O0,O0,O0,O0,O0,O0,O0,O0,O0],[I0,O0,O0,O0,O0,O0,O0,O0,O0,O0,O0,O0,O0],[O0,O0,O0,O0,O0,O0,O0,O0,O0,O0,O0,O0,O0,O0],[I0,O0,O0,O0,O0,O0,O0,O0,O0,O0,O0,O0,O0,O0,O0],[I0,I0,I0,I0,O0,O0,O0,O0,O0,O0,O0,O0,O0,O0,O0,O0],[I0,I0,I0,I0,I0,I0,I0,I0,I0,I0,I0,I0,I0,O0,O0,O0,O0],[I0,I0,I0,I0,I0,I0,I0,I0,I0,I0,I0,I0,I0,I0,I0,I0,I0,I0],[I0,I0,I0,I0,I0,I0,I0,I0,I0,I0,I0,I0,I0,I0,I0,I0,I0,I0,I0],[I0,I0,I0,I0,I0,I0,I0,I0,I0,I0,I0,I0,I0,I0,I0,I0,I0,I0,I0,I0]] zRW zRW zRW zRW zRW ?_)
    (repeat' (first|(((with_reducible refine zCT ?_ ?_);(· exact rfl);refine ⟨_,fun G=>zRX,?_⟩);first|refine zX _ (fun _=>zAM rfl rfl) (fun _=>rfl) rfl zRR ?_|refine zX _ (fun _=>zy rfl rfl zRe) (fun _=>rfl) rfl zRR ?_|(refine zAU rfl ?_;refine zX _ (fun _=>zAJ rfl rfl) (fun _=>rfl) rfl zRR ?_)|refine zX _ (fun _=>zDS rfl rfl rfl (IntWalk.i64_in _ zRU)) (fun _=>rfl) rfl zRR ?_|refine zX _ (fun _=>zFS rfl rfl rfl (IntWalk.i64_in _ zRU)) (fun _=>rfl) rfl zRR ?_|refine zX _ (fun _=>zGM rfl rfl rfl (IntWalk.i64_in _ zRU)) (fun _=>rfl) rfl zRR ?_|refine zX _ (fun _=>zAO rfl rfl rfl rfl zRU) (fun _=>rfl) rfl zRR ?_)|((with_reducible refine zBU ?_ ?_);(· exact rfl))))
    (intro G;simp only [regsT,zAG,zBZ,ini,List.nil_append,List.cons_append])
    refine zCR (enc:=encI) (i:=i) (x - (z.sun * m+u.runs * t.we)) rfl rfl rfl rfl rfl rfl rfl rfl zRU ?_
    (repeat' (first|(with_reducible first|refine zI ?_|refine zD ?_|refine zA ?_)))
    (refine zAr zRW zRW zRW ?_)
    (repeat' (first|((with_reducible refine zBD ?_);first|refine zW (zAM rfl rfl) rfl rfl rfl ?_|refine zW (zy rfl rfl zRe) rfl rfl rfl ?_|refine zW (zAJ rfl rfl) rfl rfl rfl ?_|refine zW (zCA rfl rfl rfl) rfl rfl rfl ?_|refine zA9 rfl rfl rfl ?_|(refine zCu rfl rfl rfl rfl rfl rfl rfl (fun h=>?_) (fun h=>?_)<;>(dsimp only [cmpP] at h;(try (exfalso;omega))))|refine zW (zAO (I:=i) rfl rfl rfl zRU zRj) rfl rfl rfl ?_)|(with_reducible refine zBw ?_)))
    all_goals
     first
      | have hB:bb1=true:=by rw [hbb];simp only [Bool.or_eq_true,Bool.and_eq_true,decide_eq_true_eq];omega
      | have hB:bb1=false:=by rw [hbb,Bool.or_eq_false_iff,Bool.and_eq_false_iff];simp only [decide_eq_false_iff_not];omega
     simp only [hB,if_true,Bool.false_eq_true,if_false,List.append_nil] at hgr
     (repeat' (first|((with_reducible refine zG ?_);first|refine zE rfl rfl rfl rfl rfl ?_|refine zC rfl rfl rfl rfl rfl ?_|(refine zK rfl rfl rfl rfl rfl ?_;refine ⟨_,rfl,?_⟩)|(refine zCD rfl rfl rfl rfl rfl ?_;refine ⟨_,rfl,?_⟩)|(refine zAq (enc:=zAW) [((y:Int),(i:Int))] rfl rfl rfl rfl rfl zRT rfl rfl (zAd (enc:=zAW) zRe) (by refine ⟨?_,by decide⟩;(try simp only [List.length_append,List.length_cons,List.length_nil,zCY]);omega) (fun A3 c3=>?_))|refine zCR (enc:=encI) (i:=i) (max 0 (x - (z.sun * m+u.runs * t.we))) rfl rfl rfl rfl rfl rfl rfl rfl (by rw [List.length_set];omega) ?_|refine zV rfl rfl rfl rfl rfl rfl (fun _ _ q=>hh9 _ q.below) ?_|refine zg rfl rfl rfl rfl rfl rfl zRU ?_|refine ze rfl rfl rfl rfl rfl rfl rfl zRU ?_|(refine zz rfl rfl rfl rfl rfl ?_;refine ⟨rfl,_,rfl,fun b=>?_⟩)|refine zJX rfl rfl rfl rfl rfl rfl ?_)|(with_reducible first|refine zI ?_|refine zB ?_|refine zD ?_|refine zA ?_|refine zP ?_|refine zi ?_)|((with_reducible refine zJ ?_ ?_);(· exact rfl))|((with_reducible refine zF ?_ ?_);(· exact rfl))))
     try
      (refine zAc [] [] [] rfl (show ([]:List Nat).Nodup by decide) (fun _ h=>h) zRW [[],[O0],[I0,I0],[I0,I0,I0],[O0,O0,O0,O0],[I0,O0,O0,O0,O0],[I0,I0,I0,I0,I0,I0],[I0,I0,I0,I0,I0,I0,I0],[I0,I0,I0,I0,I0,I0,I0,I0]] zRW zRW zRW zRW zRW ?_)
      (repeat' (first|(((with_reducible refine zCT ?_ ?_);(· exact rfl);refine ⟨_,fun G=>zRX,?_⟩);first|refine zX _ (fun _=>zAM rfl rfl) (fun _=>rfl) rfl zRR ?_|refine zX _ (fun _=>zy rfl rfl zRe) (fun _=>rfl) rfl zRR ?_|(refine zAU rfl ?_;refine zX _ (fun _=>zAJ rfl rfl) (fun _=>rfl) rfl zRR ?_)|refine zX _ (fun _=>zDS rfl rfl rfl (IntWalk.i64_in _ zRU)) (fun _=>rfl) rfl zRR ?_|refine zX _ (fun _=>zAO rfl rfl rfl rfl zRU) (fun _=>rfl) rfl zRR ?_)|((with_reducible refine zBU ?_ ?_);(· exact rfl))))
      (intro G;simp only [regsT,zAG,zBZ,ini,List.nil_append,List.cons_append])
      refine zCR (enc:=encI) (i:=i) (max 0 (x - (z.sun * m+u.runs * t.we))+t.la) rfl rfl rfl rfl rfl rfl rfl rfl zRp ?_
      (repeat' (first|((with_reducible refine zG ?_);first|refine zE rfl rfl rfl rfl rfl ?_|refine zg rfl rfl rfl rfl rfl rfl zRU ?_)|(with_reducible first|refine zB ?_|refine zD ?_|refine zA ?_|refine zi ?_)))
     first|rw [List.append_assoc,← hgr]|rw [← hgr]
     rw [List.set_set]
     try rw [List.set_set]
     rw [hMs]
     first
      | exact zc (ι:=Nat × Value) (i+1,.slice A3 (goS c pl t y++goR c pl t y (i+1)).length c3) zRi zRi zRS zRQ
      | exact zc (ι:=Nat × Value) (i+1,v) zRi zRi zRS zRQ
  ·obtain rfl:i=c.beds.length:=by omega
   rw [goM_end,← zN8]
   (repeat' (first|((with_reducible refine zG ?_);first|refine zE rfl rfl rfl rfl rfl ?_|refine zC rfl rfl rfl rfl rfl ?_|(refine zQ rfl rfl rfl rfl rfl rfl rfl (fun h=>?_) (fun h=>?_)<;>(dsimp only [cmpP] at h;(try (exfalso;omega))))|(refine zB9 encI (e:=3) rfl rfl rfl rfl (fun b=>?_))|(refine zAq (enc:=encI) (goA c pl t (y+1)) rfl rfl rfl rfl rfl zRT rfl zCY.symm (fun _ _ h=>zD4 (xs:=goA c pl t (y+1)) h zRT) (by refine ⟨?_,by decide⟩;(try simp only [List.length_append,List.length_cons,List.length_nil,zCY]);omega) (fun A1 c1=>?_))|(refine zAq (enc:=zAA) [⟨A1,goA c pl t (y+1),c1⟩] rfl rfl rfl rfl rfl zRT rfl rfl (zAd (enc:=zAA) zRe) (by refine ⟨?_,by decide⟩;(try simp only [List.length_append,List.length_cons,List.length_nil,zCY]);omega) (fun A2 c2=>?_))|refine zg rfl rfl rfl rfl rfl rfl zRU ?_|(refine zz rfl rfl rfl rfl rfl ?_;refine ⟨rfl,_,rfl,fun b=>?_⟩))|(with_reducible first|refine zI ?_|refine zB ?_|refine zD ?_|refine zA ?_|refine zk ?_|refine zi ?_|refine zR ?_|refine zY ?_)|((with_reducible refine zF ?_ ?_);(· exact rfl))))
   simp only [List.nil_append]
   refine zB6 (H':=.rows (L++[⟨A1,goA c pl t (y+1),c1⟩])::[.row zAA 1 38 (.slice A2 (L++[(⟨A1,goA c pl t (y+1),c1⟩:Sli)]).length c2) (L++[⟨A1,goA c pl t (y+1),c1⟩]),.row encI 1 3 (.slice (some ⟨gn,0,none⟩) c.beds.length cn) (goA c pl t (y+1)),.row zAW 2 75 v (goS c pl t (y+1)),.blk b4 (zH c A ca B cb (some ⟨bh,oh,none⟩) cc),.blk b3 [.slice TA c.beds.length tc,.slice (some ⟨bm,om,none⟩) c.hours.length mc,.int .i64 t.we,.int .i64 t.la]]) (fun W9 h=>Own.zEN ((h.zCK (enc:=encI) (A:=A1) zRT).sub zRQ)) ?_
   exact zc (ι:=Nat × (Option Addr × Nat) × List Sli × Value) (y+1,(A2,c2),L++[⟨A1,goA c pl t (y+1),c1⟩],v) (by exact ⟨by simp only;omega,by simp only [List.map_append,hL];rw [goL_succ (k:=y+1)];rfl⟩) zRi zRS zRQ
 ·obtain rfl:y=c.hours.length:=by omega
  refine zC4 (xs:=goS c pl t c.hours.length) (enc:=zAW) zRT ?_
  rintro A7 c7 rfl
  (repeat' (first|((with_reducible refine zG ?_);first|refine zE rfl rfl rfl rfl rfl ?_|refine zC rfl rfl rfl rfl rfl ?_|(refine zQ rfl rfl rfl rfl rfl rfl rfl (fun h=>?_) (fun h=>?_)<;>(dsimp only [cmpP] at h;(try (exfalso;omega)))))|(with_reducible first|refine zI ?_|refine zB ?_|refine zD ?_|refine zA ?_|refine za ?_|refine zk ?_|refine zR ?_|refine zY ?_)|((with_reducible refine zF ?_ ?_);(· exact rfl))))
  exact zU zRd (((A6,c6),L),(A7,c7)) hL rfl (fun _ h=>((h.zCK (enc:=zAA) zRT).zCK (enc:=zAW) zRT).sub zRQ)
end Go.Proofs.YtdigopgncfhiaaaGreatDoor.Two
namespace Go.Proofs.YtdigopgncfhiaaaGreatDoor
variable {ro : Option Nat}
open Go.RowKit
set_option maxRecDepth 20000
section
variable {c : Cov} {pl pl':List Sli} {t:Tru}
theorem zId (h:pl.map Sli.xs=pl'.map Sli.xs) {z:Bed} {i:Nat}:∀ k,goT c pl t z i k=goT c pl' t z i k
 | 0=>rfl
 | k+1=>by simp only [goT];rw [zId h k,zJO h]
theorem zQ2 (h:pl.map Sli.xs=pl'.map Sli.xs) {k:Nat}:goA c pl t k=goA c pl' t k:=by
 unfold goA;simp only [zId h]
theorem zQ1 (h:pl.map Sli.xs=pl'.map Sli.xs) {k:Nat}:goL c pl t k=goL c pl' t k:=by
 unfold goL
 exact List.map_congr_left fun _ _=>zQ2 h
theorem zQ0 (h:pl.map Sli.xs=pl'.map Sli.xs) {k:Nat}:goS c pl t k=goS c pl' t k:=by
 unfold goS goR goB;simp only [zId h]
end
theorem zO2 (c:Cov) (A:Option Addr) (ca:Nat) (B:Option Addr) (cb:Nat) (C:Option Addr) (cc:Nat) (t:Tru) (TA:Option Addr) (tc:Nat) (MA:Option Addr) (mc:Nat) (xss:List (List Int)) (P:Option Addr) (cp:Nat) (w:World) (hc:zAl w c A B C) (hs:Small c) (hf:zBm c) (ht:zFa c t) (hb0:0<c.beds.length) (hT:zAB encI 1 w TA t.th) (hM:zAB encI 1 w MA t.me) (hp:∃ pl:List Sli,pl.map Sli.xs=(zAC xss).map Sli.xs∧zBA w P pl) (hl:xss.length=c.hours.length) (hr:∀ r∈xss,r.length≤20) :
  Ret Tryz.prog 19 [.agg (zGq t TA tc MA mc).toArray,zAQ c A ca B cb C cc,.slice P c.hours.length cp] w (fun z:((Option Addr × Nat) × List Sli) × (Option Addr × Nat)=>.tuple #[.slice z.1.1.1 (c.hours.length+1) z.1.1.2,.slice z.2.1 (goS c (zAC xss) t c.hours.length).length z.2.2]) (fun z=>[.sl zAA 1 z.1.1.1 z.1.2,.rows z.1.2,.sl zAW 2 z.2.1 (goS c (zAC xss) t c.hours.length)]) (fun z=>z.1.2.map Sli.xs=goL c (zAC xss) t (c.hours.length+1)):=by
 obtain ⟨pl,hx,hp⟩:=hp
 have hpl:pl.length=c.hours.length:=by rw [zDD hx];exact hl
 have h:=Two.zQq c A ca B cb C cc t TA tc MA mc pl P cp w hc hs hf ht hb0 hT hM hp hpl (zFe hx hr)
 rw [hpl,zQ0 hx,zQ1 hx] at h
 refine h.conv fun z hz=>⟨z,hz,?_,fun _ h=>h⟩
 have:z.1.2.length=c.hours.length+1:=by have:=congrArg List.length hz;simpa [goL] using this
 simp only [this]
instance : Ctb Sli:=zMt (α:=Option Addr × List Int × Nat) (fun p=>⟨p.1,p.2.1,p.2.2⟩) fun z=>⟨(z.A,z.xs,z.c),rfl⟩
class zPT (H:List Ent) (L:outParam (List Sli)) (H':outParam (List Ent)):Prop where tk:Take H (.rows L) H'
instance (priority := high) takeRs_here {H:List Ent} {L:List Sli}:zPT (.rows L::H) L H:=⟨Take.here _ _⟩
instance takeRs_there {H H':List Ent} {f:Ent} {L:List Sli} [i:zPT H L H']:zPT (f::H) L (f::H'):=⟨Take.there _ i.tk⟩
class RowE (H:List Ent) (b off:Nat) (xs:outParam (List Int)):Prop where sl:∀ base w,Own base w H→zAB encI 1 w (some ⟨b,off,none⟩) xs
instance (priority := low) srcI_rows {w0:World} {H:List Ent} {b off i:Nat} {xs:List Int} {x:Int} [i1:RowE H b off xs] [i2:zAP xs i x]:zGt w0 H b (off+i * 1) (encI x):=⟨fun w hb ho j v hv=>by
 obtain ⟨b',o',hA,hlt,hc⟩:=i1.sl _ w ho i x i2.get
 cases hA
 exact hc j v hv⟩
theorem rowE_of {H H':List Ent} {L:List Sli} {s:Sli} {b off:Nat} (ht:Take H (.rows L) H') (hm:s∈L) (hA:s.A=some ⟨b,off,none⟩):RowE H b off s.xs:=⟨fun base w ho=>by
 have h:=(ho.here _ ht.mem:∀ s∈L,zAB encI 1 w s.A s.xs) s hm
 rw [hA] at h
 exact h⟩
instance (priority := low) rowE_cons {H:List Ent} {e:Ent} {b off:Nat} {xs:List Int} [i:RowE H b off xs]:RowE (e::H) b off xs:=⟨fun base w ho=>i.sl base w ho.tail⟩
class RowIs (L:List Sli) (b off:Nat) (xs:outParam (List Int)):Prop where mem:∃ s∈L,s.A=some ⟨b,off,none⟩∧s.xs=xs
instance (priority := high) rowE_here {H:List Ent} {L:List Sli} {b off:Nat} {xs:List Int} [i:RowIs L b off xs]:RowE (.rows L::H) b off xs:=⟨fun base w ho=>by
 obtain ⟨s,hm,hA,rfl⟩:=i.mem
 exact (rowE_of (Take.here _ _) hm hA).sl base w ho⟩
theorem zME {w0:World} {n:Nat} {d:List Deferred} {R:List (Nat × Value)} {H H':List Ent} {X:Act→World→Prop} {L:List Sli} {s:Sli} (ht:Take H (.rows L) H') (hm:s∈L) (h0:0<s.xs.length) (h:∀ b o,s.A=some ⟨b,o,none⟩→U w0 n d R H X):U w0 n d R H X:=fun a w q=>by
 obtain ⟨b,o,hA,_⟩:=zAB.at_ ((q.own.here _ ht.mem:∀ s∈L,zAB encI 1 w s.A s.xs) s hm) h0
 exact h b o hA a w q
theorem zLD {c:Cov} {pl:List Sli} (h:zCC c pl=0) {i k:Nat} (hi:i<c.beds.length) (hk:k≤c.hours.length):zEI c pl (i:Int) (k:Int)=(thickN c pl (c.beds.getD i default) i k,0):=by
 unfold zEI
 rw [if_pos h,if_pos (by rw [zx,zx];omega)]
 rfl
theorem zOZ {c:Cov} {pl:List Sli} {t:Tru} (h:zCC c pl=0) (hf:zBm c) (ht:zFa c t):(zBN c pl=0∨zBN c pl=1∨zBN c pl=2)∧(zBN c pl=2↔(zAm c pl zAa).length=0)∧(zBN c pl=2→(goS c pl t c.hours.length).length=0)∧(zBN c pl=0→0<(goS c pl t c.hours.length).length):=by
 have h1:(zAm c pl zAa).length=0→(goS c pl t c.hours.length).length=0:=fun h=>by
  rw [List.length_eq_zero_iff] at h ⊢
  rw [List.eq_nil_iff_forall_not_mem]
  intro p hp
  have:=zKO hf ht hp
  rw [h] at this
  cases this
 have h2:(zAm c pl zC2).length≠0→0<(goS c pl t c.hours.length).length:=fun h=>by
  obtain ⟨p,hp⟩:=List.exists_mem_of_length_pos (show 0<(zAm c pl zC2).length by omega)
  exact List.length_pos_of_mem (zPu hf ht hp)
 unfold zBN
 rw [if_pos h]
 by_cases h3:(zAm c pl zAa).length=0
 ·simp [h3,h1 h3]
 ·rw [if_neg h3]
  by_cases h4:(zAm c pl zC2).length=0
  ·simp [h3,h4]
  ·simp [h3,h4,h2 h4]
end Go.Proofs.YtdigopgncfhiaaaGreatDoor
namespace Go.Proofs.YtdigopgncfhiaaaGreatDoor.Two
variable {ro : Option Nat}
open Go.RowKit
set_option maxRecDepth 20000
set_option maxHeartbeats 8000000 in
theorem zNz (c:Cov) (A:Option Addr) (ca:Nat) (B:Option Addr) (cb:Nat) (C:Option Addr) (cc:Nat) (ch:List Int) (D:Option Addr) (cd:Nat) (w:World) (hc:zAl w c A B C) (hfit:zFc c.t) (hD:zAB zHx 1 w D ch) (hfu:zKn ch) (hG:InC w 0 0 zCS) :
  Gv Tryz.prog 3 [zAQ c A ca B cb C cc,.slice D ch.length cd] w (.bool true):=by
 have hAl:=fun W (hW:Below w.heap.size w W)=>zDh W (hG.below hW)
 have hR:=fun W (hW:Below w.heap.size w W)=>zDg c A ca B cb C cc W (hc.below hW) hfit
 cases hr:zDc c
 ·rw [hr] at hR
  unfold zAQ zH at hR ⊢
  unfold Gv
  (refine zM (n:=138) Tryz.func3 rfl rfl rfl ?_)
  (repeat' (first|((with_reducible refine zG ?_);first|refine zE rfl rfl rfl rfl rfl ?_|refine zC rfl rfl rfl rfl rfl ?_|(refine zK rfl rfl rfl rfl rfl ?_;refine ⟨_,rfl,?_⟩)|refine zV rfl rfl rfl rfl rfl rfl (fun _ _ q=>hAl _ q.below) ?_|refine zV rfl rfl rfl rfl rfl rfl (fun _ _ q=>hR _ q.below) ?_|refine zAf rfl rfl rfl rfl rfl ?_|(refine zAI rfl rfl rfl rfl rfl rfl (fun b=>?_)))|(with_reducible first|refine zI ?_|refine zB ?_|refine zD ?_|refine zA ?_|refine za ?_|refine zP ?_|refine zb ?_)|((with_reducible refine zJ ?_ ?_);(· exact rfl))|((with_reducible refine zF ?_ ?_);(· exact rfl))))
  all_goals exact zU zRZ () trivial rfl (fun _ _=>Own.nil _ _)
 rw [hr] at hR
 have hs:=zCq hr hfit
 have h0:=(zC5.1 hr).2
 have hf:=zAy h0
 have h4:=hs.b;have h5:=hs.h
 have hh1:=hf.hours
 rw [zx] at hh1
 have hb0:=zGP h0
 have hyo:=zHy (ch:=ch) (f:=0) hf
 have hyl:(zu c ch 0).length=c.hours.length:=zBT
 have hyr:∀ r∈zu c ch 0,r.length≤20:=fun r hr=>Nat.le_trans (zFq r hr) h4
 have hDr:=fun W (hW:Below w.heap.size w W)=>zHK c A ca B cb C cc ch D cd 0 W (hc.below hW) hs (hD.below hW) hfu zRU
 have hTo:=zRN (c:=c) (ch:=ch) (f:=7) hf
 have hCh:∀ W,Below w.heap.size w W→Ret Tryz.prog 18 [zAQ c A ca B cb C cc,.slice D ch.length cd,.int .i64 (7:Int)] W (fun z:(Option Addr × Nat) × (Option Addr × Nat)=>.agg (zGq (zBk c ch 7) z.1.1 z.1.2 z.2.1 z.2.2).toArray) (fun z=>[.sl encI 1 z.1.1 (zBk c ch 7).th,.sl encI 1 z.2.1 (zBk c ch 7).me]) (fun _=>True):=fun W hW=>zNy c A ca B cb C cc ch D cd 7 W (hc.below hW) hs hf (hD.below hW) hfu zRU
 have hek:=zDs h0 hyo
 have hSf:=zOZ hek hf hTo
 have hGi:=fun i h (hi:i<c.beds.length) hh=>zKP (pl:=zAC (zu c ch 0)) hf hTo (i:=i) hi h hh
 have hwi:∀ p∈goS c (zAC (zu c ch 0)) (zBk c ch 7) c.hours.length,p∈zAm c (zAC (zu c ch 0)) zAa:=fun p hp=>zKO hf hTo hp
 have hgl:=zMj (c:=c) (pl:=zAC (zu c ch 0)) (t:=zBk c ch 7) c.hours.length
 have hml:c.hours.length * c.beds.length≤12 * 20:=Nat.mul_le_mul h5 h4
 have hgo:=fun W (hW:Below w.heap.size w W) TA tc MA mc P cp h1 h2 hp=>zO2 c A ca B cb C cc (zBk c ch 7) TA tc MA mc (zu c ch 0) P cp W (hc.below hW) hs hf hTo hb0 h1 h2 hp hyl hyr
 have hTh:=fun W (hW:Below w.heap.size w W) P cp hp=>zO5 c A ca B cb C cc (zu c ch 0) P cp W (hc.below hW) hs hp zRU hyr (hG.below hW)
 have hSa:=fun W (hW:Below w.heap.size w W) P cp hp=>zFl c A ca B cb C cc (zu c ch 0) P cp W (hc.below hW) hs hp zRU hyr (hG.below hW)
 have hTk:=fun W (hW:Below w.heap.size w W) P cp hp (i k:Nat) (hi:i<c.beds.length) (hk:k≤c.hours.length)=>by
  have:=zMh c A ca B cb C cc (zu c ch 0) P cp W (hc.below hW) hs hp zRU hyr (i:Int) (k:Int)
  rw [zLD hek hi hk] at this
  exact this
 have hth:zE3 c (zAC (zu c ch 0))=zAm c (zAC (zu c ch 0)) zAa:=by unfold zE3;rw [if_pos hek]
 have htl:=zIE (c:=c) (pl:=zAC (zu c ch 0)) (en:=zAa) (by exact h4) (by exact h5)
 rw [hek,hth] at hTh
 rw [hek] at hSa
 rw [hyl] at hTh hSa hTk
 have hWi:=fun W X cx Y cy (h1:zAB zAW 2 W X (goS c (zAC (zu c ch 0)) (zBk c ch 7) c.hours.length)) (h2:zAB zAW 2 W Y (zAm c (zAC (zu c ch 0)) zAa))=>zOT _ _ X cx Y cy W h1 h2 zRU zRU hwi
 have hLat:∀ y i,y≤c.hours.length→i<c.beds.length→(goL c (zAC (zu c ch 0)) (zBk c ch 7) (c.hours.length+1))[y]?=some (goA c (zAC (zu c ch 0)) (zBk c ch 7) y)∧(goA c (zAC (zu c ch 0)) (zBk c ch 7) y)[i]?=some (goT c (zAC (zu c ch 0)) (zBk c ch 7) (c.beds.getD i default) i y):=fun y i hy hi=>by
  refine ⟨?_,zMk hi⟩
  unfold goL
  rw [List.getElem?_map,List.getElem?_range zRU];rfl
 have hgz:(goL c (zAC (zu c ch 0)) (zBk c ch 7) (c.hours.length+1)).length=c.hours.length+1:=by simp [goL]
 have hAl2:=fun y=>zCY (c:=c) (pl:=zAC (zu c ch 0)) (t:=zBk c ch 7) (h:=y)
 generalize zBN c (zAC (zu c ch 0))=sf at *
 generalize goS c (zAC (zu c ch 0)) (zBk c ch 7) c.hours.length=gS at *
 generalize zAm c (zAC (zu c ch 0)) zAa=tS at *
 generalize goA c (zAC (zu c ch 0)) (zBk c ch 7)=gA at *
 generalize goL c (zAC (zu c ch 0)) (zBk c ch 7) (c.hours.length+1)=gL at *
 generalize goT c (zAC (zu c ch 0)) (zBk c ch 7)=gT at *
 generalize zu c ch 0=yss at *
 generalize zBk c ch 7=T at *
 unfold zAQ at hR hDr hCh hgo hTh hSa hTk
 unfold zH at hR hDr hCh hgo hTh hSa hTk
 unfold vSp at hTk
 unfold Gv zAQ zH
 (refine zM (n:=138) Tryz.func3 rfl rfl rfl ?_)
 (repeat' (first|((with_reducible refine zG ?_);first|refine zE rfl rfl rfl rfl rfl ?_|refine zC rfl rfl rfl rfl rfl ?_|(refine zK rfl rfl rfl rfl rfl ?_;refine ⟨_,rfl,?_⟩)|refine zV rfl rfl rfl rfl rfl rfl (fun _ _ q=>hAl _ q.below) ?_|refine zV rfl rfl rfl rfl rfl rfl (fun _ _ q=>hR _ q.below) ?_|(refine zAV rfl rfl rfl rfl rfl rfl (fun _ _ q=>hDr _ q.below) ?_;rintro ⟨pg,pn,P,cp⟩ -;dsimp only [List.cons_append,List.nil_append])|refine zAf rfl rfl rfl rfl rfl ?_|(refine zAI rfl rfl rfl rfl rfl rfl (fun b=>?_)))|(with_reducible first|refine zI ?_|refine zB ?_|refine zD ?_|refine zA ?_|refine zP ?_)|((with_reducible refine zF ?_ ?_);(· exact rfl))))
 (refine zAc [] [] [] rfl (show ([]:List Nat).Nodup by decide) (fun _ h=>h) zRW [[],[O0],[I0,I0],[O0,O0,O0],[O0,O0,O0,O0],[I0,I0,I0,I0,I0],[I0,I0,I0,I0,I0,I0],[I0,I0,I0,I0,I0,I0,I0],[O0,I0,I0,I0,I0,I0,I0,I0],[O0,I0,I0,I0,I0,I0,I0,I0,I0],[I0,I0,I0,I0,I0,I0,I0,I0,I0,I0]] zRW zRW zRW zRW zRW ?_)
 (repeat' (first|(((with_reducible refine zCT ?_ ?_);(· exact rfl);refine ⟨_,fun G=>zRX,?_⟩);first|refine zX _ (fun _=>zAM rfl rfl) (fun _=>rfl) rfl zRR ?_|refine zX _ (fun _=>zy rfl rfl zRe) (fun _=>rfl) rfl zRR ?_|refine zX _ (fun _=>zBe rfl rfl) (fun _=>rfl) rfl zRR ?_|(refine zIk (α:=(Option Addr × Nat) × (Option Addr × Nat)) rfl (fun _=>rfl) rfl (fun _=>rfl) (fun _=>rfl) (fun _ _ _ q=>hCh _ q.below) ?_)|(refine zIk (α:=((Option Addr × Nat) × List Sli) × (Option Addr × Nat)) rfl (fun _=>rfl) rfl (fun _=>rfl) (fun _=>rfl) (fun _ _ _ q=>hgo _ q.below _ _ _ _ _ _ (zA5 q.own (Below.refl _ _)) (zA5 q.own (Below.refl _ _)) (zBd q.own zRT)) ?_)|refine zX _ (fun _=>zDk rfl rfl rfl) (fun _=>rfl) rfl zRR ?_)|(with_reducible refine zH3 ?_)))
 (intro G;simp only [regsT,zAG,zBZ,ini,List.nil_append,List.cons_append])
 generalize deC (((Option Addr × Nat) × List Sli) × Option Addr × Nat) _=z2
 obtain ⟨⟨⟨A6,c6⟩,L⟩,A7,c7⟩:=z2
 refine zMG zRT fun hL=>?_
 simp only at hL
 simp only
 (repeat' (first|((with_reducible refine zG ?_);first|refine zE rfl rfl rfl rfl rfl ?_|refine zC rfl rfl rfl rfl rfl ?_|(refine zK rfl rfl rfl rfl rfl ?_;refine ⟨_,rfl,?_⟩)|refine zAg rfl rfl rfl rfl rfl rfl ?_|refine zAN rfl rfl rfl ?_|(refine zQ rfl rfl rfl rfl rfl rfl rfl (fun h=>?_) (fun h=>?_)<;>(dsimp only [cmpP] at h;(try (exfalso;omega))))|(refine zAV rfl rfl rfl rfl rfl rfl (fun _ _ q=>hTh _ q.below _ _ (zBd q.own zRT)) ?_;rintro ⟨A8,c8⟩ -;dsimp only [List.cons_append,List.nil_append])|refine zV rfl rfl rfl rfl rfl rfl (fun _ _ q=>hSa _ q.below _ _ (zBd q.own zRT)) ?_|refine zV rfl rfl rfl rfl rfl rfl (fun _ _ q=>hWi _ _ _ _ _ (zA5 q.own (Below.refl _ _)) (zA5 q.own (Below.refl _ _))) ?_|refine zAb rfl rfl rfl (zOI rfl rfl rfl) ?_|refine zj rfl rfl rfl rfl rfl rfl ?_|refine zAf rfl rfl rfl rfl rfl ?_|refine zp rfl rfl rfl rfl rfl ?_)|(with_reducible first|refine zI ?_|refine zB ?_|refine zD ?_|refine zA ?_|refine zP ?_|refine zN ?_)|((with_reducible refine zF ?_ ?_);(· exact rfl))))
 all_goals
  have hLl:L.length=c.hours.length+1:=by rw [← hgz,← hL,List.length_map]
  refine zq (ι:=Nat) [2,5,6,7,91] rfl (fun y=>y≤c.hours.length+1) (fun y=>[(92,.int .i64 (y:Int))]) (fun _=>[.zEO pg pn P yss,.sl zAA 1 A6 L,.rows L,.blk b [.slice A c.t.length ca,.slice B c.beds.length cb,.slice C c.hours.length cc,.int .i64 c.wear.lo,.int .i64 c.wear.hi,.int .i64 c.layer.lo,.int .i64 c.layer.hi,.int .i64 c.rate,.int .i64 c.limit,.int .i64 c.base]]) (fun y=>c.hours.length+1 - y) 0 (Nat.zero_le _) zRS zRQ ?_
  rintro y hy
  simp only [zAn,List.cons_append,List.nil_append]
  by_cases hyl:y<c.hours.length+1
  ·obtain ⟨s,hs1⟩:∃ s,L[y]?=some s:=⟨_,List.getElem?_eq_getElem zRU⟩
   have hsx:s.xs=gA y:=by
    have h1:=(hLat y 0 zRU hb0).1
    rw [← hL,List.getElem?_map,hs1] at h1
    exact Option.some.inj h1
   have hsl:s.xs.length=c.beds.length:=by rw [hsx];exact hAl2 y
   have hsm:=List.mem_of_getElem? hs1
   have:zAP L y s:=⟨hs1⟩
   refine zE1 (enc:=zAA) (A:=A6) (xs:=L) zRT zRU ?_
   rintro ba oa rfl
   refine zME (s:=s) zRT hsm zRU ?_
   rintro bs os hA
   have hRI:RowIs L bs os s.xs:=⟨s,hsm,hA,rfl⟩
   obtain ⟨sA,sx,sc⟩:=s
   simp only at hA hsx hsl hRI
   subst hA
   (repeat' (first|((with_reducible refine zG ?_);first|refine zE rfl rfl rfl rfl rfl ?_|refine zC rfl rfl rfl rfl rfl ?_|(refine zK rfl rfl rfl rfl rfl ?_;refine ⟨_,rfl,?_⟩)|refine zd rfl rfl rfl rfl rfl ?_|(refine zQ rfl rfl rfl rfl rfl rfl rfl (fun h=>?_) (fun h=>?_)<;>(dsimp only [cmpP] at h;(try (exfalso;omega))))|refine zp rfl rfl rfl rfl rfl ?_)|(with_reducible first|refine zI ?_|refine zB ?_|refine zD ?_|refine zA ?_|refine zP ?_|refine zN ?_)|((with_reducible refine zJ ?_ ?_);(· exact rfl))))
   refine zq (ι:=Nat) [2,5,6,7,13,91,92,97] rfl (fun i=>i≤c.beds.length) (fun i=>[(98,.int .i64 (i:Int))]) (fun _=>[.zEO pg pn P yss,.sl zAA 1 (some ⟨ba,oa,none⟩) L,.rows L,.blk b [.slice A c.t.length ca,.slice B c.beds.length cb,.slice C c.hours.length cc,.int .i64 c.wear.lo,.int .i64 c.wear.hi,.int .i64 c.layer.lo,.int .i64 c.layer.hi,.int .i64 c.rate,.int .i64 c.limit,.int .i64 c.base]]) (fun i=>c.beds.length - i) 0 (Nat.zero_le _) zRS zRQ ?_
   rintro i hi
   simp only [zAn,List.cons_append,List.nil_append]
   by_cases hil:i<c.beds.length
   ·have hx:=(hLat y i zRU hil).2
    rw [← hsx] at hx
    have hTki:=fun W hW P cp hp=>hTk W hW P cp hp i y hil zRU
    have hin:=hGi i y hil zRU
    generalize gT (c.beds.getD i default) i y=x at *
    generalize thickN c (zAC yss) (c.beds.getD i default) (i:Int) y=tk at *
    have:zAP sx i x:=⟨hx⟩
    (repeat' (first|((with_reducible refine zG ?_);first|refine zE rfl rfl rfl rfl rfl ?_|refine zC rfl rfl rfl rfl rfl ?_|(refine zK rfl rfl rfl rfl rfl ?_;refine ⟨_,rfl,?_⟩)|(refine zQ rfl rfl rfl rfl rfl rfl rfl (fun h=>?_) (fun h=>?_)<;>(dsimp only [cmpP] at h;(try (exfalso;omega))))|refine zV rfl rfl rfl rfl rfl rfl (fun _ _ q=>hTki _ q.below _ _ (zBd q.own zRT)) ?_|refine zj rfl rfl rfl rfl rfl rfl ?_|(refine zf rfl rfl rfl rfl rfl ?_;refine And.intro rfl (And.intro zRY ⟨_,rfl,?_⟩))|(refine zr rfl rfl rfl rfl (fun b=>?_)))|(with_reducible first|refine zI ?_|refine zB ?_|refine zD ?_|refine zA ?_|refine zP ?_|refine zN ?_)|((with_reducible refine zJ ?_ ?_);(· exact rfl))))
    (refine zAr zRW zRW zRW ?_)
    (repeat' (first|((with_reducible refine zBD ?_);first|refine zW (zAM rfl rfl) rfl rfl rfl ?_|refine zW (zy rfl rfl zRe) rfl rfl rfl ?_|refine zW (zAJ rfl rfl) rfl rfl rfl ?_|refine zW (zCA rfl rfl rfl) rfl rfl rfl ?_|(refine zCu rfl rfl rfl rfl rfl rfl rfl (fun h=>?_) (fun h=>?_)<;>(dsimp only [cmpP] at h;(try (exfalso;omega))))|refine zW (zAO (I:=y) rfl rfl rfl zRU zRj) rfl rfl rfl ?_|refine zW (zAO (I:=i) rfl rfl rfl zRU zRj) rfl rfl rfl ?_)|(with_reducible refine zBw ?_)))
    (repeat' (first|((with_reducible refine zG ?_);first|refine zE rfl rfl rfl rfl rfl ?_|refine zg rfl rfl rfl rfl rfl rfl zRU ?_)|(with_reducible first|refine zB ?_|refine zD ?_|refine zA ?_|refine zP ?_|refine zi ?_)|((with_reducible refine zF ?_ ?_);(· exact rfl))))
    exact zc (ι:=Nat) (i+1) zRU zRU zRS zRQ
   ·obtain rfl:i=c.beds.length:=by omega
    (repeat' (first|((with_reducible refine zG ?_);first|refine zE rfl rfl rfl rfl rfl ?_|(refine zQ rfl rfl rfl rfl rfl rfl rfl (fun h=>?_) (fun h=>?_)<;>(dsimp only [cmpP] at h;(try (exfalso;omega))))|refine zg rfl rfl rfl rfl rfl rfl zRU ?_)|(with_reducible first|refine zI ?_|refine zB ?_|refine zD ?_|refine zA ?_|refine zk ?_|refine zi ?_|refine zR ?_|refine zY ?_)|((with_reducible refine zF ?_ ?_);(· exact rfl))))
    exact zc (ι:=Nat) (y+1) zRU zRU zRS zRQ
  ·obtain rfl:y=c.hours.length+1:=by omega
   (repeat' (first|((with_reducible refine zG ?_);first|refine zE rfl rfl rfl rfl rfl ?_|refine zC rfl rfl rfl rfl rfl ?_|(refine zQ rfl rfl rfl rfl rfl rfl rfl (fun h=>?_) (fun h=>?_)<;>(dsimp only [cmpP] at h;(try (exfalso;omega)))))|(with_reducible first|refine zI ?_|refine zB ?_|refine zD ?_|refine zA ?_|refine za ?_|refine zk ?_|refine zR ?_|refine zY ?_)|((with_reducible refine zF ?_ ?_);(· exact rfl))))
   exact zU zRZ () trivial rfl (fun _ _=>Own.nil _ _)
end Go.Proofs.YtdigopgncfhiaaaGreatDoor.Two
