/- H12 -/
import Derived.Test.YtdigopgncfhiaaaGreatDoorH11
import Derived.Test.YtdigopgncfhiaaaGreatDoorH9
import Derived.Test.YtdigopgncfhiaaaGreatDoorH7
import Derived.Test.YtdigopgncfhiaaaGreatDoorH10
import Derived.Test.YtdigopgncfhiaaaGreatDoorH1
import Derived.LaidMore
set_option linter.unusedSimpArgs false
set_option linter.unusedVariables false
namespace Go.Proofs.YtdigopgncfhiaaaGreatDoor
open Go.RowKit
set_option maxRecDepth 20000
theorem elem_ho : zKS Tryz.prog 26 67 5 40 (.agg #[.int .i64 0,.int .i64 0,.int .i64 0,.int .i64 0,.bool false]) :=
 ⟨by rfl,by exact ⟨_,rfl,rfl,rfl,rfl⟩,by decide,by decide⟩
instance elI_ho : ElI Tryz.prog 26 67 5 40:=⟨⟨_,elem_ho⟩⟩
theorem elem_be : zKS Tryz.prog 25 73 3 24 (.agg #[.int .i64 0,.int .i64 0,.int .i64 0]) :=
 ⟨by rfl,by exact ⟨_,rfl,rfl,rfl,rfl⟩,by decide,by decide⟩
instance elI_be : ElI Tryz.prog 25 73 3 24:=⟨⟨_,elem_be⟩⟩
theorem zNv (t:List Hour) (A:Option Addr) (c:Nat) (w:World) (ht:zp zAD 5 w A t) (h0:0<t.length) (hl:t.length≤1000) :
  Ret Tryz.prog 77 [.slice A t.length c] w (fun p:Option Addr × Nat=>.slice p.1 t.length p.2) (fun p=>[.row zAD 5 67 (.slice p.1 t.length p.2) t]) (fun _=>True):=by
 obtain ⟨bb,o,rfl,_⟩:=ht.at_ h0
 (refine zJ (n:=8) Tryz.func77 rfl rfl rfl ?_)
 (repeat' (first|((with_reducible refine zF ?_);first|refine zE rfl rfl rfl ?_|refine zC rfl rfl rfl ?_|refine zG4 rfl rfl rfl rfl ?_|(refine zCd zAD rfl rfl (fun b=>?_))|(refine zA4 (enc:=zAD) t rfl rfl rfl (by (repeat constructor)) rfl rfl (zFb ht) (by refine ⟨?_,by decide⟩;(try simp only [List.length_append,List.length_cons,List.length_nil]);omega) (fun A' c'=>?_)))|(with_reducible first|refine zH ?_|refine zB ?_|refine zD ?_|refine zA ?_|refine zW ?_|refine zS ?_)|((with_reducible refine zG ?_ ?_);(· exact rfl))))
 exact zR (by exact rTm rfl) (A',c') trivial rfl (fun _ h=>h.sub (by (repeat constructor)))
set_option maxHeartbeats 1000000 in
theorem zO0 (l:List (Int × Int)) (A:Option Addr) (cap:Nat) (kf:FuncId) [zT Tryz.prog kf] (cs:Array Value) (p:(Int × Int)→Bool) (w:World) (hk:zp zAc 2 w A l) (hl:l.length≤1000000)
  (hp:∀ x W,x∈l→Below w.heap.size w W→Gv Tryz.prog kf ([(fun p:Int × Int=>Value.agg (zAc p).toArray) x]++cs.toList) W (.bool (p x))) :
  Gv Tryz.prog 116 [.slice A l.length cap,.func (.func kf) #[] cs] w (.int .i64 (zC2 p l)):=by
 unfold Gv
 (refine zJ (n:=19) Tryz.func116 rfl rfl rfl ?_)
 (repeat' (first|((with_reducible refine zF ?_);first|refine zE rfl rfl rfl ?_|refine zC rfl rfl rfl ?_|refine zq rfl rfl rfl ?_)|(with_reducible first|refine zH ?_|refine zB ?_|refine zD ?_|refine zA ?_|refine zP ?_)))
 refine zw (ι:=Nat) [0,1,7] rfl (fun i=>i≤l.length∧∀ j y,j<i→l[j]?=some y→p y=false) (fun i=>[(8,.int .i64 (i:Int))]) (fun _=>[]) (fun i=>l.length - i) 0 ⟨Nat.zero_le _,fun j y h=>by omega⟩ (by (repeat first|exact lK1|refine zI rfl ?_)) (by (repeat constructor)) ?_
 rintro i ⟨hi,hb⟩
 simp only [zA1,List.cons_append,List.nil_append]
 by_cases hlt:i<l.length
 ·have hx:l[i]?=some l[i]:=by simp [hlt]
  obtain ⟨b,o,rfl,hblt,hc⟩:=hk.at_ hlt
  have:InS w b o zAc 2 l:=⟨hk⟩
  have:zAQ l i l[i]:=⟨hx⟩
  (repeat' (first|((with_reducible refine zF ?_);first|refine zE rfl rfl rfl ?_|refine zC rfl rfl rfl ?_|(refine zL rfl rfl rfl ?_;refine ⟨_,rfl,?_⟩)|(refine zQ rfl rfl rfl rfl rfl (fun h=>?_) (fun h=>?_)<;>(dsimp only [cmpP] at h;(try (exfalso;omega))))|(refine zAG rfl rfl rfl rfl (fun _ _ q=>hp _ _ (List.getElem_mem hlt) q.below) (fun h=>?_) (fun h=>?_)<;>(try (exfalso;omega)))|refine zi rfl rfl rfl rfl (by omega) ?_|refine zk rfl rfl rfl rfl rfl (by omega) ?_)|(with_reducible first|refine zH ?_|refine zB ?_|refine zD ?_|refine zA ?_|refine zW ?_|refine zS ?_|refine ze ?_|refine zP ?_|refine zg ?_|refine zBb ?_)|((with_reducible refine zK ?_ ?_);(· exact rfl))|((with_reducible refine zG ?_ ?_);(· exact rfl))))
  ·have e1:=zEo hlt h hb
   exact zR (by exact rTm rfl) () trivial (by rw [e1];rfl) (fun _ h=>h.sub (by (repeat constructor)))
  ·refine zZ (i+1) ⟨by omega,fun j y hj hy=>?_⟩ (by omega) (by (repeat first|exact lK1|refine zI rfl ?_)) (by (repeat constructor))
   by_cases e:j=i
   ·subst e;rw [hx] at hy;cases hy;exact h
   ·exact hb j y (by omega) hy
 ·obtain rfl:i=l.length:=by omega
  have e1:=zDu (p:=p) (l:=l) (fun y hy=>by
   obtain ⟨j,hj⟩:=List.mem_iff_getElem?.1 hy
   exact hb j y (List.getElem?_eq_some_iff.1 hj).1 hj)
  (repeat' (first|((with_reducible refine zF ?_);first|refine zC rfl rfl rfl ?_|(refine zQ rfl rfl rfl rfl rfl (fun h=>?_) (fun h=>?_)<;>(dsimp only [cmpP] at h;(try (exfalso;omega)))))|(with_reducible first|refine zH ?_|refine zB ?_|refine zD ?_|refine zA ?_|refine zW ?_|refine zl ?_|refine zV ?_|refine zX ?_)|((with_reducible refine zG ?_ ?_);(· exact rfl))))
  exact zR (by exact rTm rfl) () trivial (by rw [e1];rfl) (fun _ h=>h.sub (by (repeat constructor)))
theorem cp_con (l:List (Int × Int)) (A:Option Addr) (cap:Nat) (kf:FuncId) [zT Tryz.prog kf] (cs:Array Value) (p:(Int × Int)→Bool) (w:World) (hk:zp zAc 2 w A l) (hl:l.length≤1000000)
  (hp:∀ x W,x∈l→Below w.heap.size w W→Gv Tryz.prog kf ([(fun p:Int × Int=>Value.agg (zAc p).toArray) x]++cs.toList) W (.bool (p x))) :
  Gv Tryz.prog 78 [.slice A l.length cap,.func (.func kf) #[] cs] w (.bool (l.any p)):=by
 unfold Gv
 have hf:=zEn p l
 (refine zJ (n:=9) Tryz.func78 rfl rfl rfl ?_)
 (repeat' (first|((with_reducible refine zF ?_);first|refine zE rfl rfl rfl ?_|refine zC rfl rfl rfl ?_|(refine zQ rfl rfl rfl rfl rfl (fun h=>?_) (fun h=>?_)<;>(dsimp only [cmpP] at h;(try (exfalso;omega))))|refine zY rfl rfl rfl rfl (fun _ _ q=>zO0 l A cap kf cs p _ (hk.below q.below) hl (fun x W hx hW=>hp x W hx (q.below.trans (hW.mono q.base)))) ?_)|(with_reducible first|refine zH ?_|refine zB ?_|refine zD ?_|refine zA ?_|refine zW ?_)))
 all_goals exact zR (by exact rTm rfl) () trivial (by simp only [resV];rw [← hf];simp;omega) (fun _ h=>h.sub (by (repeat constructor)))
def zMp (n:Int) (u:Hour):Hour:={ u with runs:=n }
def zBh (c:Cov) (J:Nat) (n:Int):Cov:={ c with hours:=c.hours.set J (zMp n (c.hours.getD J default)) }
theorem zCo {c:Cov} {J:Nat} {n:Int}:(zBh c J n).hours.length=c.hours.length:=by simp [zBh]
theorem zI3 {c:Cov} {J:Nat} {n:Int} (h:Small c):Small (zBh c J n):=⟨h.fit,h.t,h.b,by rw [zCo];exact h.h⟩
theorem zKU {c:Cov} {J:Nat} {n:Int} (hJ:J<c.hours.length) (h0:0≤n) (h1:n≤60) (h:zD5 c):zD5 (zBh c J n) :=
 ⟨h.bed,fun u hu=>by
  rcases List.mem_or_eq_of_mem_set hu with hu|rfl
  ·exact h.hour u hu
  ·have:=h.hour (c.hours.getD J default) (by rw [zBD (List.getElem?_eq_getElem hJ)];exact List.getElem_mem hJ)
   simp only [zCe,Bool.and_eq_true,zAB] at this ⊢
   exact ⟨⟨this.1.1,by simp only [zMp];omega⟩,this.2⟩,h.wear,h.layer,h.rate,h.limit,h.base,h.beds,by rw [zCo];exact h.hours⟩
def zIE (c:Cov) (pl:List Sli) (J:Nat) (n:Int):Bool:=!(zCj (zBh c J n) pl zC5).any fun p=>decide (p.1=(J:Int))
theorem zO7 (g J:Nat) (p:Int × Int) (w:World) (hg:InC w g 0 [.int .i64 (J:Int)]):Gv Tryz.prog 79 [.agg (zAc p).toArray,.pointer (some ⟨g,0,none⟩)] w (.bool (decide (p.1=(J:Int)))):=by
 unfold Gv zAc
 (refine zJ (n:=8) Tryz.func79 rfl rfl rfl ?_)
 (repeat' (first|((with_reducible refine zF ?_);first|refine zC rfl rfl rfl ?_|(refine zL rfl rfl rfl ?_;refine ⟨_,rfl,?_⟩)|(refine zQ rfl rfl rfl rfl rfl (fun h=>?_) (fun h=>?_)<;>(dsimp only [cmpP] at h;(try (exfalso;omega))))|refine zG2 rfl rfl rfl rfl rfl (by first|decide|omega) ?_|(refine zy rfl rfl rfl rfl (fun b=>?_)))|(with_reducible first|refine zH ?_|refine zB ?_|refine zD ?_|refine zA ?_|refine zW ?_)))
 all_goals exact zR (by exact rTm rfl) () trivial (by simp [resV];omega) (fun _ h=>h.sub (by (repeat constructor)))
set_option maxHeartbeats 4000000 in
theorem zRA (c:Cov) (A:Option Addr) (ca:Nat) (B:Option Addr) (cb:Nat) (C:Option Addr) (cc g gp gh gr J n:Nat) (pl:List Sli) (P:Option Addr) (cp:Nat) (w:World) (hr:InC w g 0 (zN c A ca B cb C cc)) (hG:InC w 0 0 zCz) (h:zAp w c A B C) (hs:Small c) (hf:zD5 c) (hp:zBJ w P pl) (hrl:∀ s∈pl,s.xs.length≤20) (hpl:pl.length=c.hours.length)
  (hgr:InC w gr 0 [.pointer (some ⟨g,0,none⟩)]) (hgh:InC w gh 0 [.int .i64 (J:Int)]) (hgp:InC w gp 0 [.slice P pl.length cp]) (hJ:J<c.hours.length) (hn:n≤60) :
  Gv Tryz.prog 76 [.int .i64 (n:Int),.pointer (some ⟨gr,0,none⟩),.pointer (some ⟨gh,0,none⟩),.pointer (some ⟨gp,0,none⟩)] w (.bool (zIE c pl J n)):=by
 have h4:=hs.b;have h5:=hs.h
 have hh:=h.h
 have hT:=fun W C' cc' g' (hW:Below w.heap.size w W) (hx:InC W g' 0 (zN (zBh c J n) A ca B cb C' cc')) (hC:zp zAD 5 W C' (zBh c J n).hours)=>zGK (en:=zC5) (enF:=58) zHg (zBh c J n) A ca B cb C' cc' g' pl P cp W hx (hG.below hW) ⟨h.t.below hW,h.b.below hW,hC⟩ (zI3 hs) (zKU hJ (by omega) (by omega) hf) (hp.below hW) hrl (by rw [zCo];exact hpl)
 obtain ⟨u,hu⟩:∃ u,c.hours[J]?=some u:=⟨_,List.getElem?_eq_getElem hJ⟩
 have hl:=zP6 (c:=zBh c J n) (pl:=pl) (en:=zC5) h4 (by rw [zCo];exact h5)
 unfold zIE
 have hcp:=fun A2 c2 W (hs2:zp zAc 2 W A2 (zCj (zBh c J n) pl zC5)) (hW:Below w.heap.size w W)=>cp_con (zCj (zBh c J n) pl zC5) A2 c2 79 #[.pointer (some ⟨gh,0,none⟩)] (fun p=>decide (p.1=(J:Int))) W hs2 (by omega) (fun x W2 _ hW2=>zO7 gh J x W2 (hgh.below (hW.trans (hW2.mono hW.size))))
 generalize hth:zCj (zBh c J n) pl zC5=th at *
 unfold zN at *
 rw [zCo] at hT
 unfold Gv
 (refine zJ (n:=38) Tryz.func76 rfl rfl rfl ?_)
 (repeat' (first|((with_reducible refine zF ?_);first|refine zE rfl rfl rfl ?_|refine zC rfl rfl rfl ?_|(refine zL rfl rfl rfl ?_;refine ⟨_,rfl,?_⟩)|refine zb rfl rfl rfl ?_|(refine zAW rfl rfl rfl rfl (fun _ _ q=>zNv c.hours C cc _ (hh.below q.below) (by omega) (by omega)) ?_;rintro ⟨A',c'⟩ -;dsimp only [List.cons_append,List.nil_append];refine zHk (Take.here _ _) (by omega) ?_;rintro g' rfl)|(refine za rfl rfl rfl rfl rfl ?_;refine ⟨rfl,by first|decide|exact Nat.le_of_ble_eq_true rfl|(simp;omega),_,rfl,?_⟩)|(refine zy rfl rfl rfl rfl (fun b=>?_))|(refine zAo rfl rfl rfl ?_;refine ⟨_,rfl,?_⟩)|refine zAu rfl rfl rfl ?_)|(with_reducible first|refine zH ?_|refine zB ?_|refine zD ?_|refine zA ?_)))
 have hset:(zBh c J n).hours=c.hours.set J (zMp n u):=by simp only [zBh,zBD hu]
 rw [hset] at hT
 have:zAQ c.hours J u:=⟨hu⟩
 (refine Two.zAV [] [] [] rfl (show ([]:List Nat).Nodup by decide) (fun _ h=>h) (by kernel_rfl) [[],[Z],[Z,Z],[Z,Z,Z],[Z,Z,Z,Z],[Y,Y,Y,Y,Y],[Y,Y,Y,Y,Y,Y],[Z,Z,Z,Z,Z,Z,Z],[Z,Z,Z,Z,Z,Z,Z,Z],[Z,Z,Z,Z,Z,Z,Z,Z,Z]] (by kernel_rfl) (by kernel_rfl) (by kernel_rfl) (by kernel_rfl) (by kernel_rfl) ?_)
 (repeat' (first|(((with_reducible refine Two.zCC ?_ ?_);(· exact rfl);refine ⟨_,fun G=>(by (try simp (decide:=true) only [Two.vis,Two.see,fltT,zm,Nat.reduceAdd,Nat.reduceSub,if_true,if_false,List.set_cons_zero,List.set_cons_succ,List.set_nil,List.nil_append,List.cons_append]);rfl),?_⟩);first|refine Two.zU _ (fun _=>zAO rfl rfl) (fun _=>rfl) rfl (by intro G G' h;simp (decide:=true) only [h]) ?_|refine Two.zU _ (fun _=>zu rfl rfl (by exact rfl)) (fun _=>rfl) rfl (by intro G G' h;simp (decide:=true) only [h]) ?_|(refine Two.zAC rfl ?_;refine Two.zU _ (fun _=>zAE rfl rfl) (fun _=>rfl) rfl (by intro G G' h;simp (decide:=true) only [h]) ?_)|refine Two.zU _ (fun _=>zAl (I:=J) rfl rfl rfl rfl (by omega)) (fun _=>rfl) rfl (by exact fun _ _ _=>rfl) ?_|refine Two.zU _ (fun _=>zAJ rfl rfl) (fun _=>rfl) rfl (by intro G G' h;simp (decide:=true) only [h]) ?_)|((with_reducible refine Two.zA8 ?_ ?_);(· exact rfl))))
 (intro G;simp only [regsT,zm,Two.zAq,Two.ini,List.nil_append,List.cons_append])
 refine zFV (enc:=zAD) (j:=2) (z:=u) (zMp n u) rfl rfl rfl rfl rfl rfl rfl rfl (by decide) ?_
 (repeat' (first|((with_reducible refine zF ?_);first|refine zE rfl rfl rfl ?_|refine zC rfl rfl rfl ?_|(refine zL rfl rfl rfl ?_;refine ⟨_,rfl,?_⟩)|(refine zAW rfl rfl rfl rfl (fun _ _ q=>hT _ (some ⟨g',0,none⟩) c' b q.below (zBO q.own (Below.refl _ _) rfl) ((Own.zMS (by (repeat constructor)) q.own).here (.sl zAD 5 (some ⟨g',0,none⟩) (c.hours.set J (zMp n u))) (by simp))) ?_;rintro ⟨A2,c2⟩ -;dsimp only [List.cons_append,List.nil_append])|refine zY rfl rfl rfl rfl (fun _ _ q=>hcp _ _ _ (zBQ q.own (Below.refl _ _)) q.below) ?_|refine zAd rfl rfl rfl ?_|refine zBa rfl rfl rfl rfl ?_)|(with_reducible first|refine zH ?_|refine zB ?_|refine zD ?_|refine zA ?_|refine zW ?_)))
 all_goals exact zR (by exact rTm rfl) () trivial rfl (fun _ h=>h.sub (by (repeat constructor)))
end Go.Proofs.YtdigopgncfhiaaaGreatDoor
namespace Go.Proofs.YtdigopgncfhiaaaGreatDoor
open Go.RowKit
set_option maxRecDepth 20000
def bestN (c:Cov) (pl:List Sli) (J:Nat):Nat→Int
 | 0=>-1
 | n+1=>if zIE c pl J n then (n:Int) else bestN c pl J n
def zHG (c:Cov) (pl:List Sli) (h:Int):Int × Int :=
 if zCB c pl=0 then (if inB 0 ((c.hours.length:Int) - 1) h=true then (if bestN c pl h.toNat 61<0 then (0,6) else (bestN c pl h.toNat 61,0)) else (0,2)) else (0,zCB c pl)
set_option maxHeartbeats 4000000 in
theorem zQl (c:Cov) (A:Option Addr) (ca:Nat) (B:Option Addr) (cb:Nat) (C:Option Addr) (cc:Nat) (pl:List Sli) (P:Option Addr) (cp:Nat) (h:Int) (w:World) (hc:zAp w c A B C) (hs:Small c) (hp:zBJ w P pl) (hl:pl.length≤12) (hrl:∀ s∈pl,s.xs.length≤20) (hG:InC w 0 0 zCz) :
  Gv Tryz.prog 37 [zAS c A ca B cb C cc,.slice P pl.length cp,.int .i64 h] w (.tuple #[.int .i64 (zHG c pl h).1,.int .i64 (zHG c pl h).2]):=by
 have hl4:=hs.b;have hl5:=hs.h
 have h1:=fun W (hb:Below w.heap.size w W)=>zEk c A ca B cb C cc pl P cp W (hc.below hb) hs (hp.below hb) hl hrl
 have h2:=fun W (hb:Below w.heap.size w W)=>zEj c A ca B cb C cc pl P cp W (hc.below hb) hs (hp.below hb) hl hrl
 unfold zAS at h1 h2
 unfold Gv zAS zHG
 by_cases h0:zCB c pl=0
 ·rw [if_pos h0]
  obtain ⟨h00,hpl⟩:=zEr h0
  have hf:=zBm h00
  have h2:=fun W hb=>h2 W hb h00 hpl
  by_cases hin:inB 0 ((c.hours.length:Int) - 1) h=true
  ·rw [if_pos hin]
   obtain ⟨J,rfl,hJ⟩:=zOU hin
   simp only [Int.toNat_natCast]
   have hB:=fun W (hb:Below w.heap.size w W) g gp gh gr n (hr:InC W g 0 (zN c A ca B cb C cc)) (hgr:InC W gr 0 [.pointer (some ⟨g,0,none⟩)]) (hgh:InC W gh 0 [.int .i64 (J:Int)]) (hgp:InC W gp 0 [.slice P pl.length cp]) hn=>zRA c A ca B cb C cc g gp gh gr J n pl P cp W hr (hG.below hb) (hc.below hb) hs hf (hp.below hb) hrl (zBc.1 hpl).1 hgr hgh hgp hJ hn
   unfold zN at h2 hB ⊢
   (refine zJ (n:=38) Tryz.func37 rfl rfl rfl ?_)
   (repeat' (first|((with_reducible refine zF ?_);first|refine zE rfl rfl rfl ?_|refine zC rfl rfl rfl ?_|(refine zL rfl rfl rfl ?_;refine ⟨_,rfl,?_⟩)|refine zb rfl rfl rfl ?_|(refine zQ rfl rfl rfl rfl rfl (fun h=>?_) (fun h=>?_)<;>(dsimp only [cmpP] at h;(try (exfalso;omega))))|(refine zAW rfl rfl rfl rfl (fun _ _ q=>h2 _ q.below) ?_;rintro g -;dsimp only [List.cons_append,List.nil_append])|(refine zY rfl rfl rfl rfl (fun _ _ q=>hin ▸ iin1 _ _ _ _ _ _ (zAg (enc:=encI) (by exact rfl) _ q.below q.own)) ?_)|refine zc rfl rfl rfl rfl ?_|refine zAd rfl rfl rfl ?_|refine zCi rfl rfl rfl rfl (IntWalk.i64_in _ (by omega)) ?_|refine zq rfl rfl rfl ?_|(refine za rfl rfl rfl rfl rfl ?_;refine ⟨rfl,by first|decide|exact Nat.le_of_ble_eq_true rfl|(simp;omega),_,rfl,?_⟩)|(refine zh rfl rfl (fun b=>?_))|(refine zy rfl rfl rfl rfl (fun b=>?_))|(refine zt rfl rfl rfl ?_;refine ⟨rfl,_,rfl,fun b=>?_⟩)|refine zBa rfl rfl rfl rfl ?_)|(with_reducible first|refine zH ?_|refine zB ?_|refine zD ?_|refine zA ?_|refine zS ?_|refine zP ?_)|((with_reducible refine zG ?_ ?_);(· exact rfl))))
   rename_i b3 b4 b5 b8
   refine zw (ι:=Nat) [8,10] rfl (fun k=>k≤61∧bestN c pl J 61=bestN c pl J k) (fun k=>[(11,.int .i64 ((k:Int) - 1))]) (fun _=>[.blk b8 [.pointer (some ⟨g,0,none⟩)],.blk b5 [.int .i64 (J:Int)],.blk b4 [.slice P pl.length cp],.blk g (zN c A ca B cb C cc)]) (fun k=>k) 61 ⟨Nat.le_refl _,rfl⟩ (by (repeat first|exact lK1|refine zI rfl ?_)) (by (repeat constructor)) ?_
   rintro k ⟨hk,hbe⟩
   simp only [zA1,zN,List.cons_append,List.nil_append]
   cases k with
   | zero =>
    (repeat' (first|((with_reducible refine zF ?_);first|refine zE rfl rfl rfl ?_|refine zC rfl rfl rfl ?_|(refine zQ rfl rfl rfl rfl rfl (fun h=>?_) (fun h=>?_)<;>(dsimp only [cmpP] at h;(try (exfalso;omega)))))|(with_reducible first|refine zH ?_|refine zB ?_|refine zD ?_|refine zA ?_|refine zW ?_|refine zl ?_|refine zV ?_|refine zX ?_)|((with_reducible refine zG ?_ ?_);(· exact rfl))))
    exact zR (by (exact zf.cons (by exact zAL.tmp rfl) (zf.cons (by exact zAL.tmp rfl) zf.nil))) () trivial (by rw [hbe];simp [bestN,resV]) (fun _ h=>h.sub (by (repeat constructor)))
   | succ n =>
    rw [show (((n+1:Nat):Int) - 1)=(n:Int) by omega]
    (repeat' (first|((with_reducible refine zF ?_);first|refine zE rfl rfl rfl ?_|refine zC rfl rfl rfl ?_|(refine zQ rfl rfl rfl rfl rfl (fun h=>?_) (fun h=>?_)<;>(dsimp only [cmpP] at h;(try (exfalso;omega))))|(refine zAG rfl rfl rfl rfl (fun _ _ q=>hB _ q.below g b4 b5 b8 n (zBO q.own (Below.refl _ _) rfl) (zBO q.own (Below.refl _ _) rfl) (zBO q.own (Below.refl _ _) rfl) (zBO q.own (Below.refl _ _) rfl) (by omega)) (fun h=>?_) (fun h=>?_)<;>(try (exfalso;omega)))|refine zCi rfl rfl rfl rfl (IntWalk.i64_in _ (by omega)) ?_)|(with_reducible first|refine zH ?_|refine zB ?_|refine zD ?_|refine zA ?_|refine zW ?_|refine zS ?_|refine ze ?_|refine zP ?_|refine zg ?_|refine zBb ?_)|((with_reducible refine zK ?_ ?_);(· exact rfl))|((with_reducible refine zG ?_ ?_);(· exact rfl))))
    ·exact zR (by (exact zf.cons (by exact zAL.tmp rfl) (zf.cons (by exact zAL.tmp rfl) zf.nil))) () trivial (by rw [hbe,show bestN c pl J (n+1)=(n:Int) from by simp [bestN,h],if_neg (by omega)];rfl) (fun _ h=>h.sub (by (repeat constructor)))
    ·exact zZ n ⟨by omega,by rw [hbe];simp [bestN,h]⟩ (by omega) (by (repeat first|exact lK1|refine zI rfl ?_)) (by (repeat constructor))
  ·rw [if_neg hin]
   unfold zN at h2 ⊢
   (refine zJ (n:=38) Tryz.func37 rfl rfl rfl ?_)
   (repeat' (first|((with_reducible refine zF ?_);first|refine zE rfl rfl rfl ?_|refine zC rfl rfl rfl ?_|(refine zL rfl rfl rfl ?_;refine ⟨_,rfl,?_⟩)|refine zb rfl rfl rfl ?_|(refine zQ rfl rfl rfl rfl rfl (fun h=>?_) (fun h=>?_)<;>(dsimp only [cmpP] at h;(try (exfalso;omega))))|(refine zAW rfl rfl rfl rfl (fun _ _ q=>h2 _ q.below) ?_;rintro g -;dsimp only [List.cons_append,List.nil_append])|(refine zY rfl rfl rfl rfl (fun _ _ q=>(Bool.eq_false_iff.2 hin) ▸ iin1 _ _ _ _ _ _ (zAg (enc:=encI) (by exact rfl) _ q.below q.own)) ?_)|refine zc rfl rfl rfl rfl ?_|refine zAd rfl rfl rfl ?_|refine zCi rfl rfl rfl rfl (IntWalk.i64_in _ (by omega)) ?_|refine zq rfl rfl rfl ?_|(refine za rfl rfl rfl rfl rfl ?_;refine ⟨rfl,by first|decide|exact Nat.le_of_ble_eq_true rfl|(simp;omega),_,rfl,?_⟩)|(refine zh rfl rfl (fun b=>?_))|(refine zy rfl rfl rfl rfl (fun b=>?_))|(refine zt rfl rfl rfl ?_;refine ⟨rfl,_,rfl,fun b=>?_⟩))|(with_reducible first|refine zH ?_|refine zB ?_|refine zD ?_|refine zA ?_|refine zW ?_|refine zS ?_|refine ze ?_)|((with_reducible refine zK ?_ ?_);(· exact rfl))|((with_reducible refine zG ?_ ?_);(· exact rfl))))
   all_goals exact zR (by (exact zf.cons (by exact zAL.tmp rfl) (zf.cons (by exact zAL.tmp rfl) zf.nil))) () trivial rfl (fun _ h=>h.sub (by (repeat constructor)))
 ·rw [if_neg h0]
  unfold zN at h1 ⊢
  generalize zCB c pl=e at *
  (refine zJ (n:=38) Tryz.func37 rfl rfl rfl ?_)
  (repeat' (first|((with_reducible refine zF ?_);first|refine zE rfl rfl rfl ?_|refine zC rfl rfl rfl ?_|(refine zL rfl rfl rfl ?_;refine ⟨_,rfl,?_⟩)|(refine zQ rfl rfl rfl rfl rfl (fun h=>?_) (fun h=>?_)<;>(dsimp only [cmpP] at h;(try (exfalso;omega))))|refine zY rfl rfl rfl rfl (fun _ _ q=>h1 _ q.below h0) ?_|refine zc rfl rfl rfl rfl ?_|(refine za rfl rfl rfl rfl rfl ?_;refine ⟨rfl,by first|decide|exact Nat.le_of_ble_eq_true rfl|(simp;omega),_,rfl,?_⟩)|(refine zh rfl rfl (fun b=>?_))|(refine zy rfl rfl rfl rfl (fun b=>?_)))|(with_reducible first|refine zH ?_|refine zB ?_|refine zD ?_|refine zA ?_|refine zW ?_|refine ze ?_)|((with_reducible refine zK ?_ ?_);(· exact rfl))))
  all_goals exact zR (by (exact zf.cons (by exact zAL.tmp rfl) (zf.cons (by exact zAL.tmp rfl) zf.nil))) () trivial rfl (fun _ h=>h.sub (by (repeat constructor)))
end Go.Proofs.YtdigopgncfhiaaaGreatDoor
namespace Go.Proofs.YtdigopgncfhiaaaGreatDoor
open Go.RowKit
theorem zLq {α:Type} {a b:List α} {i:Nat} (h:a.take i=b.take i) (hl:a.length=b.length) (hi:a.length≤i):a=b:=by
 rwa [List.take_of_length_le hi,List.take_of_length_le (by omega)] at h
theorem zLp {α:Type} {a b:List α} {i:Nat} (h:a.take i=b.take i) (ha:i<a.length) (hb:i<b.length) (he:a[i]=b[i]):a.take (i+1)=b.take (i+1):=by
 rw [List.take_succ_eq_append_getElem ha,List.take_succ_eq_append_getElem hb,h,he]
theorem zKa {α:Type} {a b:List α} {i:Nat} (ha:i<a.length) (hb:i<b.length) (he:a[i]≠b[i]):a≠b:=by
 rintro rfl;exact he rfl
end Go.Proofs.YtdigopgncfhiaaaGreatDoor
namespace Go.Proofs.YtdigopgncfhiaaaGreatDoor
open Go.RowKit
set_option maxRecDepth 20000
set_option maxHeartbeats 1000000 in
theorem zKq (a b:List Int) (A B:Option Addr) (c d:Nat) (w:World) (ha:zp encI 1 w A a) (hb:zp encI 1 w B b) (hla:a.length≤1000000) (hlb:b.length≤1000000) :
  zAj 68 #[.slice A a.length c,.slice B b.length d] w (.bool (decide (a=b))):=by
 unfold zAj
 have HA:=Lib.hid ha
 have HB:=Lib.hid hb
 clear ha hb
 by_cases hl:a.length=b.length
 ·have hL:=Lib.hid hl
  have hlt0:b.length≤a.length:=by omega
  have hlt1:a.length≤b.length:=by omega
  clear hl
  go_enter Tryz.func68,Tryz.ntmps68
  go_wp2
  go_loopw [5] (fun v wr=>∃ i:Nat,i≤a.length∧v = .int .i64 i∧Below w.heap.size w wr∧Hid (a.take i=b.take i)) (fun v _=>a.length - (intOf v).toNat)
  case atStart=>exact ⟨0,Nat.zero_le _,rfl,Below.refl _ _,by unfold Hid;simp⟩
  case round =>
   obtain ⟨i,hi,rfl,hBw,hF⟩:=hrel
   by_cases hlt:i<a.length
   ·have hltb:i<b.length:=by omega
    obtain ⟨b1,o1,rfl,hb1,hc1⟩:=(HA.out.below hBw).at_ hlt
    obtain ⟨b2,o2,rfl,hb2,hc2⟩:=(HB.out.below hBw).at_ hltb
    have c1:=hc1 0 _ rfl
    have c3:=hc2 0 _ rfl
    simp only [Nat.add_zero,Nat.mul_one] at c1 c3
    clear hc1 hc2
    have hi0:(0:Int)≤i:=by omega
    have hi1:(i:Int)<a.length:=by omega
    have hi2:(i:Int)<b.length:=by omega
    by_cases he:a[i]=b[i]
    ·have hq:a[i]=b[i]:=he
     have HE:=Lib.hid he
     clear he
     go_wp2_with fail
     go_quiet (fail)
     go_wp2
     go_roundw
     case rel=>exact ⟨i+1,by omega,by go_num,below_drewN hBw _,zLp hF.out hlt hltb HE.out⟩
     case measure=>simp [intOf];omega
    ·have hq:¬ a[i]=b[i]:=he
     have HE:=Lib.hid he
     clear he
     go_wp2_with fail
     go_quiet (fail)
     go_wp2
     go_ret
     exact ⟨zBe (by simp [zKa hlt hltb HE.out]),below_drewN hBw _⟩
   ·go_wp2
    go_ret
    exact ⟨zBe (by rw [zLq hF.out hL.out (by omega)];simp),hBw⟩
 ·go_enter Tryz.func68,Tryz.ntmps68
  go_wp2
  go_ret
  exact ⟨zBe (by simp;rintro rfl;exact hl rfl),Below.refl _ _⟩
open Go.RowKit
set_option maxRecDepth 20000
end Go.Proofs.YtdigopgncfhiaaaGreatDoor
namespace Go.Proofs.YtdigopgncfhiaaaGreatDoor
open Go.RowKit
set_option maxRecDepth 20000
def zDC (c:Cov) (pl:List Sli):Bool:=decide (20<c.t.length) || (decide (20<c.beds.length) || (decide (12<c.hours.length) || (decide (12<pl.length) || pl.any fun s=>decide (20<s.xs.length))))
theorem zGN {c:Cov} {pl:List Sli} (h:zDC c pl=false):c.t.length≤20∧c.beds.length≤20∧c.hours.length≤12∧pl.length≤12∧∀ s∈pl,s.xs.length≤20:=by
 unfold zDC at h
 simp only [Bool.or_eq_false_iff,decide_eq_false_iff_not,List.any_eq_false,decide_eq_true_eq] at h
 obtain ⟨h1,h2,h3,h4,h5⟩:=h
 exact ⟨by omega,by omega,by omega,by omega,fun s hs=>by have:=h5 s hs;omega⟩
theorem zNa {c:Cov} {pl:List Sli} (h:20<c.t.length∨20<c.beds.length∨12<c.hours.length∨12<pl.length):zDC c pl=true:=by
 cases hg:zDC c pl with
 | true=>rfl
 | false=>have:=zGN hg;omega
theorem zNZ {c:Cov} {pl:List Sli} {s:Sli} (hs:s∈pl) (h:20<s.xs.length):zDC c pl=true:=by
 cases hg:zDC c pl with
 | true=>rfl
 | false=>have:=(zGN hg).2.2.2.2 s hs;omega
theorem zOs {c:Cov} {pl:List Sli} (h1:c.t.length≤20) (h2:c.beds.length≤20) (h3:c.hours.length≤12) (h4:pl.length≤12) (h5:∀ s∈pl,s.xs.length≤20):zDC c pl=false:=by
 unfold zDC
 simp only [Bool.or_eq_false_iff,decide_eq_false_iff_not,List.any_eq_false,decide_eq_true_eq]
 exact ⟨by omega,by omega,by omega,by omega,fun s hs=>by have:=h5 s hs;omega⟩
set_option maxHeartbeats 2000000 in
theorem zMx (c:Cov) (A:Option Addr) (ca:Nat) (B:Option Addr) (cb:Nat) (C:Option Addr) (cc:Nat) (pl:List Sli) (P:Option Addr) (cp:Nat) (w:World) (hp:zBJ w P pl) (hcap:pl.length≤cp∧cp≤maxLen) :
  Gv Tryz.prog 54 [zAS c A ca B cb C cc,.slice P pl.length cp] w (.bool (zDC c pl)):=by
 have hpp:=hp.p
 have hgr:=fun W=>(zQo A c.t.length ca W).gv
 unfold vT at hgr
 unfold Gv zAS zN
 (refine zJ (n:=38) Tryz.func54 rfl rfl rfl ?_)
 (repeat' (first|((with_reducible refine zF ?_);first|refine zE rfl rfl rfl ?_|refine zC rfl rfl rfl ?_|(refine zL rfl rfl rfl ?_;refine ⟨_,rfl,?_⟩)|refine zb rfl rfl rfl ?_|refine zAY rfl rfl rfl rfl ?_|refine zx rfl rfl rfl ?_|(refine zQ rfl rfl rfl rfl rfl (fun h=>?_) (fun h=>?_)<;>(dsimp only [cmpP] at h;(try (exfalso;omega))))|(refine zAG rfl rfl rfl rfl (fun _ _ q=>hgr _) (fun h=>?_) (fun h=>?_)<;>(try (exfalso;omega)))|refine zq rfl rfl rfl ?_|(refine zy rfl rfl rfl rfl (fun b=>?_)))|(with_reducible first|refine zH ?_|refine zB ?_|refine zD ?_|refine zA ?_|refine zW ?_|refine zS ?_|refine ze ?_|refine zP ?_)|((with_reducible refine zK ?_ ?_);(· exact rfl))|((with_reducible refine zG ?_ ?_);(· exact rfl))))
 all_goals (try simp only [decide_eq_true_eq,decide_eq_false_iff_not] at *)
 all_goals first|exact zR (by exact rTm rfl) () trivial (by rw [zNa (by omega)];rfl) (fun _ h=>h.sub (by (repeat constructor)))|skip
 refine zw (ι:=Nat) [1] rfl (fun i=>i≤pl.length∧∀ j (z:Sli),j<i→pl[j]?=some z→z.xs.length≤20) (fun i=>[(5,.int .i64 (i:Int))]) (fun _=>[]) (fun i=>pl.length - i) 0 ⟨Nat.zero_le _,fun j z h=>by omega⟩ (by (repeat first|exact lK1|refine zI rfl ?_)) (by (repeat constructor)) ?_
 rintro i ⟨hi,hall⟩
 simp only [zA1,List.cons_append,List.nil_append]
 by_cases hlt:i<pl.length
 ·obtain ⟨s,hsi⟩:∃ s,pl[i]?=some s:=⟨_,List.getElem?_eq_getElem hlt⟩
  have hsm:=List.mem_of_getElem? hsi
  obtain ⟨bb,o,rfl,hblt,hc⟩:=hpp.at_ hlt
  have:InS w bb o zBC 1 pl:=⟨hpp⟩
  have:zAQ pl i s:=⟨hsi⟩
  have hy:=fun h=>zNZ (c:=c) hsm h
  obtain ⟨sA,xs,sc⟩:=s
  simp only at hy
  (repeat' (first|((with_reducible refine zF ?_);first|refine zE rfl rfl rfl ?_|refine zC rfl rfl rfl ?_|(refine zL rfl rfl rfl ?_;refine ⟨_,rfl,?_⟩)|(refine zQ rfl rfl rfl rfl rfl (fun h=>?_) (fun h=>?_)<;>(dsimp only [cmpP] at h;(try (exfalso;omega))))|refine zi rfl rfl rfl rfl (by omega) ?_|refine zk rfl rfl rfl rfl rfl (by omega) ?_|refine zq rfl rfl rfl ?_)|(with_reducible first|refine zH ?_|refine zB ?_|refine zD ?_|refine zA ?_|refine zW ?_|refine zS ?_|refine ze ?_|refine zP ?_|refine zg ?_|refine zBb ?_)|((with_reducible refine zK ?_ ?_);(· exact rfl))|((with_reducible refine zG ?_ ?_);(· exact rfl))))
  ·exact zR (by exact rTm rfl) () trivial (by rw [hy (by omega)];rfl) (fun _ h=>h.sub (by (repeat constructor)))
  ·exact zZ (i+1) ⟨by omega,fun j z hj hz=>by
    by_cases e:j=i
    ·subst e;rw [hsi] at hz;cases hz;simp only;omega
    ·exact hall j z (by omega) hz⟩ (by omega) (by (repeat first|exact lK1|refine zI rfl ?_)) (by (repeat constructor))
 ·obtain rfl:i=pl.length:=by omega
  have hg:zDC c pl=false:=zOs (by omega) (by omega) (by omega) (by omega) (fun s hs=>by
   obtain ⟨j,hj⟩:=List.mem_iff_getElem?.1 hs
   exact hall j s (List.getElem?_eq_some_iff.1 hj).1 hj)
  (repeat' (first|((with_reducible refine zF ?_);first|refine zE rfl rfl rfl ?_|refine zC rfl rfl rfl ?_|(refine zQ rfl rfl rfl rfl rfl (fun h=>?_) (fun h=>?_)<;>(dsimp only [cmpP] at h;(try (exfalso;omega))))|refine zq rfl rfl rfl ?_)|(with_reducible first|refine zH ?_|refine zB ?_|refine zD ?_|refine zA ?_|refine zW ?_|refine zl ?_|refine zV ?_|refine zX ?_)|((with_reducible refine zG ?_ ?_);(· exact rfl))))
  exact zR (by exact rTm rfl) () trivial (by rw [hg];rfl) (fun _ h=>h.sub (by (repeat constructor)))
end Go.Proofs.YtdigopgncfhiaaaGreatDoor
namespace Go.Proofs.YtdigopgncfhiaaaGreatDoor
open Go.RowKit
set_option maxRecDepth 20000
def Ent.rows (l:List Sli):Ent:=⟨fun b=>∃ s∈l,∃ o,s.A=some ⟨b,o,none⟩,fun w=>∀ s∈l,zp encI 1 w s.A s.xs,fun w w' hs h hp s hm=>(Ent.sl encI 1 s.A s.xs).loc w w' hs (fun b hb=>h b ⟨s,hm,hb⟩) (hp s hm)⟩
theorem Own.rows_nil {base:Nat} {w:World} {H:List Ent} (h:Own base w H):Own base w (.rows []::H) :=
 ⟨fun e he=>by
  rcases List.mem_cons.1 he with rfl|he
  ·intro s hs;cases hs
  ·exact h.here e he,fun e he b hb=>by
  rcases List.mem_cons.1 he with rfl|he
  ·obtain ⟨s,hs,_⟩:=hb;cases hs
  ·exact h.foot e he b hb,List.pairwise_cons.2 ⟨(fun f _ b hb=>by obtain ⟨s,hs,_⟩:=hb;cases hs),h.apart⟩⟩
theorem Own.zJP {base:Nat} {w:World} {H:List Ent} {A:Option Addr} {xs:List Int} {c:Nat} {l:List Sli} (h:Own base w (.sl encI 1 A xs :: .rows l::H)):Own base w (.rows (l++[⟨A,xs,c⟩])::H):=by
 obtain ⟨a1,a2⟩:=List.pairwise_cons.1 h.apart
 obtain ⟨a3,a4⟩:=List.pairwise_cons.1 a2
 refine ⟨fun e he=>?_,fun e he b hb=>?_,List.pairwise_cons.2 ⟨fun f hf b hb hb'=>?_,a4⟩⟩
 ·rcases List.mem_cons.1 he with rfl|he
  ·intro s hs
   rcases List.mem_append.1 hs with hs|hs
   ·exact (h.here (.rows l) (by simp):∀ s∈l,zp encI 1 w s.A s.xs) s hs
   ·simp only [List.mem_singleton] at hs;subst hs
    exact h.here (.sl encI 1 A xs) (by simp)
  ·exact h.here e (by simp [he])
 ·rcases List.mem_cons.1 he with rfl|he
  ·obtain ⟨s,hs,hb⟩:=hb
   rcases List.mem_append.1 hs with hs|hs
   ·exact h.foot (.rows l) (by simp) b ⟨s,hs,hb⟩
   ·simp only [List.mem_singleton] at hs;subst hs
    exact h.foot (.sl encI 1 A xs) (by simp) b hb
  ·exact h.foot e (by simp [he]) b hb
 ·obtain ⟨s,hs,hb⟩:=hb
  rcases List.mem_append.1 hs with hs|hs
  ·exact a3 f hf b ⟨s,hs,hb⟩ hb'
  ·simp only [List.mem_singleton] at hs;subst hs
   exact a1 f (by simp [hf]) b hb hb'
theorem elem_sl : zKS Tryz.prog 34 38 1 24 (.slice none 0 0) :=
 ⟨by rfl,by exact ⟨_,rfl,rfl,rfl,rfl⟩,by decide,by decide⟩
instance elI_sl : ElI Tryz.prog 34 38 1 24:=⟨⟨_,elem_sl⟩⟩
theorem zMD {pl pl':List Sli} (h:pl.map Sli.xs=pl'.map Sli.xs) (i:Nat):(pl.getD i default).xs=(pl'.getD i default).xs:=by
 have e:∀ l:List Sli,(l.getD i default).xs=(l.map Sli.xs).getD i []:=fun l=>by
  simp only [List.getD_eq_getElem?_getD,List.getElem?_map]
  cases l[i]?<;>rfl
 rw [e,e,h]
theorem zE6 {c:Cov} {pl pl':List Sli} (h:pl.map Sli.xs=pl'.map Sli.xs) {z:Bed} {i:Int}:∀ k,thickN c pl z i k=thickN c pl' z i k
 | 0=>rfl
 | k+1=>by simp only [thickN];rw [zE6 h k,zMD h]
theorem zLz {c:Cov} {pl pl':List Sli} (h:pl.map Sli.xs=pl'.map Sli.xs):zBd c pl=zBd c pl':=by
 have hl:pl.length=pl'.length:=by have:=congrArg List.length h;simpa using this
 unfold zBd
 rw [hl]
 congr 2
 funext i
 unfold zFe
 rw [zMD h]
theorem zCJ {c:Cov} {pl pl':List Sli} (h:pl.map Sli.xs=pl'.map Sli.xs):zCB c pl=zCB c pl':=by unfold zCB;rw [zLz h]
theorem zLn {c:Cov} {pl pl':List Sli} (h:pl.map Sli.xs=pl'.map Sli.xs) {i k:Int}:zE5 c pl i k=zE5 c pl' i k:=by unfold zE5;rw [zCJ h,zE6 h]
theorem zKV {c:Cov} {pl pl':List Sli} (h:pl.map Sli.xs=pl'.map Sli.xs) {en:Sp→Sp→Int}:zCb c pl en=zCb c pl' en:=by
 funext z i k
 unfold zCb;rw [zE6 h]
theorem zEB {c:Cov} {pl pl':List Sli} (h:pl.map Sli.xs=pl'.map Sli.xs) {en:Sp→Sp→Int}:zCj c pl en=zCj c pl' en:=by unfold zCj;rw [zKV h]
theorem zMR {c:Cov} {pl pl':List Sli} (h:pl.map Sli.xs=pl'.map Sli.xs) {J:Nat} {n:Int}:zIE c pl J n=zIE c pl' J n:=by unfold zIE;rw [zEB h]
theorem zIg {c:Cov} {pl pl':List Sli} (h:pl.map Sli.xs=pl'.map Sli.xs) {J:Nat}:∀ k,bestN c pl J k=bestN c pl' J k
 | 0=>rfl
 | k+1=>by simp only [bestN,zMR h,zIg h k]
theorem zNF {c:Cov} {pl pl':List Sli} (h:pl.map Sli.xs=pl'.map Sli.xs) {k:Int}:zHG c pl k=zHG c pl' k:=by unfold zHG;rw [zCJ h,zIg h]
end Go.Proofs.YtdigopgncfhiaaaGreatDoor
namespace Go.Proofs.YtdigopgncfhiaaaGreatDoor
open Go.RowKit
set_option maxRecDepth 20000
set_option maxHeartbeats 2000000 in
theorem zKY (a m:List Sli) (A:Option Addr) (ca:Nat) (B:Option Addr) (cb:Nat) (w:World) (ha:zBJ w A a) (hb:zBJ w B m) (hab:a.map Sli.xs=m.map Sli.xs) (hl:a.length≤1000) (hrl:∀ s∈m,s.xs.length≤1000) :
  Gv Tryz.prog 53 [.slice A a.length ca,.slice B m.length cb] w (.bool true):=by
 have hlen:a.length=m.length:=by have:=congrArg List.length hab;simpa using this
 have hap:=ha.p;have hbp:=hb.p
 have hS:∀ (x:List Int) (X:Option Addr) (cx:Nat) (Y:Option Addr) (cy:Nat) W,zp encI 1 W X x→zp encI 1 W Y x→x.length≤1000→Gv Tryz.prog 27 [.slice X x.length cx,.slice Y x.length cy] W (.bool true):=by
  intro x X cx Y cy W h1 h2 h3
  have hs:=fun W' (hW:Below W.heap.size W W')=>(zKq x x X Y cx cy W' (h1.below hW) (h2.below hW) (by omega) (by omega)).gv
  simp only [decide_true] at hs
  unfold Gv
  (refine zJ (n:=8) Tryz.func27 rfl rfl rfl ?_)
  (repeat' (first|((with_reducible refine zF ?_);first|refine zE rfl rfl rfl ?_|refine zC rfl rfl rfl ?_|refine zY rfl rfl rfl rfl (fun _ _ q=>hs _ q.below) ?_)|(with_reducible first|refine zH ?_|refine zB ?_|refine zD ?_|refine zA ?_|refine zW ?_)))
  all_goals exact zR (by exact rTm rfl) () trivial rfl (fun _ h=>h.sub (by (repeat constructor)))
 unfold Gv
 (refine zJ (n:=27) Tryz.func53 rfl rfl rfl ?_)
 (repeat' (first|((with_reducible refine zF ?_);first|refine zE rfl rfl rfl ?_|refine zC rfl rfl rfl ?_|(refine zQ rfl rfl rfl rfl rfl (fun h=>?_) (fun h=>?_)<;>(dsimp only [cmpP] at h;(try (exfalso;omega))))|refine zq rfl rfl rfl ?_)|(with_reducible first|refine zH ?_|refine zB ?_|refine zD ?_|refine zA ?_|refine zS ?_|refine zP ?_)|((with_reducible refine zG ?_ ?_);(· exact rfl))))
 refine zw (ι:=Nat) [0,1] rfl (fun i=>i≤a.length) (fun i=>[(5,.int .i64 (i:Int))]) (fun _=>[]) (fun i=>a.length - i) 0 (Nat.zero_le _) (by (repeat first|exact lK1|refine zI rfl ?_)) (by (repeat constructor)) ?_
 rintro i hi
 simp only [zA1,List.cons_append,List.nil_append]
 by_cases hlt:i<a.length
 ·obtain ⟨s,hsi⟩:∃ s,a[i]?=some s:=⟨_,List.getElem?_eq_getElem hlt⟩
  obtain ⟨u,hui⟩:∃ u,m[i]?=some u:=⟨_,List.getElem?_eq_getElem (by omega)⟩
  have hxs:s.xs=u.xs:=by
   have:=zMD hab i
   rwa [zBD hsi,zBD hui] at this
  have r1:=ha.rows s (List.mem_of_getElem? hsi)
  have r2:=hb.rows u (List.mem_of_getElem? hui)
  have r3:=hrl u (List.mem_of_getElem? hui)
  obtain ⟨b1,o1,rfl,hb1,hc1⟩:=hap.at_ hlt
  obtain ⟨b2,o2,rfl,hb2,hc2⟩:=hbp.at_ (show i<m.length by omega)
  have:InS w b1 o1 zBC 1 a:=⟨hap⟩
  have:InS w b2 o2 zBC 1 m:=⟨hbp⟩
  obtain ⟨sA,xs,sc⟩:=s
  obtain ⟨uA,xs',uc⟩:=u
  simp only at hxs r1 r2 r3
  subst hxs
  have:zAQ a i ⟨sA,xs,sc⟩:=⟨hsi⟩
  have:zAQ m i ⟨uA,xs,uc⟩:=⟨hui⟩
  (repeat' (first|((with_reducible refine zF ?_);first|refine zE rfl rfl rfl ?_|(refine zQ rfl rfl rfl rfl rfl (fun h=>?_) (fun h=>?_)<;>(dsimp only [cmpP] at h;(try (exfalso;omega))))|refine zq rfl rfl rfl ?_)|(with_reducible first|refine zH ?_|refine zB ?_|refine zD ?_|refine zA ?_|refine zS ?_|refine zP ?_)|((with_reducible refine zK ?_ ?_);(· exact rfl))))
  (refine zBW (by kernel_rfl) (by kernel_rfl) (by kernel_rfl) ?_)
  (repeat' (first|((with_reducible refine zBy ?_);first|refine zj (zAO rfl rfl) rfl ?_|refine zj (zu rfl rfl (by exact rfl)) rfl ?_|refine zj (zAl (I:=i) rfl rfl rfl (by omega) (by first|omega|(dsimp only;omega))) rfl ?_|refine zFA rfl rfl rfl rfl (fun _ _ q=>hS xs _ _ _ _ _ (r1.below q.below) (r2.below q.below) r3) ?_|refine zj (e_not rfl rfl) rfl ?_)|(with_reducible refine zCx ?_)))
  (repeat' (first|((with_reducible refine zF ?_);first|refine zE rfl rfl rfl ?_|refine zC rfl rfl rfl ?_|refine zi rfl rfl rfl rfl (by omega) ?_)|(with_reducible first|refine zB ?_|refine zD ?_|refine zA ?_|refine zS ?_|refine zg ?_)|((with_reducible refine zG ?_ ?_);(· exact rfl))))
  exact zZ (i+1) (by omega) (by omega) (by (repeat first|exact lK1|refine zI rfl ?_)) (by (repeat constructor))
 ·obtain rfl:i=a.length:=by omega
  (repeat' (first|((with_reducible refine zF ?_);first|refine zE rfl rfl rfl ?_|refine zC rfl rfl rfl ?_|(refine zQ rfl rfl rfl rfl rfl (fun h=>?_) (fun h=>?_)<;>(dsimp only [cmpP] at h;(try (exfalso;omega))))|refine zq rfl rfl rfl ?_)|(with_reducible first|refine zH ?_|refine zB ?_|refine zD ?_|refine zA ?_|refine zW ?_|refine zl ?_|refine zV ?_|refine zX ?_)|((with_reducible refine zG ?_ ?_);(· exact rfl))))
  exact zR (by exact rTm rfl) () trivial rfl (fun _ h=>h.sub (by (repeat constructor)))
end Go.Proofs.YtdigopgncfhiaaaGreatDoor
namespace Go.Proofs.YtdigopgncfhiaaaGreatDoor
open Go.RowKit
set_option maxRecDepth 20000
section
variable {w0 : World} {n:Nat} {d:List Deferred} {R:List (Nat × Value)} {H:List Ent} {o:Oper} {x y:Operand}
theorem e_eqSp {a b:Int} {T':TypeId} (hop:o.op = .binOp .eql 28 x y T') (hx:evR R x=some (.agg #[.int .i64 a,.int .i64 b])) (hy:evR R y=some (.agg #[.int .i64 a,.int .i64 b])):Ev Tryz.prog w0 n d R H o (.bool true):=fun k w q=>by
 have e:=zOE a b a b w
 rw [show zEs ⟨a,b⟩ ⟨a,b⟩=true from zFp.2 ⟨rfl,rfl⟩] at e
 have g:=gd_sp .eql x y #[.int .i64 a,.int .i64 b] #[.int .i64 a,.int .i64 b] w
 unfold execOp;rw [hop]
 simp only [Sem.run_bind,q.ev hx,q.ev hy,g,Result.andThen_ok,e,Sem.run_pure]
end
end Go.Proofs.YtdigopgncfhiaaaGreatDoor
namespace Go.Proofs.YtdigopgncfhiaaaGreatDoor
open Go.ChangeShapes Go.WideShapes Go.ChangeAt Go.RowKit
section
variable {H : Type} {enc:TypeId × Value→H} {w:World} {sp:Nat→Bool} {held:Bool} {n:Nat} {cs:List Value} {x:DataW H × List MemPlace}
theorem rd_bed (h:DataW.trod enc Tryz.prog w 0 sp held n 73 cs=some x):∃ s:Bed,cs=zAw s∧True:=by
 have hl:=zHv Tryz.underlying73 h (k:=3) (by kernel_rfl)
 obtain ⟨n0,y0,h0⟩:=zAX Tryz.underlying73 h (j:=0) rfl rfl (k:=2) (by kernel_rfl)
 obtain ⟨n1,y1,h1⟩:=zAX Tryz.underlying73 h (j:=1) rfl rfl (k:=1) (by kernel_rfl)
 obtain ⟨a,e0,f0⟩:=zIM h0
 obtain ⟨b,e1,f1⟩:=zDS Tryz.underlying3 h1
 match cs,hl with
 | [c0,c1,c2],_ =>
  simp [zA7] at e0 e1
  exact ⟨⟨a,b⟩,by simp [zAw,e0,e1],trivial⟩
theorem rd_hour (h:DataW.trod enc Tryz.prog w 0 sp held n 67 cs=some x):∃ s:Hour,cs=zAD s∧True:=by
 have hl:=zHv Tryz.underlying67 h (k:=5) (by kernel_rfl)
 obtain ⟨n0,y0,h0⟩:=zAX Tryz.underlying67 h (j:=0) rfl rfl (k:=2) (by kernel_rfl)
 obtain ⟨n1,y1,h1⟩:=zAX Tryz.underlying67 h (j:=1) rfl rfl (k:=1) (by kernel_rfl)
 obtain ⟨n2,y2,h2⟩:=zAX Tryz.underlying67 h (j:=2) rfl rfl (k:=1) (by kernel_rfl)
 obtain ⟨n3,y3,h3⟩:=zAX Tryz.underlying67 h (j:=3) rfl rfl (k:=1) (by kernel_rfl)
 obtain ⟨a,e0,f0⟩:=zIM h0
 obtain ⟨b,e1,f1⟩:=zDS Tryz.underlying3 h1
 obtain ⟨c,e2,f2⟩:=zDS Tryz.underlying3 h2
 obtain ⟨d,e3,_⟩:=DataW.trod_bool Tryz.underlying4 h3
 match cs,hl with
 | [c0,c1,c2,c3,c4],_ =>
  simp [zA7] at e0 e1 e2 e3
  exact ⟨⟨a,b,c,d⟩,by simp [zAD,e0,e1,e2,e3],trivial⟩
set_option maxRecDepth 20000 in
theorem open_cov {base:Nat} {r:Reach} {v:Value} {dd:DataW H} {p:List MemPlace} (hv:Value.okWide Tryz.prog w r base 30 v) (h:DataW.Trod enc Tryz.prog w 0 (fun _=>true) held 30 v dd p) :
  ∃ (c:Cov) (A:Option Addr) (ca:Nat) (B:Option Addr) (cb:Nat) (C:Option Addr) (cc:Nat),v=zAS c A ca B cb C cc∧zAp w c A B C∧zEY c.t:=by
 obtain ⟨cs,rfl,_⟩:=okWide_struct Tryz.underlying30 hv
 obtain ⟨fuel,hf⟩:=h
 have hl:=zHv Tryz.underlying30 hf (k:=10) (by kernel_rfl)
 obtain ⟨n0,y0,h0⟩:=zAX Tryz.underlying30 hf (j:=0) rfl rfl (k:=1) (by kernel_rfl)
 obtain ⟨n1,y1,h1⟩:=zAX Tryz.underlying30 hf (j:=1) rfl rfl (k:=1) (by kernel_rfl)
 obtain ⟨n2,y2,h2⟩:=zAX Tryz.underlying30 hf (j:=2) rfl rfl (k:=1) (by kernel_rfl)
 obtain ⟨n3,y3,h3⟩:=zAX Tryz.underlying30 hf (j:=3) rfl rfl (k:=2) (by kernel_rfl)
 obtain ⟨n4,y4,h4⟩:=zAX Tryz.underlying30 hf (j:=4) rfl rfl (k:=2) (by kernel_rfl)
 obtain ⟨n5,y5,h5⟩:=zAX Tryz.underlying30 hf (j:=5) rfl rfl (k:=1) (by kernel_rfl)
 obtain ⟨n6,y6,h6⟩:=zAX Tryz.underlying30 hf (j:=6) rfl rfl (k:=1) (by kernel_rfl)
 obtain ⟨n7,y7,h7⟩:=zAX Tryz.underlying30 hf (j:=7) rfl rfl (k:=1) (by kernel_rfl)
 obtain ⟨n8,y8,h8⟩:=zAX Tryz.underlying24 h0 (j:=0) rfl rfl (k:=1) (by kernel_rfl)
 obtain ⟨A,t,ca,e0,s0,f0,_,_⟩:=zFf (en:=zAK) (k:=9) (ok:=FitSt) Tryz.underlying22 (by kernel_rfl) (by omega) (fun _=>rfl) (fun _ _ _ h=>rd_st h) h8
 obtain ⟨B,be,cb,e1,s1,_,_,_⟩:=zFf (en:=zAw) (k:=3) (ok:=fun _=>True) Tryz.underlying25 (by kernel_rfl) (by omega) (fun _=>rfl) (fun _ _ _ h=>rd_bed h) h1
 obtain ⟨C,ho,cc,e2,s2,_,_,_⟩:=zFf (en:=zAD) (k:=5) (ok:=fun _=>True) Tryz.underlying26 (by kernel_rfl) (by omega) (fun _=>rfl) (fun _ _ _ h=>rd_hour h) h2
 obtain ⟨we,e3,_⟩:=zIM h3
 obtain ⟨la,e4,_⟩:=zIM h4
 obtain ⟨ra,e5,_⟩:=zDS Tryz.underlying3 h5
 obtain ⟨li,e6,_⟩:=zDS Tryz.underlying3 h6
 obtain ⟨ba,e7,_⟩:=zDS Tryz.underlying3 h7
 refine ⟨⟨t,be,ho,we,la,ra,li,ba⟩,A,ca,B,cb,C,cc,?_,⟨s0,s1,s2⟩,fun s hs=>(f0 s hs).2.2.2.2.1⟩
 obtain ⟨l⟩:=cs
 match l,hl with
 | [c0,c1,c2,c3,c4,c5,c6,c7,c8,c9],_ =>
  simp [Value.cells,zA7] at e0 e1 e2 e3 e4 e5 e6 e7
  simp [zAS,zN,e0,e1,e2,e3,e4,e5,e6,e7]
end
theorem gLimits : Tryz.prog.globalNamed "kreisel/ice.limits" = some 0:=by kernel_rfl
theorem tLimits : (Tryz.prog.globals[0]?).map (·.type)=some 209:=by kernel_rfl
set_option maxRecDepth 100000 in
theorem zQO {W:World} (h:laidMetH Tryz.prog [("kreisel/ice.limits",Rows.laid_kreisel_ice_limits)] W):InC W 0 0 zCz:=by
 obtain ⟨g,t,cs,fuel,p,hg,ht,hv,hd⟩:=h.funcs (List.mem_singleton.2 rfl)
 obtain rfl:=Option.some.inj (gLimits.symm.trans hg)
 obtain rfl:=Option.some.inj (tLimits.symm.trans ht)
 have hd':DataW.trod (funcToken Tryz.prog) Tryz.prog W 0 (fun _=>true) true fuel 209 cs.toList=some (.agg [.agg [.held [107,114,101,105,115,101,108,47,105,99,101,46,108,105,109,105,116,115,36,49],.held [107,114,101,105,115,101,108,47,105,99,101,46,108,105,109,105,116,115,36,50]],.agg [.held [107,114,101,105,115,101,108,47,105,99,101,46,108,105,109,105,116,115,36,51],.held [107,114,101,105,115,101,108,47,105,99,101,46,108,105,109,105,116,115,36,52]]],p):=hd
 have c192:Tryz.prog.cellsOf 208=2:=by kernel_rfl
 have c193:Tryz.prog.cellsOf 209=4:=by kernel_rfl
 have c142:Tryz.prog.cellsOf 206=1:=by kernel_rfl
 have c68:Tryz.prog.cellsOf 104=1:=by kernel_rfl
 obtain ⟨xs,m,rfl,ex,hlen,hl,hel⟩:=DataW.trod_array Tryz.underlying209 hd'
 rw [c193] at hlen
 have hcell:=fun j=>World.var?_cell hg hv j
 obtain ⟨l⟩:=cs
 simp only at hlen hel
 match xs,hl with
 | [x0,x1],_ =>
  match l,hlen with
  | [a0,a1,a2,a3],_ =>
   have h0:=hel 0 (by omega)
   have h1:=hel 1 (by omega)
   rw [c192] at h0 h1
   simp only [Nat.zero_mul,Nat.one_mul,List.drop_zero,List.take_succ_cons,List.take_zero,List.drop_succ_cons,List.getElem?_cons_zero,List.getElem?_cons_succ] at h0 h1
   simp only [List.map_cons,List.map_nil,Prod.mk.injEq,DataW.agg.injEq,List.cons.injEq,and_true] at ex
   obtain ⟨⟨e0,e1⟩,_⟩:=ex
   obtain ⟨x0a,x0b⟩:=x0
   obtain ⟨x1a,x1b⟩:=x1
   simp only at e0 e1
   subst e0 e1
   obtain ⟨ys,n0,_,ey,_,hy,hf⟩:=DataW.trod_struct Tryz.underlying208 h0
   obtain ⟨zs,n1,_,ez,_,hz,hk⟩:=DataW.trod_struct Tryz.underlying208 h1
   match ys,hy,zs,hz with
   | [y0,y1],_,[z0,z1],_ =>
    have f0:=hf 0 _ rfl
    have f1:=hf 1 _ rfl
    have k0:=hk 0 _ rfl
    have k1:=hk 1 _ rfl
    simp only [c142,c68,List.drop_zero,List.take_succ_cons,List.take_zero,List.drop_succ_cons,List.getElem?_cons_zero,List.getElem?_cons_succ] at f0 f1 k0 k1
    simp only [List.map_cons,List.map_nil,Prod.mk.injEq,DataW.agg.injEq,List.cons.injEq,and_true] at ey ez
    obtain ⟨⟨ey0,ey1⟩,_⟩:=ey
    obtain ⟨⟨ez0,ez1⟩,_⟩:=ez
    obtain ⟨y0a,y0b⟩:=y0
    obtain ⟨y1a,y1b⟩:=y1
    obtain ⟨z0a,z0b⟩:=z0
    obtain ⟨z1a,z1b⟩:=z1
    simp only at ey0 ey1 ez0 ez1
    subst ey0 ey1 ez0 ez1
    obtain rfl:=func_of_trod (f0:=180) Tryz.underlying206 (by kernel_rfl) f0
    obtain rfl:=func_of_trod (f0:=181) Tryz.underlying104 (by kernel_rfl) f1
    obtain rfl:=func_of_trod (f0:=182) Tryz.underlying206 (by kernel_rfl) k0
    obtain rfl:=func_of_trod (f0:=183) Tryz.underlying104 (by kernel_rfl) k1
    refine ⟨fun j v hj=>?_⟩
    rw [Nat.zero_add,hcell j]
    simpa [zCz] using hj
end Go.Proofs.YtdigopgncfhiaaaGreatDoor
