/- E13 -/
import Derived.Test.YtdigopgncfhiaaaGreatDoorE12
import Derived.Test.YtdigopgncfhiaaaGreatDoorE10
import Derived.Test.YtdigopgncfhiaaaGreatDoorE7
set_option linter.unusedSimpArgs false
set_option linter.unusedVariables false
namespace Go.Proofs.YtdigopgncfhiaaaGreatDoor
open Go.RowKit
set_option maxRecDepth 20000
theorem elem_ho : zJp Tryz.prog 26 67 5 40 (.agg #[.int .i64 0,.int .i64 0,.int .i64 0,.int .i64 0,.bool false]) :=
 ⟨by rfl,by exact ⟨_,rfl,rfl,rfl,rfl⟩,by decide,by decide⟩
instance elI_ho : ElI Tryz.prog 26 67 5 40:=⟨⟨_,elem_ho⟩⟩
theorem elem_be : zJp Tryz.prog 25 73 3 24 (.agg #[.int .i64 0,.int .i64 0,.int .i64 0]) :=
 ⟨by rfl,by exact ⟨_,rfl,rfl,rfl,rfl⟩,by decide,by decide⟩
instance elI_be : ElI Tryz.prog 25 73 3 24:=⟨⟨_,elem_be⟩⟩
theorem zMr (t:List Hour) (A:Option Addr) (c:Nat) (w:World) (ht:zx zq 5 w A t) (h0:0<t.length) (hl:t.length≤1000) :
  Ret Tryz.prog 77 [.slice A t.length c] w (fun p:Option Addr × Nat=>.slice p.1 t.length p.2) (fun p=>[.row zq 5 67 (.slice p.1 t.length p.2) t]) (fun _=>True):=by
 obtain ⟨bb,o,rfl,_⟩:=ht.at_ h0
 (refine zL (n:=8) Tryz.func77 rfl rfl rfl ?_)
 (repeat' (first|((with_reducible refine zG ?_);first|refine zE rfl rfl rfl rfl rfl ?_|refine zC rfl rfl rfl rfl rfl ?_|refine zIZ rfl rfl rfl rfl rfl rfl ?_|(refine zC7 zq rfl rfl rfl rfl (fun b=>?_))|(refine zBT (enc:=zq) t rfl rfl rfl rfl rfl (by (repeat (first|exact tK1 _ _|apply tK2))) rfl rfl (zGM ht) (by refine ⟨?_,by decide⟩;(try simp only [List.length_append,List.length_cons,List.length_nil]);omega) (fun A' c'=>?_)))|(with_reducible first|refine zH ?_|refine zB ?_|refine zD ?_|refine zA ?_|refine zc ?_|refine zS ?_)|((with_reducible refine zF ?_ ?_);(· exact rfl))))
 exact zV (by (exact zO.cons (by exact zn.tmp rfl) zO.nil)) (A',c') trivial rfl (fun _ h=>h.sub (by (repeat (first|exact oK1 _|(refine oK2 (by (repeat (first|exact tK1 _ _|apply tK2))) ?_)))))
set_option maxHeartbeats 1000000 in
theorem zNo (l:List (Int × Int)) (A:Option Addr) (cap:Nat) (kf:FuncId) [zZ Tryz.prog kf] (cs:Array Value) (p:(Int × Int)→Bool) (w:World) (hk:zx zAl 2 w A l) (hl:l.length≤1000000)
  (hp:∀ x W,x∈l→Below w.heap.size w W→Gv Tryz.prog kf ([(fun p:Int × Int=>Value.agg (zAl p).toArray) x]++cs.toList) W (.bool (p x))) :
  Gv Tryz.prog 116 [.slice A l.length cap,.func (.func kf) #[] cs] w (.int .i64 (zC3 p l)):=by
 unfold Gv
 (refine zL (n:=19) Tryz.func116 rfl rfl rfl ?_)
 (repeat' (first|((with_reducible refine zG ?_);first|refine zE rfl rfl rfl rfl rfl ?_|refine zC rfl rfl rfl rfl rfl ?_|refine zp rfl rfl rfl rfl rfl ?_)|(with_reducible first|refine zH ?_|refine zB ?_|refine zD ?_|refine zA ?_|refine zQ ?_)))
 refine zw (ι:=Nat) [0,1,7] rfl (fun i=>i≤l.length∧∀ j y,j<i→l[j]?=some y→p y=false) (fun i=>[(8,.int .i64 (i:Int))]) (fun _=>[]) (fun i=>l.length - i) 0 ⟨Nat.zero_le _,fun j y h=>by omega⟩ (by (first|exact lK1|(repeat (first|exact lK1|(refine zM rfl ?_))))) (by (repeat (first|exact oK1 _|(refine oK2 (by (repeat (first|exact tK1 _ _|apply tK2))) ?_)))) ?_
 rintro i ⟨hi,hb⟩
 simp only [zAx,List.cons_append,List.nil_append]
 by_cases hlt:i<l.length
 ·have hx:l[i]?=some l[i]:=by simp [hlt]
  obtain ⟨b,o,rfl,hblt,hc⟩:=hk.at_ hlt
  have:InS w b o zAl 2 l:=⟨hk⟩
  have:zAU l i l[i]:=⟨hx⟩
  (repeat' (first|((with_reducible refine zG ?_);first|refine zE rfl rfl rfl rfl rfl ?_|refine zC rfl rfl rfl rfl rfl ?_|(refine zK rfl rfl rfl rfl rfl ?_;refine ⟨_,rfl,?_⟩)|(refine zU rfl rfl rfl rfl rfl rfl rfl (fun h=>?_) (fun h=>?_)<;>(dsimp only [cmpP] at h;(try (exfalso;omega))))|(refine zAY rfl rfl rfl rfl rfl rfl (fun _ _ q=>hp _ _ (List.getElem_mem hlt) q.below) (fun h=>?_) (fun h=>?_)<;>(try (exfalso;omega)))|refine zf rfl rfl rfl rfl rfl rfl (by omega) ?_|refine zb rfl rfl rfl rfl rfl rfl rfl (by omega) ?_)|(with_reducible first|refine zH ?_|refine zB ?_|refine zD ?_|refine zA ?_|refine zc ?_|refine zS ?_|refine zY ?_|refine zQ ?_|refine zh ?_|refine zAK ?_)|((with_reducible refine zI ?_ ?_);(· exact rfl))|((with_reducible refine zF ?_ ?_);(· exact rfl))))
  ·have e1:=zEZ hlt h hb
   exact zV (by (exact zO.cons (by exact zn.tmp rfl) zO.nil)) () trivial (by rw [e1];rfl) (fun _ h=>h.sub (by (repeat (first|exact oK1 _|(refine oK2 (by (repeat (first|exact tK1 _ _|apply tK2))) ?_)))))
  ·refine zi (i+1) ⟨by omega,fun j y hj hy=>?_⟩ (by omega) (by (first|exact lK1|(repeat (first|exact lK1|(refine zM rfl ?_))))) (by (repeat (first|exact oK1 _|(refine oK2 (by (repeat (first|exact tK1 _ _|apply tK2))) ?_))))
   by_cases e:j=i
   ·subst e;rw [hx] at hy;cases hy;exact h
   ·exact hb j y (by omega) hy
 ·obtain rfl:i=l.length:=by omega
  have e1:=zDu (p:=p) (l:=l) (fun y hy=>by
   obtain ⟨j,hj⟩:=List.mem_iff_getElem?.1 hy
   exact hb j y (List.getElem?_eq_some_iff.1 hj).1 hj)
  (repeat' (first|((with_reducible refine zG ?_);first|refine zC rfl rfl rfl rfl rfl ?_|(refine zU rfl rfl rfl rfl rfl rfl rfl (fun h=>?_) (fun h=>?_)<;>(dsimp only [cmpP] at h;(try (exfalso;omega)))))|(with_reducible first|refine zH ?_|refine zB ?_|refine zD ?_|refine zA ?_|refine zc ?_|refine zj ?_|refine zR ?_|refine zW ?_)|((with_reducible refine zF ?_ ?_);(· exact rfl))))
  exact zV (by (exact zO.cons (by exact zn.tmp rfl) zO.nil)) () trivial (by rw [e1];rfl) (fun _ h=>h.sub (by (repeat (first|exact oK1 _|(refine oK2 (by (repeat (first|exact tK1 _ _|apply tK2))) ?_)))))
theorem cp_con (l:List (Int × Int)) (A:Option Addr) (cap:Nat) (kf:FuncId) [zZ Tryz.prog kf] (cs:Array Value) (p:(Int × Int)→Bool) (w:World) (hk:zx zAl 2 w A l) (hl:l.length≤1000000)
  (hp:∀ x W,x∈l→Below w.heap.size w W→Gv Tryz.prog kf ([(fun p:Int × Int=>Value.agg (zAl p).toArray) x]++cs.toList) W (.bool (p x))) :
  Gv Tryz.prog 78 [.slice A l.length cap,.func (.func kf) #[] cs] w (.bool (l.any p)):=by
 unfold Gv
 have hf:=zEY p l
 (refine zL (n:=9) Tryz.func78 rfl rfl rfl ?_)
 (repeat' (first|((with_reducible refine zG ?_);first|refine zE rfl rfl rfl rfl rfl ?_|refine zC rfl rfl rfl rfl rfl ?_|(refine zU rfl rfl rfl rfl rfl rfl rfl (fun h=>?_) (fun h=>?_)<;>(dsimp only [cmpP] at h;(try (exfalso;omega))))|refine zX rfl rfl rfl rfl rfl rfl (fun _ _ q=>zNo l A cap kf cs p _ (hk.below q.below) hl (fun x W hx hW=>hp x W hx (q.below.trans (hW.mono q.base)))) ?_)|(with_reducible first|refine zH ?_|refine zB ?_|refine zD ?_|refine zA ?_|refine zc ?_)))
 all_goals exact zV (by (exact zO.cons (by exact zn.tmp rfl) zO.nil)) () trivial (by simp only [resV];rw [← hf];simp;omega) (fun _ h=>h.sub (by (repeat (first|exact oK1 _|(refine oK2 (by (repeat (first|exact tK1 _ _|apply tK2))) ?_)))))
def zF6 (n:Int) (u:Hour):Hour:={ u with runs:=n }
def zAi (c:Cov) (J:Nat) (n:Int):Cov:={ c with hours:=c.hours.set J (zF6 n (c.hours.getD J default)) }
theorem zBc {c:Cov} {J:Nat} {n:Int}:(zAi c J n).hours.length=c.hours.length:=by simp [zAi]
theorem zFB {c:Cov} {J:Nat} {n:Int} (h:Small c):Small (zAi c J n):=⟨h.fit,h.t,h.b,by rw [zBc];exact h.h⟩
theorem zF3 {c:Cov} {J:Nat} {n:Int} (hJ:J<c.hours.length) (h0:0≤n) (h1:n≤60) (h:zB4 c):zB4 (zAi c J n) :=
 ⟨h.bed,fun u hu=>by
  rcases List.mem_or_eq_of_mem_set hu with hu|rfl
  ·exact h.hour u hu
  ·have:=h.hour (c.hours.getD J default) (by rw [zAh (List.getElem?_eq_getElem hJ)];exact List.getElem_mem hJ)
   simp only [zCS,Bool.and_eq_true,zAL] at this ⊢
   exact ⟨⟨this.1.1,by simp only [zF6];omega⟩,this.2⟩,h.wear,h.layer,h.rate,h.limit,h.base,h.beds,by rw [zBc];exact h.hours⟩
def zD0 (c:Cov) (pl:List Sli) (J:Nat) (n:Int):Bool:=!(zBQ (zAi c J n) pl zBX).any fun p=>decide (p.1=(J:Int))
theorem zNw (g J:Nat) (p:Int × Int) (w:World) (hg:InC w g 0 [.int .i64 (J:Int)]):Gv Tryz.prog 79 [.agg (zAl p).toArray,.pointer (some ⟨g,0,none⟩)] w (.bool (decide (p.1=(J:Int)))):=by
 unfold Gv zAl
 (refine zL (n:=8) Tryz.func79 rfl rfl rfl ?_)
 (repeat' (first|((with_reducible refine zG ?_);first|refine zC rfl rfl rfl rfl rfl ?_|(refine zK rfl rfl rfl rfl rfl ?_;refine ⟨_,rfl,?_⟩)|(refine zU rfl rfl rfl rfl rfl rfl rfl (fun h=>?_) (fun h=>?_)<;>(dsimp only [cmpP] at h;(try (exfalso;omega))))|refine zAO rfl rfl rfl rfl rfl rfl rfl (by first|decide|omega) ?_|(refine zt rfl rfl rfl rfl rfl rfl (fun b=>?_)))|(with_reducible first|refine zH ?_|refine zB ?_|refine zD ?_|refine zA ?_|refine zc ?_)))
 all_goals exact zV (by (exact zO.cons (by exact zn.tmp rfl) zO.nil)) () trivial (by simp [resV];omega) (fun _ h=>h.sub (by (repeat (first|exact oK1 _|(refine oK2 (by (repeat (first|exact tK1 _ _|apply tK2))) ?_)))))
set_option maxHeartbeats 4000000 in
theorem zPo (c:Cov) (A:Option Addr) (ca:Nat) (B:Option Addr) (cb:Nat) (C:Option Addr) (cc g gp gh gr J n:Nat) (pl:List Sli) (P:Option Addr) (cp:Nat) (w:World) (hr:InC w g 0 (zJ c A ca B cb C cc)) (hG:InC w 0 0 zCc) (h:zAk w c A B C) (hs:Small c) (hf:zB4 c) (hp:zBP w P pl) (hrl:∀ s∈pl,s.xs.length≤20) (hpl:pl.length=c.hours.length)
  (hgr:InC w gr 0 [.pointer (some ⟨g,0,none⟩)]) (hgh:InC w gh 0 [.int .i64 (J:Int)]) (hgp:InC w gp 0 [.slice P pl.length cp]) (hJ:J<c.hours.length) (hn:n≤60) :
  Gv Tryz.prog 76 [.int .i64 (n:Int),.pointer (some ⟨gr,0,none⟩),.pointer (some ⟨gh,0,none⟩),.pointer (some ⟨gp,0,none⟩)] w (.bool (zD0 c pl J n)):=by
 have h4:=hs.b;have h5:=hs.h
 have hh:=h.h
 have hT:=fun W C' cc' g' (hW:Below w.heap.size w W) (hx:InC W g' 0 (zJ (zAi c J n) A ca B cb C' cc')) (hC:zx zq 5 W C' (zAi c J n).hours)=>zFs (en:=zBX) (enF:=58) zHI (zAi c J n) A ca B cb C' cc' g' pl P cp W hx (hG.below hW) ⟨h.t.below hW,h.b.below hW,hC⟩ (zFB hs) (zF3 hJ (by omega) (by omega) hf) (hp.below hW) hrl (by rw [zBc];exact hpl)
 obtain ⟨u,hu⟩:∃ u,c.hours[J]?=some u:=⟨_,List.getElem?_eq_getElem hJ⟩
 have hl:=zJ6 (c:=zAi c J n) (pl:=pl) (en:=zBX) h4 (by rw [zBc];exact h5)
 unfold zD0
 have hcp:=fun A2 c2 W (hs2:zx zAl 2 W A2 (zBQ (zAi c J n) pl zBX)) (hW:Below w.heap.size w W)=>cp_con (zBQ (zAi c J n) pl zBX) A2 c2 79 #[.pointer (some ⟨gh,0,none⟩)] (fun p=>decide (p.1=(J:Int))) W hs2 (by omega) (fun x W2 _ hW2=>zNw gh J x W2 (hgh.below (hW.trans (hW2.mono hW.size))))
 generalize hth:zBQ (zAi c J n) pl zBX=th at *
 unfold zJ at *
 rw [zBc] at hT
 unfold Gv
 (refine zL (n:=38) Tryz.func76 rfl rfl rfl ?_)
 (repeat' (first|((with_reducible refine zG ?_);first|refine zE rfl rfl rfl rfl rfl ?_|refine zC rfl rfl rfl rfl rfl ?_|(refine zK rfl rfl rfl rfl rfl ?_;refine ⟨_,rfl,?_⟩)|refine za rfl rfl rfl rfl rfl ?_|(refine zAN rfl rfl rfl rfl rfl rfl (fun _ _ q=>zMr c.hours C cc _ (hh.below q.below) (by omega) (by omega)) ?_;rintro ⟨A',c'⟩ -;dsimp only [List.cons_append,List.nil_append];refine zEO (Take.here _ _) (by omega) ?_;rintro g' rfl)|(refine ze rfl rfl rfl rfl rfl ?_;refine And.intro rfl (And.intro (by first|decide|exact Nat.le_of_ble_eq_true rfl|(simp;omega)) ⟨_,rfl,?_⟩))|(refine zt rfl rfl rfl rfl rfl rfl (fun b=>?_))|(refine zA7 rfl rfl rfl rfl rfl ?_;refine ⟨_,rfl,?_⟩)|refine zBM rfl rfl rfl rfl rfl ?_)|(with_reducible first|refine zH ?_|refine zB ?_|refine zD ?_|refine zA ?_)))
 have hset:(zAi c J n).hours=c.hours.set J (zF6 n u):=by simp only [zAi,zAh hu]
 rw [hset] at hT
 have:zAU c.hours J u:=⟨hu⟩
 (refine Two.zA8 [] [] [] rfl (show ([]:List Nat).Nodup by decide) (fun _ h=>h) (by kernel_rfl) [[],[Z],[Z,Z],[Z,Z,Z],[Z,Z,Z,Z],[Y,Y,Y,Y,Y],[Y,Y,Y,Y,Y,Y],[Z,Z,Z,Z,Z,Z,Z],[Z,Z,Z,Z,Z,Z,Z,Z],[Z,Z,Z,Z,Z,Z,Z,Z,Z]] (by kernel_rfl) (by kernel_rfl) (by kernel_rfl) (by kernel_rfl) (by kernel_rfl) ?_)
 (repeat' (first|(((with_reducible refine Two.zDz ?_ ?_);(· exact rfl);refine ⟨_,fun G=>(by (try simp (decide:=true) only [Two.vis,Two.see,fltT,zAT,Nat.reduceAdd,Nat.reduceSub,if_true,if_false,List.set_cons_zero,List.set_cons_succ,List.set_nil,List.nil_append,List.cons_append]);rfl),?_⟩);first|refine Two.zo _ (fun _=>zAe rfl rfl) (fun _=>rfl) rfl (by first|exact fun _ _ _=>rfl|(intro G G' h;simp (decide:=true) only [h])) ?_|refine Two.zo _ (fun _=>zAE rfl rfl (by exact rfl)) (fun _=>rfl) rfl (by first|exact fun _ _ _=>rfl|(intro G G' h;simp (decide:=true) only [h])) ?_|(refine Two.zAw rfl ?_;refine Two.zo _ (fun _=>zAP rfl rfl) (fun _=>rfl) rfl (by first|exact fun _ _ _=>rfl|(intro G G' h;simp (decide:=true) only [h])) ?_)|refine Two.zo _ (fun _=>zAQ (I:=J) rfl rfl rfl rfl (by omega)) (fun _=>rfl) rfl (by exact fun _ _ _=>rfl) ?_|refine Two.zo _ (fun _=>zAW rfl rfl) (fun _=>rfl) rfl (by first|exact fun _ _ _=>rfl|(intro G G' h;simp (decide:=true) only [h])) ?_)|((with_reducible refine Two.zCL ?_ ?_);(· exact rfl))))
 (intro G;simp only [regsT,zAT,Two.zBw,Two.ini,List.nil_append,List.cons_append])
 refine zFC (enc:=zq) (j:=2) (z:=u) (zF6 n u) rfl rfl rfl rfl rfl rfl rfl rfl (by decide) ?_
 (repeat' (first|((with_reducible refine zG ?_);first|refine zE rfl rfl rfl rfl rfl ?_|refine zC rfl rfl rfl rfl rfl ?_|(refine zK rfl rfl rfl rfl rfl ?_;refine ⟨_,rfl,?_⟩)|(refine zAN rfl rfl rfl rfl rfl rfl (fun _ _ q=>hT _ (some ⟨g',0,none⟩) c' b q.below (zAc q.own (Below.refl _ _) rfl) ((Own.zNx (by (repeat (first|exact tK1 _ _|apply tK2))) q.own).here (.sl zq 5 (some ⟨g',0,none⟩) (c.hours.set J (zF6 n u))) (by simp))) ?_;rintro ⟨A2,c2⟩ -;dsimp only [List.cons_append,List.nil_append])|refine zX rfl rfl rfl rfl rfl rfl (fun _ _ q=>hcp _ _ _ (zAz q.own (Below.refl _ _)) q.below) ?_|refine zAH rfl rfl rfl rfl rfl ?_|refine zBl rfl rfl rfl rfl rfl rfl ?_)|(with_reducible first|refine zH ?_|refine zB ?_|refine zD ?_|refine zA ?_|refine zc ?_)))
 all_goals exact zV (by (exact zO.cons (by exact zn.tmp rfl) zO.nil)) () trivial rfl (fun _ _=>Own.nil _ _)
end Go.Proofs.YtdigopgncfhiaaaGreatDoor
namespace Go.Proofs.YtdigopgncfhiaaaGreatDoor
open Go.RowKit
set_option maxRecDepth 20000
def bestN (c:Cov) (pl:List Sli) (J:Nat):Nat→Int
 | 0=>-1
 | n+1=>if zD0 c pl J n then (n:Int) else bestN c pl J n
theorem zMu {c:Cov} {pl:List Sli} {J:Nat}:∀ n,-1≤bestN c pl J n∧bestN c pl J n<(n:Int)
 | 0=>by simp [bestN]
 | n+1=>by
  have:=zMu (c:=c) (pl:=pl) (J:=J) n
  simp only [bestN];split<;>omega
def zFR (c:Cov) (pl:List Sli) (h:Int):Int × Int :=
 if zCK c pl=0 then (if inB 0 ((c.hours.length:Int) - 1) h=true then (if bestN c pl h.toNat 61<0 then (0,6) else (bestN c pl h.toNat 61,0)) else (0,2)) else (0,zCK c pl)
set_option maxHeartbeats 4000000 in
theorem zPT (c:Cov) (A:Option Addr) (ca:Nat) (B:Option Addr) (cb:Nat) (C:Option Addr) (cc:Nat) (pl:List Sli) (P:Option Addr) (cp:Nat) (h:Int) (w:World) (hc:zAk w c A B C) (hs:Small c) (hp:zBP w P pl) (hl:pl.length≤12) (hrl:∀ s∈pl,s.xs.length≤20) (hG:InC w 0 0 zCc) :
  Gv Tryz.prog 37 [zAI c A ca B cb C cc,.slice P pl.length cp,.int .i64 h] w (.tuple #[.int .i64 (zFR c pl h).1,.int .i64 (zFR c pl h).2]):=by
 have hl4:=hs.b;have hl5:=hs.h
 have h1:=fun W (hb:Below w.heap.size w W)=>zEW c A ca B cb C cc pl P cp W (hc.below hb) hs (hp.below hb) hl hrl
 have h2:=fun W (hb:Below w.heap.size w W)=>zEV c A ca B cb C cc pl P cp W (hc.below hb) hs (hp.below hb) hl hrl
 unfold zAI at h1 h2
 unfold Gv zAI zFR
 by_cases h0:zCK c pl=0
 ·rw [if_pos h0]
  obtain ⟨h00,hpl⟩:=zEc h0
  have hf:=zBi h00
  have h2:=fun W hb=>h2 W hb h00 hpl
  by_cases hin:inB 0 ((c.hours.length:Int) - 1) h=true
  ·rw [if_pos hin]
   obtain ⟨J,rfl,hJ⟩:=zNK hin
   simp only [Int.toNat_natCast]
   have hB:=fun W (hb:Below w.heap.size w W) g gp gh gr n (hr:InC W g 0 (zJ c A ca B cb C cc)) (hgr:InC W gr 0 [.pointer (some ⟨g,0,none⟩)]) (hgh:InC W gh 0 [.int .i64 (J:Int)]) (hgp:InC W gp 0 [.slice P pl.length cp]) hn=>zPo c A ca B cb C cc g gp gh gr J n pl P cp W hr (hG.below hb) (hc.below hb) hs hf (hp.below hb) hrl (zBN.1 hpl).1 hgr hgh hgp hJ hn
   unfold zJ at h2 hB ⊢
   (refine zL (n:=38) Tryz.func37 rfl rfl rfl ?_)
   (repeat' (first|((with_reducible refine zG ?_);first|refine zE rfl rfl rfl rfl rfl ?_|refine zC rfl rfl rfl rfl rfl ?_|(refine zK rfl rfl rfl rfl rfl ?_;refine ⟨_,rfl,?_⟩)|refine za rfl rfl rfl rfl rfl ?_|(refine zU rfl rfl rfl rfl rfl rfl rfl (fun h=>?_) (fun h=>?_)<;>(dsimp only [cmpP] at h;(try (exfalso;omega))))|(refine zAN rfl rfl rfl rfl rfl rfl (fun _ _ q=>h2 _ q.below) ?_;rintro g -;dsimp only [List.cons_append,List.nil_append])|(refine zX rfl rfl rfl rfl rfl rfl (fun _ _ q=>hin ▸ iin1 _ _ _ _ _ _ (zAt (enc:=encI) (by exact rfl) _ q.below q.own)) ?_)|refine zd rfl rfl rfl rfl rfl rfl ?_|refine zAH rfl rfl rfl rfl rfl ?_|refine zCY rfl rfl rfl rfl rfl rfl (IntWalk.i64_in _ (by omega)) ?_|refine zp rfl rfl rfl rfl rfl ?_|(refine ze rfl rfl rfl rfl rfl ?_;refine And.intro rfl (And.intro (by first|decide|exact Nat.le_of_ble_eq_true rfl|(simp;omega)) ⟨_,rfl,?_⟩))|(refine zm rfl rfl rfl rfl (fun b=>?_))|(refine zt rfl rfl rfl rfl rfl rfl (fun b=>?_))|(refine zAD rfl rfl rfl rfl rfl ?_;refine ⟨rfl,_,rfl,fun b=>?_⟩)|refine zBl rfl rfl rfl rfl rfl rfl ?_)|(with_reducible first|refine zH ?_|refine zB ?_|refine zD ?_|refine zA ?_|refine zS ?_|refine zQ ?_)|((with_reducible refine zF ?_ ?_);(· exact rfl))))
   rename_i b3 b4 b5 b8
   refine zw (ι:=Nat) [8,10] rfl (fun k=>k≤61∧bestN c pl J 61=bestN c pl J k) (fun k=>[(11,.int .i64 ((k:Int) - 1))]) (fun _=>[.blk b8 [.pointer (some ⟨g,0,none⟩)],.blk b5 [.int .i64 (J:Int)],.blk b4 [.slice P pl.length cp],.blk g (zJ c A ca B cb C cc)]) (fun k=>k) 61 ⟨Nat.le_refl _,rfl⟩ (by (first|exact lK1|(repeat (first|exact lK1|(refine zM rfl ?_))))) (by (repeat (first|exact oK1 _|(refine oK2 (by (repeat (first|exact tK1 _ _|apply tK2))) ?_)))) ?_
   rintro k ⟨hk,hbe⟩
   simp only [zAx,zJ,List.cons_append,List.nil_append]
   cases k with
   | zero =>
    (repeat' (first|((with_reducible refine zG ?_);first|refine zE rfl rfl rfl rfl rfl ?_|refine zC rfl rfl rfl rfl rfl ?_|(refine zU rfl rfl rfl rfl rfl rfl rfl (fun h=>?_) (fun h=>?_)<;>(dsimp only [cmpP] at h;(try (exfalso;omega)))))|(with_reducible first|refine zH ?_|refine zB ?_|refine zD ?_|refine zA ?_|refine zc ?_|refine zj ?_|refine zR ?_|refine zW ?_)|((with_reducible refine zF ?_ ?_);(· exact rfl))))
    exact zV (by (exact zO.cons (by exact zn.tmp rfl) (zO.cons (by exact zn.tmp rfl) zO.nil))) () trivial (by rw [hbe];simp [bestN,resV]) (fun _ h=>h.sub (by (repeat (first|exact oK1 _|(refine oK2 (by (repeat (first|exact tK1 _ _|apply tK2))) ?_)))))
   | succ n =>
    rw [show (((n+1:Nat):Int) - 1)=(n:Int) by omega]
    (repeat' (first|((with_reducible refine zG ?_);first|refine zE rfl rfl rfl rfl rfl ?_|refine zC rfl rfl rfl rfl rfl ?_|(refine zU rfl rfl rfl rfl rfl rfl rfl (fun h=>?_) (fun h=>?_)<;>(dsimp only [cmpP] at h;(try (exfalso;omega))))|(refine zAY rfl rfl rfl rfl rfl rfl (fun _ _ q=>hB _ q.below g b4 b5 b8 n (zAc q.own (Below.refl _ _) rfl) (zAc q.own (Below.refl _ _) rfl) (zAc q.own (Below.refl _ _) rfl) (zAc q.own (Below.refl _ _) rfl) (by omega)) (fun h=>?_) (fun h=>?_)<;>(try (exfalso;omega)))|refine zCY rfl rfl rfl rfl rfl rfl (IntWalk.i64_in _ (by omega)) ?_)|(with_reducible first|refine zH ?_|refine zB ?_|refine zD ?_|refine zA ?_|refine zc ?_|refine zS ?_|refine zY ?_|refine zQ ?_|refine zh ?_|refine zAK ?_)|((with_reducible refine zI ?_ ?_);(· exact rfl))|((with_reducible refine zF ?_ ?_);(· exact rfl))))
    ·exact zV (by (exact zO.cons (by exact zn.tmp rfl) (zO.cons (by exact zn.tmp rfl) zO.nil))) () trivial (by rw [hbe,show bestN c pl J (n+1)=(n:Int) from by simp [bestN,h],if_neg (by omega)];rfl) (fun _ h=>h.sub (by (repeat (first|exact oK1 _|(refine oK2 (by (repeat (first|exact tK1 _ _|apply tK2))) ?_)))))
    ·exact zi n ⟨by omega,by rw [hbe];simp [bestN,h]⟩ (by omega) (by (first|exact lK1|(repeat (first|exact lK1|(refine zM rfl ?_))))) (by (repeat (first|exact oK1 _|(refine oK2 (by (repeat (first|exact tK1 _ _|apply tK2))) ?_))))
  ·rw [if_neg hin]
   unfold zJ at h2 ⊢
   (refine zL (n:=38) Tryz.func37 rfl rfl rfl ?_)
   (repeat' (first|((with_reducible refine zG ?_);first|refine zE rfl rfl rfl rfl rfl ?_|refine zC rfl rfl rfl rfl rfl ?_|(refine zK rfl rfl rfl rfl rfl ?_;refine ⟨_,rfl,?_⟩)|refine za rfl rfl rfl rfl rfl ?_|(refine zU rfl rfl rfl rfl rfl rfl rfl (fun h=>?_) (fun h=>?_)<;>(dsimp only [cmpP] at h;(try (exfalso;omega))))|(refine zAN rfl rfl rfl rfl rfl rfl (fun _ _ q=>h2 _ q.below) ?_;rintro g -;dsimp only [List.cons_append,List.nil_append])|(refine zX rfl rfl rfl rfl rfl rfl (fun _ _ q=>(Bool.eq_false_iff.2 hin) ▸ iin1 _ _ _ _ _ _ (zAt (enc:=encI) (by exact rfl) _ q.below q.own)) ?_)|refine zd rfl rfl rfl rfl rfl rfl ?_|refine zAH rfl rfl rfl rfl rfl ?_|refine zCY rfl rfl rfl rfl rfl rfl (IntWalk.i64_in _ (by omega)) ?_|refine zp rfl rfl rfl rfl rfl ?_|(refine ze rfl rfl rfl rfl rfl ?_;refine And.intro rfl (And.intro (by first|decide|exact Nat.le_of_ble_eq_true rfl|(simp;omega)) ⟨_,rfl,?_⟩))|(refine zm rfl rfl rfl rfl (fun b=>?_))|(refine zt rfl rfl rfl rfl rfl rfl (fun b=>?_))|(refine zAD rfl rfl rfl rfl rfl ?_;refine ⟨rfl,_,rfl,fun b=>?_⟩))|(with_reducible first|refine zH ?_|refine zB ?_|refine zD ?_|refine zA ?_|refine zc ?_|refine zS ?_|refine zY ?_)|((with_reducible refine zI ?_ ?_);(· exact rfl))|((with_reducible refine zF ?_ ?_);(· exact rfl))))
   all_goals exact zV (by (exact zO.cons (by exact zn.tmp rfl) (zO.cons (by exact zn.tmp rfl) zO.nil))) () trivial rfl (fun _ _=>Own.nil _ _)
 ·rw [if_neg h0]
  unfold zJ at h1 ⊢
  generalize zCK c pl=e at *
  (refine zL (n:=38) Tryz.func37 rfl rfl rfl ?_)
  (repeat' (first|((with_reducible refine zG ?_);first|refine zE rfl rfl rfl rfl rfl ?_|refine zC rfl rfl rfl rfl rfl ?_|(refine zK rfl rfl rfl rfl rfl ?_;refine ⟨_,rfl,?_⟩)|(refine zU rfl rfl rfl rfl rfl rfl rfl (fun h=>?_) (fun h=>?_)<;>(dsimp only [cmpP] at h;(try (exfalso;omega))))|refine zX rfl rfl rfl rfl rfl rfl (fun _ _ q=>h1 _ q.below h0) ?_|refine zd rfl rfl rfl rfl rfl rfl ?_|(refine ze rfl rfl rfl rfl rfl ?_;refine And.intro rfl (And.intro (by first|decide|exact Nat.le_of_ble_eq_true rfl|(simp;omega)) ⟨_,rfl,?_⟩))|(refine zm rfl rfl rfl rfl (fun b=>?_))|(refine zt rfl rfl rfl rfl rfl rfl (fun b=>?_)))|(with_reducible first|refine zH ?_|refine zB ?_|refine zD ?_|refine zA ?_|refine zc ?_|refine zY ?_)|((with_reducible refine zI ?_ ?_);(· exact rfl))))
  all_goals exact zV (by (exact zO.cons (by exact zn.tmp rfl) (zO.cons (by exact zn.tmp rfl) zO.nil))) () trivial rfl (fun _ _=>Own.nil _ _)
end Go.Proofs.YtdigopgncfhiaaaGreatDoor
namespace Go.Proofs.YtdigopgncfhiaaaGreatDoor
open Go.RowKit
theorem zGl {α:Type} {a b:List α} {i:Nat} (h:a.take i=b.take i) (hl:a.length=b.length) (hi:a.length≤i):a=b:=by
 rwa [List.take_of_length_le hi,List.take_of_length_le (by omega)] at h
theorem zGk {α:Type} {a b:List α} {i:Nat} (h:a.take i=b.take i) (ha:i<a.length) (hb:i<b.length) (he:a[i]=b[i]):a.take (i+1)=b.take (i+1):=by
 rw [List.take_succ_eq_append_getElem ha,List.take_succ_eq_append_getElem hb,h,he]
theorem zGA {α:Type} {a b:List α} {i:Nat} (ha:i<a.length) (hb:i<b.length) (he:a[i]≠b[i]):a≠b:=by
 rintro rfl;exact he rfl
end Go.Proofs.YtdigopgncfhiaaaGreatDoor
namespace Go.Proofs.YtdigopgncfhiaaaGreatDoor
open Go.RowKit
set_option maxRecDepth 20000
set_option maxHeartbeats 1000000 in
theorem zKB (a b:List Int) (A B:Option Addr) (c d:Nat) (w:World) (ha:zx encI 1 w A a) (hb:zx encI 1 w B b) (hla:a.length≤1000000) (hlb:b.length≤1000000) :
  zAp 68 #[.slice A a.length c,.slice B b.length d] w (.bool (decide (a=b))):=by
 unfold zAp
 have HA:=Lib.hid ha
 have HB:=Lib.hid hb
 clear ha hb
 by_cases hl:a.length=b.length
 ·have hL:=Lib.hid hl
  have hlt0:b.length≤a.length:=by omega
  have hlt1:a.length≤b.length:=by omega
  clear hl
  go_enter Tryz.func68,Tryz.ntmps68
  go_wp2
  go_loopw [5] (fun v wr=>∃ i:Nat,i≤a.length∧v = .int .i64 i∧Below w.heap.size w wr∧Hid (a.take i=b.take i)) (fun v _=>a.length - (intOf v).toNat)
  case atStart=>exact ⟨0,Nat.zero_le _,rfl,Below.refl _ _,by unfold Hid;simp⟩
  case round =>
   obtain ⟨i,hi,rfl,hBw,hF⟩:=hrel
   by_cases hlt:i<a.length
   ·have hltb:i<b.length:=by omega
    obtain ⟨b1,o1,rfl,hb1,hc1⟩:=(HA.out.below hBw).at_ hlt
    obtain ⟨b2,o2,rfl,hb2,hc2⟩:=(HB.out.below hBw).at_ hltb
    have c1:=hc1 0 _ rfl
    have c3:=hc2 0 _ rfl
    simp only [Nat.add_zero,Nat.mul_one] at c1 c3
    clear hc1 hc2
    have hi0:(0:Int)≤i:=by omega
    have hi1:(i:Int)<a.length:=by omega
    have hi2:(i:Int)<b.length:=by omega
    by_cases he:a[i]=b[i]
    ·have hq:a[i]=b[i]:=he
     have HE:=Lib.hid he
     clear he
     go_wp2_with fail
     go_quiet (fail)
     go_wp2
     go_roundw
     case rel=>exact ⟨i+1,by omega,by go_num,below_drewN hBw _,zGk hF.out hlt hltb HE.out⟩
     case measure=>simp [intOf];omega
    ·have hq:¬ a[i]=b[i]:=he
     have HE:=Lib.hid he
     clear he
     go_wp2_with fail
     go_quiet (fail)
     go_wp2
     go_ret
     exact ⟨zBY (by simp [zGA hlt hltb HE.out]),below_drewN hBw _⟩
   ·go_wp2
    go_ret
    exact ⟨zBY (by rw [zGl hF.out hL.out (by omega)];simp),hBw⟩
 ·go_enter Tryz.func68,Tryz.ntmps68
  go_wp2
  go_ret
  exact ⟨zBY (by simp;rintro rfl;exact hl rfl),Below.refl _ _⟩
open Go.RowKit
set_option maxRecDepth 20000
set_option maxHeartbeats 4000000 in
theorem same_any (a b:List St) (A B:Option Addr) (c d:Nat) (w:World) (ha:zx zA5 9 w A a) (hb:zx zA5 9 w B b) (hla:a.length≤1000000) (hlb:b.length≤1000000) :
  zAp 87 #[vT A a.length c,vT B b.length d] w (.bool (decide (a=b))):=by
 unfold zAp vT
 have HA:=Lib.hid ha
 have HB:=Lib.hid hb
 clear ha hb
 by_cases hl:a.length=b.length
 ·have hL:=Lib.hid hl
  have hlt0:b.length≤a.length:=by omega
  have hlt1:a.length≤b.length:=by omega
  clear hl
  go_enter Tryz.func87,Tryz.ntmps87
  go_wp2
  go_loopw [5] (fun v wr=>∃ i:Nat,i≤a.length∧v = .int .i64 i∧Blk wr w.heap.size #[.slice A a.length c]∧Blk wr (w.heap.size+1) #[.slice B b.length d]∧Below w.heap.size w wr∧Hid (a.take i=b.take i)) (fun v _=>a.length - (intOf v).toNat)
  case atStart=>exact ⟨0,Nat.zero_le _,rfl,(by (refine zBb ?_;repeat (first|(with_reducible refine zP.zBZ (by first|(simp;done)|(simp;omega)|omega) ?_;(first|rfl|(simp;done)))|(with_reducible refine zP.alloc ?_ _)|(with_reducible refine zP.far ?_ _ (by first|(simp;done)|(simp;omega)|omega))|(with_reducible refine zP.zBA ?_ (by first|(simp;done)|(simp;omega)|omega))|(with_reducible refine zP.drew ?_)|(with_reducible refine zP.drewN ?_ _)|(refine zP.leaf (by assumption) ?_;(first|rfl|(simp;done)))))),(by (refine zBb ?_;repeat (first|(with_reducible refine zP.zBZ (by first|(simp;done)|(simp;omega)|omega) ?_;(first|rfl|(simp;done)))|(with_reducible refine zP.alloc ?_ _)|(with_reducible refine zP.far ?_ _ (by first|(simp;done)|(simp;omega)|omega))|(with_reducible refine zP.zBA ?_ (by first|(simp;done)|(simp;omega)|omega))|(with_reducible refine zP.drew ?_)|(with_reducible refine zP.drewN ?_ _)|(refine zP.leaf (by assumption) ?_;(first|rfl|(simp;done)))))),(by (repeat (first|(with_reducible refine zAZ ?_ _)|(with_reducible refine zAf ?_ (by first|(simp;done)|(simp;omega)|omega))|(with_reducible refine zA4 ?_)|(with_reducible refine below_drewN ?_ _)|(with_reducible assumption)|(with_reducible exact Below.refl _ _)))),by unfold Hid;simp⟩
  case round =>
   obtain ⟨i,hi,rfl,k0,k1,hBw,hF⟩:=hrel
   obtain ⟨x0,f0,l0⟩:=k0.facts
   obtain ⟨x1,f1,l1⟩:=k1.facts
   by_cases hlt:i<a.length
   ·have hltb:i<b.length:=by omega
    obtain ⟨b1,o1,rfl,hb1,hc1⟩:=(HA.out.below hBw).at_ hlt
    obtain ⟨b2,o2,rfl,hb2,hc2⟩:=(HB.out.below hBw).at_ hltb
    have e0:=hc1 0 _ rfl
    have e1:=hc1 1 _ rfl
    have e2:=hc1 2 _ rfl
    have e3:=hc1 3 _ rfl
    have e4:=hc1 4 _ rfl
    have e5:=hc1 5 _ rfl
    have e6:=hc1 6 _ rfl
    have e7:=hc1 7 _ rfl
    have e8:=hc1 8 _ rfl
    have g0:=hc2 0 _ rfl
    have g1:=hc2 1 _ rfl
    have g2:=hc2 2 _ rfl
    have g3:=hc2 3 _ rfl
    have g4:=hc2 4 _ rfl
    have g5:=hc2 5 _ rfl
    have g6:=hc2 6 _ rfl
    have g7:=hc2 7 _ rfl
    have g8:=hc2 8 _ rfl
    simp only [Nat.add_zero] at e0 g0
    clear hc1 hc2
    have hi0:(0:Int)≤i:=by omega
    have hi1:(i:Int)<a.length:=by omega
    have hi2:(i:Int)<b.length:=by omega
    have hq:eqSt ⟨a[i].id,⟨a[i].long.lo,a[i].long.hi⟩,⟨a[i].fall.lo,a[i].fall.hi⟩,⟨a[i].radius.lo,a[i].radius.hi⟩,a[i].side,a[i].wall⟩ ⟨b[i].id,⟨b[i].long.lo,b[i].long.hi⟩,⟨b[i].fall.lo,b[i].fall.hi⟩,⟨b[i].radius.lo,b[i].radius.hi⟩,b[i].side,b[i].wall⟩=decide (a[i]=b[i]):=by unfold eqSt;rfl
    by_cases he:a[i]=b[i]
    ·rw [decide_eq_true he] at hq
     have HE:=Lib.hid he
     clear he
     go_wp2_with fail
     go_quiet (fail)
     go_wp2
     go_roundw
     case rel=>exact ⟨i+1,by omega,by go_num,(by (refine zBb ?_;repeat (first|(with_reducible refine zP.zBZ (by first|(simp;done)|(simp;omega)|omega) ?_;(first|rfl|(simp;done)))|(with_reducible refine zP.alloc ?_ _)|(with_reducible refine zP.far ?_ _ (by first|(simp;done)|(simp;omega)|omega))|(with_reducible refine zP.zBA ?_ (by first|(simp;done)|(simp;omega)|omega))|(with_reducible refine zP.drew ?_)|(with_reducible refine zP.drewN ?_ _)|(refine zP.leaf (by assumption) ?_;(first|rfl|(simp;done)))))),(by (refine zBb ?_;repeat (first|(with_reducible refine zP.zBZ (by first|(simp;done)|(simp;omega)|omega) ?_;(first|rfl|(simp;done)))|(with_reducible refine zP.alloc ?_ _)|(with_reducible refine zP.far ?_ _ (by first|(simp;done)|(simp;omega)|omega))|(with_reducible refine zP.zBA ?_ (by first|(simp;done)|(simp;omega)|omega))|(with_reducible refine zP.drew ?_)|(with_reducible refine zP.drewN ?_ _)|(refine zP.leaf (by assumption) ?_;(first|rfl|(simp;done)))))),below_drewN hBw _,zGk hF.out hlt hltb HE.out⟩
     case measure=>simp [intOf];omega
    ·rw [decide_eq_false he] at hq
     have HE:=Lib.hid he
     clear he
     go_wp2_with fail
     go_quiet (fail)
     go_wp2
     go_ret
     exact ⟨zBY (by simp [zGA hlt hltb HE.out]),below_drewN hBw _⟩
   ·go_wp2
    go_ret
    exact ⟨zBY (by rw [zGl hF.out hL.out (by omega)];simp),hBw⟩
 ·go_enter Tryz.func87,Tryz.ntmps87
  go_wp2
  go_ret
  exact ⟨zBY (by simp;rintro rfl;exact hl rfl),(by (repeat (first|(with_reducible refine zAZ ?_ _)|(with_reducible refine zAf ?_ (by first|(simp;done)|(simp;omega)|omega))|(with_reducible refine zA4 ?_)|(with_reducible refine below_drewN ?_ _)|(with_reducible assumption)|(with_reducible exact Below.refl _ _))))⟩
end Go.Proofs.YtdigopgncfhiaaaGreatDoor
namespace Go.Proofs.YtdigopgncfhiaaaGreatDoor
open Go.RowKit
set_option maxRecDepth 20000
def zDE (c:Cov) (pl:List Sli):Bool:=decide (20<c.t.length) || (decide (20<c.beds.length) || (decide (12<c.hours.length) || (decide (12<pl.length) || pl.any fun s=>decide (20<s.xs.length))))
theorem zFv {c:Cov} {pl:List Sli} (h:zDE c pl=false):c.t.length≤20∧c.beds.length≤20∧c.hours.length≤12∧pl.length≤12∧∀ s∈pl,s.xs.length≤20:=by
 unfold zDE at h
 simp only [Bool.or_eq_false_iff,decide_eq_false_iff_not,List.any_eq_false,decide_eq_true_eq] at h
 obtain ⟨h1,h2,h3,h4,h5⟩:=h
 exact ⟨by omega,by omega,by omega,by omega,fun s hs=>by have:=h5 s hs;omega⟩
theorem zMa {c:Cov} {pl:List Sli} (h:20<c.t.length∨20<c.beds.length∨12<c.hours.length∨12<pl.length):zDE c pl=true:=by
 cases hg:zDE c pl with
 | true=>rfl
 | false=>have:=zFv hg;omega
theorem zMZ {c:Cov} {pl:List Sli} {s:Sli} (hs:s∈pl) (h:20<s.xs.length):zDE c pl=true:=by
 cases hg:zDE c pl with
 | true=>rfl
 | false=>have:=(zFv hg).2.2.2.2 s hs;omega
theorem zNf {c:Cov} {pl:List Sli} (h1:c.t.length≤20) (h2:c.beds.length≤20) (h3:c.hours.length≤12) (h4:pl.length≤12) (h5:∀ s∈pl,s.xs.length≤20):zDE c pl=false:=by
 unfold zDE
 simp only [Bool.or_eq_false_iff,decide_eq_false_iff_not,List.any_eq_false,decide_eq_true_eq]
 exact ⟨by omega,by omega,by omega,by omega,fun s hs=>by have:=h5 s hs;omega⟩
set_option maxHeartbeats 2000000 in
theorem zLz (c:Cov) (A:Option Addr) (ca:Nat) (B:Option Addr) (cb:Nat) (C:Option Addr) (cc:Nat) (pl:List Sli) (P:Option Addr) (cp:Nat) (w:World) (hp:zBP w P pl) (hcap:pl.length≤cp∧cp≤maxLen) :
  Gv Tryz.prog 54 [zAI c A ca B cb C cc,.slice P pl.length cp] w (.bool (zDE c pl)):=by
 have hpp:=hp.p
 have hgr:=fun W=>(zPW A c.t.length ca W).gv
 unfold vT at hgr
 unfold Gv zAI zJ
 (refine zL (n:=38) Tryz.func54 rfl rfl rfl ?_)
 (repeat' (first|((with_reducible refine zG ?_);first|refine zE rfl rfl rfl rfl rfl ?_|refine zC rfl rfl rfl rfl rfl ?_|(refine zK rfl rfl rfl rfl rfl ?_;refine ⟨_,rfl,?_⟩)|refine za rfl rfl rfl rfl rfl ?_|refine zz rfl rfl rfl rfl rfl rfl ?_|refine zg rfl rfl rfl ?_|(refine zU rfl rfl rfl rfl rfl rfl rfl (fun h=>?_) (fun h=>?_)<;>(dsimp only [cmpP] at h;(try (exfalso;omega))))|(refine zAY rfl rfl rfl rfl rfl rfl (fun _ _ q=>hgr _) (fun h=>?_) (fun h=>?_)<;>(try (exfalso;omega)))|refine zp rfl rfl rfl rfl rfl ?_|(refine zt rfl rfl rfl rfl rfl rfl (fun b=>?_)))|(with_reducible first|refine zH ?_|refine zB ?_|refine zD ?_|refine zA ?_|refine zc ?_|refine zS ?_|refine zY ?_|refine zQ ?_)|((with_reducible refine zI ?_ ?_);(· exact rfl))|((with_reducible refine zF ?_ ?_);(· exact rfl))))
 all_goals (try simp only [decide_eq_true_eq,decide_eq_false_iff_not] at *)
 all_goals first|exact zV (by (exact zO.cons (by exact zn.tmp rfl) zO.nil)) () trivial (by rw [zMa (by omega)];rfl) (fun _ h=>h.sub (by (repeat (first|exact oK1 _|(refine oK2 (by (repeat (first|exact tK1 _ _|apply tK2))) ?_)))))|skip
 refine zw (ι:=Nat) [1] rfl (fun i=>i≤pl.length∧∀ j (z:Sli),j<i→pl[j]?=some z→z.xs.length≤20) (fun i=>[(5,.int .i64 (i:Int))]) (fun _=>[]) (fun i=>pl.length - i) 0 ⟨Nat.zero_le _,fun j z h=>by omega⟩ (by (first|exact lK1|(repeat (first|exact lK1|(refine zM rfl ?_))))) (by (repeat (first|exact oK1 _|(refine oK2 (by (repeat (first|exact tK1 _ _|apply tK2))) ?_)))) ?_
 rintro i ⟨hi,hall⟩
 simp only [zAx,List.cons_append,List.nil_append]
 by_cases hlt:i<pl.length
 ·obtain ⟨s,hsi⟩:∃ s,pl[i]?=some s:=⟨_,List.getElem?_eq_getElem hlt⟩
  have hsm:=List.mem_of_getElem? hsi
  obtain ⟨bb,o,rfl,hblt,hc⟩:=hpp.at_ hlt
  have:InS w bb o zBa 1 pl:=⟨hpp⟩
  have:zAU pl i s:=⟨hsi⟩
  have hy:=fun h=>zMZ (c:=c) hsm h
  obtain ⟨sA,xs,sc⟩:=s
  simp only at hy
  (repeat' (first|((with_reducible refine zG ?_);first|refine zE rfl rfl rfl rfl rfl ?_|refine zC rfl rfl rfl rfl rfl ?_|(refine zK rfl rfl rfl rfl rfl ?_;refine ⟨_,rfl,?_⟩)|(refine zU rfl rfl rfl rfl rfl rfl rfl (fun h=>?_) (fun h=>?_)<;>(dsimp only [cmpP] at h;(try (exfalso;omega))))|refine zf rfl rfl rfl rfl rfl rfl (by omega) ?_|refine zb rfl rfl rfl rfl rfl rfl rfl (by omega) ?_|refine zp rfl rfl rfl rfl rfl ?_)|(with_reducible first|refine zH ?_|refine zB ?_|refine zD ?_|refine zA ?_|refine zc ?_|refine zS ?_|refine zY ?_|refine zQ ?_|refine zh ?_|refine zAK ?_)|((with_reducible refine zI ?_ ?_);(· exact rfl))|((with_reducible refine zF ?_ ?_);(· exact rfl))))
  ·exact zV (by (exact zO.cons (by exact zn.tmp rfl) zO.nil)) () trivial (by rw [hy (by omega)];rfl) (fun _ h=>h.sub (by (repeat (first|exact oK1 _|(refine oK2 (by (repeat (first|exact tK1 _ _|apply tK2))) ?_)))))
  ·exact zi (i+1) ⟨by omega,fun j z hj hz=>by
    by_cases e:j=i
    ·subst e;rw [hsi] at hz;cases hz;simp only;omega
    ·exact hall j z (by omega) hz⟩ (by omega) (by (first|exact lK1|(repeat (first|exact lK1|(refine zM rfl ?_))))) (by (repeat (first|exact oK1 _|(refine oK2 (by (repeat (first|exact tK1 _ _|apply tK2))) ?_))))
 ·obtain rfl:i=pl.length:=by omega
  have hg:zDE c pl=false:=zNf (by omega) (by omega) (by omega) (by omega) (fun s hs=>by
   obtain ⟨j,hj⟩:=List.mem_iff_getElem?.1 hs
   exact hall j s (List.getElem?_eq_some_iff.1 hj).1 hj)
  (repeat' (first|((with_reducible refine zG ?_);first|refine zE rfl rfl rfl rfl rfl ?_|refine zC rfl rfl rfl rfl rfl ?_|(refine zU rfl rfl rfl rfl rfl rfl rfl (fun h=>?_) (fun h=>?_)<;>(dsimp only [cmpP] at h;(try (exfalso;omega))))|refine zp rfl rfl rfl rfl rfl ?_)|(with_reducible first|refine zH ?_|refine zB ?_|refine zD ?_|refine zA ?_|refine zc ?_|refine zj ?_|refine zR ?_|refine zW ?_)|((with_reducible refine zF ?_ ?_);(· exact rfl))))
  exact zV (by (exact zO.cons (by exact zn.tmp rfl) zO.nil)) () trivial (by rw [hg];rfl) (fun _ h=>h.sub (by (repeat (first|exact oK1 _|(refine oK2 (by (repeat (first|exact tK1 _ _|apply tK2))) ?_)))))
end Go.Proofs.YtdigopgncfhiaaaGreatDoor
namespace Go.Proofs.YtdigopgncfhiaaaGreatDoor
open Go.RowKit
set_option maxRecDepth 20000
def Ent.rows (l:List Sli):Ent:=⟨fun b=>∃ s∈l,∃ o,s.A=some ⟨b,o,none⟩,fun w=>∀ s∈l,zx encI 1 w s.A s.xs,fun w w' hs h hp s hm=>(Ent.sl encI 1 s.A s.xs).loc w w' hs (fun b hb=>h b ⟨s,hm,hb⟩) (hp s hm)⟩
theorem Own.rows_nil {base:Nat} {w:World} {H:List Ent} (h:Own base w H):Own base w (.rows []::H) :=
 ⟨fun e he=>by
  rcases List.mem_cons.1 he with rfl|he
  ·intro s hs;cases hs
  ·exact h.here e he,fun e he b hb=>by
  rcases List.mem_cons.1 he with rfl|he
  ·obtain ⟨s,hs,_⟩:=hb;cases hs
  ·exact h.foot e he b hb,List.pairwise_cons.2 ⟨(fun f _ b hb=>by obtain ⟨s,hs,_⟩:=hb;cases hs),h.apart⟩⟩
theorem Own.zIo {base:Nat} {w:World} {H:List Ent} {A:Option Addr} {xs:List Int} {c:Nat} {l:List Sli} (h:Own base w (.sl encI 1 A xs :: .rows l::H)):Own base w (.rows (l++[⟨A,xs,c⟩])::H):=by
 obtain ⟨a1,a2⟩:=List.pairwise_cons.1 h.apart
 obtain ⟨a3,a4⟩:=List.pairwise_cons.1 a2
 refine ⟨fun e he=>?_,fun e he b hb=>?_,List.pairwise_cons.2 ⟨fun f hf b hb hb'=>?_,a4⟩⟩
 ·rcases List.mem_cons.1 he with rfl|he
  ·intro s hs
   rcases List.mem_append.1 hs with hs|hs
   ·exact (h.here (.rows l) (by simp):∀ s∈l,zx encI 1 w s.A s.xs) s hs
   ·simp only [List.mem_singleton] at hs;subst hs
    exact h.here (.sl encI 1 A xs) (by simp)
  ·exact h.here e (by simp [he])
 ·rcases List.mem_cons.1 he with rfl|he
  ·obtain ⟨s,hs,hb⟩:=hb
   rcases List.mem_append.1 hs with hs|hs
   ·exact h.foot (.rows l) (by simp) b ⟨s,hs,hb⟩
   ·simp only [List.mem_singleton] at hs;subst hs
    exact h.foot (.sl encI 1 A xs) (by simp) b hb
  ·exact h.foot e (by simp [he]) b hb
 ·obtain ⟨s,hs,hb⟩:=hb
  rcases List.mem_append.1 hs with hs|hs
  ·exact a3 f hf b ⟨s,hs,hb⟩ hb'
  ·simp only [List.mem_singleton] at hs;subst hs
   exact a1 f (by simp [hf]) b hb hb'
theorem elem_sl : zJp Tryz.prog 34 38 1 24 (.slice none 0 0) :=
 ⟨by rfl,by exact ⟨_,rfl,rfl,rfl,rfl⟩,by decide,by decide⟩
instance elI_sl : ElI Tryz.prog 34 38 1 24:=⟨⟨_,elem_sl⟩⟩
theorem zLN {pl pl':List Sli} (h:pl.map Sli.xs=pl'.map Sli.xs) (i:Nat):(pl.getD i default).xs=(pl'.getD i default).xs:=by
 have e:∀ l:List Sli,(l.getD i default).xs=(l.map Sli.xs).getD i []:=fun l=>by
  simp only [List.getD_eq_getElem?_getD,List.getElem?_map]
  cases l[i]?<;>rfl
 rw [e,e,h]
theorem zEr {c:Cov} {pl pl':List Sli} (h:pl.map Sli.xs=pl'.map Sli.xs) {z:Bed} {i:Int}:∀ k,thickN c pl z i k=thickN c pl' z i k
 | 0=>rfl
 | k+1=>by simp only [thickN];rw [zEr h k,zLN h]
theorem zLB {c:Cov} {pl pl':List Sli} (h:pl.map Sli.xs=pl'.map Sli.xs):zBg c pl=zBg c pl':=by
 have hl:pl.length=pl'.length:=by have:=congrArg List.length h;simpa using this
 unfold zBg
 rw [hl]
 congr 2
 funext i
 unfold zFK
 rw [zLN h]
theorem zCT {c:Cov} {pl pl':List Sli} (h:pl.map Sli.xs=pl'.map Sli.xs):zCK c pl=zCK c pl':=by unfold zCK;rw [zLB h]
theorem zK2 {c:Cov} {pl pl':List Sli} (h:pl.map Sli.xs=pl'.map Sli.xs) {i k:Int}:zEq c pl i k=zEq c pl' i k:=by unfold zEq;rw [zCT h,zEr h]
theorem zJr {c:Cov} {pl pl':List Sli} (h:pl.map Sli.xs=pl'.map Sli.xs) {en:Sp→Sp→Int}:zB0 c pl en=zB0 c pl' en:=by
 funext z i k
 unfold zB0;rw [zEr h]
theorem zD4 {c:Cov} {pl pl':List Sli} (h:pl.map Sli.xs=pl'.map Sli.xs) {en:Sp→Sp→Int}:zBQ c pl en=zBQ c pl' en:=by unfold zBQ;rw [zJr h]
theorem zLa {c:Cov} {pl pl':List Sli} (h:pl.map Sli.xs=pl'.map Sli.xs) {J:Nat} {n:Int}:zD0 c pl J n=zD0 c pl' J n:=by unfold zD0;rw [zD4 h]
theorem zIB {c:Cov} {pl pl':List Sli} (h:pl.map Sli.xs=pl'.map Sli.xs) {J:Nat}:∀ k,bestN c pl J k=bestN c pl' J k
 | 0=>rfl
 | k+1=>by simp only [bestN,zLa h,zIB h k]
theorem zMJ {c:Cov} {pl pl':List Sli} (h:pl.map Sli.xs=pl'.map Sli.xs) {k:Int}:zFR c pl k=zFR c pl' k:=by unfold zFR;rw [zCT h,zIB h]
end Go.Proofs.YtdigopgncfhiaaaGreatDoor
