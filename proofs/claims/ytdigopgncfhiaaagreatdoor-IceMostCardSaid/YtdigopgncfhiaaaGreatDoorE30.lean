/- E30 -/
import Derived.Test.YtdigopgncfhiaaaGreatDoorE29
import Derived.Test.YtdigopgncfhiaaaGreatDoorE26
import Derived.Test.YtdigopgncfhiaaaGreatDoorE24
set_option linter.unusedSimpArgs false
set_option linter.unusedVariables false
namespace Go.Proofs.YtdigopgncfhiaaaGreatDoor
open Go.RowKit
set_option maxRecDepth 20000
theorem zOR {c:Cov} (hv:valid c.t=true) (h:zB4 c):zAm c=0:=by
 have:zDW c=true:=zCJ.2 ⟨h.beds,h.hours,List.all_eq_true.2 fun z hz=>h.bed z hz,List.all_eq_true.2 fun z hz=>h.hour z hz,h.wear,h.layer,h.rate,h.limit,h.base⟩
 unfold zAm
 rw [if_pos hv,if_pos this]
theorem zMi {c:Cov} (h:zAm c=0):valid c.t=true:=by
 cases hv:valid c.t with
 | true=>rfl
 | false=>unfold zAm at h;rw [hv] at h;simp at h
theorem zIP {c:Cov} {pl:List Sli} (h:zAm c=0) (hp:zBg c pl=true):zCK c pl=0:=by unfold zCK;rw [if_pos h,hp];rfl
theorem zL2 {c:Cov} {pl:List Sli} {k:Nat} {n:Int} (hk:k<c.hours.length) (h:zBg c pl=true):zBg (zAi c k n) pl=true:=by
 obtain ⟨h1,h2⟩:=zBN.1 h
 refine zBN.2 ⟨by rw [zBc];exact h1,fun i u s hu hs=>?_⟩
 have hi:=(List.getElem?_eq_some_iff.1 hu).1
 rw [zBc] at hi
 have h3:=h2 i (c.hours[i]) s (List.getElem?_eq_getElem hi) hs
 by_cases e:k=i
 ·subst e
  have e2:u=zF6 n c.hours[k]:=by
   have:(zAi c k n).hours[k]?=some (zF6 n (c.hours.getD k default)):=List.getElem?_set_self hk
   rw [this] at hu
   rw [← Option.some.inj hu,zAh (List.getElem?_eq_getElem hk)]
  rw [e2];exact h3
 ·have:(zAi c k n).hours[i]?=c.hours[i]?:=List.getElem?_set_ne e
  rw [this,List.getElem?_eq_getElem hi] at hu
  cases hu;exact h3
theorem zKq {c:Cov} {pl:List Sli} {J:Nat}:∀ {m:Nat} {n:Nat},bestN c pl J m=(n:Int)→zD0 c pl J n=true∧n<m∧∀ j,n<j→j<m→zD0 c pl J j=false
 | 0,n,h=>by simp only [bestN] at h;omega
 | m+1,n,h=>by
  simp only [bestN] at h
  split at h
  ·rename_i hb
   obtain rfl:m=n:=by omega
   exact ⟨hb,by omega,fun j h1 h2=>by omega⟩
  ·rename_i hb
   obtain ⟨h1,h2,h3⟩:=zKq h
   refine ⟨h1,by omega,fun j h4 h5=>?_⟩
   by_cases e:j=m
   ·subst e;simpa using hb
   ·exact h3 j h4 (by omega)
theorem zJf {c:Cov} {pl:List Sli} {J:Nat}:∀ {m:Nat},bestN c pl J m<0→∀ j,j<m→zD0 c pl J j=false
 | 0,_,j,hj=>by omega
 | m+1,h,j,hj=>by
  simp only [bestN] at h
  split at h
  ·omega
  ·rename_i hb
   by_cases e:j=m
   ·subst e;simpa using hb
   ·exact zJf h j (by omega)
set_option maxHeartbeats 4000000 in
theorem zJw (c:Cov) (A:Option Addr) (ca:Nat) (B:Option Addr) (cb:Nat) (C:Option Addr) (cc b1 b2 b3 k n:Nat) (xss:List (List Int)) (P:Option Addr) (cp:Nat) (w:World) (h1:InC w b1 0 (zJ c A ca B cb C cc)) (h2:InC w b2 0 [.int .i64 (k:Int)]) (h3:InC w b3 0 [.slice P xss.length cp]) (hG:InC w 0 0 zCc) (hc:zAk w c A B C) (hs:Small c) (h0:zAm c=0) (hp:∃ pl:List Sli,pl.map Sli.xs=(zBf xss).map Sli.xs∧zBP w P pl) (hl:xss.length≤12) (hr:∀ r∈xss,r.length≤20) (hpl:zBg c (zBf xss)=true) (hk:k<c.hours.length) (hn:n≤60) :
  Gv Tryz.prog 38 [.int .i64 (n:Int),.pointer (some ⟨b1,0,none⟩),.pointer (some ⟨b2,0,none⟩),.pointer (some ⟨b3,0,none⟩)] w (.bool (!zD0 c (zBf xss) k n)):=by
 have h4:=hs.b;have h5:=hs.h;have h6:=hs.t
 have hf:=zBi h0
 have hT:=fun W (hW:Below w.heap.size w W)=>Two.zJ4 c A ca B cb C cc W (hc.below hW) (by omega) (by omega) (by omega)
 have hf2:=zF3 (c:=c) (J:=k) (n:=(n:Int)) hk (by omega) (by omega) hf
 have he:=zIP (zOR (c:=zAi c k n) (show valid (zAi c k n).t=true from zMi (c:=c) h0) hf2) (zL2 (n:=(n:Int)) hk hpl)
 have hTh:=fun W A3 m3 A6 m6 gh m9 (hC:zAk W (zAi c k n) A3 A6 (some ⟨gh,0,none⟩)) hp (hG:InC W 0 0 zCc)=>iThinP (zAi c k n) A3 m3 A6 m6 (some ⟨gh,0,none⟩) m9 xss P cp W hC (zFB hs) hp hl hr hG
 have hth:zFF (zAi c k n) (zBf xss)=zBQ (zAi c k n) (zBf xss) zBX:=by unfold zFF;rw [if_pos he]
 rw [hth,he] at hTh
 have hp2:=fun W (hW:Below w.heap.size w W)=>show ∃ pl:List Sli,pl.map Sli.xs=(zBf xss).map Sli.xs∧zBP W P pl from by obtain ⟨pl,e,h⟩:=hp;exact ⟨pl,e,h.below hW⟩
 unfold zD0
 have hll:=zJ6 (c:=zAi c k n) (pl:=zBf xss) (en:=zBX) (by exact h4) (by rw [zBc];exact h5)
 generalize zBQ (zAi c k n) (zBf xss) zBX=th at *
 obtain ⟨u,hu⟩:∃ u,c.hours[k]?=some u:=⟨_,List.getElem?_eq_getElem hk⟩
 have:zAU c.hours k u:=⟨hu⟩
 have hset:(zAi c k n).hours=c.hours.set k (zF6 n u):=by simp only [zAi,zAh hu]
 rw [Bool.not_not]
 simp only [zAI] at hT hTh
 unfold zJ at h1 hT hTh
 rw [zBc] at hTh
 unfold Gv
 (refine zL (n:=38) Tryz.func38 rfl rfl rfl ?_)
 (repeat' (first|((with_reducible refine zG ?_);first|refine zE rfl rfl rfl rfl rfl ?_|refine zC rfl rfl rfl rfl rfl ?_|(refine zK rfl rfl rfl rfl rfl ?_;refine ⟨_,rfl,?_⟩)|refine za rfl rfl rfl rfl rfl ?_|(refine zAN rfl rfl rfl rfl rfl rfl (fun _ _ q=>hT _ q.below) ?_;rintro ⟨⟨A3,m3⟩,⟨A6,m6⟩,A9,m9⟩ -;dsimp only [List.cons_append,List.nil_append])|(refine ze rfl rfl rfl rfl rfl ?_;refine And.intro rfl (And.intro (by first|decide|exact Nat.le_of_ble_eq_true rfl|(simp;omega)) ⟨_,rfl,?_⟩))|(refine zm rfl rfl rfl rfl (fun b=>?_)))|(with_reducible first|refine zH ?_|refine zB ?_|refine zD ?_|refine zA ?_)))
 refine zEO (enc:=zq) (xs:=c.hours) (by (repeat (first|exact tK1 _ _|apply tK2))) (by omega) ?_
 rintro gh rfl
 (repeat' (first|((with_reducible refine zG ?_);first|refine zE rfl rfl rfl rfl rfl ?_|refine zC rfl rfl rfl rfl rfl ?_|(refine zK rfl rfl rfl rfl rfl ?_;refine ⟨_,rfl,?_⟩)|refine za rfl rfl rfl rfl rfl ?_|refine zb (I:=k) rfl rfl rfl rfl rfl rfl rfl (by omega) ?_|refine zFC (enc:=zq) (k:=5) (i:=k) (j:=2) (z:=u) (zF6 n u) rfl rfl rfl rfl rfl rfl rfl rfl (by decide) ?_|(refine zAN rfl rfl rfl rfl rfl rfl (fun _ _ q=>hTh _ _ _ _ _ _ _ ⟨(zAz q.own (Below.refl _ _)),zDm q.own (by (repeat (first|exact tK1 _ _|apply tK2))),by rw [hset];exact zNy (q.own.here (.arr zq 5 gh (c.hours.set k (zF6 n u))) (Take.mem (by (repeat (first|exact tK1 _ _|apply tK2)))))⟩ (hp2 _ q.below) (hG.below q.below)) ?_;rintro ⟨T1,tc1⟩ -;dsimp only [List.cons_append,List.nil_append])|refine zd rfl rfl rfl rfl rfl rfl ?_|refine zp rfl rfl rfl rfl rfl ?_)|(with_reducible first|refine zH ?_|refine zB ?_|refine zD ?_|refine zA ?_|refine zQ ?_)))
 refine zw (ι:=Nat) [2,8,25,26] rfl (fun i=>i≤th.length∧∀ j p,j<i→th[j]?=some p→p.1≠(k:Int)) (fun i=>[(27,.int .i64 (i:Int))]) (fun _=>[.sl zAl 2 T1 th]) (fun i=>th.length - i) 0 ⟨Nat.zero_le _,fun j p h=>absurd h (by omega)⟩ (by (first|exact lK1|(repeat (first|exact lK1|(refine zM rfl ?_))))) (by (repeat (first|exact oK1 _|(refine oK2 (by (repeat (first|exact tK1 _ _|apply tK2))) ?_)))) ?_
 rintro i ⟨hi,hal⟩
 simp only [zAx,List.cons_append,List.nil_append]
 by_cases hil:i<th.length
 ·obtain ⟨p,hp9⟩:∃ p,th[i]?=some p:=⟨_,List.getElem?_eq_getElem hil⟩
  refine zGg (enc:=zAl) (A:=T1) (by (repeat (first|exact tK1 _ _|apply tK2))) (by omega) ?_
  rintro b9 o9 rfl
  have:zAU th i p:=⟨hp9⟩
  obtain ⟨p1,p2⟩:=p
  (repeat' (first|((with_reducible refine zG ?_);first|refine zE rfl rfl rfl rfl rfl ?_|refine zC rfl rfl rfl rfl rfl ?_|(refine zK rfl rfl rfl rfl rfl ?_;refine ⟨_,rfl,?_⟩)|(refine zU rfl rfl rfl rfl rfl rfl rfl (fun h=>?_) (fun h=>?_)<;>(dsimp only [cmpP] at h;(try (exfalso;omega))))|refine zf rfl rfl rfl rfl rfl rfl (by omega) ?_|refine zb rfl rfl rfl rfl rfl rfl rfl (by omega) ?_|refine zAO rfl rfl rfl rfl rfl rfl rfl (by first|decide|omega) ?_|(refine ze rfl rfl rfl rfl rfl ?_;refine And.intro rfl (And.intro (by first|decide|exact Nat.le_of_ble_eq_true rfl|(simp;omega)) ⟨_,rfl,?_⟩))|(refine zm rfl rfl rfl rfl (fun b=>?_)))|(with_reducible first|refine zH ?_|refine zB ?_|refine zD ?_|refine zA ?_|refine zc ?_|refine zS ?_|refine zY ?_|refine zQ ?_|refine zh ?_|refine zAK ?_)|((with_reducible refine zI ?_ ?_);(· exact rfl))|((with_reducible refine zF ?_ ?_);(· exact rfl))))
  ·exact zV (by (exact zO.cons (by exact zn.tmp rfl) zO.nil)) () trivial (by
    have:(th.any fun q=>decide (q.1=(k:Int)))=true:=List.any_eq_true.2 ⟨(p1,p2),List.mem_of_getElem? hp9,by simpa using h⟩
    rw [this];rfl) (fun _ h=>h.sub (by (repeat (first|exact oK1 _|(refine oK2 (by (repeat (first|exact tK1 _ _|apply tK2))) ?_)))))
  ·have hne:p1≠(k:Int):=h
   exact zi (ι:=Nat) (i+1) (by exact ⟨by omega,fun j q hj hq=>by
    by_cases e:j=i
    ·subst e;rw [hp9] at hq;cases hq;exact hne
    ·exact hal j q (by omega) hq⟩) (by omega) (by (first|exact lK1|(repeat (first|exact lK1|(refine zM rfl ?_))))) (by (repeat (first|exact oK1 _|(refine oK2 (by (repeat (first|exact tK1 _ _|apply tK2))) ?_))))
 ·obtain rfl:i=th.length:=by omega
  have e:(th.any fun q=>decide (q.1=(k:Int)))=false:=by
   rw [List.any_eq_false]
   intro q hq
   obtain ⟨j,hj⟩:=List.getElem?_of_mem hq
   have:=hal j q (List.getElem?_eq_some_iff.1 hj).1 hj
   simpa using this
  rw [e]
  (repeat' (first|((with_reducible refine zG ?_);first|refine zE rfl rfl rfl rfl rfl ?_|refine zC rfl rfl rfl rfl rfl ?_|(refine zU rfl rfl rfl rfl rfl rfl rfl (fun h=>?_) (fun h=>?_)<;>(dsimp only [cmpP] at h;(try (exfalso;omega)))))|(with_reducible first|refine zH ?_|refine zB ?_|refine zD ?_|refine zA ?_|refine zc ?_|refine zj ?_|refine zR ?_|refine zW ?_)|((with_reducible refine zF ?_ ?_);(· exact rfl))))
  exact zV (by (exact zO.cons (by exact zn.tmp rfl) zO.nil)) () trivial rfl (fun _ _=>Own.nil _ _)
set_option maxHeartbeats 4000000 in
theorem zMW (c:Cov) (A:Option Addr) (ca:Nat) (B:Option Addr) (cb:Nat) (C:Option Addr) (cc:Nat) (ch:List Int) (D:Option Addr) (cd:Nat) (a:Int) (w:World) (hc:zAk w c A B C) (hfit:zFb c.t) (hD:zx encU 1 w D ch) (hfu:FitW ch) (ha:0≤a∧a≤255) (hG:InC w 0 0 zCc) :
  Gv Tryz.prog 9 [zAI c A ca B cb C cc,.slice D ch.length cd,.int .u8 a] w (.bool true):=by
 have hAl:=fun W (hW:Below w.heap.size w W)=>zGX W (hG.below hW)
 have hR:=fun W (hW:Below w.heap.size w W)=>zGW c A ca B cb C cc W (hc.below hW) hfit
 cases hr:zFM c
 ·rw [hr] at hR
  unfold zAI zJ at hR ⊢
  unfold Gv
  (refine zL (n:=73) Tryz.func9 rfl rfl rfl ?_)
  (repeat' (first|((with_reducible refine zG ?_);first|refine zE rfl rfl rfl rfl rfl ?_|refine zC rfl rfl rfl rfl rfl ?_|(refine zK rfl rfl rfl rfl rfl ?_;refine ⟨_,rfl,?_⟩)|refine zX rfl rfl rfl rfl rfl rfl (fun _ _ q=>hAl _ q.below) ?_|refine zX rfl rfl rfl rfl rfl rfl (fun _ _ q=>hR _ q.below) ?_|refine zAH rfl rfl rfl rfl rfl ?_|(refine zt rfl rfl rfl rfl rfl rfl (fun b=>?_)))|(with_reducible first|refine zH ?_|refine zB ?_|refine zD ?_|refine zA ?_|refine zc ?_|refine zS ?_|refine zY ?_)|((with_reducible refine zI ?_ ?_);(· exact rfl))|((with_reducible refine zF ?_ ?_);(· exact rfl))))
  all_goals exact zV (by (exact zO.cons (by exact zn.tmp rfl) zO.nil)) () trivial rfl (fun _ _=>Own.nil _ _)
 ·rw [hr] at hR
  have hs:=zEw hr hfit
  have h0:=(zEx.1 hr).2
  have hf:=zBi h0
  have h4:=hs.b;have h5:=hs.h
  have hh1:=hf.hours
  rw [zAL] at hh1
  have hpl:=zMm (ch:=ch) (f:=0) hf
  have hDr:=fun W (hW:Below w.heap.size w W)=>zJJ c A ca B cb C cc ch D cd 0 W (hc.below hW) hs (hD.below hW) hfu (by omega)
  have hl:(zBy c ch 0).length=c.hours.length:=zBo
  have hrow:∀ r∈zBy c ch 0,r.length≤20:=fun r hr=>Nat.le_trans (zJa r hr) h4
  have hk0:=zIP h0 hpl
  generalize zBy c ch 0=xss at *
  obtain ⟨k,hk⟩:∃ k:Nat,a % (c.hours.length:Int)=(k:Int):=⟨(a % (c.hours.length:Int)).toNat,by have:=Int.emod_nonneg a (b:=(c.hours.length:Int)) (by omega);omega⟩
  have hkl:k<c.hours.length:=by have:=Int.emod_lt_of_pos a (b:=(c.hours.length:Int)) (by omega);omega
  have hM:=fun W (hW:Below w.heap.size w W) P cp hp=>iMostP c A ca B cb C cc xss P cp W (hc.below hW) hs hp (by omega) hrow (k:Int) (hG.below hW)
  have hmT:zFR c (zBf xss) (k:Int)=if bestN c (zBf xss) k 61<0 then (0,6) else (bestN c (zBf xss) k 61,0):=by
   unfold zFR
   rw [if_pos hk0,if_pos (by rw [zAL];omega)];rfl
  have hb9:=zMu (c:=c) (pl:=zBf xss) (J:=k) 61
  have hTm:=fun W (hW:Below w.heap.size w W) b1 b2 b3 P cp n h1 h2 h3 hp hn=>zJw c A ca B cb C cc b1 b2 b3 k n xss P cp W h1 h2 h3 (hG.below hW) (hc.below hW) hs h0 hp (by omega) hrow hpl hkl hn
  have hbn:=zJf (c:=c) (pl:=zBf xss) (J:=k) (m:=61)
  have hby:=fun n=>zKq (c:=c) (pl:=zBf xss) (J:=k) (m:=61) (n:=n)
  rw [hmT] at hM
  rw [hl] at hM hTm
  generalize bestN c (zBf xss) k 61=bn at *
  unfold zAI at hR hDr hM
  unfold zJ at hR hDr hM hTm
  unfold Gv zAI zJ
  by_cases hneg:bn<0
  ·rw [if_pos hneg] at hM
   have hq:=hbn hneg 0 (by omega)
   have hT0:=fun W hW b1 b2 b3 P cp h1 h2 h3 hp=>hTm W hW b1 b2 b3 P cp 0 h1 h2 h3 hp (by omega)
   rw [hq] at hT0
   simp only [Int.natCast_zero] at hT0
   (refine zL (n:=73) Tryz.func9 rfl rfl rfl ?_)
   (repeat' (first|((with_reducible refine zG ?_);first|refine zE rfl rfl rfl rfl rfl ?_|refine zC rfl rfl rfl rfl rfl ?_|(refine zK rfl rfl rfl rfl rfl ?_;refine ⟨_,rfl,?_⟩)|refine za rfl rfl rfl rfl rfl ?_|refine zX rfl rfl rfl rfl rfl rfl (fun _ _ q=>hAl _ q.below) ?_|refine zX rfl rfl rfl rfl rfl rfl (fun _ _ q=>hR _ q.below) ?_|(refine zAN rfl rfl rfl rfl rfl rfl (fun _ _ q=>hDr _ q.below) ?_;rintro ⟨pg,pn,P,cp⟩ -;dsimp only [List.cons_append,List.nil_append])|refine zAH rfl rfl rfl rfl rfl ?_|refine zp rfl rfl rfl rfl rfl ?_|(refine ze rfl rfl rfl rfl rfl ?_;refine And.intro rfl (And.intro (by first|decide|exact Nat.le_of_ble_eq_true rfl|(simp;omega)) ⟨_,rfl,?_⟩))|(refine zm rfl rfl rfl rfl (fun b=>?_))|(refine zt rfl rfl rfl rfl rfl rfl (fun b=>?_))|refine zAj rfl rfl rfl rfl rfl (IntWalk.i64_in _ (by omega)) ?_|refine zCO rfl rfl rfl rfl rfl rfl (by omega) (by omega) ?_)|(with_reducible first|refine zH ?_|refine zB ?_|refine zD ?_|refine zA ?_|refine zS ?_)|((with_reducible refine zF ?_ ?_);(· exact rfl))))
   rw [hk]
   (repeat' (first|((with_reducible refine zG ?_);first|refine zE rfl rfl rfl rfl rfl ?_|refine zC rfl rfl rfl rfl rfl ?_|refine zz rfl rfl rfl rfl rfl rfl ?_|(refine zU rfl rfl rfl rfl rfl rfl rfl (fun h=>?_) (fun h=>?_)<;>(dsimp only [cmpP] at h;(try (exfalso;omega))))|refine zX rfl rfl rfl rfl rfl rfl (fun _ _ q=>hM _ q.below _ _ (zBm q.own (by (repeat (first|exact tK1 _ _|apply tK2))))) ?_|refine zX rfl rfl rfl rfl rfl rfl (fun _ _ q=>hT0 _ q.below _ _ _ _ _ (zAc q.own (Below.refl _ _) rfl) (zAc q.own (Below.refl _ _) rfl) (zAc q.own (Below.refl _ _) rfl) (zBm q.own (by (repeat (first|exact tK1 _ _|apply tK2))))) ?_|refine zd rfl rfl rfl rfl rfl rfl ?_|refine zBl rfl rfl rfl rfl rfl rfl ?_)|(with_reducible first|refine zH ?_|refine zB ?_|refine zD ?_|refine zA ?_|refine zc ?_|refine zY ?_)|((with_reducible refine zI ?_ ?_);(· exact rfl))))
   all_goals exact zV (by (exact zO.cons (by exact zn.tmp rfl) zO.nil)) () trivial rfl (fun _ _=>Own.nil _ _)
  ·rw [if_neg hneg] at hM
   obtain ⟨n,rfl⟩:∃ n:Nat,bn=(n:Int):=⟨bn.toNat,by omega⟩
   obtain ⟨q1,q2,q3⟩:=hby n rfl
   have hT0:=fun W hW b1 b2 b3 P cp h1 h2 h3 hp=>hTm W hW b1 b2 b3 P cp n h1 h2 h3 hp (by omega)
   rw [q1] at hT0
   by_cases h60:n=60
   ·subst h60
    (refine zL (n:=73) Tryz.func9 rfl rfl rfl ?_)
    (repeat' (first|((with_reducible refine zG ?_);first|refine zE rfl rfl rfl rfl rfl ?_|refine zC rfl rfl rfl rfl rfl ?_|(refine zK rfl rfl rfl rfl rfl ?_;refine ⟨_,rfl,?_⟩)|refine za rfl rfl rfl rfl rfl ?_|refine zX rfl rfl rfl rfl rfl rfl (fun _ _ q=>hAl _ q.below) ?_|refine zX rfl rfl rfl rfl rfl rfl (fun _ _ q=>hR _ q.below) ?_|(refine zAN rfl rfl rfl rfl rfl rfl (fun _ _ q=>hDr _ q.below) ?_;rintro ⟨pg,pn,P,cp⟩ -;dsimp only [List.cons_append,List.nil_append])|refine zAH rfl rfl rfl rfl rfl ?_|refine zp rfl rfl rfl rfl rfl ?_|(refine ze rfl rfl rfl rfl rfl ?_;refine And.intro rfl (And.intro (by first|decide|exact Nat.le_of_ble_eq_true rfl|(simp;omega)) ⟨_,rfl,?_⟩))|(refine zm rfl rfl rfl rfl (fun b=>?_))|(refine zt rfl rfl rfl rfl rfl rfl (fun b=>?_))|refine zAj rfl rfl rfl rfl rfl (IntWalk.i64_in _ (by omega)) ?_|refine zCO rfl rfl rfl rfl rfl rfl (by omega) (by omega) ?_)|(with_reducible first|refine zH ?_|refine zB ?_|refine zD ?_|refine zA ?_|refine zS ?_)|((with_reducible refine zF ?_ ?_);(· exact rfl))))
    rw [hk]
    (repeat' (first|((with_reducible refine zG ?_);first|refine zE rfl rfl rfl rfl rfl ?_|refine zC rfl rfl rfl rfl rfl ?_|refine zz rfl rfl rfl rfl rfl rfl ?_|refine zg rfl rfl rfl ?_|(refine zU rfl rfl rfl rfl rfl rfl rfl (fun h=>?_) (fun h=>?_)<;>(dsimp only [cmpP] at h;(try (exfalso;omega))))|refine zX rfl rfl rfl rfl rfl rfl (fun _ _ q=>hM _ q.below _ _ (zBm q.own (by (repeat (first|exact tK1 _ _|apply tK2))))) ?_|refine zX rfl rfl rfl rfl rfl rfl (fun _ _ q=>hT0 _ q.below _ _ _ _ _ (zAc q.own (Below.refl _ _) rfl) (zAc q.own (Below.refl _ _) rfl) (zAc q.own (Below.refl _ _) rfl) (zBm q.own (by (repeat (first|exact tK1 _ _|apply tK2))))) ?_|refine zd rfl rfl rfl rfl rfl rfl ?_|refine zAH rfl rfl rfl rfl rfl ?_|refine zBl rfl rfl rfl rfl rfl rfl ?_)|(with_reducible first|refine zH ?_|refine zB ?_|refine zD ?_|refine zA ?_|refine zc ?_|refine zS ?_)|((with_reducible refine zF ?_ ?_);(· exact rfl))))
    all_goals exact zV (by (exact zO.cons (by exact zn.tmp rfl) zO.nil)) () trivial rfl (fun _ _=>Own.nil _ _)
   ·have q4:=q3 (n+1) (by omega) (by omega)
    have hT1:=fun W hW b1 b2 b3 P cp h1 h2 h3 hp=>hTm W hW b1 b2 b3 P cp (n+1) h1 h2 h3 hp (by omega)
    rw [q4] at hT1
    (refine zL (n:=73) Tryz.func9 rfl rfl rfl ?_)
    (repeat' (first|((with_reducible refine zG ?_);first|refine zE rfl rfl rfl rfl rfl ?_|refine zC rfl rfl rfl rfl rfl ?_|(refine zK rfl rfl rfl rfl rfl ?_;refine ⟨_,rfl,?_⟩)|refine za rfl rfl rfl rfl rfl ?_|refine zX rfl rfl rfl rfl rfl rfl (fun _ _ q=>hAl _ q.below) ?_|refine zX rfl rfl rfl rfl rfl rfl (fun _ _ q=>hR _ q.below) ?_|(refine zAN rfl rfl rfl rfl rfl rfl (fun _ _ q=>hDr _ q.below) ?_;rintro ⟨pg,pn,P,cp⟩ -;dsimp only [List.cons_append,List.nil_append])|refine zAH rfl rfl rfl rfl rfl ?_|refine zp rfl rfl rfl rfl rfl ?_|(refine ze rfl rfl rfl rfl rfl ?_;refine And.intro rfl (And.intro (by first|decide|exact Nat.le_of_ble_eq_true rfl|(simp;omega)) ⟨_,rfl,?_⟩))|(refine zm rfl rfl rfl rfl (fun b=>?_))|(refine zt rfl rfl rfl rfl rfl rfl (fun b=>?_))|refine zAj rfl rfl rfl rfl rfl (IntWalk.i64_in _ (by omega)) ?_|refine zCO rfl rfl rfl rfl rfl rfl (by omega) (by omega) ?_)|(with_reducible first|refine zH ?_|refine zB ?_|refine zD ?_|refine zA ?_|refine zS ?_)|((with_reducible refine zF ?_ ?_);(· exact rfl))))
    rw [hk]
    (repeat' (first|((with_reducible refine zG ?_);first|refine zE rfl rfl rfl rfl rfl ?_|refine zC rfl rfl rfl rfl rfl ?_|refine zz rfl rfl rfl rfl rfl rfl ?_|(refine zU rfl rfl rfl rfl rfl rfl rfl (fun h=>?_) (fun h=>?_)<;>(dsimp only [cmpP] at h;(try (exfalso;omega))))|refine zX rfl rfl rfl rfl rfl rfl (fun _ _ q=>hM _ q.below _ _ (zBm q.own (by (repeat (first|exact tK1 _ _|apply tK2))))) ?_|refine zX rfl rfl rfl rfl rfl rfl (fun _ _ q=>hT0 _ q.below _ _ _ _ _ (zAc q.own (Below.refl _ _) rfl) (zAc q.own (Below.refl _ _) rfl) (zAc q.own (Below.refl _ _) rfl) (zBm q.own (by (repeat (first|exact tK1 _ _|apply tK2))))) ?_|refine zX rfl rfl rfl rfl rfl rfl (fun _ _ q=>hT1 _ q.below _ _ _ _ _ (zAc q.own (Below.refl _ _) rfl) (zAc q.own (Below.refl _ _) rfl) (zAc q.own (Below.refl _ _) rfl) (zBm q.own (by (repeat (first|exact tK1 _ _|apply tK2))))) ?_|refine zd rfl rfl rfl rfl rfl rfl ?_|refine zAH rfl rfl rfl rfl rfl ?_|refine zf rfl rfl rfl rfl rfl rfl (by omega) ?_|refine zBl rfl rfl rfl rfl rfl rfl ?_)|(with_reducible first|refine zH ?_|refine zB ?_|refine zD ?_|refine zA ?_|refine zc ?_|refine zS ?_)|((with_reducible refine zF ?_ ?_);(· exact rfl))))
    all_goals exact zV (by (exact zO.cons (by exact zn.tmp rfl) zO.nil)) () trivial rfl (fun _ _=>Own.nil _ _)
end Go.Proofs.YtdigopgncfhiaaaGreatDoor
