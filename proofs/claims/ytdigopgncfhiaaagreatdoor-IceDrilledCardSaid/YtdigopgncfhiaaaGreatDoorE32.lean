/- E32 -/
import Derived.Test.YtdigopgncfhiaaaGreatDoorE31
import Derived.Test.YtdigopgncfhiaaaGreatDoorE29
import Derived.Test.YtdigopgncfhiaaaGreatDoorE30
import Derived.Test.YtdigopgncfhiaaaGreatDoorE24
set_option linter.unusedSimpArgs false
set_option linter.unusedVariables false
namespace Go.Proofs.YtdigopgncfhiaaaGreatDoor
variable {ro : Option Nat}
open Go.RowKit
set_option maxRecDepth 20000
theorem zO8 {c d:Cov} {pl:List Sli} (e:zFa c d) (h:zBg c pl=true):zBg d pl=true:=by
 obtain ⟨h1,h2⟩:=zBN.1 h
 refine zBN.2 ⟨by rw [e.hours];exact h1,fun i u s hu hs=>?_⟩
 rw [e.hours] at hu
 have:=h2 i u s hu hs
 unfold zFK at this ⊢
 rw [e.bl]
 exact this
theorem zPh {c:Cov} {p:Int} {th:Sp} (h0:zAm c=0) (h:¬zBB th 0 2000=true):zCC c p th=(zBp,2):=by
 unfold zCC;rw [if_pos h0,if_neg (fun q=>h q.2)]
theorem zNk {c:Cov} {p:Int} {th:Sp} (h0:zAm c=0) (hp:zG6 c.t p=0) (h:zBB th 0 2000=true) (h1:(zB9 c.t p).length≠1):zCC c p th=(zBp,6):=by
 unfold zCC;rw [if_pos h0,if_pos ⟨hp,h⟩]
 unfold zJZ
 split
 ·next e=>rw [e] at h1;exact absurd rfl h1
 ·rfl
theorem zPg {c:Cov} {p:Int} {th:Sp} {k:Nat} (h0:zAm c=0) (hp:zG6 c.t p=0) (h:zBB th 0 2000=true) (h1:zB9 c.t p=[(k:Int)]):zCC c p th=if k=c.beds.length then (zBp,6) else if (zBE (c.beds.getD k default) th).thick.hi<(zBE (c.beds.getD k default) th).thick.lo then (zBp,8) else (zEI c k th,0):=by
 unfold zCC;rw [if_pos h0,if_pos ⟨hp,h⟩,h1]
 unfold zJZ zEI
 simp only [Int.toNat_natCast]
 by_cases e:k=c.beds.length
 ·rw [if_pos e,if_pos (by omega)]
 ·rw [if_neg e,if_neg (by omega)]
end Go.Proofs.YtdigopgncfhiaaaGreatDoor
namespace Go.Proofs.YtdigopgncfhiaaaGreatDoor.Two
variable {ro : Option Nat}
open Go.RowKit
set_option maxRecDepth 20000
set_option maxHeartbeats 8000000 in
theorem zJM (c:Cov) (A:Option Addr) (ca:Nat) (B:Option Addr) (cb:Nat) (C:Option Addr) (cc:Nat) (a:Int) (th:Sp) (ch:List Int) (D:Option Addr) (cd:Nat) (w:World) (hc:zAk w c A B C) (hfit:zFb c.t) (ha:0≤a∧a≤4294967295) (hD:zx encU 1 w D ch) (hfu:FitW ch) (hG:InC w 0 0 zCc) :
  Gv Tryz.prog 10 [zAI c A ca B cb C cc,.int .u32 a,vSp th,.slice D ch.length cd] w (.bool true):=by
 have hAl:=fun W (hW:Below w.heap.size w W)=>zGX W (hG.below hW)
 have hR:=fun W (hW:Below w.heap.size w W)=>zGW c A ca B cb C cc W (hc.below hW) hfit
 cases hr:zFM c
 ·rw [hr] at hR
  unfold zAI zJ at hR ⊢
  unfold Gv vSp
  (refine zL (n:=211) Tryz.func10 rfl rfl rfl ?_)
  (repeat' (first|((with_reducible refine zG ?_);first|refine zE rfl rfl rfl rfl rfl ?_|refine zC rfl rfl rfl rfl rfl ?_|(refine zK rfl rfl rfl rfl rfl ?_;refine ⟨_,rfl,?_⟩)|refine za rfl rfl rfl rfl rfl ?_|refine zz rfl rfl rfl rfl rfl rfl ?_|refine zg rfl rfl rfl ?_|refine zAJ rfl rfl ?_|(refine zU rfl rfl rfl rfl rfl rfl rfl (fun h=>?_) (fun h=>?_)<;>(dsimp only [cmpP] at h;(try (exfalso;omega))))|refine zX rfl rfl rfl rfl rfl rfl (fun _ _ q=>hAl _ q.below) ?_|refine zX rfl rfl rfl rfl rfl rfl (fun _ _ q=>hR _ q.below) ?_|refine zd rfl rfl rfl rfl rfl rfl ?_|refine zAH rfl rfl rfl rfl rfl ?_|refine zf rfl rfl rfl rfl rfl rfl (by omega) ?_|refine zA2 rfl rfl rfl rfl rfl rfl (IntWalk.i64_in _ (by omega)) ?_|refine zb rfl rfl rfl rfl rfl rfl rfl (by omega) ?_|refine zAO rfl rfl rfl rfl rfl rfl rfl (by first|decide|omega) ?_|refine zp rfl rfl rfl rfl rfl ?_|(refine ze rfl rfl rfl rfl rfl ?_;refine And.intro rfl (And.intro (by first|decide|exact Nat.le_of_ble_eq_true rfl|(simp;omega)) ⟨_,rfl,?_⟩))|(refine zm rfl rfl rfl rfl (fun b=>?_))|(refine zt rfl rfl rfl rfl rfl rfl (fun b=>?_))|refine zAj rfl rfl rfl rfl rfl (IntWalk.i64_in _ (by omega)) ?_|refine zCO rfl rfl rfl rfl rfl rfl (by omega) (by omega) ?_|refine zCt rfl rfl rfl rfl rfl rfl ?_|refine zCG rfl rfl rfl rfl rfl rfl ?_)|(with_reducible first|refine zH ?_|refine zB ?_|refine zD ?_|refine zA ?_|refine zc ?_|refine zS ?_|refine zY ?_|refine zBG ?_|refine zQ ?_|refine zj ?_|refine zh ?_|refine zAK ?_|refine zR ?_|refine zW ?_)|((with_reducible refine zr ?_ ?_);(· exact rfl))|((with_reducible refine zI ?_ ?_);(· exact rfl))|((with_reducible refine zF ?_ ?_);(· exact rfl))))
  all_goals exact zV (by (exact zO.cons (by exact zn.tmp rfl) zO.nil)) () trivial rfl (fun _ _=>Own.nil _ _)
 rw [hr] at hR
 have hs:=zEw hr hfit
 have h0:=(zEx.1 hr).2
 have hf:=zBi h0
 have hv:=zMi h0
 have h4:=hs.b;have h5:=hs.h;have h6:=hs.t
 have hb:=hc.b;have hh:=hc.h
 have hh1:=hf.hours
 rw [zAL] at hh1
 have hb0:=zJg h0
 have hbt:=hf.beds
 obtain ⟨p,hp⟩:∃ p:Int,a % 360001=p:=⟨_,rfl⟩
 have hp1:0≤p∧p≤360000:=by omega
 have hpB:inB 0 360000 p=true:=zAL.2 hp1
 have hE:zG6 c.t p=0:=by unfold zG6;rw [hv,hpB];rfl
 have hDl:=fun W (hW:Below w.heap.size w W)=>zJO c A ca B cb C cc p th W (hc.below hW) hs
 have hPl:=fun W (hW:Below w.heap.size w W)=>zKL c.t A ca p W (hc.below hW).t hfit (by omega)
 have hPi:=zL3 (t:=c.t) (a:=p)
 have hPm:=fun k hk=>zO2 (t:=c.t) (ch:=ch) (p:=p) (k:=k) hv hpB hk
 rw [hE] at hPl
 obtain ⟨tl,tu⟩:=th
 by_cases hk:zBB ⟨tl,tu⟩ 0 2000=true
 rotate_left
 ·rw [zPh h0 hk] at hDl
  rw [zAn] at hk
  simp only at hk
  generalize zB9 c.t p=P at *
  unfold zAI zJ at hR hDl
  unfold vSp at hDl
  unfold vT at hPl
  unfold Gv zAI zJ vSp
  (refine zL (n:=211) Tryz.func10 rfl rfl rfl ?_)
  (repeat' (first|((with_reducible refine zG ?_);first|refine zE rfl rfl rfl rfl rfl ?_|refine zC rfl rfl rfl rfl rfl ?_|(refine zK rfl rfl rfl rfl rfl ?_;refine ⟨_,rfl,?_⟩)|refine za rfl rfl rfl rfl rfl ?_|refine zz rfl rfl rfl rfl rfl rfl ?_|refine zg rfl rfl rfl ?_|refine zAJ rfl rfl ?_|(refine zU rfl rfl rfl rfl rfl rfl rfl (fun h=>?_) (fun h=>?_)<;>(dsimp only [cmpP] at h;(try (exfalso;omega))))|refine zX rfl rfl rfl rfl rfl rfl (fun _ _ q=>hAl _ q.below) ?_|refine zX rfl rfl rfl rfl rfl rfl (fun _ _ q=>hR _ q.below) ?_|refine zd rfl rfl rfl rfl rfl rfl ?_|refine zAH rfl rfl rfl rfl rfl ?_|refine zf rfl rfl rfl rfl rfl rfl (by omega) ?_|refine zA2 rfl rfl rfl rfl rfl rfl (IntWalk.i64_in _ (by omega)) ?_|refine zb rfl rfl rfl rfl rfl rfl rfl (by omega) ?_|refine zAO rfl rfl rfl rfl rfl rfl rfl (by first|decide|omega) ?_|refine zp rfl rfl rfl rfl rfl ?_|(refine ze rfl rfl rfl rfl rfl ?_;refine And.intro rfl (And.intro (by first|decide|exact Nat.le_of_ble_eq_true rfl|(simp;omega)) ⟨_,rfl,?_⟩))|(refine zm rfl rfl rfl rfl (fun b=>?_))|(refine zt rfl rfl rfl rfl rfl rfl (fun b=>?_))|refine zAj rfl rfl rfl rfl rfl (IntWalk.i64_in _ (by omega)) ?_|refine zCO rfl rfl rfl rfl rfl rfl (by omega) (by omega) ?_|refine zCt rfl rfl rfl rfl rfl rfl ?_|refine zCG rfl rfl rfl rfl rfl rfl ?_)|(with_reducible first|refine zH ?_|refine zB ?_|refine zD ?_|refine zA ?_|refine zc ?_|refine zS ?_|refine zY ?_|refine zBG ?_|refine zQ ?_|refine zj ?_|refine zh ?_|refine zAK ?_|refine zR ?_|refine zW ?_)|((with_reducible refine zr ?_ ?_);(· exact rfl))|((with_reducible refine zI ?_ ?_);(· exact rfl))|((with_reducible refine zF ?_ ?_);(· exact rfl))))
  rw [hp]
  (repeat' (first|((with_reducible refine zG ?_);first|refine zE rfl rfl rfl rfl rfl ?_|refine zC rfl rfl rfl rfl rfl ?_|(refine zK rfl rfl rfl rfl rfl ?_;refine ⟨_,rfl,?_⟩)|refine za rfl rfl rfl rfl rfl ?_|refine zz rfl rfl rfl rfl rfl rfl ?_|refine zg rfl rfl rfl ?_|refine zAJ rfl rfl ?_|(refine zU rfl rfl rfl rfl rfl rfl rfl (fun h=>?_) (fun h=>?_)<;>(dsimp only [cmpP] at h;(try (exfalso;omega))))|(refine zAN rfl rfl rfl rfl rfl rfl (fun _ _ q=>hDl _ q.below) ?_;rintro ⟨⟨A3,m3⟩,⟨A6,m6⟩,A9,m9⟩ -;dsimp only [List.cons_append,List.nil_append])|refine zB8 rfl rfl rfl rfl rfl rfl (fun _ _ q=>hPl _ q.below) (fun A' c'=>?_)|refine zd rfl rfl rfl rfl rfl rfl ?_|refine zAH rfl rfl rfl rfl rfl ?_|refine zf rfl rfl rfl rfl rfl rfl (by omega) ?_|refine zA2 rfl rfl rfl rfl rfl rfl (IntWalk.i64_in _ (by omega)) ?_|refine zb rfl rfl rfl rfl rfl rfl rfl (by omega) ?_|refine zAO rfl rfl rfl rfl rfl rfl rfl (by first|decide|omega) ?_|refine zp rfl rfl rfl rfl rfl ?_|(refine ze rfl rfl rfl rfl rfl ?_;refine And.intro rfl (And.intro (by first|decide|exact Nat.le_of_ble_eq_true rfl|(simp;omega)) ⟨_,rfl,?_⟩))|(refine zm rfl rfl rfl rfl (fun b=>?_))|(refine zt rfl rfl rfl rfl rfl rfl (fun b=>?_))|refine zAj rfl rfl rfl rfl rfl (IntWalk.i64_in _ (by omega)) ?_|refine zCO rfl rfl rfl rfl rfl rfl (by omega) (by omega) ?_|refine zCt rfl rfl rfl rfl rfl rfl ?_|refine zCG rfl rfl rfl rfl rfl rfl ?_)|(with_reducible first|refine zH ?_|refine zB ?_|refine zD ?_|refine zA ?_|refine zc ?_|refine zS ?_|refine zY ?_|refine zBG ?_|refine zQ ?_|refine zj ?_|refine zh ?_|refine zAK ?_|refine zR ?_|refine zW ?_)|((with_reducible refine zr ?_ ?_);(· exact rfl))|((with_reducible refine zI ?_ ?_);(· exact rfl))|((with_reducible refine zF ?_ ?_);(· exact rfl))))
  all_goals exact zV (by (exact zO.cons (by exact zn.tmp rfl) zO.nil)) () trivial rfl (fun _ _=>Own.nil _ _)
 have hE1:=hE
 have hlim:=(zAn.1 hk)
 simp only at hlim
 by_cases h1:(zB9 c.t p).length=1
 rotate_left
 ·rw [zNk h0 hE hk h1] at hDl
  clear hE hE1 hPi hPm
  generalize zB9 c.t p=P at *
  unfold zAI zJ at hR hDl
  unfold vSp at hDl
  unfold vT at hPl
  unfold Gv zAI zJ vSp
  (refine zL (n:=211) Tryz.func10 rfl rfl rfl ?_)
  (repeat' (first|((with_reducible refine zG ?_);first|refine zE rfl rfl rfl rfl rfl ?_|refine zC rfl rfl rfl rfl rfl ?_|(refine zK rfl rfl rfl rfl rfl ?_;refine ⟨_,rfl,?_⟩)|refine za rfl rfl rfl rfl rfl ?_|refine zz rfl rfl rfl rfl rfl rfl ?_|refine zg rfl rfl rfl ?_|refine zAJ rfl rfl ?_|(refine zU rfl rfl rfl rfl rfl rfl rfl (fun h=>?_) (fun h=>?_)<;>(dsimp only [cmpP] at h;(try (exfalso;omega))))|refine zX rfl rfl rfl rfl rfl rfl (fun _ _ q=>hAl _ q.below) ?_|refine zX rfl rfl rfl rfl rfl rfl (fun _ _ q=>hR _ q.below) ?_|refine zd rfl rfl rfl rfl rfl rfl ?_|refine zAH rfl rfl rfl rfl rfl ?_|refine zf rfl rfl rfl rfl rfl rfl (by omega) ?_|refine zA2 rfl rfl rfl rfl rfl rfl (IntWalk.i64_in _ (by omega)) ?_|refine zb rfl rfl rfl rfl rfl rfl rfl (by omega) ?_|refine zAO rfl rfl rfl rfl rfl rfl rfl (by first|decide|omega) ?_|refine zp rfl rfl rfl rfl rfl ?_|(refine ze rfl rfl rfl rfl rfl ?_;refine And.intro rfl (And.intro (by first|decide|exact Nat.le_of_ble_eq_true rfl|(simp;omega)) ⟨_,rfl,?_⟩))|(refine zm rfl rfl rfl rfl (fun b=>?_))|(refine zt rfl rfl rfl rfl rfl rfl (fun b=>?_))|refine zAj rfl rfl rfl rfl rfl (IntWalk.i64_in _ (by omega)) ?_|refine zCO rfl rfl rfl rfl rfl rfl (by omega) (by omega) ?_|refine zCt rfl rfl rfl rfl rfl rfl ?_|refine zCG rfl rfl rfl rfl rfl rfl ?_)|(with_reducible first|refine zH ?_|refine zB ?_|refine zD ?_|refine zA ?_|refine zc ?_|refine zS ?_|refine zY ?_|refine zBG ?_|refine zQ ?_|refine zj ?_|refine zh ?_|refine zAK ?_|refine zR ?_|refine zW ?_)|((with_reducible refine zr ?_ ?_);(· exact rfl))|((with_reducible refine zI ?_ ?_);(· exact rfl))|((with_reducible refine zF ?_ ?_);(· exact rfl))))
  rw [hp]
  (repeat' (first|((with_reducible refine zG ?_);first|refine zE rfl rfl rfl rfl rfl ?_|refine zC rfl rfl rfl rfl rfl ?_|(refine zK rfl rfl rfl rfl rfl ?_;refine ⟨_,rfl,?_⟩)|refine za rfl rfl rfl rfl rfl ?_|refine zz rfl rfl rfl rfl rfl rfl ?_|refine zg rfl rfl rfl ?_|refine zAJ rfl rfl ?_|(refine zU rfl rfl rfl rfl rfl rfl rfl (fun h=>?_) (fun h=>?_)<;>(dsimp only [cmpP] at h;(try (exfalso;omega))))|(refine zAN rfl rfl rfl rfl rfl rfl (fun _ _ q=>hDl _ q.below) ?_;rintro ⟨⟨A3,m3⟩,⟨A6,m6⟩,A9,m9⟩ -;dsimp only [List.cons_append,List.nil_append])|refine zB8 rfl rfl rfl rfl rfl rfl (fun _ _ q=>hPl _ q.below) (fun A' c'=>?_)|refine zd rfl rfl rfl rfl rfl rfl ?_|refine zAH rfl rfl rfl rfl rfl ?_|refine zf rfl rfl rfl rfl rfl rfl (by omega) ?_|refine zA2 rfl rfl rfl rfl rfl rfl (IntWalk.i64_in _ (by omega)) ?_|refine zb rfl rfl rfl rfl rfl rfl rfl (by omega) ?_|refine zAO rfl rfl rfl rfl rfl rfl rfl (by first|decide|omega) ?_|refine zp rfl rfl rfl rfl rfl ?_|(refine ze rfl rfl rfl rfl rfl ?_;refine And.intro rfl (And.intro (by first|decide|exact Nat.le_of_ble_eq_true rfl|(simp;omega)) ⟨_,rfl,?_⟩))|(refine zm rfl rfl rfl rfl (fun b=>?_))|(refine zt rfl rfl rfl rfl rfl rfl (fun b=>?_))|refine zAj rfl rfl rfl rfl rfl (IntWalk.i64_in _ (by omega)) ?_|refine zCO rfl rfl rfl rfl rfl rfl (by omega) (by omega) ?_|refine zCt rfl rfl rfl rfl rfl rfl ?_|refine zCG rfl rfl rfl rfl rfl rfl ?_)|(with_reducible first|refine zH ?_|refine zB ?_|refine zD ?_|refine zA ?_|refine zc ?_|refine zS ?_|refine zY ?_|refine zBG ?_|refine zQ ?_|refine zj ?_|refine zh ?_|refine zAK ?_|refine zR ?_|refine zW ?_)|((with_reducible refine zr ?_ ?_);(· exact rfl))|((with_reducible refine zI ?_ ?_);(· exact rfl))|((with_reducible refine zF ?_ ?_);(· exact rfl))))
  (refine zAy (by kernel_rfl) (by kernel_rfl) (by kernel_rfl) ?_)
  (repeat' (first|((with_reducible refine zBV ?_);first|refine zN (zAe rfl rfl) rfl rfl rfl ?_|refine zN (zAE rfl rfl (by exact rfl)) rfl rfl rfl ?_|refine zN (zAP rfl rfl) rfl rfl rfl ?_|refine zN (zCU rfl rfl rfl) rfl rfl rfl ?_|refine zN (zBW rfl rfl) rfl rfl rfl ?_|refine zAv rfl rfl rfl ?_|(refine zDU rfl rfl rfl rfl rfl rfl rfl (fun h=>?_) (fun h=>?_)<;>(dsimp only [cmpP] at h;(try (exfalso;omega))))|refine zN (zAQ (I:=0) rfl rfl rfl (by omega) (by first|omega|(dsimp only;omega))) rfl rfl rfl ?_|refine zN (zCo rfl rfl rfl) rfl rfl rfl ?_|refine zN (zJX rfl rfl) rfl rfl rfl ?_|refine zN (zE3 rfl rfl rfl (by omega)) rfl rfl rfl ?_|refine zN (zE9 rfl rfl rfl (IntWalk.i64_in _ (by omega))) rfl rfl rfl ?_|refine zN (zFY rfl rfl rfl (IntWalk.i64_in _ (by omega))) rfl rfl rfl ?_|refine zN (zG7 rfl rfl rfl (IntWalk.i64_in _ (by omega))) rfl rfl rfl ?_|refine zN (zAQ rfl rfl rfl rfl (by omega)) rfl rfl rfl ?_|refine zN (zEd rfl rfl rfl rfl (by first|decide|omega)) rfl rfl rfl ?_|refine zN (zCy rfl rfl) rfl rfl rfl ?_|refine zN (zKj rfl rfl) rfl rfl rfl ?_|refine zN (zAW rfl rfl) rfl rfl rfl ?_|refine zN (zDi rfl rfl (IntWalk.i64_in _ (by omega))) rfl rfl rfl ?_|refine zN (zJW rfl rfl rfl (by omega) (by omega) (IntWalk.i64_in _ (by omega))) rfl rfl rfl ?_|refine zN (zH6 rfl rfl rfl (by omega) (by omega)) rfl rfl rfl ?_|refine zN (zJY rfl rfl rfl) rfl rfl rfl ?_|refine zN (zGE rfl rfl rfl) rfl rfl rfl ?_|refine zN (zCH rfl rfl (by exact rfl)) rfl rfl rfl ?_|refine zN (zDG rfl rfl rfl) rfl rfl rfl ?_)|(with_reducible refine zB6 ?_)))
  (repeat' (first|((with_reducible refine zG ?_);first|refine zE rfl rfl rfl rfl rfl ?_|refine zC rfl rfl rfl rfl rfl ?_|(refine zK rfl rfl rfl rfl rfl ?_;refine ⟨_,rfl,?_⟩)|refine za rfl rfl rfl rfl rfl ?_|refine zz rfl rfl rfl rfl rfl rfl ?_|refine zg rfl rfl rfl ?_|refine zAJ rfl rfl ?_|(refine zU rfl rfl rfl rfl rfl rfl rfl (fun h=>?_) (fun h=>?_)<;>(dsimp only [cmpP] at h;(try (exfalso;omega))))|refine zd rfl rfl rfl rfl rfl rfl ?_|refine zAH rfl rfl rfl rfl rfl ?_|refine zf rfl rfl rfl rfl rfl rfl (by omega) ?_|refine zA2 rfl rfl rfl rfl rfl rfl (IntWalk.i64_in _ (by omega)) ?_|refine zb rfl rfl rfl rfl rfl rfl rfl (by omega) ?_|refine zAO rfl rfl rfl rfl rfl rfl rfl (by first|decide|omega) ?_|refine zp rfl rfl rfl rfl rfl ?_|(refine ze rfl rfl rfl rfl rfl ?_;refine And.intro rfl (And.intro (by first|decide|exact Nat.le_of_ble_eq_true rfl|(simp;omega)) ⟨_,rfl,?_⟩))|(refine zm rfl rfl rfl rfl (fun b=>?_))|(refine zt rfl rfl rfl rfl rfl rfl (fun b=>?_))|refine zAj rfl rfl rfl rfl rfl (IntWalk.i64_in _ (by omega)) ?_|refine zCO rfl rfl rfl rfl rfl rfl (by omega) (by omega) ?_|refine zCt rfl rfl rfl rfl rfl rfl ?_|refine zCG rfl rfl rfl rfl rfl rfl ?_)|(with_reducible first|refine zH ?_|refine zB ?_|refine zD ?_|refine zA ?_|refine zc ?_|refine zS ?_|refine zY ?_|refine zBG ?_|refine zQ ?_|refine zj ?_|refine zh ?_|refine zAK ?_|refine zR ?_|refine zW ?_)|((with_reducible refine zr ?_ ?_);(· exact rfl))|((with_reducible refine zI ?_ ?_);(· exact rfl))|((with_reducible refine zF ?_ ?_);(· exact rfl))))
  all_goals exact zV (by (exact zO.cons (by exact zn.tmp rfl) zO.nil)) () trivial rfl (fun _ _=>Own.nil _ _)
 obtain ⟨x,hx⟩:=List.length_eq_one_iff.1 h1
 obtain ⟨k,rfl,hkt⟩:=hPi x (by rw [hx];exact List.mem_singleton_self _)
 have hDo:=zPg h0 hE hk hx
 rw [hx] at hPl hPm
 clear h1 hPi
 by_cases hkb:k=c.beds.length
 ·rw [hDo,if_pos hkb] at hDl
  clear hE hE1 hPm hDo
  have:zAU [(k:Int)] 0 (k:Int):=⟨rfl⟩
  unfold zAI zJ at hR hDl
  unfold vSp at hDl
  unfold vT at hPl
  unfold Gv zAI zJ vSp
  (refine zL (n:=211) Tryz.func10 rfl rfl rfl ?_)
  (repeat' (first|((with_reducible refine zG ?_);first|refine zE rfl rfl rfl rfl rfl ?_|refine zC rfl rfl rfl rfl rfl ?_|(refine zK rfl rfl rfl rfl rfl ?_;refine ⟨_,rfl,?_⟩)|refine za rfl rfl rfl rfl rfl ?_|refine zz rfl rfl rfl rfl rfl rfl ?_|refine zg rfl rfl rfl ?_|refine zAJ rfl rfl ?_|(refine zU rfl rfl rfl rfl rfl rfl rfl (fun h=>?_) (fun h=>?_)<;>(dsimp only [cmpP] at h;(try (exfalso;omega))))|refine zX rfl rfl rfl rfl rfl rfl (fun _ _ q=>hAl _ q.below) ?_|refine zX rfl rfl rfl rfl rfl rfl (fun _ _ q=>hR _ q.below) ?_|refine zd rfl rfl rfl rfl rfl rfl ?_|refine zAH rfl rfl rfl rfl rfl ?_|refine zf rfl rfl rfl rfl rfl rfl (by omega) ?_|refine zA2 rfl rfl rfl rfl rfl rfl (IntWalk.i64_in _ (by omega)) ?_|refine zb rfl rfl rfl rfl rfl rfl rfl (by omega) ?_|refine zAO rfl rfl rfl rfl rfl rfl rfl (by first|decide|omega) ?_|refine zp rfl rfl rfl rfl rfl ?_|(refine ze rfl rfl rfl rfl rfl ?_;refine And.intro rfl (And.intro (by first|decide|exact Nat.le_of_ble_eq_true rfl|(simp;omega)) ⟨_,rfl,?_⟩))|(refine zm rfl rfl rfl rfl (fun b=>?_))|(refine zt rfl rfl rfl rfl rfl rfl (fun b=>?_))|refine zAj rfl rfl rfl rfl rfl (IntWalk.i64_in _ (by omega)) ?_|refine zCO rfl rfl rfl rfl rfl rfl (by omega) (by omega) ?_|refine zCt rfl rfl rfl rfl rfl rfl ?_|refine zCG rfl rfl rfl rfl rfl rfl ?_)|(with_reducible first|refine zH ?_|refine zB ?_|refine zD ?_|refine zA ?_|refine zc ?_|refine zS ?_|refine zY ?_|refine zBG ?_|refine zQ ?_|refine zj ?_|refine zh ?_|refine zAK ?_|refine zR ?_|refine zW ?_)|((with_reducible refine zr ?_ ?_);(· exact rfl))|((with_reducible refine zI ?_ ?_);(· exact rfl))|((with_reducible refine zF ?_ ?_);(· exact rfl))))
  rw [hp]
  (repeat' (first|((with_reducible refine zG ?_);first|refine zE rfl rfl rfl rfl rfl ?_|refine zC rfl rfl rfl rfl rfl ?_|(refine zK rfl rfl rfl rfl rfl ?_;refine ⟨_,rfl,?_⟩)|refine za rfl rfl rfl rfl rfl ?_|refine zz rfl rfl rfl rfl rfl rfl ?_|refine zg rfl rfl rfl ?_|refine zAJ rfl rfl ?_|(refine zU rfl rfl rfl rfl rfl rfl rfl (fun h=>?_) (fun h=>?_)<;>(dsimp only [cmpP] at h;(try (exfalso;omega))))|(refine zAN rfl rfl rfl rfl rfl rfl (fun _ _ q=>hDl _ q.below) ?_;rintro ⟨⟨A3,m3⟩,⟨A6,m6⟩,A9,m9⟩ -;dsimp only [List.cons_append,List.nil_append])|refine zB8 rfl rfl rfl rfl rfl rfl (fun _ _ q=>hPl _ q.below) (fun A' c'=>?_)|refine zd rfl rfl rfl rfl rfl rfl ?_|refine zAH rfl rfl rfl rfl rfl ?_|refine zf rfl rfl rfl rfl rfl rfl (by omega) ?_|refine zA2 rfl rfl rfl rfl rfl rfl (IntWalk.i64_in _ (by omega)) ?_|refine zb rfl rfl rfl rfl rfl rfl rfl (by omega) ?_|refine zAO rfl rfl rfl rfl rfl rfl rfl (by first|decide|omega) ?_|refine zp rfl rfl rfl rfl rfl ?_|(refine ze rfl rfl rfl rfl rfl ?_;refine And.intro rfl (And.intro (by first|decide|exact Nat.le_of_ble_eq_true rfl|(simp;omega)) ⟨_,rfl,?_⟩))|(refine zm rfl rfl rfl rfl (fun b=>?_))|(refine zt rfl rfl rfl rfl rfl rfl (fun b=>?_))|refine zAj rfl rfl rfl rfl rfl (IntWalk.i64_in _ (by omega)) ?_|refine zCO rfl rfl rfl rfl rfl rfl (by omega) (by omega) ?_|refine zCt rfl rfl rfl rfl rfl rfl ?_|refine zCG rfl rfl rfl rfl rfl rfl ?_)|(with_reducible first|refine zH ?_|refine zB ?_|refine zD ?_|refine zA ?_|refine zc ?_|refine zS ?_|refine zY ?_|refine zBG ?_|refine zQ ?_|refine zj ?_|refine zh ?_|refine zAK ?_|refine zR ?_|refine zW ?_)|((with_reducible refine zr ?_ ?_);(· exact rfl))|((with_reducible refine zI ?_ ?_);(· exact rfl))|((with_reducible refine zF ?_ ?_);(· exact rfl))))
  refine zGg (enc:=encI) (A:=A') (xs:=[(k:Int)]) (by (repeat (first|exact tK1 _ _|apply tK2))) (by exact Nat.one_pos) ?_
  rintro b8 o8 rfl
  (refine zAy (by kernel_rfl) (by kernel_rfl) (by kernel_rfl) ?_)
  (repeat' (first|((with_reducible refine zBV ?_);first|refine zN (zAe rfl rfl) rfl rfl rfl ?_|refine zN (zAE rfl rfl (by exact rfl)) rfl rfl rfl ?_|refine zN (zAP rfl rfl) rfl rfl rfl ?_|refine zN (zCU rfl rfl rfl) rfl rfl rfl ?_|refine zN (zBW rfl rfl) rfl rfl rfl ?_|refine zAv rfl rfl rfl ?_|(refine zDU rfl rfl rfl rfl rfl rfl rfl (fun h=>?_) (fun h=>?_)<;>(dsimp only [cmpP] at h;(try (exfalso;omega))))|refine zN (zAQ (I:=0) rfl rfl rfl (by omega) (by first|omega|(dsimp only;omega))) rfl rfl rfl ?_|refine zN (zCo rfl rfl rfl) rfl rfl rfl ?_|refine zN (zJX rfl rfl) rfl rfl rfl ?_|refine zN (zE3 rfl rfl rfl (by omega)) rfl rfl rfl ?_|refine zN (zE9 rfl rfl rfl (IntWalk.i64_in _ (by omega))) rfl rfl rfl ?_|refine zN (zFY rfl rfl rfl (IntWalk.i64_in _ (by omega))) rfl rfl rfl ?_|refine zN (zG7 rfl rfl rfl (IntWalk.i64_in _ (by omega))) rfl rfl rfl ?_|refine zN (zAQ rfl rfl rfl rfl (by omega)) rfl rfl rfl ?_|refine zN (zEd rfl rfl rfl rfl (by first|decide|omega)) rfl rfl rfl ?_|refine zN (zCy rfl rfl) rfl rfl rfl ?_|refine zN (zKj rfl rfl) rfl rfl rfl ?_|refine zN (zAW rfl rfl) rfl rfl rfl ?_|refine zN (zDi rfl rfl (IntWalk.i64_in _ (by omega))) rfl rfl rfl ?_|refine zN (zJW rfl rfl rfl (by omega) (by omega) (IntWalk.i64_in _ (by omega))) rfl rfl rfl ?_|refine zN (zH6 rfl rfl rfl (by omega) (by omega)) rfl rfl rfl ?_|refine zN (zJY rfl rfl rfl) rfl rfl rfl ?_|refine zN (zGE rfl rfl rfl) rfl rfl rfl ?_|refine zN (zCH rfl rfl (by exact rfl)) rfl rfl rfl ?_|refine zN (zDG rfl rfl rfl) rfl rfl rfl ?_)|(with_reducible refine zB6 ?_)))
  (repeat' (first|((with_reducible refine zG ?_);first|refine zE rfl rfl rfl rfl rfl ?_|refine zC rfl rfl rfl rfl rfl ?_|(refine zK rfl rfl rfl rfl rfl ?_;refine ⟨_,rfl,?_⟩)|refine za rfl rfl rfl rfl rfl ?_|refine zz rfl rfl rfl rfl rfl rfl ?_|refine zg rfl rfl rfl ?_|refine zAJ rfl rfl ?_|(refine zU rfl rfl rfl rfl rfl rfl rfl (fun h=>?_) (fun h=>?_)<;>(dsimp only [cmpP] at h;(try (exfalso;omega))))|refine zd rfl rfl rfl rfl rfl rfl ?_|refine zAH rfl rfl rfl rfl rfl ?_|refine zf rfl rfl rfl rfl rfl rfl (by omega) ?_|refine zA2 rfl rfl rfl rfl rfl rfl (IntWalk.i64_in _ (by omega)) ?_|refine zb rfl rfl rfl rfl rfl rfl rfl (by omega) ?_|refine zAO rfl rfl rfl rfl rfl rfl rfl (by first|decide|omega) ?_|refine zp rfl rfl rfl rfl rfl ?_|(refine ze rfl rfl rfl rfl rfl ?_;refine And.intro rfl (And.intro (by first|decide|exact Nat.le_of_ble_eq_true rfl|(simp;omega)) ⟨_,rfl,?_⟩))|(refine zm rfl rfl rfl rfl (fun b=>?_))|(refine zt rfl rfl rfl rfl rfl rfl (fun b=>?_))|refine zAj rfl rfl rfl rfl rfl (IntWalk.i64_in _ (by omega)) ?_|refine zCO rfl rfl rfl rfl rfl rfl (by omega) (by omega) ?_|refine zCt rfl rfl rfl rfl rfl rfl ?_|refine zCG rfl rfl rfl rfl rfl rfl ?_)|(with_reducible first|refine zH ?_|refine zB ?_|refine zD ?_|refine zA ?_|refine zc ?_|refine zS ?_|refine zY ?_|refine zBG ?_|refine zQ ?_|refine zj ?_|refine zh ?_|refine zAK ?_|refine zR ?_|refine zW ?_)|((with_reducible refine zr ?_ ?_);(· exact rfl))|((with_reducible refine zI ?_ ?_);(· exact rfl))|((with_reducible refine zF ?_ ?_);(· exact rfl))))
  all_goals exact zV (by (exact zO.cons (by exact zn.tmp rfl) zO.nil)) () trivial rfl (fun _ _=>Own.nil _ _)
 rw [hDo,if_neg hkb] at hDl
 obtain ⟨z,hz⟩:∃ z,c.beds[k]?=some z:=⟨_,List.getElem?_eq_getElem (by omega)⟩
 rw [zAh hz] at hDl
 have:zAU [(k:Int)] 0 (k:Int):=⟨rfl⟩
 have:zAU c.beds k z:=⟨hz⟩
 obtain ⟨dl,hdl⟩:∃ dl,(if (zBE z ⟨tl,tu⟩).thick.hi<(zBE z ⟨tl,tu⟩).thick.lo then (zBp,(8:Int)) else (zEI c k ⟨tl,tu⟩,0))=dl:=⟨_,rfl⟩
 rw [hdl] at hDl
 obtain ⟨d,e⟩:=dl
 simp only at hDl
 clear hE hE1 hDo
 have hci:=fun i=>chW_in hfu i
 have hCh:=fun W (hW:Below w.heap.size w W) x i (hx:x=((i:Nat):Int))=>zH5 ch D cd x i W (hD.below hW) hfu hx
 have hmark:∀ i (s:St),c.t[i]?=some s→zF0 c.t ch (i+1)=zF0 c.t ch i+ofS s.long (chW ch (20+i)):=fun i s hs=>by simp only [zF0,zAh hs]
 have hm0:zF0 c.t ch 0=0:=rfl
 have hmin:=fun i (hi:i≤c.t.length)=>(zIL (ch:=ch) (zC6 hv) i hi).2.2
 generalize zF0 c.t ch=pD at *
 unfold zAI zJ at hR hDl
 unfold vSp at hDl
 unfold vT at hPl
 unfold Gv zAI zJ vSp
 (refine zL (n:=211) Tryz.func10 rfl rfl rfl ?_)
 (repeat' (first|((with_reducible refine zG ?_);first|refine zE rfl rfl rfl rfl rfl ?_|refine zC rfl rfl rfl rfl rfl ?_|(refine zK rfl rfl rfl rfl rfl ?_;refine ⟨_,rfl,?_⟩)|refine za rfl rfl rfl rfl rfl ?_|refine zz rfl rfl rfl rfl rfl rfl ?_|refine zg rfl rfl rfl ?_|refine zAJ rfl rfl ?_|(refine zU rfl rfl rfl rfl rfl rfl rfl (fun h=>?_) (fun h=>?_)<;>(dsimp only [cmpP] at h;(try (exfalso;omega))))|refine zX rfl rfl rfl rfl rfl rfl (fun _ _ q=>hAl _ q.below) ?_|refine zX rfl rfl rfl rfl rfl rfl (fun _ _ q=>hR _ q.below) ?_|refine zd rfl rfl rfl rfl rfl rfl ?_|refine zAH rfl rfl rfl rfl rfl ?_|refine zf rfl rfl rfl rfl rfl rfl (by omega) ?_|refine zA2 rfl rfl rfl rfl rfl rfl (IntWalk.i64_in _ (by omega)) ?_|refine zb rfl rfl rfl rfl rfl rfl rfl (by omega) ?_|refine zAO rfl rfl rfl rfl rfl rfl rfl (by first|decide|omega) ?_|refine zp rfl rfl rfl rfl rfl ?_|(refine ze rfl rfl rfl rfl rfl ?_;refine And.intro rfl (And.intro (by first|decide|exact Nat.le_of_ble_eq_true rfl|(simp;omega)) ⟨_,rfl,?_⟩))|(refine zm rfl rfl rfl rfl (fun b=>?_))|(refine zt rfl rfl rfl rfl rfl rfl (fun b=>?_))|refine zAj rfl rfl rfl rfl rfl (IntWalk.i64_in _ (by omega)) ?_|refine zCO rfl rfl rfl rfl rfl rfl (by omega) (by omega) ?_|refine zCt rfl rfl rfl rfl rfl rfl ?_|refine zCG rfl rfl rfl rfl rfl rfl ?_)|(with_reducible first|refine zH ?_|refine zB ?_|refine zD ?_|refine zA ?_|refine zc ?_|refine zS ?_|refine zY ?_|refine zBG ?_|refine zQ ?_|refine zj ?_|refine zh ?_|refine zAK ?_|refine zR ?_|refine zW ?_)|((with_reducible refine zr ?_ ?_);(· exact rfl))|((with_reducible refine zI ?_ ?_);(· exact rfl))|((with_reducible refine zF ?_ ?_);(· exact rfl))))
 rw [hp]
 obtain ⟨b6,hb6⟩:∃ x,x=b:=⟨_,rfl⟩
 subst hb6
 obtain ⟨b3,hb3⟩:∃ x,x=b:=⟨_,rfl⟩
 subst hb3
 (repeat' (first|((with_reducible refine zG ?_);first|refine zE rfl rfl rfl rfl rfl ?_|refine zC rfl rfl rfl rfl rfl ?_|(refine zK rfl rfl rfl rfl rfl ?_;refine ⟨_,rfl,?_⟩)|refine za rfl rfl rfl rfl rfl ?_|refine zz rfl rfl rfl rfl rfl rfl ?_|refine zg rfl rfl rfl ?_|refine zAJ rfl rfl ?_|(refine zU rfl rfl rfl rfl rfl rfl rfl (fun h=>?_) (fun h=>?_)<;>(dsimp only [cmpP] at h;(try (exfalso;omega))))|(refine zAN rfl rfl rfl rfl rfl rfl (fun _ _ q=>hDl _ q.below) ?_;rintro ⟨⟨A3,m3⟩,⟨A6,m6⟩,A9,m9⟩ -;dsimp only [List.cons_append,List.nil_append])|refine zB8 rfl rfl rfl rfl rfl rfl (fun _ _ q=>hPl _ q.below) (fun A' c'=>?_)|refine zd rfl rfl rfl rfl rfl rfl ?_|refine zAH rfl rfl rfl rfl rfl ?_|refine zf rfl rfl rfl rfl rfl rfl (by omega) ?_|refine zA2 rfl rfl rfl rfl rfl rfl (IntWalk.i64_in _ (by omega)) ?_|refine zb rfl rfl rfl rfl rfl rfl rfl (by omega) ?_|refine zAO rfl rfl rfl rfl rfl rfl rfl (by first|decide|omega) ?_|refine zp rfl rfl rfl rfl rfl ?_|(refine ze rfl rfl rfl rfl rfl ?_;refine And.intro rfl (And.intro (by first|decide|exact Nat.le_of_ble_eq_true rfl|(simp;omega)) ⟨_,rfl,?_⟩))|(refine zm rfl rfl rfl rfl (fun b=>?_))|(refine zt rfl rfl rfl rfl rfl rfl (fun b=>?_))|refine zAj rfl rfl rfl rfl rfl (IntWalk.i64_in _ (by omega)) ?_|refine zCO rfl rfl rfl rfl rfl rfl (by omega) (by omega) ?_|refine zCt rfl rfl rfl rfl rfl rfl ?_|refine zCG rfl rfl rfl rfl rfl rfl ?_)|(with_reducible first|refine zH ?_|refine zB ?_|refine zD ?_|refine zA ?_|refine zc ?_|refine zS ?_|refine zY ?_|refine zBG ?_|refine zQ ?_|refine zj ?_|refine zh ?_|refine zAK ?_|refine zR ?_|refine zW ?_)|((with_reducible refine zr ?_ ?_);(· exact rfl))|((with_reducible refine zI ?_ ?_);(· exact rfl))|((with_reducible refine zF ?_ ?_);(· exact rfl))))
 refine zGg (enc:=encI) (A:=A') (xs:=[(k:Int)]) (by (repeat (first|exact tK1 _ _|apply tK2))) (by exact Nat.one_pos) ?_
 rintro b8 o8 rfl
 rw [List.length_singleton]
 (refine zAy (by kernel_rfl) (by kernel_rfl) (by kernel_rfl) ?_)
 (repeat' (first|((with_reducible refine zBV ?_);first|refine zN (zAe rfl rfl) rfl rfl rfl ?_|refine zN (zAE rfl rfl (by exact rfl)) rfl rfl rfl ?_|refine zN (zAP rfl rfl) rfl rfl rfl ?_|refine zN (zCU rfl rfl rfl) rfl rfl rfl ?_|refine zN (zBW rfl rfl) rfl rfl rfl ?_|refine zAv rfl rfl rfl ?_|(refine zDU rfl rfl rfl rfl rfl rfl rfl (fun h=>?_) (fun h=>?_)<;>(dsimp only [cmpP] at h;(try (exfalso;omega))))|refine zN (zAQ (I:=0) rfl rfl rfl (by omega) (by first|omega|(dsimp only;omega))) rfl rfl rfl ?_|refine zN (zCo rfl rfl rfl) rfl rfl rfl ?_|refine zN (zJX rfl rfl) rfl rfl rfl ?_|refine zN (zE3 rfl rfl rfl (by omega)) rfl rfl rfl ?_|refine zN (zE9 rfl rfl rfl (IntWalk.i64_in _ (by omega))) rfl rfl rfl ?_|refine zN (zFY rfl rfl rfl (IntWalk.i64_in _ (by omega))) rfl rfl rfl ?_|refine zN (zG7 rfl rfl rfl (IntWalk.i64_in _ (by omega))) rfl rfl rfl ?_|refine zN (zAQ rfl rfl rfl rfl (by omega)) rfl rfl rfl ?_|refine zN (zEd rfl rfl rfl rfl (by first|decide|omega)) rfl rfl rfl ?_|refine zN (zCy rfl rfl) rfl rfl rfl ?_|refine zN (zKj rfl rfl) rfl rfl rfl ?_|refine zN (zAW rfl rfl) rfl rfl rfl ?_|refine zN (zDi rfl rfl (IntWalk.i64_in _ (by omega))) rfl rfl rfl ?_|refine zN (zJW rfl rfl rfl (by omega) (by omega) (IntWalk.i64_in _ (by omega))) rfl rfl rfl ?_|refine zN (zH6 rfl rfl rfl (by omega) (by omega)) rfl rfl rfl ?_|refine zN (zJY rfl rfl rfl) rfl rfl rfl ?_|refine zN (zGE rfl rfl rfl) rfl rfl rfl ?_|refine zN (zCH rfl rfl (by exact rfl)) rfl rfl rfl ?_|refine zN (zDG rfl rfl rfl) rfl rfl rfl ?_)|(with_reducible refine zB6 ?_)))
 (repeat' (first|((with_reducible refine zG ?_);first|refine zE rfl rfl rfl rfl rfl ?_|refine zC rfl rfl rfl rfl rfl ?_|(refine zK rfl rfl rfl rfl rfl ?_;refine ⟨_,rfl,?_⟩)|refine za rfl rfl rfl rfl rfl ?_|refine zz rfl rfl rfl rfl rfl rfl ?_|refine zg rfl rfl rfl ?_|refine zAJ rfl rfl ?_|(refine zU rfl rfl rfl rfl rfl rfl rfl (fun h=>?_) (fun h=>?_)<;>(dsimp only [cmpP] at h;(try (exfalso;omega))))|refine zd rfl rfl rfl rfl rfl rfl ?_|refine zAH rfl rfl rfl rfl rfl ?_|refine zf rfl rfl rfl rfl rfl rfl (by omega) ?_|refine zA2 rfl rfl rfl rfl rfl rfl (IntWalk.i64_in _ (by omega)) ?_|refine zb rfl rfl rfl rfl rfl rfl rfl (by omega) ?_|refine zAO rfl rfl rfl rfl rfl rfl rfl (by first|decide|omega) ?_|refine zp rfl rfl rfl rfl rfl ?_|(refine ze rfl rfl rfl rfl rfl ?_;refine And.intro rfl (And.intro (by first|decide|exact Nat.le_of_ble_eq_true rfl|(simp;omega)) ⟨_,rfl,?_⟩))|(refine zm rfl rfl rfl rfl (fun b=>?_))|(refine zt rfl rfl rfl rfl rfl rfl (fun b=>?_))|refine zAj rfl rfl rfl rfl rfl (IntWalk.i64_in _ (by omega)) ?_|refine zCO rfl rfl rfl rfl rfl rfl (by omega) (by omega) ?_|refine zCt rfl rfl rfl rfl rfl rfl ?_|refine zCG rfl rfl rfl rfl rfl rfl ?_)|(with_reducible first|refine zH ?_|refine zB ?_|refine zD ?_|refine zA ?_|refine zc ?_|refine zS ?_|refine zY ?_|refine zBG ?_|refine zQ ?_|refine zj ?_|refine zh ?_|refine zAK ?_|refine zR ?_|refine zW ?_)|((with_reducible refine zr ?_ ?_);(· exact rfl))|((with_reducible refine zI ?_ ?_);(· exact rfl))|((with_reducible refine zF ?_ ?_);(· exact rfl))))
 refine zw (ι:=Nat) [3,4,6,9,10,11,12,13] rfl (fun i=>i≤c.beds.length∧pD i≤p) (fun i=>[(15,.int .i64 (i:Int)),(16,.int .i64 (pD i))]) (fun i=>[.sl encI 1 (some ⟨b8,o8,none⟩) [(k:Int)],.blk b (zJ d A3 m3 A6 m6 A9 m9),.sl zA5 9 A3 d.t,.sl zAd 3 A6 d.beds,.sl zq 5 A9 d.hours,.blk b6 [.int .i64 tl,.int .i64 tu],.blk b3 (zJ c A ca B cb C cc)]) (fun i=>c.beds.length - i) 0 (by exact ⟨Nat.zero_le _,by omega⟩) (by rw [hm0];(first|exact lK1|(repeat (first|exact lK1|(refine zM rfl ?_))))) (by (repeat (first|exact oK1 _|(refine oK2 (by (repeat (first|exact tK1 _ _|apply tK2))) ?_)))) ?_
 rintro i ⟨hi,hip⟩
 simp only [zAx,zJ,List.cons_append,List.nil_append]
 obtain ⟨b9,hb9⟩:∃ x,x=b:=⟨_,rfl⟩
 subst hb9
 by_cases hil:i<c.beds.length
 rotate_left
 ·obtain rfl:i=c.beds.length:=by omega
  have:=hPm c.beds.length (by omega) hip (fun q=>by omega)
  rw [List.mem_singleton] at this
  omega
 obtain ⟨s,hs1⟩:∃ s,c.t[i]?=some s:=⟨_,List.getElem?_eq_getElem (by omega)⟩
 have hht:=hc.t
 obtain ⟨bt,ot,rfl,_,_⟩:=hht.at_ (show i<c.t.length by omega)
 have:InS w bt ot zA5 9 c.t:=⟨hht⟩
 have:zAU c.t i s:=⟨hs1⟩
 have hok:=zC6 hv s (List.mem_of_getElem? hs1)
 have o1:=hok.l0;have o2:=hok.l1;have o3:=hok.l2
 have cI:=fun W hW=>hCh W hW (20+(i:Int)) (20+i) (by omega)
 have oI:=fun W=>iof_any s.long (chW ch (20+i)) W (by omega) (by omega) (by omega) (hci (20+i))
 have hmi:=hmark i s hs1
 have hm1:=hmin i (by omega)
 have hm2:=hmin (i+1) (by omega)
 generalize ofS s.long (chW ch (20+i))=u at *
 generalize chW ch (20+i)=x at *
 (repeat' (first|((with_reducible refine zG ?_);first|refine zE rfl rfl rfl rfl rfl ?_|refine zC rfl rfl rfl rfl rfl ?_|(refine zK rfl rfl rfl rfl rfl ?_;refine ⟨_,rfl,?_⟩)|refine za rfl rfl rfl rfl rfl ?_|refine zz rfl rfl rfl rfl rfl rfl ?_|refine zg rfl rfl rfl ?_|refine zAJ rfl rfl ?_|(refine zU rfl rfl rfl rfl rfl rfl rfl (fun h=>?_) (fun h=>?_)<;>(dsimp only [cmpP] at h;(try (exfalso;omega))))|refine zd rfl rfl rfl rfl rfl rfl ?_|refine zAH rfl rfl rfl rfl rfl ?_|refine zf rfl rfl rfl rfl rfl rfl (by omega) ?_|refine zA2 rfl rfl rfl rfl rfl rfl (IntWalk.i64_in _ (by omega)) ?_|refine zb rfl rfl rfl rfl rfl rfl rfl (by omega) ?_|refine zAO rfl rfl rfl rfl rfl rfl rfl (by first|decide|omega) ?_|refine zp rfl rfl rfl rfl rfl ?_|(refine ze rfl rfl rfl rfl rfl ?_;refine And.intro rfl (And.intro (by first|decide|exact Nat.le_of_ble_eq_true rfl|(simp;omega)) ⟨_,rfl,?_⟩))|(refine zm rfl rfl rfl rfl (fun b=>?_))|(refine zt rfl rfl rfl rfl rfl rfl (fun b=>?_))|refine zAj rfl rfl rfl rfl rfl (IntWalk.i64_in _ (by omega)) ?_|refine zCO rfl rfl rfl rfl rfl rfl (by omega) (by omega) ?_|refine zCt rfl rfl rfl rfl rfl rfl ?_|refine zCG rfl rfl rfl rfl rfl rfl ?_)|(with_reducible first|refine zH ?_|refine zB ?_|refine zD ?_|refine zA ?_|refine zc ?_|refine zS ?_|refine zY ?_|refine zBG ?_|refine zQ ?_|refine zj ?_|refine zh ?_|refine zAK ?_|refine zR ?_|refine zW ?_)|((with_reducible refine zr ?_ ?_);(· exact rfl))|((with_reducible refine zI ?_ ?_);(· exact rfl))|((with_reducible refine zF ?_ ?_);(· exact rfl))))
 (refine zAy (by kernel_rfl) (by kernel_rfl) (by kernel_rfl) ?_)
 (repeat' (first|((with_reducible refine zBV ?_);first|refine zN (zAe rfl rfl) rfl rfl rfl ?_|refine zN (zAE rfl rfl (by exact rfl)) rfl rfl rfl ?_|refine zN (zAP rfl rfl) rfl rfl rfl ?_|refine zN (zCU rfl rfl rfl) rfl rfl rfl ?_|refine zN (zBW rfl rfl) rfl rfl rfl ?_|refine zAv rfl rfl rfl ?_|(refine zDU rfl rfl rfl rfl rfl rfl rfl (fun h=>?_) (fun h=>?_)<;>(dsimp only [cmpP] at h;(try (exfalso;omega))))|refine zN (zAQ (I:=i) rfl rfl rfl (by omega) (by first|omega|(dsimp only;omega))) rfl rfl rfl ?_|refine zDb rfl rfl rfl rfl rfl rfl (fun _ _ q=>cI _ q.below) ?_|refine zDb rfl rfl rfl rfl rfl rfl (fun _ _ q=>oI _) ?_|refine zN (zCo rfl rfl rfl) rfl rfl rfl ?_|refine zN (zJX rfl rfl) rfl rfl rfl ?_|refine zN (zE3 rfl rfl rfl (by omega)) rfl rfl rfl ?_|refine zN (zE9 rfl rfl rfl (IntWalk.i64_in _ (by omega))) rfl rfl rfl ?_|refine zN (zFY rfl rfl rfl (IntWalk.i64_in _ (by omega))) rfl rfl rfl ?_|refine zN (zG7 rfl rfl rfl (IntWalk.i64_in _ (by omega))) rfl rfl rfl ?_|refine zN (zAQ rfl rfl rfl rfl (by omega)) rfl rfl rfl ?_|refine zN (zEd rfl rfl rfl rfl (by first|decide|omega)) rfl rfl rfl ?_|refine zN (zCy rfl rfl) rfl rfl rfl ?_|refine zN (zKj rfl rfl) rfl rfl rfl ?_|refine zN (zAW rfl rfl) rfl rfl rfl ?_|refine zN (zDi rfl rfl (IntWalk.i64_in _ (by omega))) rfl rfl rfl ?_|refine zN (zJW rfl rfl rfl (by omega) (by omega) (IntWalk.i64_in _ (by omega))) rfl rfl rfl ?_|refine zN (zH6 rfl rfl rfl (by omega) (by omega)) rfl rfl rfl ?_|refine zN (zJY rfl rfl rfl) rfl rfl rfl ?_|refine zN (zGE rfl rfl rfl) rfl rfl rfl ?_|refine zN (zCH rfl rfl (by exact rfl)) rfl rfl rfl ?_|refine zN (zDG rfl rfl rfl) rfl rfl rfl ?_)|(with_reducible refine zB6 ?_)))
 by_cases hbr:p<pD i+u
 rotate_left
 ·(repeat' (first|((with_reducible refine zG ?_);first|refine zE rfl rfl rfl rfl rfl ?_|refine zC rfl rfl rfl rfl rfl ?_|(refine zK rfl rfl rfl rfl rfl ?_;refine ⟨_,rfl,?_⟩)|refine za rfl rfl rfl rfl rfl ?_|refine zz rfl rfl rfl rfl rfl rfl ?_|refine zg rfl rfl rfl ?_|refine zAJ rfl rfl ?_|(refine zU rfl rfl rfl rfl rfl rfl rfl (fun h=>?_) (fun h=>?_)<;>(dsimp only [cmpP] at h;(try (exfalso;omega))))|refine zd rfl rfl rfl rfl rfl rfl ?_|refine zAH rfl rfl rfl rfl rfl ?_|refine zf rfl rfl rfl rfl rfl rfl (by omega) ?_|refine zA2 rfl rfl rfl rfl rfl rfl (IntWalk.i64_in _ (by omega)) ?_|refine zb rfl rfl rfl rfl rfl rfl rfl (by omega) ?_|refine zAO rfl rfl rfl rfl rfl rfl rfl (by first|decide|omega) ?_|refine zp rfl rfl rfl rfl rfl ?_|(refine ze rfl rfl rfl rfl rfl ?_;refine And.intro rfl (And.intro (by first|decide|exact Nat.le_of_ble_eq_true rfl|(simp;omega)) ⟨_,rfl,?_⟩))|(refine zm rfl rfl rfl rfl (fun b=>?_))|(refine zt rfl rfl rfl rfl rfl rfl (fun b=>?_))|refine zAj rfl rfl rfl rfl rfl (IntWalk.i64_in _ (by omega)) ?_|refine zCO rfl rfl rfl rfl rfl rfl (by omega) (by omega) ?_|refine zCt rfl rfl rfl rfl rfl rfl ?_|refine zCG rfl rfl rfl rfl rfl rfl ?_)|(with_reducible first|refine zH ?_|refine zB ?_|refine zD ?_|refine zA ?_|refine zc ?_|refine zS ?_|refine zY ?_|refine zBG ?_|refine zQ ?_|refine zj ?_|refine zh ?_|refine zAK ?_|refine zR ?_|refine zW ?_)|((with_reducible refine zr ?_ ?_);(· exact rfl))|((with_reducible refine zI ?_ ?_);(· exact rfl))|((with_reducible refine zF ?_ ?_);(· exact rfl))))
  exact zi (ι:=Nat) (i+1) (by exact ⟨by omega,by omega⟩) (by omega) (by rw [hmi];(first|exact lK1|(repeat (first|exact lK1|(refine zM rfl ?_))))) (by (repeat (first|exact oK1 _|(refine oK2 (by (repeat (first|exact tK1 _ _|apply tK2))) ?_))))
 have hki:=hPm i (by omega) hip (fun q=>by omega)
 rw [List.mem_singleton] at hki
 obtain rfl:i=k:=by omega
 obtain ⟨bb,ob,rfl,_,_⟩:=hb.at_ hil
 have:InS w bb ob zAd 3 c.beds:=⟨hb⟩
 obtain ⟨⟨zl,zu⟩,zs⟩:=z
 have hzb:zBE ⟨⟨zl,zu⟩,zs⟩ ⟨tl,tu⟩=⟨⟨max zl tl,min zu tu⟩,zs⟩:=rfl
 rw [hzb] at hdl
 simp only at hdl
 by_cases hno:min zu tu<max zl tl
 ·rw [if_pos hno] at hdl
  obtain ⟨rfl,rfl⟩:=Prod.mk.inj hdl
  (repeat' (first|((with_reducible refine zG ?_);first|refine zE rfl rfl rfl rfl rfl ?_|refine zC rfl rfl rfl rfl rfl ?_|(refine zK rfl rfl rfl rfl rfl ?_;refine ⟨_,rfl,?_⟩)|refine za rfl rfl rfl rfl rfl ?_|refine zz rfl rfl rfl rfl rfl rfl ?_|refine zg rfl rfl rfl ?_|refine zAJ rfl rfl ?_|(refine zU rfl rfl rfl rfl rfl rfl rfl (fun h=>?_) (fun h=>?_)<;>(dsimp only [cmpP] at h;(try (exfalso;omega))))|refine zX rfl rfl rfl rfl rfl rfl (fun _ _ q=>zDh _ _ _) ?_|refine zb (I:=0) rfl rfl rfl rfl rfl rfl rfl (by omega) ?_|refine zb (I:=i) rfl rfl rfl rfl rfl rfl rfl (by omega) ?_|refine zd rfl rfl rfl rfl rfl rfl ?_|refine zAH rfl rfl rfl rfl rfl ?_|refine zf rfl rfl rfl rfl rfl rfl (by omega) ?_|refine zA2 rfl rfl rfl rfl rfl rfl (IntWalk.i64_in _ (by omega)) ?_|refine zb rfl rfl rfl rfl rfl rfl rfl (by omega) ?_|refine zAO rfl rfl rfl rfl rfl rfl rfl (by first|decide|omega) ?_|refine zp rfl rfl rfl rfl rfl ?_|(refine ze rfl rfl rfl rfl rfl ?_;refine And.intro rfl (And.intro (by first|decide|exact Nat.le_of_ble_eq_true rfl|(simp;omega)) ⟨_,rfl,?_⟩))|(refine zm rfl rfl rfl rfl (fun b=>?_))|(refine zt rfl rfl rfl rfl rfl rfl (fun b=>?_))|refine zAj rfl rfl rfl rfl rfl (IntWalk.i64_in _ (by omega)) ?_|refine zCO rfl rfl rfl rfl rfl rfl (by omega) (by omega) ?_|refine zCt rfl rfl rfl rfl rfl rfl ?_|refine zCG rfl rfl rfl rfl rfl rfl ?_)|(with_reducible first|refine zH ?_|refine zB ?_|refine zD ?_|refine zA ?_|refine zc ?_|refine zS ?_|refine zY ?_|refine zBG ?_|refine zQ ?_|refine zj ?_|refine zh ?_|refine zAK ?_|refine zR ?_|refine zW ?_)|((with_reducible refine zr ?_ ?_);(· exact rfl))|((with_reducible refine zI ?_ ?_);(· exact rfl))|((with_reducible refine zF ?_ ?_);(· exact rfl))))
  all_goals exact zV (by (exact zO.cons (by exact zn.tmp rfl) zO.nil)) () trivial rfl (fun _ _=>Own.nil _ _)
 rw [if_neg hno] at hdl
 obtain ⟨hdd,rfl⟩:=Prod.mk.inj hdl
 have dt:d.t=c.t:=by rw [← hdd];rfl
 have dh:d.hours=c.hours:=by rw [← hdd];rfl
 have dw:d.wear=c.wear:=by rw [← hdd];rfl
 have dy:d.layer=c.layer:=by rw [← hdd];rfl
 have dr:d.rate=c.rate:=by rw [← hdd];rfl
 have dm:d.limit=c.limit:=by rw [← hdd];rfl
 have dx:d.base=c.base:=by rw [← hdd];rfl
 have db:d.beds=c.beds.set i ⟨⟨max zl tl,min zu tu⟩,zs⟩:=by rw [← hdd];unfold zEI;rw [zAh hz];rfl
 have dl:d.beds.length=c.beds.length:=by rw [db,List.length_set]
 have hnear:zFa c d:=by rw [← hdd];exact zNj hil
 have hdf:zB4 d:=by
  rw [← hdd]
  refine zNl hf hil ?_ (by exact hlim.1)
  rw [zAh hz,hzb]
  simp only
  omega
 have hd0:zAm d=0:=zOR (by rw [dt];exact hv) hdf
 have hds:Small d:=⟨by rw [dt];exact hs.fit,by rw [dt];exact h6,by rw [dl];exact h4,by rw [dh];exact h5⟩
 have hback:d.beds.set i ⟨⟨zl,zu⟩,zs⟩=c.beds:=by
  rw [db,List.set_set]
  have h1:i<c.beds.length:=hil
  rw [List.getElem?_eq_getElem h1] at hz
  rw [← Option.some.inj hz,List.set_getElem_self]
 have hdz:d.beds[i]?=some ⟨⟨max zl tl,min zu tu⟩,zs⟩:=by rw [db,List.getElem?_set_self hil]
 have:zAU d.beds i ⟨⟨max zl tl,min zu tu⟩,zs⟩:=⟨hdz⟩
 have hyo:=zMm (ch:=ch) (f:=0) hf
 have hyl:(zBy c ch 0).length=c.hours.length:=zBo
 have hyr:∀ r∈zBy c ch 0,r.length≤20:=fun r hr=>Nat.le_trans (zJa r hr) h4
 have hek:=zIP h0 hyo
 have hek2:=zIP hd0 (zO8 hnear hyo)
 have hsn:=zLp hnear hdf hek hek2
 have hDr:=fun W (hW:Below w.heap.size w W)=>zJJ c (some ⟨bt,ot,none⟩) ca (some ⟨bb,ob,none⟩) cb C cc ch D cd 0 W (hc.below hW) hs (hD.below hW) hfu (by omega)
 have hSa:=fun W (hW:Below w.heap.size w W) P cp hp=>zNb c (some ⟨bt,ot,none⟩) ca (some ⟨bb,ob,none⟩) cb C cc (zBy c ch 0) P cp W (hc.below hW) hs hp (by omega) hyr (hG.below hW)
 have hSd:=fun W (hW:Below w.heap.size w W) P cp hC hp=>zNb d A3 m3 A6 m6 A9 m9 (zBy c ch 0) P cp W hC hds hp (by omega) hyr (hG.below hW)
 have hTd:=fun W hC=>zJ4 d A3 m3 A6 m6 A9 m9 W hC (by rw [dt];omega) (by rw [dl];omega) (by rw [dh];omega)
 have hSm:=fun W (hW:Below w.heap.size w W) A4 n4 A7 n7 A10 n10 h=>zOx c A4 n4 A7 n7 A10 n10 (some ⟨bt,ot,none⟩) ca (some ⟨bb,ob,none⟩) cb C cc W h (hc.below hW) hs
 have hCd:∀ W X Y Z,zx zA5 9 W X c.t→zx zAd 3 W Y d.beds→zx zq 5 W Z c.hours→zAk W d X Y Z:=fun W X Y Z h1 h2 h3=>⟨by rw [dt];exact h1,h2,by rw [dh];exact h3⟩
 rw [hek] at hSa
 rw [hek2] at hSd
 rw [hyl] at hSa hSd
 generalize zEQ c (zBf (zBy c ch 0))=s1 at *
 generalize zEQ d (zBf (zBy c ch 0))=s2 at *
 simp only [zAI,zJ,dt,dh,dw,dy,dr,dm,dx,dl] at hDr hSa hSd hTd hSm
 simp only [dt,dh,dw,dy,dr,dm,dx,dl]
 clear hdl hdd hDl hPl hAl hR
 (repeat' (first|((with_reducible refine zG ?_);first|refine zE rfl rfl rfl rfl rfl ?_|refine zC rfl rfl rfl rfl rfl ?_|(refine zK rfl rfl rfl rfl rfl ?_;refine ⟨_,rfl,?_⟩)|refine za rfl rfl rfl rfl rfl ?_|refine zz rfl rfl rfl rfl rfl rfl ?_|refine zg rfl rfl rfl ?_|refine zAJ rfl rfl ?_|(refine zU rfl rfl rfl rfl rfl rfl rfl (fun h=>?_) (fun h=>?_)<;>(dsimp only [cmpP] at h;(try (exfalso;omega))))|refine zX rfl rfl rfl rfl rfl rfl (fun _ _ q=>zDh _ _ _) ?_|refine zb (I:=0) rfl rfl rfl rfl rfl rfl rfl (by omega) ?_|refine zb (I:=i) rfl rfl rfl rfl rfl rfl rfl (by omega) ?_|refine zd rfl rfl rfl rfl rfl rfl ?_|refine zAH rfl rfl rfl rfl rfl ?_|refine zf rfl rfl rfl rfl rfl rfl (by omega) ?_|refine zA2 rfl rfl rfl rfl rfl rfl (IntWalk.i64_in _ (by omega)) ?_|refine zb rfl rfl rfl rfl rfl rfl rfl (by omega) ?_|refine zAO rfl rfl rfl rfl rfl rfl rfl (by first|decide|omega) ?_|refine zp rfl rfl rfl rfl rfl ?_|(refine ze rfl rfl rfl rfl rfl ?_;refine And.intro rfl (And.intro (by first|decide|exact Nat.le_of_ble_eq_true rfl|(simp;omega)) ⟨_,rfl,?_⟩))|(refine zm rfl rfl rfl rfl (fun b=>?_))|(refine zt rfl rfl rfl rfl rfl rfl (fun b=>?_))|refine zAj rfl rfl rfl rfl rfl (IntWalk.i64_in _ (by omega)) ?_|refine zCO rfl rfl rfl rfl rfl rfl (by omega) (by omega) ?_|refine zCt rfl rfl rfl rfl rfl rfl ?_|refine zCG rfl rfl rfl rfl rfl rfl ?_)|(with_reducible first|refine zH ?_|refine zB ?_|refine zD ?_|refine zA ?_|refine zc ?_|refine zS ?_|refine zY ?_|refine zBG ?_|refine zQ ?_|refine zj ?_|refine zh ?_|refine zAK ?_|refine zR ?_|refine zW ?_)|((with_reducible refine zr ?_ ?_);(· exact rfl))|((with_reducible refine zI ?_ ?_);(· exact rfl))|((with_reducible refine zF ?_ ?_);(· exact rfl))))
 refine zGg (enc:=zAd) (A:=A6) (xs:=d.beds) (by (repeat (first|exact tK1 _ _|apply tK2))) (by omega) ?_
 rintro ba oa rfl
 (refine zAy (by kernel_rfl) (by kernel_rfl) (by kernel_rfl) ?_)
 (repeat' (first|((with_reducible refine zBV ?_);first|refine zN (zAe rfl rfl) rfl rfl rfl ?_|refine zN (zAE rfl rfl (by exact rfl)) rfl rfl rfl ?_|refine zN (zAP rfl rfl) rfl rfl rfl ?_|refine zN (zCU rfl rfl rfl) rfl rfl rfl ?_|refine zN (zBW rfl rfl) rfl rfl rfl ?_|refine zAv rfl rfl rfl ?_|(refine zDU rfl rfl rfl rfl rfl rfl rfl (fun h=>?_) (fun h=>?_)<;>(dsimp only [cmpP] at h;(try (exfalso;omega))))|refine zN (zAQ (I:=i) rfl rfl rfl (by omega) (by first|omega|(dsimp only;omega))) rfl rfl rfl ?_|refine zN (e_neSp rfl rfl rfl) rfl rfl rfl ?_|refine zN (zCo rfl rfl rfl) rfl rfl rfl ?_|refine zN (zJX rfl rfl) rfl rfl rfl ?_|refine zN (zE3 rfl rfl rfl (by omega)) rfl rfl rfl ?_|refine zN (zE9 rfl rfl rfl (IntWalk.i64_in _ (by omega))) rfl rfl rfl ?_|refine zN (zFY rfl rfl rfl (IntWalk.i64_in _ (by omega))) rfl rfl rfl ?_|refine zN (zG7 rfl rfl rfl (IntWalk.i64_in _ (by omega))) rfl rfl rfl ?_|refine zN (zAQ rfl rfl rfl rfl (by omega)) rfl rfl rfl ?_|refine zN (zEd rfl rfl rfl rfl (by first|decide|omega)) rfl rfl rfl ?_|refine zN (zCy rfl rfl) rfl rfl rfl ?_|refine zN (zKj rfl rfl) rfl rfl rfl ?_|refine zN (zAW rfl rfl) rfl rfl rfl ?_|refine zN (zDi rfl rfl (IntWalk.i64_in _ (by omega))) rfl rfl rfl ?_|refine zN (zJW rfl rfl rfl (by omega) (by omega) (IntWalk.i64_in _ (by omega))) rfl rfl rfl ?_|refine zN (zH6 rfl rfl rfl (by omega) (by omega)) rfl rfl rfl ?_|refine zN (zJY rfl rfl rfl) rfl rfl rfl ?_|refine zN (zGE rfl rfl rfl) rfl rfl rfl ?_|refine zN (zCH rfl rfl (by exact rfl)) rfl rfl rfl ?_|refine zN (zDG rfl rfl rfl) rfl rfl rfl ?_)|(with_reducible refine zB6 ?_)))
 (repeat' (first|((with_reducible refine zG ?_);first|refine zE rfl rfl rfl rfl rfl ?_|refine zC rfl rfl rfl rfl rfl ?_|(refine zK rfl rfl rfl rfl rfl ?_;refine ⟨_,rfl,?_⟩)|refine za rfl rfl rfl rfl rfl ?_|refine zz rfl rfl rfl rfl rfl rfl ?_|refine zg rfl rfl rfl ?_|refine zAJ rfl rfl ?_|(refine zU rfl rfl rfl rfl rfl rfl rfl (fun h=>?_) (fun h=>?_)<;>(dsimp only [cmpP] at h;(try (exfalso;omega))))|(refine zAN rfl rfl rfl rfl rfl rfl (fun _ _ q=>hTd _ (hCd _ _ _ _ (zAz q.own (Below.refl _ _)) (zAz q.own (Below.refl _ _)) (zAz q.own (Below.refl _ _)))) ?_;rintro ⟨⟨A4,n4⟩,⟨A7,n7⟩,A10,n10⟩ -;dsimp only [List.cons_append,List.nil_append])|refine zd rfl rfl rfl rfl rfl rfl ?_|refine zAH rfl rfl rfl rfl rfl ?_|refine zf rfl rfl rfl rfl rfl rfl (by omega) ?_|refine zA2 rfl rfl rfl rfl rfl rfl (IntWalk.i64_in _ (by omega)) ?_|refine zb rfl rfl rfl rfl rfl rfl rfl (by omega) ?_|refine zAO rfl rfl rfl rfl rfl rfl rfl (by first|decide|omega) ?_|refine zp rfl rfl rfl rfl rfl ?_|(refine ze rfl rfl rfl rfl rfl ?_;refine And.intro rfl (And.intro (by first|decide|exact Nat.le_of_ble_eq_true rfl|(simp;omega)) ⟨_,rfl,?_⟩))|(refine zm rfl rfl rfl rfl (fun b=>?_))|(refine zt rfl rfl rfl rfl rfl rfl (fun b=>?_))|refine zAj rfl rfl rfl rfl rfl (IntWalk.i64_in _ (by omega)) ?_|refine zCO rfl rfl rfl rfl rfl rfl (by omega) (by omega) ?_|refine zCt rfl rfl rfl rfl rfl rfl ?_|refine zCG rfl rfl rfl rfl rfl rfl ?_)|(with_reducible first|refine zH ?_|refine zB ?_|refine zD ?_|refine zA ?_|refine zc ?_|refine zS ?_|refine zY ?_|refine zBG ?_|refine zQ ?_|refine zj ?_|refine zh ?_|refine zAK ?_|refine zR ?_|refine zW ?_)|((with_reducible refine zr ?_ ?_);(· exact rfl))|((with_reducible refine zI ?_ ?_);(· exact rfl))|((with_reducible refine zF ?_ ?_);(· exact rfl))))
 refine zEO (enc:=zAd) (xs:=d.beds) (by (repeat (first|exact tK1 _ _|apply tK2))) (by omega) ?_
 rintro gb rfl
 (repeat' (first|((with_reducible refine zG ?_);first|refine zE rfl rfl rfl rfl rfl ?_|refine zC rfl rfl rfl rfl rfl ?_|(refine zK rfl rfl rfl rfl rfl ?_;refine ⟨_,rfl,?_⟩)|refine za rfl rfl rfl rfl rfl ?_|refine zz rfl rfl rfl rfl rfl rfl ?_|refine zg rfl rfl rfl ?_|refine zAJ rfl rfl ?_|(refine zU rfl rfl rfl rfl rfl rfl rfl (fun h=>?_) (fun h=>?_)<;>(dsimp only [cmpP] at h;(try (exfalso;omega))))|refine zb (I:=i) rfl rfl rfl rfl rfl rfl rfl (by omega) ?_|refine zFC (enc:=zAd) (k:=3) (i:=i) (j:=0) (z:=⟨⟨max zl tl,min zu tu⟩,zs⟩) ⟨⟨zl,zu⟩,zs⟩ rfl rfl rfl rfl rfl rfl rfl rfl (by decide) ?_|refine zd rfl rfl rfl rfl rfl rfl ?_|refine zAH rfl rfl rfl rfl rfl ?_|refine zf rfl rfl rfl rfl rfl rfl (by omega) ?_|refine zA2 rfl rfl rfl rfl rfl rfl (IntWalk.i64_in _ (by omega)) ?_|refine zb rfl rfl rfl rfl rfl rfl rfl (by omega) ?_|refine zAO rfl rfl rfl rfl rfl rfl rfl (by first|decide|omega) ?_|refine zp rfl rfl rfl rfl rfl ?_|(refine ze rfl rfl rfl rfl rfl ?_;refine And.intro rfl (And.intro (by first|decide|exact Nat.le_of_ble_eq_true rfl|(simp;omega)) ⟨_,rfl,?_⟩))|(refine zm rfl rfl rfl rfl (fun b=>?_))|(refine zt rfl rfl rfl rfl rfl rfl (fun b=>?_))|refine zAj rfl rfl rfl rfl rfl (IntWalk.i64_in _ (by omega)) ?_|refine zCO rfl rfl rfl rfl rfl rfl (by omega) (by omega) ?_|refine zCt rfl rfl rfl rfl rfl rfl ?_|refine zCG rfl rfl rfl rfl rfl rfl ?_)|(with_reducible first|refine zH ?_|refine zB ?_|refine zD ?_|refine zA ?_|refine zc ?_|refine zS ?_|refine zY ?_|refine zBG ?_|refine zQ ?_|refine zj ?_|refine zh ?_|refine zAK ?_|refine zR ?_|refine zW ?_)|((with_reducible refine zr ?_ ?_);(· exact rfl))|((with_reducible refine zI ?_ ?_);(· exact rfl))|((with_reducible refine zF ?_ ?_);(· exact rfl))))
 rw [hback]
 refine zEO (enc:=zq) (xs:=c.hours) (by (repeat (first|exact tK1 _ _|apply tK2))) (by omega) ?_
 rintro gh rfl
 have:zAU d.beds i ⟨⟨max zl tl,min zu tu⟩,zs⟩:=⟨hdz⟩
 (repeat' (first|((with_reducible refine zG ?_);first|refine zE rfl rfl rfl rfl rfl ?_|refine zC rfl rfl rfl rfl rfl ?_|(refine zK rfl rfl rfl rfl rfl ?_;refine ⟨_,rfl,?_⟩)|refine za rfl rfl rfl rfl rfl ?_|refine zz rfl rfl rfl rfl rfl rfl ?_|refine zg rfl rfl rfl ?_|refine zAJ rfl rfl ?_|(refine zU rfl rfl rfl rfl rfl rfl rfl (fun h=>?_) (fun h=>?_)<;>(dsimp only [cmpP] at h;(try (exfalso;omega))))|(refine zAN rfl rfl rfl rfl rfl rfl (fun _ _ q=>hDr _ q.below) ?_;rintro ⟨pg,pn,P,cp⟩ -;dsimp only [List.cons_append,List.nil_append])|refine zX rfl rfl rfl rfl rfl rfl (fun _ _ q=>hSa _ q.below _ _ (zBm q.own (by (repeat (first|exact tK1 _ _|apply tK2))))) ?_|refine zX rfl rfl rfl rfl rfl rfl (fun _ _ q=>hSd _ q.below _ _ (hCd _ _ _ _ (zAz q.own (Below.refl _ _)) (zAz q.own (Below.refl _ _)) (zAz q.own (Below.refl _ _))) (zBm q.own (by (repeat (first|exact tK1 _ _|apply tK2))))) ?_|refine zX rfl rfl rfl rfl rfl rfl (fun _ _ q=>hSm _ q.below _ _ _ _ _ _ ⟨(zAz q.own (Below.refl _ _)),zNy (q.own.here (.arr zAd 3 gb c.beds) (Take.mem (by (repeat (first|exact tK1 _ _|apply tK2))))),zNy (q.own.here (.arr zq 5 gh c.hours) (Take.mem (by (repeat (first|exact tK1 _ _|apply tK2)))))⟩) ?_|refine zd rfl rfl rfl rfl rfl rfl ?_|refine zAH rfl rfl rfl rfl rfl ?_|refine zf rfl rfl rfl rfl rfl rfl (by omega) ?_|refine zA2 rfl rfl rfl rfl rfl rfl (IntWalk.i64_in _ (by omega)) ?_|refine zb rfl rfl rfl rfl rfl rfl rfl (by omega) ?_|refine zAO rfl rfl rfl rfl rfl rfl rfl (by first|decide|omega) ?_|refine zp rfl rfl rfl rfl rfl ?_|(refine ze rfl rfl rfl rfl rfl ?_;refine And.intro rfl (And.intro (by first|decide|exact Nat.le_of_ble_eq_true rfl|(simp;omega)) ⟨_,rfl,?_⟩))|(refine zm rfl rfl rfl rfl (fun b=>?_))|(refine zt rfl rfl rfl rfl rfl rfl (fun b=>?_))|refine zAj rfl rfl rfl rfl rfl (IntWalk.i64_in _ (by omega)) ?_|refine zCO rfl rfl rfl rfl rfl rfl (by omega) (by omega) ?_|refine zCt rfl rfl rfl rfl rfl rfl ?_|refine zCG rfl rfl rfl rfl rfl rfl ?_)|(with_reducible first|refine zH ?_|refine zB ?_|refine zD ?_|refine zA ?_|refine zc ?_|refine zS ?_|refine zY ?_|refine zBG ?_|refine zQ ?_|refine zj ?_|refine zh ?_|refine zAK ?_|refine zR ?_|refine zW ?_)|((with_reducible refine zr ?_ ?_);(· exact rfl))|((with_reducible refine zI ?_ ?_);(· exact rfl))|((with_reducible refine zF ?_ ?_);(· exact rfl))))
 all_goals exact zV (by (exact zO.cons (by exact zn.tmp rfl) zO.nil)) () trivial rfl (fun _ _=>Own.nil _ _)
end Go.Proofs.YtdigopgncfhiaaaGreatDoor.Two
