/- E14 -/
import Derived.Test.YtdigopgncfhiaaaGreatDoorE13
import Derived.Test.YtdigopgncfhiaaaGreatDoorE11
import Derived.Test.YtdigopgncfhiaaaGreatDoorE1
import Derived.LaidMore
import Derived.Test.YtdigopgncfhiaaaGreatDoorE6
import Derived.Laws.MakeOwn
import Derived.Laws.OwnMore
set_option linter.unusedSimpArgs false
set_option linter.unusedVariables false
namespace Go.Proofs.YtdigopgncfhiaaaGreatDoor
open Go.RowKit
set_option maxRecDepth 20000
theorem guardBe : Tryz.prog.eqGuardType Tryz.prog.depth 73=false:=by kernel_rfl
theorem heldBe : Tryz.prog.stoodInHeld 73=false:=by kernel_rfl
theorem guardHo : Tryz.prog.eqGuardType Tryz.prog.depth 67=false:=by kernel_rfl
theorem heldHo : Tryz.prog.stoodInHeld 67=false:=by kernel_rfl
theorem zLu (d:Nat) (z:Bed) (w:World):(Op.equalIn (d+3) 73 (zID z) (zID z)).run Tryz.prog w = .ok true w:=by
 obtain ⟨⟨a,b⟩,s⟩:=z
 unfold zID
 rw [run_equalIn_agg _ _ _ _ _ (by simp [go_sem]) heldBe]
 have e:zDw ⟨a,b⟩ ⟨a,b⟩=true:=zDP.2 ⟨rfl,rfl⟩
 simp [go_sem,zCm,e]
theorem zLt (d:Nat) (u:Hour) (w:World):(Op.equalIn (d+3) 67 (zCd u) (zCd u)).run Tryz.prog w = .ok true w:=by
 obtain ⟨⟨a,b⟩,r,c,s⟩:=u
 unfold zCd
 rw [run_equalIn_agg _ _ _ _ _ (by simp [go_sem]) heldHo]
 have e:zDw ⟨a,b⟩ ⟨a,b⟩=true:=zDP.2 ⟨rfl,rfl⟩
 have e2:(Op.equalIn (d+2) 4 (.bool s) (.bool s)).run Tryz.prog w = .ok true w:=by
  have e:=run_underlying (P:=Tryz.prog) Tryz.underlying4 w
  unfold Op.equalIn
  simp [e]
 simp [go_sem,zCm,e,e2]
section
variable {w0 : World} {n:Nat} {d:List Deferred} {R:List (Nat × Value)} {H:List Ent} {o:Oper} {x y:Operand}
theorem e_neBe (z:Bed) {T':TypeId} (hop:o.op = .binOp .neq 73 x y T') (hx:evR R x=some (zID z)) (hy:evR R y=some (zID z)):Ev Tryz.prog w0 n d R H o (.bool false):=fun a w q=>by
 have e:=zLu 9997 z w
 have g:(eqGuard .neq 73 x y (zID z) (zID z)).run Tryz.prog w = .ok () w:=run_eqGuard_agg _ _ _ _ _ _ _ guardBe
 unfold execOp;rw [hop]
 unfold zID at *
 simp only [Sem.run_bind,q.ev hx,q.ev hy,g,Result.andThen_ok]
 rw [run_neq_struct,e];rfl
theorem e_neHo (u:Hour) {T':TypeId} (hop:o.op = .binOp .neq 67 x y T') (hx:evR R x=some (zCd u)) (hy:evR R y=some (zCd u)):Ev Tryz.prog w0 n d R H o (.bool false):=fun a w q=>by
 have e:=zLt 9997 u w
 have g:(eqGuard .neq 67 x y (zCd u) (zCd u)).run Tryz.prog w = .ok () w:=run_eqGuard_agg _ _ _ _ _ _ _ guardHo
 unfold execOp;rw [hop]
 unfold zCd at *
 simp only [Sem.run_bind,q.ev hx,q.ev hy,g,Result.andThen_ok]
 rw [run_neq_struct,e];rfl
end
set_option maxHeartbeats 2000000 in
theorem zJu (a m:List Sli) (A:Option Addr) (ca:Nat) (B:Option Addr) (cb:Nat) (w:World) (ha:zBP w A a) (hb:zBP w B m) (hab:a.map Sli.xs=m.map Sli.xs) (hl:a.length≤1000) (hrl:∀ s∈m,s.xs.length≤1000) :
  Gv Tryz.prog 53 [.slice A a.length ca,.slice B m.length cb] w (.bool true):=by
 have hlen:a.length=m.length:=by have:=congrArg List.length hab;simpa using this
 have hap:=ha.p;have hbp:=hb.p
 have hS:∀ (x:List Int) (X:Option Addr) (cx:Nat) (Y:Option Addr) (cy:Nat) W,zx encI 1 W X x→zx encI 1 W Y x→x.length≤1000→Gv Tryz.prog 27 [.slice X x.length cx,.slice Y x.length cy] W (.bool true):=by
  intro x X cx Y cy W h1 h2 h3
  have hs:=fun W' (hW:Below W.heap.size W W')=>(zKB x x X Y cx cy W' (h1.below hW) (h2.below hW) (by omega) (by omega)).gv
  simp only [decide_true] at hs
  unfold Gv
  (refine zL (n:=8) Tryz.func27 rfl rfl rfl ?_)
  (repeat' (first|((with_reducible refine zG ?_);first|refine zE rfl rfl rfl rfl rfl ?_|refine zC rfl rfl rfl rfl rfl ?_|refine zX rfl rfl rfl rfl rfl rfl (fun _ _ q=>hs _ q.below) ?_)|(with_reducible first|refine zH ?_|refine zB ?_|refine zD ?_|refine zA ?_|refine zc ?_)))
  all_goals exact zV (by (exact zO.cons (by exact zn.tmp rfl) zO.nil)) () trivial rfl (fun _ _=>Own.nil _ _)
 unfold Gv
 (refine zL (n:=27) Tryz.func53 rfl rfl rfl ?_)
 (repeat' (first|((with_reducible refine zG ?_);first|refine zE rfl rfl rfl rfl rfl ?_|refine zC rfl rfl rfl rfl rfl ?_|(refine zU rfl rfl rfl rfl rfl rfl rfl (fun h=>?_) (fun h=>?_)<;>(dsimp only [cmpP] at h;(try (exfalso;omega))))|refine zp rfl rfl rfl rfl rfl ?_)|(with_reducible first|refine zH ?_|refine zB ?_|refine zD ?_|refine zA ?_|refine zS ?_|refine zQ ?_)|((with_reducible refine zF ?_ ?_);(· exact rfl))))
 refine zw (ι:=Nat) [0,1] rfl (fun i=>i≤a.length) (fun i=>[(5,.int .i64 (i:Int))]) (fun _=>[]) (fun i=>a.length - i) 0 (Nat.zero_le _) (by (first|exact lK1|(repeat (first|exact lK1|(refine zM rfl ?_))))) (by (repeat (first|exact oK1 _|(refine oK2 (by (repeat (first|exact tK1 _ _|apply tK2))) ?_)))) ?_
 rintro i hi
 simp only [zAx,List.cons_append,List.nil_append]
 by_cases hlt:i<a.length
 ·obtain ⟨s,hsi⟩:∃ s,a[i]?=some s:=⟨_,List.getElem?_eq_getElem hlt⟩
  obtain ⟨u,hui⟩:∃ u,m[i]?=some u:=⟨_,List.getElem?_eq_getElem (by omega)⟩
  have hxs:s.xs=u.xs:=by
   have:=zLN hab i
   rwa [zAh hsi,zAh hui] at this
  have r1:=ha.rows s (List.mem_of_getElem? hsi)
  have r2:=hb.rows u (List.mem_of_getElem? hui)
  have r3:=hrl u (List.mem_of_getElem? hui)
  obtain ⟨b1,o1,rfl,hb1,hc1⟩:=hap.at_ hlt
  obtain ⟨b2,o2,rfl,hb2,hc2⟩:=hbp.at_ (show i<m.length by omega)
  have:InS w b1 o1 zBa 1 a:=⟨hap⟩
  have:InS w b2 o2 zBa 1 m:=⟨hbp⟩
  obtain ⟨sA,xs,sc⟩:=s
  obtain ⟨uA,xs',uc⟩:=u
  simp only at hxs r1 r2 r3
  subst hxs
  have:zAU a i ⟨sA,xs,sc⟩:=⟨hsi⟩
  have:zAU m i ⟨uA,xs,uc⟩:=⟨hui⟩
  (repeat' (first|((with_reducible refine zG ?_);first|refine zE rfl rfl rfl rfl rfl ?_|(refine zU rfl rfl rfl rfl rfl rfl rfl (fun h=>?_) (fun h=>?_)<;>(dsimp only [cmpP] at h;(try (exfalso;omega))))|refine zp rfl rfl rfl rfl rfl ?_)|(with_reducible first|refine zH ?_|refine zB ?_|refine zD ?_|refine zA ?_|refine zS ?_|refine zQ ?_)|((with_reducible refine zI ?_ ?_);(· exact rfl))))
  (refine zAy (by kernel_rfl) (by kernel_rfl) (by kernel_rfl) ?_)
  (repeat' (first|((with_reducible refine zBV ?_);first|refine zN (zAe rfl rfl) rfl rfl rfl ?_|refine zN (zAE rfl rfl (by exact rfl)) rfl rfl rfl ?_|refine zN (zAQ (I:=i) rfl rfl rfl (by omega) (by first|omega|(dsimp only;omega))) rfl rfl rfl ?_|refine zDb rfl rfl rfl rfl rfl rfl (fun _ _ q=>hS xs _ _ _ _ _ (r1.below q.below) (r2.below q.below) r3) ?_|refine zN (zJX rfl rfl) rfl rfl rfl ?_)|(with_reducible refine zB6 ?_)))
  (repeat' (first|((with_reducible refine zG ?_);first|refine zE rfl rfl rfl rfl rfl ?_|refine zC rfl rfl rfl rfl rfl ?_|refine zf rfl rfl rfl rfl rfl rfl (by omega) ?_)|(with_reducible first|refine zB ?_|refine zD ?_|refine zA ?_|refine zS ?_|refine zh ?_)|((with_reducible refine zF ?_ ?_);(· exact rfl))))
  exact zi (i+1) (by omega) (by omega) (by (first|exact lK1|(repeat (first|exact lK1|(refine zM rfl ?_))))) (by (repeat (first|exact oK1 _|(refine oK2 (by (repeat (first|exact tK1 _ _|apply tK2))) ?_))))
 ·obtain rfl:i=a.length:=by omega
  (repeat' (first|((with_reducible refine zG ?_);first|refine zE rfl rfl rfl rfl rfl ?_|refine zC rfl rfl rfl rfl rfl ?_|(refine zU rfl rfl rfl rfl rfl rfl rfl (fun h=>?_) (fun h=>?_)<;>(dsimp only [cmpP] at h;(try (exfalso;omega))))|refine zp rfl rfl rfl rfl rfl ?_)|(with_reducible first|refine zH ?_|refine zB ?_|refine zD ?_|refine zA ?_|refine zc ?_|refine zj ?_|refine zR ?_|refine zW ?_)|((with_reducible refine zF ?_ ?_);(· exact rfl))))
  exact zV (by (exact zO.cons (by exact zn.tmp rfl) zO.nil)) () trivial rfl (fun _ _=>Own.nil _ _)
set_option maxHeartbeats 4000000 in
theorem zOx (c:Cov) (A:Option Addr) (ca:Nat) (B:Option Addr) (cb:Nat) (C:Option Addr) (cc:Nat) (A2:Option Addr) (ca2:Nat) (B2:Option Addr) (cb2:Nat) (C2:Option Addr) (cc2:Nat) (w:World) (h:zAk w c A B C) (h2:zAk w c A2 B2 C2) (hs:Small c) :
  Gv Tryz.prog 42 [zAI c A ca B cb C cc,zAI c A2 ca2 B2 cb2 C2 cc2] w (.bool true):=by
 have h3:=hs.t;have h4:=hs.b;have h5:=hs.h
 have hb:=h.b;have hh:=h.h
 have hb2:=h2.b;have hh2:=h2.h
 have hT:=fun W (hW:Below w.heap.size w W)=>(same_any c.t c.t A A2 ca ca2 W (h.t.below hW) (h2.t.below hW) (by omega) (by omega)).gv
 simp only [decide_true] at hT
 unfold vT at hT
 unfold Gv zAI zJ
 (refine zL (n:=102) Tryz.func42 rfl rfl rfl ?_)
 (repeat' (first|((with_reducible refine zG ?_);first|refine zE rfl rfl rfl rfl rfl ?_|refine zC rfl rfl rfl rfl rfl ?_|(refine zK rfl rfl rfl rfl rfl ?_;refine ⟨_,rfl,?_⟩)|refine za rfl rfl rfl rfl rfl ?_|refine zz rfl rfl rfl rfl rfl rfl ?_|(refine zU rfl rfl rfl rfl rfl rfl rfl (fun h=>?_) (fun h=>?_)<;>(dsimp only [cmpP] at h;(try (exfalso;omega))))|refine zX rfl rfl rfl rfl rfl rfl (fun _ _ q=>hT _ q.below) ?_|(refine u_nesp rfl rfl rfl rfl rfl rfl (fun h=>?_) (fun h=>?_)<;>(try (exfalso;omega)))|refine zAH rfl rfl rfl rfl rfl ?_|refine zp rfl rfl rfl rfl rfl ?_|(refine zt rfl rfl rfl rfl rfl rfl (fun b=>?_)))|(with_reducible first|refine zH ?_|refine zB ?_|refine zD ?_|refine zA ?_|refine zS ?_|refine zQ ?_)|((with_reducible refine zF ?_ ?_);(· exact rfl))))
 all_goals first|(exfalso;simp_all;done)|skip
 rename_i b2 q1 q2 q3 q4 q5 q6
 refine zw (ι:=Nat) [2,3] rfl (fun i=>i≤c.beds.length) (fun i=>[(5,.int .i64 (i:Int))]) (fun _=>[.blk b (zJ c A2 ca2 B2 cb2 C2 cc2),.blk b2 (zJ c A ca B cb C cc)]) (fun i=>c.beds.length - i) 0 (Nat.zero_le _) (by (first|exact lK1|(repeat (first|exact lK1|(refine zM rfl ?_))))) (by (repeat (first|exact oK1 _|(refine oK2 (by (repeat (first|exact tK1 _ _|apply tK2))) ?_)))) ?_
 rintro i hi
 simp only [zAx,List.cons_append,List.nil_append]
 unfold zJ
 by_cases hlt:i<c.beds.length
 ·obtain ⟨z,hz⟩:∃ z,c.beds[i]?=some z:=⟨_,List.getElem?_eq_getElem hlt⟩
  obtain ⟨p1,o1,rfl,hp1,hc1⟩:=hb.at_ hlt
  obtain ⟨p2,o2,rfl,hp2,hc2⟩:=hb2.at_ hlt
  have:InS w p1 o1 zAd 3 c.beds:=⟨hb⟩
  have:InS w p2 o2 zAd 3 c.beds:=⟨hb2⟩
  have:zAU c.beds i z:=⟨hz⟩
  (repeat' (first|((with_reducible refine zG ?_);first|refine zE rfl rfl rfl rfl rfl ?_|(refine zK rfl rfl rfl rfl rfl ?_;refine ⟨_,rfl,?_⟩)|refine za rfl rfl rfl rfl rfl ?_|(refine zU rfl rfl rfl rfl rfl rfl rfl (fun h=>?_) (fun h=>?_)<;>(dsimp only [cmpP] at h;(try (exfalso;omega))))|refine zp rfl rfl rfl rfl rfl ?_)|(with_reducible first|refine zH ?_|refine zB ?_|refine zD ?_|refine zA ?_|refine zS ?_|refine zQ ?_)|((with_reducible refine zI ?_ ?_);(· exact rfl))))
  (refine zAy (by kernel_rfl) (by kernel_rfl) (by kernel_rfl) ?_)
  (repeat' (first|((with_reducible refine zBV ?_);first|refine zN (zAe rfl rfl) rfl rfl rfl ?_|refine zN (zAE rfl rfl (by exact rfl)) rfl rfl rfl ?_|refine zN (zAP rfl rfl) rfl rfl rfl ?_|refine zN (zAQ (I:=i) rfl rfl rfl (by omega) (by first|omega|(dsimp only;omega))) rfl rfl rfl ?_|refine zN (e_neBe z rfl rfl rfl) rfl rfl rfl ?_)|(with_reducible refine zB6 ?_)))
  (repeat' (first|((with_reducible refine zG ?_);first|refine zE rfl rfl rfl rfl rfl ?_|refine zC rfl rfl rfl rfl rfl ?_|refine zf rfl rfl rfl rfl rfl rfl (by omega) ?_)|(with_reducible first|refine zB ?_|refine zD ?_|refine zA ?_|refine zS ?_|refine zh ?_)|((with_reducible refine zF ?_ ?_);(· exact rfl))))
  exact zi (i+1) (by omega) (by omega) (by (first|exact lK1|(repeat (first|exact lK1|(refine zM rfl ?_))))) (by (repeat (first|exact oK1 _|(refine oK2 (by (repeat (first|exact tK1 _ _|apply tK2))) ?_))))
 ·obtain rfl:i=c.beds.length:=by omega
  (repeat' (first|((with_reducible refine zG ?_);first|refine zE rfl rfl rfl rfl rfl ?_|refine zC rfl rfl rfl rfl rfl ?_|(refine zK rfl rfl rfl rfl rfl ?_;refine ⟨_,rfl,?_⟩)|refine za rfl rfl rfl rfl rfl ?_|(refine zU rfl rfl rfl rfl rfl rfl rfl (fun h=>?_) (fun h=>?_)<;>(dsimp only [cmpP] at h;(try (exfalso;omega))))|refine zp rfl rfl rfl rfl rfl ?_)|(with_reducible first|refine zH ?_|refine zB ?_|refine zD ?_|refine zA ?_|refine zQ ?_|refine zj ?_|refine zR ?_|refine zW ?_)|((with_reducible refine zF ?_ ?_);(· exact rfl))))
  refine zw (ι:=Nat) [2,3] rfl (fun i=>i≤c.hours.length) (fun i=>[(6,.int .i64 (i:Int))]) (fun _=>[.blk b (zJ c A2 ca2 B2 cb2 C2 cc2),.blk b2 (zJ c A ca B cb C cc)]) (fun i=>c.hours.length - i) 0 (Nat.zero_le _) (by (first|exact lK1|(repeat (first|exact lK1|(refine zM rfl ?_))))) (by (repeat (first|exact oK1 _|(refine oK2 (by (repeat (first|exact tK1 _ _|apply tK2))) ?_)))) ?_
  rintro i hi
  simp only [zAx,List.cons_append,List.nil_append]
  unfold zJ
  by_cases hlt:i<c.hours.length
  ·obtain ⟨u,hu⟩:∃ u,c.hours[i]?=some u:=⟨_,List.getElem?_eq_getElem hlt⟩
   obtain ⟨p1,o1,rfl,hp1,hc1⟩:=hh.at_ hlt
   obtain ⟨p2,o2,rfl,hp2,hc2⟩:=hh2.at_ hlt
   have:InS w p1 o1 zq 5 c.hours:=⟨hh⟩
   have:InS w p2 o2 zq 5 c.hours:=⟨hh2⟩
   have:zAU c.hours i u:=⟨hu⟩
   (repeat' (first|((with_reducible refine zG ?_);first|refine zE rfl rfl rfl rfl rfl ?_|(refine zK rfl rfl rfl rfl rfl ?_;refine ⟨_,rfl,?_⟩)|refine za rfl rfl rfl rfl rfl ?_|(refine zU rfl rfl rfl rfl rfl rfl rfl (fun h=>?_) (fun h=>?_)<;>(dsimp only [cmpP] at h;(try (exfalso;omega))))|refine zp rfl rfl rfl rfl rfl ?_)|(with_reducible first|refine zH ?_|refine zB ?_|refine zD ?_|refine zA ?_|refine zS ?_|refine zQ ?_)|((with_reducible refine zI ?_ ?_);(· exact rfl))))
   (refine zAy (by kernel_rfl) (by kernel_rfl) (by kernel_rfl) ?_)
   (repeat' (first|((with_reducible refine zBV ?_);first|refine zN (zAe rfl rfl) rfl rfl rfl ?_|refine zN (zAE rfl rfl (by exact rfl)) rfl rfl rfl ?_|refine zN (zAP rfl rfl) rfl rfl rfl ?_|refine zN (zAQ (I:=i) rfl rfl rfl (by omega) (by first|omega|(dsimp only;omega))) rfl rfl rfl ?_|refine zN (e_neHo u rfl rfl rfl) rfl rfl rfl ?_)|(with_reducible refine zB6 ?_)))
   (repeat' (first|((with_reducible refine zG ?_);first|refine zE rfl rfl rfl rfl rfl ?_|refine zC rfl rfl rfl rfl rfl ?_|refine zf rfl rfl rfl rfl rfl rfl (by omega) ?_)|(with_reducible first|refine zB ?_|refine zD ?_|refine zA ?_|refine zS ?_|refine zh ?_)|((with_reducible refine zF ?_ ?_);(· exact rfl))))
   exact zi (i+1) (by omega) (by omega) (by (first|exact lK1|(repeat (first|exact lK1|(refine zM rfl ?_))))) (by (repeat (first|exact oK1 _|(refine oK2 (by (repeat (first|exact tK1 _ _|apply tK2))) ?_))))
  ·obtain rfl:i=c.hours.length:=by omega
   (repeat' (first|((with_reducible refine zG ?_);first|refine zE rfl rfl rfl rfl rfl ?_|refine zC rfl rfl rfl rfl rfl ?_|(refine zK rfl rfl rfl rfl rfl ?_;refine ⟨_,rfl,?_⟩)|refine za rfl rfl rfl rfl rfl ?_|(refine zU rfl rfl rfl rfl rfl rfl rfl (fun h=>?_) (fun h=>?_)<;>(dsimp only [cmpP] at h;(try (exfalso;omega))))|refine zp rfl rfl rfl rfl rfl ?_)|(with_reducible first|refine zH ?_|refine zB ?_|refine zD ?_|refine zA ?_|refine zc ?_|refine zj ?_|refine zR ?_|refine zW ?_)|((with_reducible refine zF ?_ ?_);(· exact rfl))))
   exact zV (by (exact zO.cons (by exact zn.tmp rfl) zO.nil)) () trivial rfl (fun _ _=>Own.nil _ _)
end Go.Proofs.YtdigopgncfhiaaaGreatDoor
namespace Go.Proofs.YtdigopgncfhiaaaGreatDoor
open Go.RowKit
set_option maxRecDepth 20000
section
variable {w0 : World} {n:Nat} {d:List Deferred} {R:List (Nat × Value)} {H:List Ent} {o:Oper} {x y:Operand}
theorem e_eqSp {a b:Int} {T':TypeId} (hop:o.op = .binOp .eql 28 x y T') (hx:evR R x=some (.agg #[.int .i64 a,.int .i64 b])) (hy:evR R y=some (.agg #[.int .i64 a,.int .i64 b])):Ev Tryz.prog w0 n d R H o (.bool true):=fun k w q=>by
 have e:=zM6 a b a b w
 rw [show zDw ⟨a,b⟩ ⟨a,b⟩=true from zDP.2 ⟨rfl,rfl⟩] at e
 have g:=gd_sp .eql x y #[.int .i64 a,.int .i64 b] #[.int .i64 a,.int .i64 b] w
 unfold execOp;rw [hop]
 simp only [Sem.run_bind,q.ev hx,q.ev hy,g,Result.andThen_ok,e,Sem.run_pure]
end
end Go.Proofs.YtdigopgncfhiaaaGreatDoor
namespace Go.Proofs.YtdigopgncfhiaaaGreatDoor
open Go.ChangeShapes Go.WideShapes Go.ChangeAt Go.RowKit
section
variable {H : Type} {enc:TypeId × Value→H} {w:World} {sp:Nat→Bool} {held:Bool} {n:Nat} {cs:List Value} {x:DataW H × List MemPlace}
theorem rd_bed (h:DataW.trod enc Tryz.prog w 0 sp held n 73 cs=some x):∃ s:Bed,cs=zAd s∧True:=by
 have hl:=zHY Tryz.underlying73 h (k:=3) (by kernel_rfl)
 obtain ⟨n0,y0,h0⟩:=zAR Tryz.underlying73 h (j:=0) rfl rfl (k:=2) (by kernel_rfl)
 obtain ⟨n1,y1,h1⟩:=zAR Tryz.underlying73 h (j:=1) rfl rfl (k:=1) (by kernel_rfl)
 obtain ⟨a,e0,f0⟩:=zF7 h0
 obtain ⟨b,e1,f1⟩:=zC9 Tryz.underlying3 h1
 match cs,hl with
 | [c0,c1,c2],_ =>
  simp [zBD] at e0 e1
  exact ⟨⟨a,b⟩,by simp [zAd,e0,e1],trivial⟩
theorem zOF (h:DataW.trod enc Tryz.prog w 0 sp held n 67 cs=some x):∃ s:Hour,cs=zq s∧True:=by
 have hl:=zHY Tryz.underlying67 h (k:=5) (by kernel_rfl)
 obtain ⟨n0,y0,h0⟩:=zAR Tryz.underlying67 h (j:=0) rfl rfl (k:=2) (by kernel_rfl)
 obtain ⟨n1,y1,h1⟩:=zAR Tryz.underlying67 h (j:=1) rfl rfl (k:=1) (by kernel_rfl)
 obtain ⟨n2,y2,h2⟩:=zAR Tryz.underlying67 h (j:=2) rfl rfl (k:=1) (by kernel_rfl)
 obtain ⟨n3,y3,h3⟩:=zAR Tryz.underlying67 h (j:=3) rfl rfl (k:=1) (by kernel_rfl)
 obtain ⟨a,e0,f0⟩:=zF7 h0
 obtain ⟨b,e1,f1⟩:=zC9 Tryz.underlying3 h1
 obtain ⟨c,e2,f2⟩:=zC9 Tryz.underlying3 h2
 obtain ⟨d,e3,_⟩:=DataW.trod_bool Tryz.underlying4 h3
 match cs,hl with
 | [c0,c1,c2,c3,c4],_ =>
  simp [zBD] at e0 e1 e2 e3
  exact ⟨⟨a,b,c,d⟩,by simp [zq,e0,e1,e2,e3],trivial⟩
set_option maxRecDepth 20000 in
theorem zMD {base:Nat} {r:Reach} {v:Value} {dd:DataW H} {p:List MemPlace} (hv:Value.okWide Tryz.prog w r base 30 v) (h:DataW.Trod enc Tryz.prog w 0 (fun _=>true) held 30 v dd p) :
  ∃ (c:Cov) (A:Option Addr) (ca:Nat) (B:Option Addr) (cb:Nat) (C:Option Addr) (cc:Nat),v=zAI c A ca B cb C cc∧zAk w c A B C∧zFb c.t:=by
 obtain ⟨cs,rfl,_⟩:=okWide_struct Tryz.underlying30 hv
 obtain ⟨fuel,hf⟩:=h
 have hl:=zHY Tryz.underlying30 hf (k:=10) (by kernel_rfl)
 obtain ⟨n0,y0,h0⟩:=zAR Tryz.underlying30 hf (j:=0) rfl rfl (k:=1) (by kernel_rfl)
 obtain ⟨n1,y1,h1⟩:=zAR Tryz.underlying30 hf (j:=1) rfl rfl (k:=1) (by kernel_rfl)
 obtain ⟨n2,y2,h2⟩:=zAR Tryz.underlying30 hf (j:=2) rfl rfl (k:=1) (by kernel_rfl)
 obtain ⟨n3,y3,h3⟩:=zAR Tryz.underlying30 hf (j:=3) rfl rfl (k:=2) (by kernel_rfl)
 obtain ⟨n4,y4,h4⟩:=zAR Tryz.underlying30 hf (j:=4) rfl rfl (k:=2) (by kernel_rfl)
 obtain ⟨n5,y5,h5⟩:=zAR Tryz.underlying30 hf (j:=5) rfl rfl (k:=1) (by kernel_rfl)
 obtain ⟨n6,y6,h6⟩:=zAR Tryz.underlying30 hf (j:=6) rfl rfl (k:=1) (by kernel_rfl)
 obtain ⟨n7,y7,h7⟩:=zAR Tryz.underlying30 hf (j:=7) rfl rfl (k:=1) (by kernel_rfl)
 obtain ⟨n8,y8,h8⟩:=zAR Tryz.underlying24 h0 (j:=0) rfl rfl (k:=1) (by kernel_rfl)
 obtain ⟨A,t,ca,e0,s0,f0,_,_⟩:=zDn (en:=zA5) (k:=9) (ok:=FitSt) Tryz.underlying22 (by kernel_rfl) (by omega) (fun _=>rfl) (fun _ _ _ h=>rd_st h) h8
 obtain ⟨B,be,cb,e1,s1,_,_,_⟩:=zDn (en:=zAd) (k:=3) (ok:=fun _=>True) Tryz.underlying25 (by kernel_rfl) (by omega) (fun _=>rfl) (fun _ _ _ h=>rd_bed h) h1
 obtain ⟨C,ho,cc,e2,s2,_,_,_⟩:=zDn (en:=zq) (k:=5) (ok:=fun _=>True) Tryz.underlying26 (by kernel_rfl) (by omega) (fun _=>rfl) (fun _ _ _ h=>zOF h) h2
 obtain ⟨we,e3,_⟩:=zF7 h3
 obtain ⟨la,e4,_⟩:=zF7 h4
 obtain ⟨ra,e5,_⟩:=zC9 Tryz.underlying3 h5
 obtain ⟨li,e6,_⟩:=zC9 Tryz.underlying3 h6
 obtain ⟨ba,e7,_⟩:=zC9 Tryz.underlying3 h7
 refine ⟨⟨t,be,ho,we,la,ra,li,ba⟩,A,ca,B,cb,C,cc,?_,⟨s0,s1,s2⟩,fun s hs=>(f0 s hs).2.2.2.2.1⟩
 obtain ⟨l⟩:=cs
 match l,hl with
 | [c0,c1,c2,c3,c4,c5,c6,c7,c8,c9],_ =>
  simp [Value.cells,zBD] at e0 e1 e2 e3 e4 e5 e6 e7
  simp [zAI,zJ,e0,e1,e2,e3,e4,e5,e6,e7]
end
theorem gLimits : Tryz.prog.globalNamed "kreisel/ice.limits" = some 0:=by kernel_rfl
theorem tLimits : (Tryz.prog.globals[0]?).map (·.type)=some 209:=by kernel_rfl
set_option maxRecDepth 100000 in
theorem zHa {W:World} (h:laidMetH Tryz.prog [("kreisel/ice.limits",Rows.laid_kreisel_ice_limits)] W):InC W 0 0 zCc:=by
 obtain ⟨g,t,cs,fuel,p,hg,ht,hv,hd⟩:=h.funcs (List.mem_singleton.2 rfl)
 obtain rfl:=Option.some.inj (gLimits.symm.trans hg)
 obtain rfl:=Option.some.inj (tLimits.symm.trans ht)
 have hd':DataW.trod (funcToken Tryz.prog) Tryz.prog W 0 (fun _=>true) true fuel 209 cs.toList=some (.agg [.agg [.held [107,114,101,105,115,101,108,47,105,99,101,46,108,105,109,105,116,115,36,49],.held [107,114,101,105,115,101,108,47,105,99,101,46,108,105,109,105,116,115,36,50]],.agg [.held [107,114,101,105,115,101,108,47,105,99,101,46,108,105,109,105,116,115,36,51],.held [107,114,101,105,115,101,108,47,105,99,101,46,108,105,109,105,116,115,36,52]]],p):=hd
 have c192:Tryz.prog.cellsOf 208=2:=by kernel_rfl
 have c193:Tryz.prog.cellsOf 209=4:=by kernel_rfl
 have c142:Tryz.prog.cellsOf 206=1:=by kernel_rfl
 have c68:Tryz.prog.cellsOf 104=1:=by kernel_rfl
 obtain ⟨xs,m,rfl,ex,hlen,hl,hel⟩:=DataW.trod_array Tryz.underlying209 hd'
 rw [c193] at hlen
 have hcell:=fun j=>World.var?_cell hg hv j
 obtain ⟨l⟩:=cs
 simp only at hlen hel
 match xs,hl with
 | [x0,x1],_ =>
  match l,hlen with
  | [a0,a1,a2,a3],_ =>
   have h0:=hel 0 (by omega)
   have h1:=hel 1 (by omega)
   rw [c192] at h0 h1
   simp only [Nat.zero_mul,Nat.one_mul,List.drop_zero,List.take_succ_cons,List.take_zero,List.drop_succ_cons,List.getElem?_cons_zero,List.getElem?_cons_succ] at h0 h1
   simp only [List.map_cons,List.map_nil,Prod.mk.injEq,DataW.agg.injEq,List.cons.injEq,and_true] at ex
   obtain ⟨⟨e0,e1⟩,_⟩:=ex
   obtain ⟨x0a,x0b⟩:=x0
   obtain ⟨x1a,x1b⟩:=x1
   simp only at e0 e1
   subst e0 e1
   obtain ⟨ys,n0,_,ey,_,hy,hf⟩:=DataW.trod_struct Tryz.underlying208 h0
   obtain ⟨zs,n1,_,ez,_,hz,hk⟩:=DataW.trod_struct Tryz.underlying208 h1
   match ys,hy,zs,hz with
   | [y0,y1],_,[z0,z1],_ =>
    have f0:=hf 0 _ rfl
    have f1:=hf 1 _ rfl
    have k0:=hk 0 _ rfl
    have k1:=hk 1 _ rfl
    simp only [c142,c68,List.drop_zero,List.take_succ_cons,List.take_zero,List.drop_succ_cons,List.getElem?_cons_zero,List.getElem?_cons_succ] at f0 f1 k0 k1
    simp only [List.map_cons,List.map_nil,Prod.mk.injEq,DataW.agg.injEq,List.cons.injEq,and_true] at ey ez
    obtain ⟨⟨ey0,ey1⟩,_⟩:=ey
    obtain ⟨⟨ez0,ez1⟩,_⟩:=ez
    obtain ⟨y0a,y0b⟩:=y0
    obtain ⟨y1a,y1b⟩:=y1
    obtain ⟨z0a,z0b⟩:=z0
    obtain ⟨z1a,z1b⟩:=z1
    simp only at ey0 ey1 ez0 ez1
    subst ey0 ey1 ez0 ez1
    obtain rfl:=func_of_trod (f0:=180) Tryz.underlying206 (by kernel_rfl) f0
    obtain rfl:=func_of_trod (f0:=181) Tryz.underlying104 (by kernel_rfl) f1
    obtain rfl:=func_of_trod (f0:=182) Tryz.underlying206 (by kernel_rfl) k0
    obtain rfl:=func_of_trod (f0:=183) Tryz.underlying104 (by kernel_rfl) k1
    refine ⟨fun j v hj=>?_⟩
    rw [Nat.zero_add,hcell j]
    simpa [zCc] using hj
end Go.Proofs.YtdigopgncfhiaaaGreatDoor
namespace Go.Proofs.YtdigopgncfhiaaaGreatDoor
variable {ro : Option Nat}
open Go.RowKit
set_option linter.unusedSectionVars false
structure zAC (α:Type) where
 A:Option Addr
 xs:List α
 c:Nat
structure SlB (α:Type) where
 b:Nat
 xs:List α
 c:Nat
def zAC.v {α:Type} (s:zAC α):Value:=.slice s.A s.xs.length s.c
def zy {α:Type} (s:zAC α):List Value:=[.slice s.A s.xs.length s.c]
def encSb {α:Type} (s:SlB α):List Value:=[.slice (some ⟨s.b,0,none⟩) s.xs.length s.c]
instance encI_of {α:Type}:zCM (zy (α:=α)) 1:=⟨fun _=>rfl,fun s v hv=>by simp [zy] at hv;subst hv;rfl⟩
instance encI_sb {α:Type}:zCM (encSb (α:=α)) 1:=⟨fun _=>rfl,fun s v hv=>by simp [encSb] at hv;subst hv;rfl⟩
def zA3 {α:Type}:zAC α:=⟨none,[],0⟩
structure zC0 {α:Type} (enc:α→List Value) (k:Nat) (w:World) (P:Option Addr) (L:List (zAC α)):Prop where
 p:zx zy 1 w P L
 rows:∀ s∈L,zx enc k w s.A s.xs
theorem zC0.below {α:Type} {enc:α→List Value} {k:Nat} {w W:World} {P:Option Addr} {L:List (zAC α)} (h:zC0 enc k w P L) (hb:Below w.heap.size w W):zC0 enc k W P L:=⟨h.p.below hb,fun s hs=>(h.rows s hs).below hb⟩
def Ent.zBJ {β:Type} (hd:β→List Value) (re:β→Ent) (g:Nat) (L:List β):Ent:=.all (.arr hd 1 g L::L.map re)
def rowOf {α:Type} (enc:α→List Value) (k e:Nat) (s:zAC α):Ent:=.row enc k e (.slice s.A s.xs.length s.c) s.xs
theorem zE2 {α:Type} {x:α}:∀ {l:List α} {i:Nat},l[i]?=some x→l.Perm (x::l.eraseIdx i)
 | [],_,h=>by simp at h
 | y::r,0,h=>by simp at h;subst h;exact List.Perm.refl _
 | y::r,i+1,h=>by
  have h':r[i]?=some x:=by simpa using h
  exact (List.Perm.cons y (zE2 h')).trans (List.Perm.swap _ _ _)
theorem Own.perm {base:Nat} {w:World} {H H':List Ent} (hp:H.Perm H') (h:Own base w H):Own base w H' :=
 ⟨fun e he=>h.here e (hp.mem_iff.2 he),fun e he=>h.foot e (hp.mem_iff.2 he),(hp.pairwise_iff (fun {e f} h b hb hb'=>h b hb' hb)).1 h.apart⟩
section
variable {α β:Type} {hd:β→List Value} {re:β→Ent} {base g:Nat} {w:World} {H H' H1 H2 H3:List Ent} {L:List β}
theorem zL7 {i:Nat} {s:β} (hi:L[i]?=some s) (h:Own base w (.zBJ hd re g L::H)):Own base w (.arr hd 1 g L::re s :: .all ((L.eraseIdx i).map re)::H):=by
 have h1:Own base w ((.arr hd 1 g L::L.map re)++H):=zBh.2 h
 have hp:(L.map re).Perm (re s::(L.eraseIdx i).map re):=by
  have:=(zE2 hi).map re
  simpa using this
 have h2:Own base w ((.arr hd 1 g L::re s::(L.eraseIdx i).map re)++H):=h1.perm (List.Perm.append_right H (List.Perm.cons _ hp))
 exact (zBR (D:=[.arr hd 1 g L,re s]) (L:=(L.eraseIdx i).map re) (B:=H)).1 h2
theorem zHz {i:Nat} {s s':β} (hi:L[i]?=some s) (h:Own base w (.arr hd 1 g (L.set i s')::re s' :: .all ((L.eraseIdx i).map re)::H)):Own base w (.zBJ hd re g (L.set i s')::H):=by
 have h2:Own base w ((.arr hd 1 g (L.set i s')::re s'::(L.eraseIdx i).map re)++H):=(zBR (D:=[.arr hd 1 g (L.set i s'),re s']) (L:=(L.eraseIdx i).map re) (B:=H)).2 h
 obtain ⟨hlt,e⟩:=List.getElem?_eq_some_iff.1 hi
 have hlt':i<(L.set i s').length:=by simpa using hlt
 have hp:(re s'::(L.eraseIdx i).map re).Perm ((L.set i s').map re):=by
  have h9:=(zE2 (l:=L.set i s') (i:=i) (x:=s') (by simp [List.getElem?_set,hlt])).symm.map re
  have e9:(L.set i s').eraseIdx i=L.eraseIdx i:=by rw [List.eraseIdx_set_eq]
  rw [e9] at h9
  simpa using h9
 exact zBh.1 (h2.perm (List.Perm.append_right H (List.Perm.cons _ hp)))
theorem zKN (h:Own base w H) (ht:Take H (.zBJ hd re g L) H') [ei:zCM hd 1]:zx hd 1 w (some ⟨g,0,none⟩) L∧∀ s∈L,(re s).p w:=by
 have h1:Own base w ((.arr hd 1 g L::L.map re)++H'):=zBh.2 (h.take ht)
 refine ⟨?_,fun s hs=>h1.here (re s) (by simp;exact .inr (.inl ⟨s,hs,rfl⟩))⟩
 have:=Own.zNx (enc:=hd) (k:=1) (g:=g) (xs:=L) (Take.here _ _) h1
 exact this.here (.sl hd 1 (some ⟨g,0,none⟩) L) (by simp)
end
theorem zCv {α:Type} {enc:α→List Value} {k e g base:Nat} [ei:zCM enc k] {L:List (zAC α)} {w:World} {H H':List Ent} (h:Own base w H) (ht:Take H (.zBJ zy (rowOf enc k e) g L) H'):zC0 enc k w (some ⟨g,0,none⟩) L:=by
 obtain ⟨h1,h2⟩:=zKN h ht
 exact ⟨h1,fun s hs=>(zDl ei.len (h2 s hs)).2⟩
theorem zNy {α:Type} {enc:α→List Value} {k b:Nat} [ei:zCM enc k] {xs:List α} {w:World} (h:(Ent.arr enc k b xs).p w):zx enc k w (some ⟨b,0,none⟩) xs:=by
 obtain ⟨tl,hB⟩:=h
 intro i z hz
 refine ⟨b,0,rfl,hB.lt,fun j v hv=>?_⟩
 have h1:=zE1 ei.len xs i z hz j v hv
 rw [hB.cell]
 have hlt:=(List.getElem?_eq_some_iff.1 h1).1
 simp only [List.getElem?_toArray,Nat.zero_add]
 rw [List.getElem?_append_left hlt]
 exact h1
def SlB.of {α:Type} (s:SlB α):zAC α:=⟨some ⟨s.b,0,none⟩,s.xs,s.c⟩
section
variable {P : Program} {w0:World} {n:Nat} {d:List Deferred} {R:List (Nat × Value)} {H H' H1 H2 H3:List Ent} {Q:Exit→Act→World→Prop} {ops:Array Oper} {rest:List Oper} {o:Oper} {t:Tmp} {x y:Operand} {v:Value} {X:Act→World→Prop}
theorem zCj {β:Type} {hd:β→List Value} {re:β→Ent} {g:Nat} {L:List β} (i:Nat) {s:β} (hi:L[i]?=some s) (ht:Take H (.zBJ hd re g L) H') (h:U w0 n d R (.arr hd 1 g (L.set i s)::re s :: .all ((L.eraseIdx i).map re)::H') X):U w0 n d R H X:=fun a w q=>by
 have e:L.set i s=L:=by
  obtain ⟨hlt,e⟩:=List.getElem?_eq_some_iff.1 hi
  subst e
  exact List.set_getElem_self hlt
 rw [e] at h
 exact h a w (q.heap q.below (zL7 hi (q.own.take ht)))
theorem zCi {β:Type} {hd:β→List Value} {re:β→Ent} {g:Nat} {L:List β} (i:Nat) {s:β} (s':β) (hi:L[i]?=some s) (ht:Take H (.arr hd 1 g (L.set i s')) H1) (ht1:Take H1 (re s') H2) (ht2:Take H2 (.all ((L.eraseIdx i).map re)) H3) (h:U w0 n d R (.zBJ hd re g (L.set i s')::H3) X):U w0 n d R H X:=fun a w q=>by
 refine h a w (q.heap q.below (zHz hi ?_))
 have h1:=q.own.take ht
 have h2:=h1.take (Take.there _ ht1)
 have h3:=h2.take (Take.there _ (Take.there _ ht2))
 refine h3.perm ?_
 exact (List.Perm.swap _ _ _).trans ((List.Perm.cons _ (List.Perm.swap _ _ _)).trans ((List.Perm.swap _ _ _).trans (List.Perm.refl _)))
theorem zLg {α:Type} {enc:α→List Value} {k e:Nat} (h:U w0 n d R (.row enc k e (.slice none 0 0) ([]:List α)::H) X):U w0 n d R H X:=fun a w q=>by
 refine h a w (q.heap q.below ⟨fun f hf=>?_,fun f hf b hb=>?_,List.pairwise_cons.2 ⟨fun f hf b hb=>?_,q.own.apart⟩⟩)
 ·rcases List.mem_cons.1 hf with rfl|hf
  ·exact Row.nil
  ·exact q.own.here f hf
 ·rcases List.mem_cons.1 hf with rfl|hf
  ·cases hb
  ·exact q.own.foot f hf b hb
 ·cases hb
theorem zFO {α:Type} {enc:α→List Value} {k e g base:Nat} {w:World}:∀ (m:Nat) {H:List Ent},Own base w H→Own base w (((List.replicate m (zA3:zAC α)).map (rowOf enc k e))++H)
 | 0,H,h=>h
 | m+1,H,h=>by
  have ih:=zFO (α:=α) (enc:=enc) (k:=k) (e:=e) (g:=g) m h
  rw [List.replicate_succ,List.map_cons,List.cons_append]
  refine ⟨fun f hf=>?_,fun f hf b hb=>?_,List.pairwise_cons.2 ⟨fun f hf b hb=>?_,ih.apart⟩⟩
  ·rcases List.mem_cons.1 hf with rfl|hf
   ·exact Row.nil
   ·exact ih.here f hf
  ·rcases List.mem_cons.1 hf with rfl|hf
   ·cases hb
   ·exact ih.foot f hf b hb
  ·cases hb
theorem zIW {α:Type} {enc:α→List Value} {k e g m:Nat} (ht:Take H (.blk g (List.replicate m (.slice none 0 0))) H') (h:U w0 n d R (.zBJ zy (rowOf enc k e) g (List.replicate m (zA3:zAC α))::H') X):U w0 n d R H X:=fun a w q=>by
 refine h a w (q.heap q.below (zBh.1 ?_))
 have h1:Own w0.heap.size w (.arr zy 1 g (List.replicate m (zA3:zAC α))::H'):=(q.own.take ht).recast (fun hp=>⟨[],by
  have:(List.replicate m (zA3:zAC α)).flatMap zy++[]=List.replicate m (.slice none 0 0):=by
   rw [List.append_nil]
   clear ht h q hp
   induction m with
   | zero=>rfl
   | succ m ih=>rw [List.replicate_succ,List.flatMap_cons,ih,List.replicate_succ];rfl
  rw [this];exact hp⟩) (fun b hb=>hb)
 have h2:=zFO (α:=α) (enc:=enc) (k:=k) (e:=e) (g:=g) m h1
 refine h2.perm ?_
 exact List.perm_middle
theorem zKy {T1 e:TypeId} {i:TypeInfo} {z v:Value} {n0 s:Nat} {g:Bool} (hop:o.op = .makeSlice T1 x y) [i1:TyI P T1 (.slice e) s g] (hi:P.info? e=some i) (hz:i.zero=some z) (h1:i.size=1) (hcz:z.cells=#[v]) (hb:Nat.ble (i.bytes * 1000) 281474976710656=true) (hw:want R ops o=some true) (hd:o.dst=some t) (ht:Nat.blt t n=true) (hx:evR R x=some (.int .i64 (n0:Int))) (hy:evR R y=some (.int .i64 (n0:Int))) (hn:n0≤1000)
  (h:∀ b,U w0 n d ((t,.slice (some ⟨b,0,none⟩) n0 n0)::R) (.blk b (List.replicate n0 v)::H) (wpL ro P ops Q rest)):U w0 n d R H (wpL ro P ops Q (o::rest)) :=
 zD2 hw fun a w q K hK=>by
  have hb':(i.bytes:Int) * (n0:Int)≤281474976710656:=by
   have h9:=Nat.le_of_ble_eq_true hb
   have h8:i.bytes * n0≤i.bytes * 1000:=Nat.mul_le_mul_left _ hn
   have h7:((i.bytes * n0:Nat):Int)≤281474976710656:=by omega
   rwa [Int.natCast_mul] at h7
  have hr:=run_make (P:=P) w T1 e i z i1.und hi hz .i64 .i64 n0 n0 (by omega) (Int.le_refl _) hb' (by omega)
  have hm:madeCells z.cells (n0 * i.size)=(List.replicate n0 v).toArray:=by
   apply Array.ext'
   simp [madeCells,h1,hcz]
   apply List.ext_getElem?
   intro j
   rw [List.getElem?_map,List.getElem?_replicate]
   by_cases hj:j<n0
   ·rw [List.getElem?_range hj,if_pos hj];simp [Nat.mod_one]
   ·rw [List.getElem?_eq_none (by simpa using hj),if_neg hj];rfl
  simp only [Int.toNat_natCast,hm] at hr
  unfold Oper.wp execOp;rw [hop]
  simp only [Sem.run_bind,q.ev hx,q.ev hy,hr,Result.andThen_ok,Sem.run_pure,Oper.upon_value,hd]
  exact hK _ _ (h w.heap.size _ _ ((q.alloc _ e).put ht))
theorem zCs {β:Type} {hd:β→List Value} [ei:zCM hd 1] {g i:Nat} {gg:Bool} {T1:TypeId} {td:TypeDesc} {L:List β} {s:β} (s':β) (hop:o.op = .store T1 x y) [i1:TyI P T1 td 1 gg] (hw:want R ops o=some true) (hdt:o.dst=none) (hx:evR R x=some (.pointer (some ⟨g,0+i * 1,none⟩))) (hy:evR R y=some v) (hv:v.cells.toList=hd s') (ht:Take H (.arr hd 1 g (L.set i s)) H') (hi:i<L.length)
  (h:U w0 n d R (.arr hd 1 g (L.set i s')::H') (wpL ro P ops Q rest)):U w0 n d R H (wpL ro P ops Q (o::rest)):=by
 have i2:zKt H g hd 1 (L.set i s) H':=⟨ht⟩
 have i3:zAU (L.set i s) i s:=⟨by simp [hi]⟩
 refine zFC (j:=0) (z:=s) s' hop hw hdt hx hy ?_ ?_ ?_ (by omega) ?_
 ·rw [hv]
  have h1:=ei.len s
  have h2:=ei.len s'
  match h3:hd s,h4:hd s' with
  | [a],[b]=>rfl
  | [],_=>rw [h3] at h1;cases h1
  | _::_::_,_=>rw [h3] at h1;cases h1
  | [_],[]=>rw [h4] at h2;cases h2
  | [_],_::_::_=>rw [h4] at h2;cases h2
 ·rw [hv,ei.len];rfl
 ·rw [hv];exact List.all_eq_true.2 (ei.one s')
 ·rw [List.set_set];exact h
theorem zGL {β:Type} {hd:β→List Value} {re:β→Ent} {g:Nat} {L:List β} (i:Nat) {s:β} (hi:L[i]?=some s) (ht:Take H (.arr hd 1 g (L.set i s)) H1) (ht1:Take H1 (re s) H2) (ht2:Take H2 (.all ((L.eraseIdx i).map re)) H3) (h:U w0 n d R (.zBJ hd re g L::H3) X):U w0 n d R H X:=by
 refine zCi i s hi ht ht1 ht2 ?_
 have e:L.set i s=L:=by
  obtain ⟨hlt,e⟩:=List.getElem?_eq_some_iff.1 hi
  subst e
  exact List.set_getElem_self hlt
 rw [e];exact h
class zLb (H:List Ent) (g:Nat) {β:outParam Type} (hd:outParam (β→List Value)) (re:outParam (β→Ent)) (L:outParam (List β)) (H':outParam (List Ent)):Prop where tk:Take H (.zBJ hd re g L) H'
instance (priority := high) takeTb_here {H:List Ent} {g:Nat} {β:Type} {hd:β→List Value} {re:β→Ent} {L:List β}:zLb (.zBJ hd re g L::H) g hd re L H:=⟨Take.here _ _⟩
instance takeTb_there {H H':List Ent} {f:Ent} {g:Nat} {β:Type} {hd:β→List Value} {re:β→Ent} {L:List β} [i:zLb H g hd re L H']:zLb (f::H) g hd re L (f::H'):=⟨Take.there _ i.tk⟩
instance srcI_tb {g i:Nat} {β:Type} {hd:β→List Value} {re:β→Ent} {L:List β} {s:β} [ei:zCM hd 1] [i1:zLb H g hd re L H'] [i2:zAU L i s]:zGc w0 H g (0+i * 1) (hd s):=⟨fun w hb ho j v hv=>by
 have h1:=(zKN ho i1.tk).1
 obtain ⟨b,o,hA,hlt,hc⟩:=h1 i s i2.get
 cases hA
 exact hc j v hv⟩
theorem zEo {α:Type} {enc:α→List Value} {k e g:Nat} {L:List (zAC α)} (i:Nat) {s:zAC α} (xs':List α) (hl:xs'.length=s.xs.length) (hi:L[i]?=some s) (ht:Take H (.arr zy 1 g (L.set i s)) H1) (ht1:Take H1 (.row enc k e (.slice s.A s.xs.length s.c) xs') H2) (ht2:Take H2 (.all ((L.eraseIdx i).map (rowOf enc k e))) H3) (h:U w0 n d R (.zBJ zy (rowOf enc k e) g (L.set i ⟨s.A,xs',s.c⟩)::H3) X):U w0 n d R H X:=fun a w q=>by
 have h1:=q.own.take ht
 have h1':Own w0.heap.size w (.arr zy 1 g (L.set i ⟨s.A,xs',s.c⟩)::H1):=h1.recast (fun hp=>by
  obtain ⟨tl,hB⟩:=hp
  have e1:∀ (L:List (zAC α)) (i:Nat),(L.set i s).flatMap zy=(L.set i ⟨s.A,xs',s.c⟩).flatMap zy:=by
   intro L
   induction L with
   | nil=>intro i;rfl
   | cons y r ih =>
    intro i
    cases i with
    | zero=>simp [zy,hl]
    | succ i=>simp only [List.set_cons_succ,List.flatMap_cons];rw [ih i]
  refine ⟨tl,?_⟩
  rw [← e1];exact hB) (fun b hb=>hb)
 have ht1':Take H1 (rowOf enc k e ⟨s.A,xs',s.c⟩) H2:=by
  unfold rowOf;simp only;rw [hl];exact ht1
 have h2:=h1'.take (Take.there _ ht1')
 have h3:=h2.take (Take.there _ (Take.there _ ht2))
 refine h a w (q.heap q.below (zHz hi (h3.perm ?_)))
 exact (List.Perm.swap _ _ _).trans ((List.Perm.cons _ (List.Perm.swap _ _ _)).trans ((List.Perm.swap _ _ _).trans (List.Perm.refl _)))
theorem zHL {α:Type} {enc:α→List Value} {k e:Nat} {A:Option Addr} {m c:Nat} {xs:List α} (ht:Take H (.row enc k e (.slice A m c) xs) H') (h0:0<xs.length) (h:∀ g,A=some ⟨g,0,none⟩→U w0 n d R H X):U w0 n d R H X:=fun a w q=>by
 have hr:Row enc k e 0 w (.slice A m c) xs:=q.own.here _ ht.mem
 rcases hr.2 with ⟨_,h4⟩ | ⟨b,cap,cur,hv,_⟩
 ·omega
 ·cases hv
  exact h b rfl a w q
class zJj (H:List Ent) (g:Nat) {α:outParam Type} (enc:outParam (α→List Value)) (k e m c:outParam Nat) (xs:outParam (List α)) (H':outParam (List Ent)):Prop where tk:Take H (.row enc k e (.slice (some ⟨g,0,none⟩) m c) xs) H'
instance (priority := high) takeRw_here {H:List Ent} {g:Nat} {α:Type} {enc:α→List Value} {k e m c:Nat} {xs:List α}:zJj (.row enc k e (.slice (some ⟨g,0,none⟩) m c) xs::H) g enc k e m c xs H:=⟨Take.here _ _⟩
instance takeRw_there {H H':List Ent} {f:Ent} {g:Nat} {α:Type} {enc:α→List Value} {k e m c:Nat} {xs:List α} [i:zJj H g enc k e m c xs H']:zJj (f::H) g enc k e m c xs (f::H'):=⟨Take.there _ i.tk⟩
instance srcI_rw {g i k e m c:Nat} {α:Type} {enc:α→List Value} {xs:List α} {z:α} [ei:zCM enc k] [i1:zJj H g enc k e m c xs H'] [i2:zAU xs i z]:zGc w0 H g (0+i * k) (enc z):=⟨fun w hb ho j v hv=>by
 have h1:=(zDl ei.len (ho.here _ i1.tk.mem:Row enc k e 0 w (.slice (some ⟨g,0,none⟩) m c) xs)).2
 obtain ⟨b,o,hA,hlt,hc⟩:=h1 i z i2.get
 cases hA
 exact hc j v hv⟩
theorem zMd {α:Type} {enc:α→List Value} (henc:∀ x,(enc x).length=1) {z':α} {v:Value} (hv:enc z'=[v]):∀ (xs:List α) (i:Nat),(xs.set i z').flatMap enc=(xs.flatMap enc).set i v
 | [],i=>by simp
 | x::r,0=>by
  have h:=henc x
  match hx:enc x with
  | [a]=>simp [hx,hv]
  | []=>rw [hx] at h;cases h
  | _::_::_=>rw [hx] at h;cases h
 | x::r,i+1=>by
  have h:=henc x
  have ih:=zMd henc hv r i
  match hx:enc x with
  | [a]=>simp [hx,ih]
  | []=>rw [hx] at h;cases h
  | _::_::_=>rw [hx] at h;cases h
theorem zCr {α:Type} {enc:α→List Value} [ei:zCM enc 1] {g i e m c:Nat} {gg:Bool} {T1:TypeId} {td:TypeDesc} {xs:List α} (z':α) (hop:o.op = .store T1 x y) [i1:TyI P T1 td 1 gg] (hw:want R ops o=some true) (hd:o.dst=none) (hx:evR R x=some (.pointer (some ⟨g,0+i * 1,none⟩))) (hy:evR R y=some v) (hv:enc z'=[v]) (hc1:v.cells=#[v]) (hv1:v.oneCell'=true) [i2:zJj H g enc 1 e m c xs H'] (hi:i<xs.length)
  (h:U w0 n d R (.row enc 1 e (.slice (some ⟨g,0,none⟩) m c) (xs.set i z')::H') (wpL ro P ops Q rest)):U w0 n d R H (wpL ro P ops Q (o::rest)) :=
 zD2 hw fun a w q K1 hK=>by
  have ho:=q.own.take i2.tk
  have hr:Row enc 1 e 0 w (.slice (some ⟨g,0,none⟩) m c) xs:=ho.here (.row enc 1 e (.slice (some ⟨g,0,none⟩) m c) xs) (by simp)
  have hm:m=xs.length:=(zDl ei.len hr).1
  subst hm
  unfold Row at hr
  have hlen:(xs.flatMap enc).length=xs.length:=by simpa using hr.1
  have e1:=i1.siz w
  have hfoot:=ho.foot (.row enc 1 e (.slice (some ⟨g,0,none⟩) xs.length c) xs) (by simp) g rfl
  have hrun:(Instr.storeAt T1 (.pointer (some ⟨g,0+i * 1,none⟩)) v).run P w = .ok () (w.setCells g (0+i * 1) [v]):=by
   have:=run_storeCells_cells (P:=P) g (0+i * 1) [v] 0 w (fun j hj=>by
    have h9:j=0:=by simp at hj;omega
    subst h9
    rw [show 0+i * 1+0+0=i by omega,hr.cellAt i (by omega)]
    rw [List.getElem?_eq_getElem (by omega)];rfl) (fun j hj=>hr.frozenAt _) (fun u hu=>by simp at hu;subst hu;exact hv1)
   simp only [Nat.add_zero] at this
   have hsz:¬ v.cells.size≠1:=by rw [hc1];simp
   unfold Instr.storeAt storeVar
   simp only [Sem.run_bind,Instr.sureAddr,Sem.run_pure,Result.andThen_ok,e1,Sem.run_ite,hsz,if_false]
   rw [hc1]
   exact this
  have hst:=hr.stored i v
  have e2:w.setCells g (0+i * 1) [v]=w.setCell ⟨g,i,none⟩ v:=by simp [World.setCells]
  rw [e2] at hrun
  unfold Oper.wp execOp;rw [hop]
  simp only [Sem.run_bind,q.ev hx,q.ev hy,hrun,Result.andThen_ok,Sem.run_pure,Oper.upon_skip,hd]
  have hother:∀ b,b≠g→(w.setCell ⟨g,i,none⟩ v).heap[b]?=w.heap[b]?:=fun b hb=>Below.heap_setCell _ _ _ _ hb
  have hsize:(w.setCell ⟨g,i,none⟩ v).heap.size=w.heap.size:=by simp
  refine hK _ _ (h _ _ (q.heap ?_ ?_))
  ·exact q.below.trans ⟨rfl,rfl,rfl,by omega,fun k hk=>hother k (by omega)⟩
  ·refine ho.turn (by omega) (fun b hb hn=>hother b (fun e=>hn (by subst e;rfl))) q.base ?_ (fun b hb=>⟨.inl hb,?_⟩)
   ·show Row enc 1 e 0 _ _ (xs.set i z')
    unfold Row
    rw [zMd ei.len hv,List.length_set]
    exact hst.1
   ·rw [hsize];cases hb;exact hfoot.2
theorem u_makeR {α:Type} {enc:α→List Value} [ei:zCM enc 1] (z0:α) {T1 e:TypeId} {i:TypeInfo} {z:Value} {n0 s:Nat} {g:Bool} (hop:o.op = .makeSlice T1 x y) [i1:TyI P T1 (.slice e) s g] (hi:P.info? e=some i) (hz:i.zero=some z) (h1:i.size=1) (hcz:z.cells=#[z]) (hez:enc z0=[z]) (hb:Nat.ble (i.bytes * 1000) 281474976710656=true) (hw:want R ops o=some true) (hd:o.dst=some t) (ht:Nat.blt t n=true) (hx:evR R x=some (.int .i64 (n0:Int))) (hy:evR R y=some (.int .i64 (n0:Int))) (hn:n0≤1000)
  (h:∀ b,U w0 n d ((t,.slice (some ⟨b,0,none⟩) n0 n0)::R) (.row enc 1 e (.slice (some ⟨b,0,none⟩) n0 n0) (List.replicate n0 z0)::H) (wpL ro P ops Q rest)):U w0 n d R H (wpL ro P ops Q (o::rest)) :=
 zD2 hw fun a w q K hK=>by
  have hb':(i.bytes:Int) * (n0:Int)≤281474976710656:=by
   have h9:=Nat.le_of_ble_eq_true hb
   have h8:i.bytes * n0≤i.bytes * 1000:=Nat.mul_le_mul_left _ hn
   have h7:((i.bytes * n0:Nat):Int)≤281474976710656:=by omega
   rwa [Int.natCast_mul] at h7
  have hr:=run_make (P:=P) w T1 e i z i1.und hi hz .i64 .i64 n0 n0 (by omega) (Int.le_refl _) hb' (by omega)
  simp only [Int.toNat_natCast,h1,Nat.mul_one,hcz] at hr
  unfold Oper.wp execOp;rw [hop]
  simp only [Sem.run_bind,q.ev hx,q.ev hy,hr,Result.andThen_ok,Sem.run_pure,Oper.upon_value,hd]
  have hfl:(List.replicate n0 z0).flatMap enc=List.replicate n0 z:=by
   clear hn hx hy hr hb' h
   induction n0 with
   | zero=>rfl
   | succ m ih=>rw [List.replicate_succ,List.flatMap_cons,ih,hez,List.replicate_succ];rfl
  refine hK _ _ (h w.heap.size _ _ ((q.call (E:=[.row enc 1 e (.slice (some ⟨w.heap.size,0,none⟩) n0 n0) (List.replicate n0 z0)]) (zAB w _) ⟨fun f hf=>?_,fun f hf b hb=>?_,by simp⟩).put ht))
  ·simp only [List.mem_singleton] at hf
   subst hf
   show Row enc 1 e 0 _ _ _
   unfold Row
   rw [hfl]
   refine ⟨by simp,.inr ⟨w.heap.size,n0,madeCells #[z] n0,by simp,Nat.zero_le _,heap_alloc_new w _,by simp,by simp [maxLen];omega,by simp [madeCells],?_⟩⟩
   have:=toList_madeCells_one z n0
   rw [this];simp
  ·simp only [List.mem_singleton] at hf;subst hf;cases hb;simp
end
end Go.Proofs.YtdigopgncfhiaaaGreatDoor
