/- ZQ9 -/
import Derived.Test.YtcpdjamlhhfbhaaGreatZQ8
import Derived.Test.YtcpdjamlhhfbhaaGreatZQ7
set_option linter.unusedSimpArgs false
set_option linter.unusedVariables false
namespace Go.Proofs.YtcpdjamlhhfbhaaGreat
variable {ro : Option Nat}
open Go.RowKit
set_option maxRecDepth 20000
section
variable {P : Program} {w0:World} {n:Nat} {d:List Deferred} {R:List (Nat × Value)} {H:List Ent} {Q:Exit→Act→World→Prop} {ops:Array Oper} {rest:List Oper} {o:Oper} {t:Tmp} {x y:Operand}
theorem u_eqb {T T':TypeId} {s:Nat} {g:Bool} {a b:Bool} (hop:o.op = .binOp .eql T x y T') [i1:TyI P T .bool s g] (hrd:rdy R ops n o=some t) (hx:evR R x=some (.bool a)) (hy:evR R y=some (.bool b))
  (h:U w0 n d ((t,.bool (a == b))::R) H (wpL ro P ops Q rest)):U w0 n d R H (wpL ro P ops Q (o::rest)) :=
 zAg hrd (fun a' w q=>by
  have e:=zFa (P:=P) (T:=T) a b w
  unfold execOp;rw [hop]
  cases a<;>cases b<;>simp [q.ev hx,q.ev hy,eqGuard,binOp,Op.equal,e]) h
end
structure RiM where
 s:SlM
 t:List St
 A:Option Addr
 c:Nat
 b:Bool
def zDS (r:RiM):List Value:=[.int .u8 r.s.cls,.int .i64 r.s.start.lo,.int .i64 r.s.start.hi,.int .i64 r.s.rub.lo,.int .i64 r.s.rub.hi,.int .i64 r.s.drag.lo,.int .i64 r.s.drag.hi,.int .i64 r.s.weight.lo,.int .i64 r.s.weight.hi,.int .i64 r.s.steer.lo,.int .i64 r.s.steer.hi,.slice r.A r.t.length r.c,.bool r.b]
def vRi (r:RiM):Value:=.agg #[.int .u8 r.s.cls,.int .i64 r.s.start.lo,.int .i64 r.s.start.hi,.int .i64 r.s.rub.lo,.int .i64 r.s.rub.hi,.int .i64 r.s.drag.lo,.int .i64 r.s.drag.hi,.int .i64 r.s.weight.lo,.int .i64 r.s.weight.hi,.int .i64 r.s.steer.lo,.int .i64 r.s.steer.hi,.slice r.A r.t.length r.c,.bool r.b]
theorem okSp_iff {s:Sp} {lo hi:Int} (h:lo≤hi):(s.lo=max lo (min s.lo s.hi)∧s.hi=min hi (max s.lo s.hi))↔(lo≤s.lo∧s.lo≤s.hi∧s.hi≤hi):=by
 constructor
 ·rintro ⟨h1,h2⟩;omega
 ·rintro ⟨h1,h2,h3⟩;omega
set_option maxHeartbeats 1000000 in
theorem zGw (s:Sp) (lo hi:Int) (A:Option Addr) (c:Nat) (w:World) (h:lo≤hi) (hA:zAB zo 2 w A [s]):Gv Tryz.prog 109 [.int .i64 lo,.int .i64 hi,.slice A 1 c] w (.bool (zAt s lo hi)):=by
 have hiff:=okSp_iff (s:=s) h
 obtain ⟨bA,oA,rfl,_,_⟩:=hA.at_ (show 0 < [s].length by simp)
 have:InS w bA oA zo 2 [s]:=⟨hA⟩
 have:zAZ [s] 0 s:=⟨rfl⟩
 unfold Gv
 (refine ze (n:=33) Tryz.func109 rfl rfl rfl ?_)
 (repeat' (first|((with_reducible refine zV ?_);first|refine zO rfl rfl rfl ?_|refine zD rfl rfl rfl ?_|refine zj rfl rfl rfl ?_)|(with_reducible first|refine zW ?_|refine zC ?_|refine zU ?_|refine zB ?_|refine zP ?_)))
 refine zAC (ι:=Nat) [0,1,9,10] rfl (fun i=>i≤1∧(1≤i→zAt s lo hi=true)) (fun i=>[(11,.int .i64 (i:Int))]) (fun _=>[]) (fun i=>1 - i) 0 ⟨by omega,by omega⟩ (by (repeat first|exact lK1|refine zp rfl ?_)) (by (repeat constructor)) ?_
 rintro i ⟨hi',hk⟩
 simp only [zAm,List.cons_append,List.nil_append]
 by_cases hlt:i<1
 ·obtain rfl:i=0:=by omega
  (repeat' (first|((with_reducible refine zV ?_);first|refine zO rfl rfl rfl ?_|refine zD rfl rfl rfl ?_|(refine zQ rfl rfl rfl ?_;refine ⟨_,rfl,?_⟩)|refine zS rfl rfl rfl ?_|(refine zd rfl rfl rfl rfl rfl (fun h=>?_) (fun h=>?_)<;>(dsimp only [cmpP] at h;(try (exfalso;omega))))|refine zK (I:=0) rfl rfl rfl rfl rfl (by decide) ?_|(refine u_nesp rfl rfl rfl rfl (fun h=>?_) (fun h=>?_)<;>(try (exfalso;omega)))|refine zb rfl rfl rfl rfl (by omega) ?_|(refine zg rfl rfl rfl rfl rfl ?_;refine ⟨rfl,by first|decide|exact Nat.le_of_ble_eq_true rfl|(simp;omega),_,rfl,?_⟩)|(refine zh rfl rfl (fun b=>?_))|(refine zy rfl rfl rfl ?_;refine ⟨_,rfl,?_⟩)|refine zA5 rfl rfl rfl rfl ?_|refine zAd rfl rfl rfl rfl ?_)|(with_reducible first|refine zW ?_|refine zC ?_|refine zU ?_|refine zB ?_|refine zX ?_|refine zT ?_|refine zF ?_|refine zP ?_|refine zY ?_|refine za ?_)|((with_reducible refine zI ?_ ?_);(· exact rfl))|((with_reducible refine zH ?_ ?_);(· exact rfl))))
  ·exact z6 (ι:=Nat) 1 ⟨by omega,fun _=>zAa.2 (hiff.1 h)⟩ (by omega) (by (repeat first|exact lK1|refine zp rfl ?_)) (by (repeat constructor))
  ·have e:zAt s lo hi=false:=zBn.2 (fun h9=>h (hiff.2 h9))
   rw [e]
   exact zk (by exact rTm rfl) () trivial rfl (fun _ h=>h.sub (by (repeat constructor)))
 ·obtain rfl:i=1:=by omega
  rw [hk (by omega)]
  (repeat' (first|((with_reducible refine zV ?_);first|refine zD rfl rfl rfl ?_|(refine zd rfl rfl rfl rfl rfl (fun h=>?_) (fun h=>?_)<;>(dsimp only [cmpP] at h;(try (exfalso;omega)))))|(with_reducible first|refine zW ?_|refine zC ?_|refine zU ?_|refine zB ?_|refine zX ?_|refine zZ ?_|refine zG ?_|refine zJ ?_)|((with_reducible refine zH ?_ ?_);(· exact rfl))))
  exact zk (by exact rTm rfl) () trivial rfl (fun _ h=>h.sub (by (repeat constructor)))
set_option maxHeartbeats 2000000 in
theorem zHh (s:SlM) (w:World):Gv Tryz.prog 65 [vSl s] w (.int .i64 (if zDC s then 0 else 30)):=by
 obtain ⟨E,hE⟩:∃ E:Int,E=if zDC s then 0 else 30:=⟨_,rfl⟩
 have hno:(zBq s→False)→E=30:=fun h=>by rw [hE,if_neg (fun h9=>h (zB7.1 h9))]
 have hyes:zBq s→E=0:=fun h=>by rw [hE,if_pos (zB7.2 h)]
 rw [← hE]
 clear hE
 obtain ⟨cls,st,ru,dr,we,se⟩:=s
 unfold Gv vSl
 simp only
 (refine ze (n:=46) Tryz.func65 rfl rfl rfl ?_)
 (repeat' (first|((with_reducible refine zV ?_);first|refine zO rfl rfl rfl ?_|refine zD rfl rfl rfl ?_|(refine zQ rfl rfl rfl ?_;refine ⟨_,rfl,?_⟩)|refine zS rfl rfl rfl ?_|refine zr rfl rfl rfl rfl ?_|refine zN rfl rfl rfl ?_|(refine zd rfl rfl rfl rfl rfl (fun h=>?_) (fun h=>?_)<;>(dsimp only [cmpP] at h;(try (exfalso;omega))))|(refine zBN rfl rfl rfl rfl (fun _ _ q=>zGw _ _ _ _ _ _ (by decide) (zAO (enc:=zo) (by exact rfl) _ q.below q.own)) (fun h=>?_) (fun h=>?_)<;>(simp only [zAa,zBn] at h)<;>(try (exfalso;omega)))|refine zt rfl rfl rfl ?_|(refine zl rfl rfl rfl rfl (fun b=>?_))|(refine zR rfl rfl rfl ?_;refine ⟨rfl,_,rfl,fun b=>?_⟩))|(with_reducible first|refine zW ?_|refine zC ?_|refine zU ?_|refine zB ?_|refine zX ?_|refine zT ?_|refine zF ?_)|((with_reducible refine zI ?_ ?_);(· exact rfl))|((with_reducible refine zH ?_ ?_);(· exact rfl))))
 all_goals first|(refine zk (by exact rTm rfl) () trivial ?_ (fun _ h=>h.sub (by (repeat constructor)));refine congrArg (Value.int .i64) (hyes ⟨by simp only;omega,by simp only;omega,by simp only;omega,by simp only;omega,by simp only;omega,by simp only;omega⟩);done)|(refine zk (by exact rTm rfl) () trivial ?_ (fun _ h=>h.sub (by (repeat constructor)));refine congrArg (Value.int .i64) (hno fun hF=>?_);have h1:=hF.cls;have h2:=hF.start;have h3:=hF.rub;have h4:=hF.drag;have h5:=hF.weight;have h6:=hF.steer;simp only at h1 h2 h3 h4 h5 h6;omega)
theorem zDB (r:RiM) (s:Sp) (f:Bool) (w:World):Gv Tryz.prog 85 [vRi r,.agg #[.int .i64 s.lo,.int .i64 s.hi],.bool f] w (.int .i64 (zAP r.b s f)):=by
 obtain ⟨sl,t,A,c,b9⟩:=r
 unfold Gv vRi zAP
 simp only
 cases b9<;>cases f<;>simp only [if_true,if_false,Bool.false_eq_true,Bool.true_eq_false]
 all_goals
  (refine ze (n:=15) Tryz.func85 rfl rfl rfl ?_)
  (repeat' (first|((with_reducible refine zV ?_);first|refine zO rfl rfl rfl ?_|refine zD rfl rfl rfl ?_|(refine zQ rfl rfl rfl ?_;refine ⟨_,rfl,?_⟩)|refine zS rfl rfl rfl ?_|refine u_eqb rfl rfl rfl rfl ?_|(refine zl rfl rfl rfl rfl (fun b=>?_)))|(with_reducible first|refine zW ?_|refine zC ?_|refine zU ?_|refine zB ?_|refine zX ?_|refine zT ?_|refine zF ?_)|((with_reducible refine zI ?_ ?_);(· exact rfl))|((with_reducible refine zH ?_ ?_);(· exact rfl))))
  exact zk (by exact rTm rfl) () trivial rfl (fun _ h=>h.sub (by (repeat constructor)))
set_option maxHeartbeats 1000000 in
theorem sair_any (r:RiM) (h long:Int) (w:World) (hs:zBq r.s) (h1:0≤h∧h≤400000) (h2:0≤long∧long≤30000):Gv Tryz.prog 122 [vRi r,.int .i64 h,.int .i64 long] w (.int .i64 (airI r.b r.s h long)):=by
 have hO:=fun s f W=>zDB r s f W
 have a1:=zA2 (b:=r.b) (f:=false) hs.drag.1 hs.drag.2.1 hs.drag.2.2
 have a2:=zA2 (b:=r.b) (f:=true) hs.weight.1 hs.weight.2.1 hs.weight.2.2
 have a3:=zFF h1.1 h1.2 a1.1 a1.2
 have a4:=zFF a3.1 a3.2 h2.1 h2.2
 have a5:=Int.ediv_nonneg a4.1 (show 0≤100 * zAP r.b r.s.weight true by omega)
 have a6:=Int.ediv_le_self (100 * zAP r.b r.s.weight true) a4.1
 have e:airI r.b r.s h long=min h (h * zAP r.b r.s.drag false * long / (100 * zAP r.b r.s.weight true)):=rfl
 rw [e]
 clear e hs
 obtain ⟨⟨cls,st,ru,dr,we,se⟩,t,A,c,b9⟩:=r
 unfold Gv
 unfold vRi at *
 simp only at *
 (refine ze (n:=25) Tryz.func122 rfl rfl rfl ?_)
 (repeat' (first|((with_reducible refine zV ?_);first|refine zD rfl rfl rfl ?_|(refine zl rfl rfl rfl rfl (fun b=>?_)))|(with_reducible first|refine zW ?_|refine zC ?_|refine zU ?_|refine zB ?_)))
 (refine zAY (by kernel_rfl) (by kernel_rfl) (by kernel_rfl) ?_)
 (repeat' (first|((with_reducible refine zAq ?_);first|refine zA (zAT rfl rfl) rfl ?_|refine zA (zAF rfl rfl (by exact rfl)) rfl ?_|refine zA (zAQ rfl rfl) rfl ?_|refine zA (zAS rfl rfl) rfl ?_|refine zAk rfl rfl rfl rfl (fun _ _ q=>hO dr false _) ?_|refine zAk rfl rfl rfl rfl (fun _ _ q=>hO we true _) ?_|refine zA (zA6 rfl rfl rfl (IntWalk.i64_in _ (by omega))) rfl ?_|refine zA (zBE rfl rfl rfl (by omega) (by omega) (IntWalk.i64_in _ (by omega))) rfl ?_|refine zA (zA6 rfl rfl rfl (IntWalk.i64_in _ (by omega))) rfl ?_|refine zA (zBE rfl rfl rfl (by omega) (by omega) (IntWalk.i64_in _ (by omega))) rfl ?_|refine zA (zBF rfl rfl rfl) rfl ?_)|(with_reducible refine zBI ?_)))
 all_goals (repeat' (first|(with_reducible first|refine zB ?_|refine zX ?_)))
 all_goals exact zk (by exact rTm rfl) () trivial rfl (fun _ h=>h.sub (by (repeat constructor)))
theorem sice_any (r:RiM) (h long:Int) (w:World) (hs:zBq r.s) (h2:0≤long∧long≤30000):Gv Tryz.prog 123 [vRi r,.int .i64 h,.int .i64 long] w (.int .i64 (zFK r.b r.s long)):=by
 have hO:=fun s f W=>zDB r s f W
 have a1:=zA2 (b:=r.b) (f:=false) hs.rub.1 hs.rub.2.1 hs.rub.2.2
 have a3:=zFF a1.1 a1.2 h2.1 h2.2
 have e:zFK r.b r.s long=zAP r.b r.s.rub false * long / 100:=rfl
 rw [e]
 clear e hs
 obtain ⟨⟨cls,st,ru,dr,we,se⟩,t,A,c,b9⟩:=r
 unfold Gv
 unfold vRi at *
 simp only at *
 (refine ze (n:=15) Tryz.func123 rfl rfl rfl ?_)
 (repeat' (first|((with_reducible refine zV ?_);first|refine zO rfl rfl rfl ?_|refine zD rfl rfl rfl ?_|(refine zQ rfl rfl rfl ?_;refine ⟨_,rfl,?_⟩)|refine zS rfl rfl rfl ?_|refine zn rfl rfl rfl rfl (fun _ _ q=>hO ru false _) ?_|refine zCO rfl rfl rfl rfl (IntWalk.i64_in _ (by omega)) ?_|refine zFe rfl rfl rfl rfl (by omega) (by omega) (IntWalk.i64_in _ (by omega)) ?_|refine zCO rfl rfl rfl rfl (IntWalk.i64_in _ (by omega)) ?_|(refine zl rfl rfl rfl rfl (fun b=>?_))|refine zFe rfl rfl rfl rfl (by omega) (by omega) (IntWalk.i64_in _ (by omega)) ?_)|(with_reducible first|refine zW ?_|refine zC ?_|refine zU ?_|refine zB ?_|refine zX ?_)))
 exact zk (by exact rTm rfl) () trivial rfl (fun _ h=>h.sub (by (repeat constructor)))
theorem zGx (w:World):Gv Tryz.prog 84 [] w (.agg #[.func (.func 122) #[] #[],.func (.func 123) #[] #[]]):=by
 unfold Gv
 (refine ze (n:=4) Tryz.func84 rfl rfl rfl ?_)
 (repeat' (first|((with_reducible refine zV ?_);first|(refine zGo rfl rfl rfl ?_;refine ⟨_,rfl,?_⟩)|(refine zg rfl rfl rfl rfl rfl ?_;refine ⟨rfl,by first|decide|exact Nat.le_of_ble_eq_true rfl|(simp;omega),_,rfl,?_⟩)|(refine zh rfl rfl (fun b=>?_))|(refine zy rfl rfl rfl ?_;refine ⟨_,rfl,?_⟩))|(with_reducible first|refine zW ?_|refine zC ?_|refine zU ?_|refine zB ?_|refine zX ?_)))
 exact zk (by (exact zAX.cons (by exact res1c rfl (by exact rfl)) zAX.nil)) () trivial rfl (fun _ h=>h.sub (by (repeat constructor)))
end Go.Proofs.YtcpdjamlhhfbhaaGreat
namespace Go.Proofs.YtcpdjamlhhfbhaaGreat
variable {ro : Option Nat}
open Go.RowKit
set_option maxRecDepth 20000
def zGB (p:Nat × Int):List Value:=[.int .i64 (p.1:Int),.int .i64 p.2]
def zC0 (r:RiM) (g:Nat):List Ent:=[.blk g (zDS r)]
def hpT (h:Nat→Int) (i:Nat):List (Nat × Int):=(List.range i).map fun k=>(k,h k)
theorem hpT_succ {h:Nat→Int} {i:Nat}:hpT h (i+1)=hpT h i++[(i,h i)]:=by unfold hpT;rw [List.range_succ,List.map_append];rfl
theorem zIO {h:Nat→Int} {i:Nat}:(hpT h i).length=i:=by simp [hpT]
def hdN (r:RiM) (ys:List (Nat × Int)) (x:Nat × Int):Prop:=∃ i,i≤r.t.length∧ys=hpT (zAH r.b r.s r.t) i∧x=(i,zAH r.b r.s r.t i)
def hdE (r:RiM) (ys:List (Nat × Int)):Prop:=ys=hpT (zAH r.b r.s r.t) (r.t.length+1)
def nxI (a b c:Int):Nat→Int
 | 0=>a
 | 1=>a - b
 | _=>a - b - c
set_option maxHeartbeats 8000000 in
theorem zF5 (r:RiM) (g:Nat) (wb:World) (ht:zAB zA3 9 wb r.A r.t) (hs:zBq r.s) (hv:∀ x∈r.t,StF x) (hl:r.t.length≤20) :
  SeqG Tryz.prog 83 [.pointer (some ⟨g,0,none⟩)] (fun _=>zC0 r g) zGB (hdN r) (hdE r) wb:=by
 intro ι l I Cx s0 w hwb hI0 hO hround
 have hO1:=fun s f W=>zDB r s f W
 have hAir:=fun h lo W h1 h2=>sair_any r h lo W hs h1 h2
 have hIce:=fun h lo W h2=>sice_any r h lo W hs h2
 have hin:=zCH (b:=r.b) hs hv
 have hsu:=fun i x (hx:r.t[i]?=some x)=>zBS (b:=r.b) (s:=r.s) hx
 have h0e:zAH r.b r.s r.t 0=zAP r.b r.s.start true:=rfl
 unfold hdN hdE at *
 generalize zAH r.b r.s r.t=hd at *
 have hround:=fun i s W (hi:i≤r.t.length)=>hround (hpT hd i) (i,hd i) s W ⟨i,hi,rfl,rfl⟩
 simp only [← hpT_succ] at hround
 obtain ⟨s,t,A,c,b9⟩:=r
 simp only at ht hs hv hl hO1 hAir hIce hin hsu h0e hround ⊢
 unfold zC0 zGB at *
 unfold vRi at *
 unfold zDS at *
 simp only at *
 refine zBi (n:=64) hwb hO Tryz.func83 rfl rfl rfl ?_
 refine zBx (fun _ h=>zA0.1 h) ?_
 simp only [List.cons_append,List.nil_append]
 (repeat' (first|((with_reducible refine zV ?_);first|refine zO rfl rfl rfl ?_|refine zD rfl rfl rfl ?_|(refine zQ rfl rfl rfl ?_;refine ⟨_,rfl,?_⟩)|refine zS rfl rfl rfl ?_|refine zn rfl rfl rfl rfl (fun _ _ q=>zGx _) ?_|refine zn rfl rfl rfl rfl (fun _ _ q=>hO1 s.start true _) ?_|refine zj rfl rfl rfl ?_|(refine zg rfl rfl rfl rfl rfl ?_;refine ⟨rfl,by first|decide|exact Nat.le_of_ble_eq_true rfl|(simp;omega),_,rfl,?_⟩)|(refine zh rfl rfl (fun b=>?_)))|(with_reducible first|refine zW ?_|refine zC ?_|refine zU ?_|refine zB ?_|refine zP ?_)))
 obtain ⟨bF,hbF⟩:∃ y,y=b:=⟨_,rfl⟩
 subst hbF
 rw [← h0e]
 refine zAC (ι:=Nat × ι) [0,1,3,19,20] rfl (fun q=>q.1≤t.length∧I (hpT hd q.1) q.2) (fun q=>[(21,.int .i64 (q.1:Int)),(4,.int .i64 (hd q.1))]) (fun q=>[.blk bF [.func (.func 122) #[] #[],.func (.func 123) #[] #[]],.blk g [.int .u8 s.cls,.int .i64 s.start.lo,.int .i64 s.start.hi,.int .i64 s.rub.lo,.int .i64 s.rub.hi,.int .i64 s.drag.lo,.int .i64 s.drag.hi,.int .i64 s.weight.lo,.int .i64 s.weight.hi,.int .i64 s.steer.lo,.int .i64 s.steer.hi,.slice A t.length c,.bool b9],.all (Cx q.2),.oldx w wb.heap.size (feet (zC0 ⟨s,t,A,c,b9⟩ g++Cx s0))]) (fun q=>t.length - q.1) (0,s0) ⟨Nat.zero_le _,hI0⟩ (by (repeat first|exact lK1|refine zp rfl ?_)) (by unfold zC0 zDS;(repeat constructor)) ?_
 rintro ⟨i,s'⟩ ⟨hi,hIi⟩
 simp only at hi hIi
 simp only [zAm,List.cons_append,List.nil_append]
 have hii:=hin i
 by_cases hlt:i<t.length
 rotate_left
 ·obtain rfl:i=t.length:=by omega
  (repeat' (first|((with_reducible refine zV ?_);first|refine zO rfl rfl rfl ?_|(refine zQ rfl rfl rfl ?_;refine ⟨_,rfl,?_⟩)|refine zS rfl rfl rfl ?_|(refine zd rfl rfl rfl rfl rfl (fun h=>?_) (fun h=>?_)<;>(dsimp only [cmpP] at h;(try (exfalso;omega))))|(refine zDp (D:=[.blk g [.int .u8 s.cls,.int .i64 s.start.lo,.int .i64 s.start.hi,.int .i64 s.rub.lo,.int .i64 s.rub.hi,.int .i64 s.drag.lo,.int .i64 s.drag.hi,.int .i64 s.weight.lo,.int .i64 s.weight.hi,.int .i64 s.steer.lo,.int .i64 s.steer.hi,.slice A t.length c,.bool b9]]) (L:=Cx s') (C:=Cx) (p:=I (hpT hd (t.length+1))) (go:=true) rfl rfl rfl rfl [.blk bF _,.oldx w wb.heap.size (feet (zC0 ⟨s,t,A,c,b9⟩ g++Cx s0))] (by (repeat constructor)) (fun _ W q=>hround t.length s' W (by omega) hIi q.below (Own.append.1 (zA0.2 q.own)).1) ?_;rintro s2 hs2;simp only [List.cons_append,List.nil_append])|refine zj rfl rfl rfl ?_)|(with_reducible first|refine zW ?_|refine zC ?_|refine zU ?_|refine zB ?_|refine zZ ?_|refine zG ?_|refine zJ ?_)|((with_reducible refine zH ?_ ?_);(· exact rfl))))
  refine zEz ?_
  exact zCq (vs:=[]) zAX.nil (hpT hd (t.length+1),s2) ⟨rfl,hs2⟩ rfl hwb (fun W9 h=>zA0.2 (show Own wb.heap.size W9 ([.blk g [.int .u8 s.cls,.int .i64 s.start.lo,.int .i64 s.start.hi,.int .i64 s.rub.lo,.int .i64 s.rub.hi,.int .i64 s.drag.lo,.int .i64 s.drag.hi,.int .i64 s.weight.lo,.int .i64 s.weight.hi,.int .i64 s.steer.lo,.int .i64 s.steer.hi,.slice A t.length c,.bool b9]] ++ .all (Cx s2)::[.oldx w wb.heap.size (feet (zC0 ⟨s,t,A,c,b9⟩ g++Cx s0))]) from h.sub (by (repeat constructor))))
 obtain ⟨x,hx⟩:∃ x,t[i]?=some x:=⟨_,List.getElem?_eq_getElem hlt⟩
 have hxf:=hv x (List.mem_of_getElem? hx)
 have h1:=hsu i x hx
 unfold zEc at h1
 have a1:=zA2 (b:=b9) (f:=true) hxf.fall.1 hxf.fall.2.1 hxf.fall.2.2
 have a2:=zA2 (b:=b9) (f:=false) hxf.long.1 hxf.long.2.1 hxf.long.2.2
 have a3:=air_in (b:=b9) (long:=zAP b9 x.long false) hs hii.1 (by omega)
 have a4:=ice_in (b:=b9) (long:=zAP b9 x.long false) hs (by omega) a2.2
 have hAi:=fun W=>hAir (hd i) (zAP b9 x.long false) W ⟨hii.1,by omega⟩ ⟨by omega,a2.2⟩
 have hIc:=fun W=>hIce (hd i) (zAP b9 x.long false) W ⟨by omega,a2.2⟩
 have hOl:=fun W=>hO1 x.long false W
 have hOf:=fun W=>hO1 x.fall true W
 generalize airI b9 s (hd i) (zAP b9 x.long false)=ai at *
 generalize zFK b9 s (zAP b9 x.long false)=ic at *
 generalize zAP b9 x.long false=lo at *
 generalize zAP b9 x.fall true=fa at *
 have:zAZ t i x:=⟨hx⟩
 obtain ⟨bA,oA,hAe,hAl,hAc⟩:=ht.at_ hlt
 subst hAe
 have:InS wb bA oA zA3 9 t:=⟨ht⟩
 obtain ⟨xi,⟨xl1,xl2⟩,⟨xf1,xf2⟩,xr,xs,xw⟩:=x
 simp only at hOl hOf
 (repeat' (first|((with_reducible refine zV ?_);first|refine zO rfl rfl rfl ?_|refine zD rfl rfl rfl ?_|(refine zQ rfl rfl rfl ?_;refine ⟨_,rfl,?_⟩)|(refine zd rfl rfl rfl rfl rfl (fun h=>?_) (fun h=>?_)<;>(dsimp only [cmpP] at h;(try (exfalso;omega))))|refine zK (I:=i) rfl rfl rfl rfl rfl (by omega) ?_|(refine zg rfl rfl rfl rfl rfl ?_;refine ⟨rfl,by first|decide|exact Nat.le_of_ble_eq_true rfl|(simp;omega),_,rfl,?_⟩)|(refine zh rfl rfl (fun b=>?_)))|(with_reducible first|refine zW ?_|refine zC ?_|refine zU ?_|refine zB ?_|refine zT ?_|refine zP ?_)|((with_reducible refine zI ?_ ?_);(· exact rfl))))
 obtain ⟨bS,hbS⟩:∃ y,y=b:=⟨_,rfl⟩
 subst hbS
 (repeat' (first|((with_reducible refine zV ?_);first|(refine zDp (D:=[.blk g [.int .u8 s.cls,.int .i64 s.start.lo,.int .i64 s.start.hi,.int .i64 s.rub.lo,.int .i64 s.rub.hi,.int .i64 s.drag.lo,.int .i64 s.drag.hi,.int .i64 s.weight.lo,.int .i64 s.weight.hi,.int .i64 s.steer.lo,.int .i64 s.steer.hi,.slice (some ⟨bA,oA,none⟩) t.length c,.bool b9]]) (L:=Cx s') (C:=Cx) (p:=I (hpT hd (i+1))) (go:=true) rfl rfl rfl rfl [.blk bS (zA3 ⟨xi,⟨xl1,xl2⟩,⟨xf1,xf2⟩,xr,xs,xw⟩),.blk bF _,.oldx w wb.heap.size (feet (zC0 ⟨s,t,some ⟨bA,oA,none⟩,c,b9⟩ g++Cx s0))] (by (repeat constructor)) (fun _ W q=>hround i s' W (by omega) hIi q.below (Own.append.1 (zA0.2 q.own)).1) ?_;rintro s2 hs2;simp only [List.cons_append,List.nil_append])|refine zt rfl rfl rfl ?_)|(with_reducible first|refine zW ?_|refine zU ?_|refine zB ?_|refine zT ?_)|((with_reducible refine zH ?_ ?_);(· exact rfl))))
 unfold zA3
 simp only
 (refine zAY (by kernel_rfl) (by kernel_rfl) (by kernel_rfl) ?_)
 (repeat' (first|((with_reducible refine zAq ?_);first|refine zA (zAT rfl rfl) rfl ?_|refine zA (zAF rfl rfl (by exact rfl)) rfl ?_|refine zA (zAQ rfl rfl) rfl ?_|refine zA (zAS rfl rfl) rfl ?_|refine zAk rfl rfl rfl rfl (fun _ _ q=>hOl _) ?_|refine zAk rfl rfl rfl rfl (fun _ _ q=>hOf _) ?_|refine zA (zA8 rfl rfl rfl (IntWalk.i64_in _ (by omega))) rfl ?_)|(with_reducible refine zBI ?_)))
 all_goals (repeat' (first|((with_reducible refine zV ?_);first|refine zO rfl rfl rfl ?_|(refine zQ rfl rfl rfl ?_;refine ⟨_,rfl,?_⟩))|(with_reducible first|refine zW ?_|refine zC ?_|refine zU ?_|refine zB ?_|refine zP ?_)))
 refine zAC (ι:=Nat) [0,1,3,4,7,19,20,21,41] rfl (fun k=>k≤2) (fun k=>[(42,.int .i64 (k:Int)),(8,.int .i64 (nxI (hd i+fa) ai ic k))]) (fun _=>[.blk bF [.func (.func 122) #[] #[],.func (.func 123) #[] #[]],.blk g [.int .u8 s.cls,.int .i64 s.start.lo,.int .i64 s.start.hi,.int .i64 s.rub.lo,.int .i64 s.rub.hi,.int .i64 s.drag.lo,.int .i64 s.drag.hi,.int .i64 s.weight.lo,.int .i64 s.weight.hi,.int .i64 s.steer.lo,.int .i64 s.steer.hi,.slice (some ⟨bA,oA,none⟩) t.length c,.bool b9],.all (Cx s2),.oldx w wb.heap.size (feet (zC0 ⟨s,t,some ⟨bA,oA,none⟩,c,b9⟩ g++Cx s0))]) (fun k=>2 - k) 0 (Nat.zero_le _) (by (repeat first|exact lK1|refine zp rfl ?_)) (by (repeat constructor)) ?_
 rintro k hk2
 simp only [zAm,List.cons_append,List.nil_append]
 by_cases hk:k<2
 ·obtain rfl|rfl:k=0∨k=1:=by omega
  ·(repeat' (first|((with_reducible refine zV ?_);first|refine zO rfl rfl rfl ?_|refine zD rfl rfl rfl ?_|(refine zQ rfl rfl rfl ?_;refine ⟨_,rfl,?_⟩)|refine zS rfl rfl rfl ?_|(refine zd rfl rfl rfl rfl rfl (fun h=>?_) (fun h=>?_)<;>(dsimp only [cmpP] at h;(try (exfalso;omega))))|refine zAg rfl (zHL (I:=0) rfl rfl rfl rfl (by decide) rfl) ?_|refine zn rfl rfl rfl rfl (fun _ _ q=>hAi _) ?_|(refine z7 rfl rfl rfl rfl (IntWalk.i64_in _ (by simp only [nxI];omega)) ?_)|refine zb rfl rfl rfl rfl (by omega) ?_|(refine zg rfl rfl rfl rfl rfl ?_;refine ⟨rfl,by first|decide|exact Nat.le_of_ble_eq_true rfl|(simp;omega),_,rfl,?_⟩)|(refine zh rfl rfl (fun b=>?_)))|(with_reducible first|refine zW ?_|refine zC ?_|refine zU ?_|refine zB ?_|refine zT ?_|refine zP ?_|refine zY ?_)|((with_reducible refine zI ?_ ?_);(· exact rfl))))
   exact z6 (ι:=Nat) 1 (by omega) (by omega) (by (repeat first|exact lK1|refine zp rfl ?_)) (by (repeat constructor))
  ·(repeat' (first|((with_reducible refine zV ?_);first|refine zO rfl rfl rfl ?_|refine zD rfl rfl rfl ?_|(refine zQ rfl rfl rfl ?_;refine ⟨_,rfl,?_⟩)|refine zS rfl rfl rfl ?_|(refine zd rfl rfl rfl rfl rfl (fun h=>?_) (fun h=>?_)<;>(dsimp only [cmpP] at h;(try (exfalso;omega))))|refine zAg rfl (zHL (I:=1) rfl rfl rfl rfl (by decide) rfl) ?_|refine zn rfl rfl rfl rfl (fun _ _ q=>hIc _) ?_|(refine z7 rfl rfl rfl rfl (IntWalk.i64_in _ (by simp only [nxI];omega)) ?_)|refine zb rfl rfl rfl rfl (by omega) ?_|(refine zg rfl rfl rfl rfl rfl ?_;refine ⟨rfl,by first|decide|exact Nat.le_of_ble_eq_true rfl|(simp;omega),_,rfl,?_⟩)|(refine zh rfl rfl (fun b=>?_)))|(with_reducible first|refine zW ?_|refine zC ?_|refine zU ?_|refine zB ?_|refine zT ?_|refine zP ?_|refine zY ?_)|((with_reducible refine zI ?_ ?_);(· exact rfl))))
   exact z6 (ι:=Nat) 2 (by omega) (by omega) (by (repeat first|exact lK1|refine zp rfl ?_)) (by (repeat constructor))
 ·obtain rfl:k=2:=by omega
  have h9:hd (i+1)=max 0 (nxI (hd i+fa) ai ic 2):=by rw [h1];rfl
  (repeat' (first|((with_reducible refine zV ?_);first|refine zO rfl rfl rfl ?_|refine zD rfl rfl rfl ?_|(refine zd rfl rfl rfl rfl rfl (fun h=>?_) (fun h=>?_)<;>(dsimp only [cmpP] at h;(try (exfalso;omega))))|refine zb rfl rfl rfl rfl (by omega) ?_|refine zAd rfl rfl rfl rfl ?_)|(with_reducible first|refine zW ?_|refine zC ?_|refine zU ?_|refine zB ?_|refine zZ ?_|refine zY ?_|refine zG ?_|refine zJ ?_)|((with_reducible refine zH ?_ ?_);(· exact rfl))))
  exact z6 (ι:=Nat × ι) (i+1,s2) ⟨by simp only;omega,hs2⟩ (by simp only;omega) (by rw [h9];(repeat first|exact lK1|refine zp rfl ?_)) (by (repeat constructor))
end Go.Proofs.YtcpdjamlhhfbhaaGreat
namespace Go.Proofs.YtcpdjamlhhfbhaaGreat
variable {ro : Option Nat}
open Go.RowKit
set_option maxRecDepth 20000
theorem hpT_snd {b:Bool} {s:SlM} {t:List St} {i:Nat}:(hpT (zAH b s t) i).map (·.2)=zCG b s t i:=by
 unfold hpT zCG;rw [List.map_map];rfl
theorem zE7 (r:RiM) (w:World):Ret Tryz.prog 53 [vRi r] w (fun g:Nat=>.func (.func 83) #[] #[.pointer (some ⟨g,0,none⟩)]) (fun g=>zC0 r g) (fun _=>True):=by
 unfold zC0 zDS vRi
 (refine ze (n:=4) Tryz.func53 rfl rfl rfl ?_)
 (repeat' (first|((with_reducible refine zV ?_);first|refine zD rfl rfl rfl ?_|(refine zl rfl rfl rfl rfl (fun b=>?_))|refine zz rfl rfl rfl rfl ?_)|(with_reducible first|refine zW ?_|refine zC ?_|refine zU ?_|refine zB ?_|refine zX ?_)))
 exact zk (by exact rTm rfl) b trivial rfl (fun _ h=>h.sub (by (repeat constructor)))
set_option maxHeartbeats 4000000 in
theorem zFl (r:RiM) (w:World) (ht:zAB zA3 9 w r.A r.t) (hs:zBq r.s) (hv:∀ x∈r.t,StF x) (hl:r.t.length≤20):zCV encI 1 (zCG r.b r.s r.t (r.t.length+1)) (fun v=>v) Tryz.prog 34 [vRi r] w:=by
 have hH:=fun W=>zE7 r W
 have hseq:=fun g=>zF5 r g w ht hs hv hl
 unfold zCV
 rw [← hpT_snd]
 unfold hdN hdE at hseq
 generalize zAH r.b r.s r.t=hd at *
 generalize hhr:r.t.length=n at *
 unfold zC0 at hH hseq
 generalize zDS r=cs at *
 unfold vRi at *
 rw [hhr] at *
 (refine ze (n:=15) Tryz.func34 rfl rfl rfl ?_)
 (repeat' (first|((with_reducible refine zV ?_);first|refine zD rfl rfl rfl ?_|(refine zQ rfl rfl rfl ?_;refine ⟨_,rfl,?_⟩)|(refine zh rfl rfl (fun b=>?_))|(refine zl rfl rfl rfl rfl (fun b=>?_)))|(with_reducible first|refine zW ?_|refine zC ?_|refine zU ?_|refine zB ?_)))
 rename_i b1
 obtain ⟨b3,hb3⟩:∃ y,y=b:=⟨_,rfl⟩
 subst hb3
 (repeat' (first|((with_reducible refine zV ?_);first|(refine zAU rfl rfl rfl rfl (fun _ _ q=>hH _) ?_;rintro gH -;dsimp only [List.cons_append,List.nil_append]))|(with_reducible first|refine zU ?_|refine zB ?_|refine zP ?_)))
 refine zAw encI 1 3 ?_
 refine zGP ?_
 refine U.sub (R':=[(7,.func (.func 83) #[] #[.pointer (some ⟨gH,0,none⟩)]),(1,.pointer (some ⟨b1,0,none⟩)),(3,.pointer (some ⟨b3,0,none⟩))]) (by (repeat first|exact lK1|refine zp rfl ?_)) (Out.all _) ?_
 refine zC4 (ι:=Value × List Int) (α:=Nat × Int) (gf:=83) (lb:=[.pointer (some ⟨gH,0,none⟩)]) (bs:=[]) (fun _=>[.blk gH cs]) zGB (fun ys x=>∃ i,i≤n∧ys=hpT hd i∧x=(i,hd i)) (fun ys=>ys=hpT hd (n+1)) (fun ys st=>st.2=ys.map (·.2)) (fun st=>[.row encI 1 3 st.1 st.2,.blk b3 [st.1]]) (.slice none 0 0,[]) rfl (by (repeat constructor)) rfl (fun _=>rfl) (by decide) (hseq gH) ?_ ?_
 rotate_left
 ·rintro bd ys ⟨v,xs⟩ hE hI
  simp only at hE hI
  subst hE hI
  simp only [List.cons_append,List.nil_append]
  (repeat' (first|((with_reducible refine zV ?_);first|refine zD rfl rfl rfl ?_|(refine zQ rfl rfl rfl ?_;refine ⟨_,rfl,?_⟩))|(with_reducible first|refine zW ?_|refine zC ?_|refine zU ?_|refine zB ?_|refine zX ?_|refine zY ?_)))
  refine zAp (xs:=(hpT hd (n+1)).map (·.2)) (enc:=encI) (by (repeat constructor)) ?_
  rintro A9 c9 rfl
  exact zEq (by (repeat constructor)) (by exact rTm rfl) (A9,c9) trivial rfl (fun _ h=>(h.zCe (xs:=(hpT hd (n+1)).map (·.2)) (enc:=encI) (by (repeat constructor))).sub (by (repeat constructor)))
 rintro ly ys x ⟨v,xs⟩ ⟨r1,r2,rfn,rtm,rps,ras,rbo,rde⟩ W HH hN hI hr hrp hW
 obtain ⟨i,hi,rfl,rfl⟩:=hN
 simp only at hr hrp hI
 subst hr hrp hI
 have hxl:((hpT hd i).map (·.2)).length=i:=by rw [List.length_map,zIO]
 simp only [zGB,zEo,List.cons_append,List.nil_append]
 (repeat' (first|((with_reducible refine zV ?_);first|refine zD rfl rfl rfl ?_)|(with_reducible first|refine zC ?_|refine zU ?_)))
 refine zDs (by (repeat constructor)) rfl ?_
 (repeat' (first|((with_reducible refine zV ?_);first|refine zO rfl rfl rfl ?_|(refine zQ rfl rfl rfl ?_;refine ⟨_,rfl,?_⟩)|(refine zBc (enc:=encI) [_] rfl rfl rfl (by (repeat constructor)) rfl rfl (zAO (by exact rfl)) (by refine ⟨?_,by decide⟩;(try simp only [List.length_append,List.length_cons,List.length_nil]);omega) (fun A' c'=>?_))|(refine zg rfl rfl rfl rfl rfl ?_;refine ⟨rfl,by first|decide|exact Nat.le_of_ble_eq_true rfl|(simp;omega),_,rfl,?_⟩)|(refine zR rfl rfl rfl ?_;refine ⟨rfl,_,rfl,fun b=>?_⟩))|(with_reducible first|refine zC ?_|refine zU ?_|refine zP ?_|refine zY ?_)))
 exact zC5 none (.inl ⟨rfl,rfl⟩) rfl (by (repeat constructor)) (.slice A' ((hpT hd i).map (·.2)++[hd i]).length c',(hpT hd i).map (·.2)++[hd i]) (by rw [List.map_append];rfl) hW (fun _ h=>h.sub (by (repeat constructor)))
end Go.Proofs.YtcpdjamlhhfbhaaGreat
namespace Go.Proofs.YtcpdjamlhhfbhaaGreat
variable {ro : Option Nat}
open Go.RowKit
set_option maxRecDepth 20000
namespace Two
set_option maxHeartbeats 4000000 in
theorem zFk (s:SlM) (t:List St) (A:Option Addr) (c:Nat) (w:World) (ht:zAB zA3 9 w A t) (hf:FitT t) (hl:t.length≤1000) (hv:valid t=true) (hs:zDC s=true):Gv Tryz.prog 33 [.agg #[.slice A t.length c],vSl s] w (.tuple #[vRi ⟨s,t,A,c,false⟩,vRi ⟨s,t,A,c,true⟩,.int .i64 0]):=by
 have hT:=fun W (hW:Below w.heap.size w W)=>check_n t A c W (ht.below hW) hf (by omega)
 have hC:=fun W=>zHh s W
 have e1:errT t=0:=by unfold errT;rw [hv];rfl
 rw [e1] at hT
 rw [hs,if_pos rfl] at hC
 unfold Gv
 unfold vSl vRi at *
 simp only at *
 (refine ze (n:=23) Tryz.func33 rfl rfl rfl ?_)
 (repeat' (first|((with_reducible refine zV ?_);first|refine zO rfl rfl rfl ?_|refine zD rfl rfl rfl ?_|(refine zQ rfl rfl rfl ?_;refine ⟨_,rfl,?_⟩)|(refine zd rfl rfl rfl rfl rfl (fun h=>?_) (fun h=>?_)<;>(dsimp only [cmpP] at h;(try (exfalso;omega))))|refine zn rfl rfl rfl rfl (fun _ _ q=>hT _ q.below) ?_|(refine zh rfl rfl (fun b=>?_))|(refine zl rfl rfl rfl rfl (fun b=>?_)))|(with_reducible first|refine zW ?_|refine zC ?_|refine zU ?_|refine zB ?_|refine zT ?_)|((with_reducible refine zH ?_ ?_);(· exact rfl))))
 rename_i b2 b3 b4
 obtain ⟨b5,hb5⟩:∃ y,y=b:=⟨_,rfl⟩
 subst hb5
 (refine zA9 [] [(8,0,0,[.blk b4 [.int .u8 0,.int .i64 0,.int .i64 0,.int .i64 0,.int .i64 0,.int .i64 0,.int .i64 0,.int .i64 0,.int .i64 0,.int .i64 0,.int .i64 0,.slice none 0 0,.bool false]])] [(8,0,0)] rfl (show ([8]:List Nat).Nodup by decide) (H0:=[.blk b5 [.int .u8 0,.int .i64 0,.int .i64 0,.int .i64 0,.int .i64 0,.int .i64 0,.int .i64 0,.int .i64 0,.int .i64 0,.int .i64 0,.int .i64 0,.slice none 0 0,.bool false],.blk b3 [.int .u8 s.cls,.int .i64 s.start.lo,.int .i64 s.start.hi,.int .i64 s.rub.lo,.int .i64 s.rub.hi,.int .i64 s.drag.lo,.int .i64 s.drag.hi,.int .i64 s.weight.lo,.int .i64 s.weight.hi,.int .i64 s.steer.lo,.int .i64 s.steer.hi],.blk b2 [.slice A t.length c]]) (fun _ h=>h.sub (by (repeat constructor))) (by kernel_rfl) [[],[Y],[Z,Z],[Y,Y,Y],[Y,Y,Y,Y],[Z,Z,Y,Y,Y],[Y,Y,Y,Y,Y,Y],[Z,Y,Y,Y,Y,Y,Y],[Z,Z,Y,Y,Y,Z,Z,Z],[Z,Z,Z,Z,Z,Z,Z,Z,Z],[Z,Z,Z,Z,Z,Z,Z,Z,Z,Z]] (by kernel_rfl) (by kernel_rfl) (by kernel_rfl) (by kernel_rfl) (by kernel_rfl) ?_)
 (repeat' (first|(((with_reducible refine zDU ?_ ?_);(· exact rfl);refine ⟨_,fun G=>(by (try simp (decide:=true) only [vis,see,fltT,zAV,Nat.reduceAdd,Nat.reduceSub,if_true,if_false,List.set_cons_zero,List.set_cons_succ,List.set_nil,List.nil_append,List.cons_append]);rfl),?_⟩);first|refine zw _ (fun _=>zAF rfl rfl (by exact rfl)) (fun _=>rfl) rfl (by intro G G' h;simp (decide:=true) only [h]) ?_|refine zCI _ rfl (fun _=>rfl) rfl (fun _=>rfl) (fun _=>rfl) (fun _ _ _ q=>hC _) (by intro G G' h;simp (decide:=true) only [h]) ?_|refine zw (fun _=>.agg [.int .u8 s.cls,.int .i64 s.start.lo,.int .i64 s.start.hi,.int .i64 s.rub.lo,.int .i64 s.rub.hi,.int .i64 s.drag.lo,.int .i64 s.drag.hi,.int .i64 s.weight.lo,.int .i64 s.weight.hi,.int .i64 s.steer.lo,.int .i64 s.steer.hi,.slice A t.length c,.bool false].toArray) (fun _=>zAN (ps:=#[(0,.tmp 15),(1,.tmp 16),(2,.const (.bool false))]) (cs:=[.int .u8 s.cls,.int .i64 s.start.lo,.int .i64 s.start.hi,.int .i64 s.rub.lo,.int .i64 s.rub.hi,.int .i64 s.drag.lo,.int .i64 s.drag.hi,.int .i64 s.weight.lo,.int .i64 s.weight.hi,.int .i64 s.steer.lo,.int .i64 s.steer.hi,.slice A t.length c,.bool false]) rfl rfl (by kernel_rfl)) (fun _=>rfl) rfl (fun _ _ _=>rfl) ?_|refine zw (fun _=>.agg [.int .u8 s.cls,.int .i64 s.start.lo,.int .i64 s.start.hi,.int .i64 s.rub.lo,.int .i64 s.rub.hi,.int .i64 s.drag.lo,.int .i64 s.drag.hi,.int .i64 s.weight.lo,.int .i64 s.weight.hi,.int .i64 s.steer.lo,.int .i64 s.steer.hi,.slice A t.length c,.bool true].toArray) (fun _=>zAN (ps:=#[(0,.tmp 18),(1,.tmp 19),(2,.const (.bool true))]) (cs:=[.int .u8 s.cls,.int .i64 s.start.lo,.int .i64 s.start.hi,.int .i64 s.rub.lo,.int .i64 s.rub.hi,.int .i64 s.drag.lo,.int .i64 s.drag.hi,.int .i64 s.weight.lo,.int .i64 s.weight.hi,.int .i64 s.steer.lo,.int .i64 s.steer.hi,.slice A t.length c,.bool true]) rfl rfl (by kernel_rfl)) (fun _=>rfl) rfl (fun _ _ _=>rfl) ?_)|(refine zFT (cs:=[.int .u8 0,.int .i64 0,.int .i64 0,.int .i64 0,.int .i64 0,.int .i64 0,.int .i64 0,.int .i64 0,.int .i64 0,.int .i64 0,.int .i64 0,.slice none 0 0,.bool false]) (cs':=fun _=>[.int .u8 s.cls,.int .i64 s.start.lo,.int .i64 s.start.hi,.int .i64 s.rub.lo,.int .i64 s.rub.hi,.int .i64 s.drag.lo,.int .i64 s.drag.hi,.int .i64 s.weight.lo,.int .i64 s.weight.hi,.int .i64 s.steer.lo,.int .i64 s.steer.hi,.slice A t.length c,.bool false]) List.mem_cons_self rfl rfl (fun _=>rfl) rfl (fun _=>rfl) (fun _=>rfl) (fun _=>rfl) (fun _=>rfl) rfl (fun _=>rfl) (fun _ _ _=>rfl) ?_)|((with_reducible refine zBk ?_ ?_);(· exact rfl))))
 intro G
 simp only [regsT,List.nil_append,List.cons_append]
 refine zBx (H':=[.blk b4 [.int .u8 s.cls,.int .i64 s.start.lo,.int .i64 s.start.hi,.int .i64 s.rub.lo,.int .i64 s.rub.hi,.int .i64 s.drag.lo,.int .i64 s.drag.hi,.int .i64 s.weight.lo,.int .i64 s.weight.hi,.int .i64 s.steer.lo,.int .i64 s.steer.hi,.slice A t.length c,.bool false],.blk b5 [.int .u8 0,.int .i64 0,.int .i64 0,.int .i64 0,.int .i64 0,.int .i64 0,.int .i64 0,.int .i64 0,.int .i64 0,.int .i64 0,.int .i64 0,.slice none 0 0,.bool false],.blk b3 [.int .u8 s.cls,.int .i64 s.start.lo,.int .i64 s.start.hi,.int .i64 s.rub.lo,.int .i64 s.rub.hi,.int .i64 s.drag.lo,.int .i64 s.drag.hi,.int .i64 s.weight.lo,.int .i64 s.weight.hi,.int .i64 s.steer.lo,.int .i64 s.steer.hi],.blk b2 [.slice A t.length c]]) (fun _ h=>h) ?_
 (repeat' (first|((with_reducible refine zV ?_);first|refine zD rfl rfl rfl ?_|(refine zg rfl rfl rfl rfl rfl ?_;refine ⟨rfl,by first|decide|exact Nat.le_of_ble_eq_true rfl|(simp;omega),_,rfl,?_⟩))|(with_reducible first|refine zU ?_|refine zB ?_|refine zX ?_)))
 exact zk (by (exact zAX.cons (by exact res1c rfl (by exact rfl)) (zAX.cons (by exact res1c rfl (by exact rfl)) (zAX.cons (by exact zBv.tmp rfl) zAX.nil)))) () trivial rfl (fun _ h=>h.sub (by (repeat constructor)))
end Two
end Go.Proofs.YtcpdjamlhhfbhaaGreat
namespace Go.Proofs.YtcpdjamlhhfbhaaGreat.Two
variable {ro : Option Nat}
open Go.RowKit
set_option maxRecDepth 20000
section
variable {S : List (Nat × Nat)} {I:List (Nat × Nat × Nat × List Ent)} {P:Program} {w0:World} {n:Nat} {d:List Deferred} {R R0:List (Nat × Value)} {H H' H0:List Ent} {Q:Exit→Act→World→Prop} {ops:Array Oper} {bs:List (List Bool)} {b:List Bool} {k:Nat} {o:Oper} {rest:List Oper} {T:List Rw} {t:Tmp} {Hk:zAr→List Ent} {x y:Operand} {v:Value}
theorem zHK {base:Nat} {w:World} {H H':List Ent} {q:Prop} (h:Own base w H) (ht:Take H (.fact q) H'):q:=h.here _ ht.mem
end
end Go.Proofs.YtcpdjamlhhfbhaaGreat.Two
namespace Go.Proofs.YtcpdjamlhhfbhaaGreat.Two
variable {ro : Option Nat}
open Go.RowKit
set_option maxRecDepth 20000
def zBL (s:SlM) (t:List St) (i:Nat):List Sp:=(List.range i).map fun k=>⟨zAH false s t k,zAH true s t k⟩
theorem zEX {s:SlM} {t:List St} {i:Nat}:(zBL s t i).length=i:=by simp [zBL]
theorem zHd {s:SlM} {t:List St} {i k:Nat} (h:k<i):(zBL s t i)[k]?=some ⟨zAH false s t k,zAH true s t k⟩:=by
 unfold zBL;rw [List.getElem?_map,List.getElem?_range h];rfl
theorem zG0 {s:SlM} {t:List St} {i:Nat}:(hpT (zAH false s t) i).map (fun p=>(⟨p.2,zAH true s t p.1⟩:Sp))=zBL s t i:=by
 unfold hpT zBL;rw [List.map_map];rfl
set_option maxHeartbeats 4000000 in
theorem zDf (s:SlM) (t:List St) (A:Option Addr) (c:Nat) (w:World) (ht:zAB zA3 9 w A t) (hf:FitT t) (hl:t.length≤20) (hv:valid t=true) (hs:zDC s=true):zCV zo 2 (zBL s t (t.length+1)) (fun v=>.tuple #[v,.int .i64 0]) Tryz.prog 20 [.agg #[.slice A t.length c],vSl s] w:=by
 have hO:=fun W (hW:Below w.heap.size w W)=>zFk s t A c W (ht.below hW) hf (by omega) hv hs
 have hsf:=zB7.1 hs
 have hst:=zDn hv
 have hL:=fun W (hW:Below w.heap.size w W)=>zFl ⟨s,t,A,c,true⟩ W (ht.below hW) hsf hst hl
 have hH:=fun W=>zE7 ⟨s,t,A,c,false⟩ W
 have hseq:=fun g=>zF5 ⟨s,t,A,c,false⟩ g w ht hsf hst hl
 have hta:=fun k (hk:k<t.length+1)=>zFL (b:=true) (s:=s) (t:=t) hk
 have htl:=zEh (b:=true) (s:=s) (t:=t) (i:=t.length+1)
 have hin:=zCH (b:=false) hsf hst
 have hin2:=zCH (b:=true) hsf hst
 unfold zCV
 rw [← zG0]
 unfold hdN hdE at hseq
 simp only at hL hH hseq
 generalize zCG true s t (t.length+1)=more at *
 generalize zAH false s t=hd at *
 generalize zAH true s t=hd2 at *
 unfold zC0 at hH hseq
 generalize zDS ⟨s,t,A,c,false⟩=cs at *
 unfold vRi vSl at *
 simp only at *
 generalize hn:t.length=n at *
 (refine ze (n:=39) Tryz.func20 rfl rfl rfl ?_)
 (repeat' (first|((with_reducible refine zV ?_);first|refine zO rfl rfl rfl ?_|refine zD rfl rfl rfl ?_|(refine zQ rfl rfl rfl ?_;refine ⟨_,rfl,?_⟩)|(refine zd rfl rfl rfl rfl rfl (fun h=>?_) (fun h=>?_)<;>(dsimp only [cmpP] at h;(try (exfalso;omega))))|refine zn rfl rfl rfl rfl (fun _ _ q=>hO _ q.below) ?_|refine zq rfl rfl rfl rfl ?_|(refine zg rfl rfl rfl rfl rfl ?_;refine ⟨rfl,by first|decide|exact Nat.le_of_ble_eq_true rfl|(simp;omega),_,rfl,?_⟩)|(refine zh rfl rfl (fun b=>?_))|(refine zl rfl rfl rfl rfl (fun b=>?_)))|(with_reducible first|refine zW ?_|refine zC ?_|refine zU ?_|refine zB ?_|refine zT ?_)|((with_reducible refine zH ?_ ?_);(· exact rfl))))
 rename_i b2 b3 b6 b7
 obtain ⟨b9,hb9⟩:∃ y,y=b:=⟨_,rfl⟩
 subst hb9
 (repeat' (first|((with_reducible refine zV ?_);first|(refine zQ rfl rfl rfl ?_;refine ⟨_,rfl,?_⟩)|refine zDM rfl rfl rfl rfl (fun _ _ q=>hL _ q.below) (fun A' c'=>?_)|(refine zAU rfl rfl rfl rfl (fun _ _ q=>hH _) ?_;rintro gH -;dsimp only [List.cons_append,List.nil_append])|(refine zg rfl rfl rfl rfl rfl ?_;refine ⟨rfl,by first|decide|exact Nat.le_of_ble_eq_true rfl|(simp;omega),_,rfl,?_⟩)|(refine zh rfl rfl (fun b=>?_)))|(with_reducible first|refine zW ?_|refine zC ?_|refine zU ?_|refine zB ?_|refine zP ?_)))
 obtain ⟨b10,hb10⟩:∃ y,y=b:=⟨_,rfl⟩
 subst hb10
 refine zAo (enc:=encI) (xs:=more) (by (repeat constructor)) (by rw [htl];omega) (fun bl ol hLA=>?_)
 subst hLA
 obtain ⟨c10,hc10⟩:∃ y,y=c':=⟨_,rfl⟩
 subst hc10
 refine zAw zo 2 26 ?_
 refine zGP ?_
 refine U.sub (R':=[(26,.func (.func 83) #[] #[.pointer (some ⟨gH,0,none⟩)]),(9,.pointer (some ⟨b9,0,none⟩)),(10,.pointer (some ⟨b10,0,none⟩))]) (by (repeat first|exact lK1|refine zp rfl ?_)) (Out.all _) ?_
 refine zC4 (ι:=Value × List Sp) (α:=Nat × Int) (gf:=83) (lb:=[.pointer (some ⟨gH,0,none⟩)]) (bs:=[]) (fun _=>[.blk gH cs]) zGB (fun ys x=>∃ i,i≤n∧ys=hpT hd i∧x=(i,hd i)) (fun ys=>ys=hpT hd (n+1)) (fun ys st=>st.2=ys.map (fun p:Nat × Int=>(⟨p.2,hd2 p.1⟩:Sp))) (fun st=>[.row zo 2 26 st.1 st.2,.blk b9 [st.1],.blk b10 [.slice (some ⟨bl,ol,none⟩) more.length c10],.sl encI 1 (some ⟨bl,ol,none⟩) more]) (.slice none 0 0,[]) rfl (by (repeat constructor)) rfl (fun _=>rfl) (by decide) (hseq gH) ?_ ?_
 rotate_left
 ·rintro bd ys ⟨v,xs⟩ hE hI
  simp only at hE hI
  subst hE hI
  simp only [List.cons_append,List.nil_append]
  (repeat' (first|((with_reducible refine zV ?_);first|refine zD rfl rfl rfl ?_|(refine zQ rfl rfl rfl ?_;refine ⟨_,rfl,?_⟩))|(with_reducible first|refine zW ?_|refine zC ?_|refine zU ?_|refine zB ?_|refine zX ?_|refine zY ?_)))
  refine zAp (xs:=(hpT hd (n+1)).map (fun p:Nat × Int=>(⟨p.2,hd2 p.1⟩:Sp))) (enc:=zo) (by (repeat constructor)) ?_
  rintro A9 c9 rfl
  exact zEq (by (repeat constructor)) (by (exact zAX.cons (by exact zBv.tmp rfl) (zAX.cons (by exact zBv.tmp rfl) zAX.nil))) (A9,c9) trivial rfl (fun _ h=>(h.zCe (xs:=(hpT hd (n+1)).map (fun p:Nat × Int=>(⟨p.2,hd2 p.1⟩:Sp))) (enc:=zo) (by (repeat constructor))).sub (by (repeat constructor)))
 rintro ly ys x ⟨v,xs⟩ ⟨r1,r2,rfn,rtm,rps,ras,rbo,rde⟩ W HH hN hI hr hrp hW
 obtain ⟨i,hi,rfl,rfl⟩:=hN
 simp only at hr hrp hI
 subst hr hrp hI
 have hxl:((hpT hd i).map (fun p:Nat × Int=>(⟨p.2,hd2 p.1⟩:Sp))).length=i:=by rw [List.length_map,zIO]
 have:zAZ more i (hd2 i):=⟨hta i (by omega)⟩
 simp only [zGB,zEo,List.cons_append,List.nil_append]
 (repeat' (first|((with_reducible refine zV ?_);first|refine zD rfl rfl rfl ?_)|(with_reducible first|refine zW ?_|refine zC ?_|refine zU ?_|refine zB ?_)))
 refine zDs (by (repeat constructor)) rfl ?_
 (repeat' (first|(with_reducible first|refine zP ?_)))
 (refine zA9 [] [] [] rfl (show ([]:List Nat).Nodup by decide) (fun _ h=>h) (by kernel_rfl) [[],[Y],[Y,Y],[Y,Y,Y],[Z,Z,Y,Y],[Z,Z,Z,Y,Y],[Z,Z,Z,Z,Z,Y],[Z,Z,Z,Z,Z,Z,Y],[Z,Z,Z,Z,Z,Z,Z,Z],[Z,Z,Z,Z,Z,Z,Z,Z,Z]] (by kernel_rfl) (by kernel_rfl) (by kernel_rfl) (by kernel_rfl) (by kernel_rfl) ?_)
 (repeat' (first|(((with_reducible refine zDU ?_ ?_);(· exact rfl);refine ⟨_,fun G=>(by (try simp (decide:=true) only [vis,see,fltT,zAV,Nat.reduceAdd,Nat.reduceSub,if_true,if_false,List.set_cons_zero,List.set_cons_succ,List.set_nil,List.nil_append,List.cons_append]);rfl),?_⟩);first|refine zw _ (fun _=>zAT rfl rfl) (fun _=>rfl) rfl (by intro G G' h;simp (decide:=true) only [h]) ?_|refine zw _ (fun _=>zAF rfl rfl (by exact rfl)) (fun _=>rfl) rfl (by intro G G' h;simp (decide:=true) only [h]) ?_|refine zw _ (fun _=>zu (I:=i) rfl rfl rfl rfl (by omega)) (fun _=>rfl) rfl (by exact fun _ _ _=>rfl) ?_|refine zw _ (fun _=>zAN rfl rfl (by exact rfl)) (fun _=>rfl) rfl (by intro G G' h;simp (decide:=true) only [h]) ?_|refine zGk rfl (fun _=>rfl) rfl (fun _=>rfl) (by exact rfl) (by exact fun _=>rfl) (by intro G G' h;simp (decide:=true) only [h]) ?_)|((with_reducible refine zBk ?_ ?_);(· exact rfl))))
 (intro G;simp only [regsT,zAV,zBY,ini,List.nil_append,List.cons_append])
 (repeat' (first|((with_reducible refine zV ?_);first|(refine zBc (enc:=zo) [⟨hd i,hd2 i⟩] rfl rfl rfl (by (repeat constructor)) rfl rfl (zAO (enc:=zo) (by exact rfl)) (by refine ⟨?_,by decide⟩;(try simp only [List.length_append,List.length_cons,List.length_nil]);omega) (fun A' c'=>?_))|(refine zg rfl rfl rfl rfl rfl ?_;refine ⟨rfl,by first|decide|exact Nat.le_of_ble_eq_true rfl|(simp;omega),_,rfl,?_⟩))|(with_reducible first|refine zU ?_|refine zY ?_)))
 exact zC5 none (.inl ⟨rfl,rfl⟩) rfl (by (repeat constructor)) (.slice A' ((hpT hd i).map (fun p:Nat × Int=>(⟨p.2,hd2 p.1⟩:Sp))++[(⟨hd i,hd2 i⟩:Sp)]).length c',(hpT hd i).map (fun p:Nat × Int=>(⟨p.2,hd2 p.1⟩:Sp))++[(⟨hd i,hd2 i⟩:Sp)]) (by rw [List.map_append];rfl) hW (fun _ h=>h.sub (by (repeat constructor)))
end Go.Proofs.YtcpdjamlhhfbhaaGreat.Two
namespace Go.Proofs.YtcpdjamlhhfbhaaGreat
variable {ro : Option Nat}
open Go.RowKit
set_option maxRecDepth 20000
def vI (n:Int):Value:=.int .i64 n
theorem zHk (k k':Int) (w:World):(Op.equal 3 (vI k) (vI k')).run Tryz.prog w = .ok (decide (k=k')) w:=by
 unfold vI
 have e:Op.equal 3 (.int .i64 k) (.int .i64 k')=Op.equalIn (9999+1) 3 (.int .i64 k) (.int .i64 k'):=rfl
 rw [e]
 simp [go_sem]
 by_cases h:k=k'<;>simp [h]
theorem zBt : zFV Tryz.prog 3 vI :=
 ⟨fun e k w=>zEK Tryz.underlying3,fun k k' w=>zHk k k' w,.inr ⟨_,Tryz.underlying3,fun k k'=>by
  by_cases h:k=k'<;>simp [vI,Instr.sameNow,h]⟩,fun k=>by
  simp [vI,Instr.sameBits]⟩
set_option maxHeartbeats 1000000 in
theorem zId (r:RiM) (i:Nat) (x:St) (h:Int) (w:World) (hx:r.t[i]?=some x) (hl:r.t.length≤1000000) (ht:zAB zA3 9 w r.A r.t) (h0:0≤h∧h≤400000) (hr:0≤zAP r.b x.radius false∧zAP r.b x.radius false≤20000) (hs:-500≤zAP r.b r.s.steer true∧zAP r.b r.s.steer true≤500) :
  Gv Tryz.prog 124 [vRi r,.int .i64 (i:Int),.int .i64 h] w (.int .i64 (zEm r.b r.s x h)):=by
 have hlt:i<r.t.length:=(List.getElem?_eq_some_iff.1 hx).1
 have hO:=fun W=>zDB r x.radius false W
 have hO2:=fun W=>zDB r r.s.steer true W
 have e:zEm r.b r.s x h=if 10 * zAP r.b x.radius false=0 then 0 else 1200 * h / (10 * zAP r.b x.radius false)+zAP r.b r.s.steer true:=rfl
 rw [e]
 clear e
 generalize zAP r.b x.radius false=n at *
 generalize zAP r.b r.s.steer true=m at *
 have q1:=Int.ediv_nonneg (show 0≤1200 * h by omega) (show 0≤10 * n by omega)
 have q2:=Int.ediv_le_self (10 * n) (show 0≤1200 * h by omega)
 have:zAZ r.t i x:=⟨hx⟩
 obtain ⟨bA,oA,hA,_,_⟩:=ht.at_ hlt
 obtain ⟨⟨cls,st,ru,dr,we,⟨s1,s2⟩⟩,t,A,c,b9⟩:=r
 simp only at hA
 subst hA
 have:InS w bA oA zA3 9 t:=⟨ht⟩
 obtain ⟨xi,xl,xf,⟨xr1,xr2⟩,xs,xw⟩:=x
 unfold Gv
 unfold vRi at *
 simp only at *
 (refine ze (n:=30) Tryz.func124 rfl rfl rfl ?_)
 (repeat' (first|((with_reducible refine zV ?_);first|refine zO rfl rfl rfl ?_|refine zD rfl rfl rfl ?_|(refine zQ rfl rfl rfl ?_;refine ⟨_,rfl,?_⟩)|refine zS rfl rfl rfl ?_|(refine zd rfl rfl rfl rfl rfl (fun h=>?_) (fun h=>?_)<;>(dsimp only [cmpP] at h;(try (exfalso;omega))))|refine zb rfl rfl rfl rfl (by omega) ?_|refine zm rfl rfl rfl rfl (IntWalk.i64_in _ (by omega)) ?_|refine zCO rfl rfl rfl rfl (IntWalk.i64_in _ (by omega)) ?_|refine zK rfl rfl rfl rfl rfl (by omega) ?_|refine zL rfl rfl rfl rfl rfl (by first|decide|omega) ?_|(refine zl rfl rfl rfl rfl (fun b=>?_))|refine zFe rfl rfl rfl rfl (by omega) (by omega) (IntWalk.i64_in _ (by omega)) ?_)|(with_reducible first|refine zW ?_|refine zC ?_|refine zU ?_|refine zB ?_|refine zX ?_|refine zT ?_|refine zF ?_|refine zf ?_)|((with_reducible refine zI ?_ ?_);(· exact rfl))|((with_reducible refine zH ?_ ?_);(· exact rfl))))
 (refine zAY (by kernel_rfl) (by kernel_rfl) (by kernel_rfl) ?_)
 (repeat' (first|((with_reducible refine zAq ?_);first|refine zA (zAT rfl rfl) rfl ?_|refine zA (zAF rfl rfl (by exact rfl)) rfl ?_|refine zA (zAQ rfl rfl) rfl ?_|refine zA (zAz rfl rfl rfl) rfl ?_|refine zA (zAS rfl rfl) rfl ?_|refine zAA rfl rfl rfl ?_|(refine zBP rfl rfl rfl rfl rfl (fun h=>?_) (fun h=>?_)<;>(dsimp only [cmpP] at h;(try (exfalso;omega))))|refine zA (zu (I:=i) rfl rfl rfl (by omega) (by first|omega|(dsimp only;omega))) rfl ?_|refine zAk rfl rfl rfl rfl (fun _ _ q=>hO _) ?_|refine zA (zA6 rfl rfl rfl (IntWalk.i64_in _ (by omega))) rfl ?_|refine zA (zAM rfl rfl rfl) rfl ?_|refine zA (zBU rfl rfl) rfl ?_|refine zA (zAl rfl rfl rfl (by omega)) rfl ?_|refine zA (zA8 rfl rfl rfl (IntWalk.i64_in _ (by omega))) rfl ?_|refine zA (zBB rfl rfl rfl (IntWalk.i64_in _ (by omega))) rfl ?_|refine zA (zA6 rfl rfl rfl (IntWalk.i64_in _ (by omega))) rfl ?_|refine zA (zu rfl rfl rfl rfl (by omega)) rfl ?_|refine zA (zAJ rfl rfl rfl rfl (by first|decide|omega)) rfl ?_|refine zA (zBM rfl rfl) rfl ?_|refine zA (zBV rfl rfl) rfl ?_|refine zA (zAE rfl rfl) rfl ?_|refine zA (zAR rfl rfl (IntWalk.i64_in _ (by omega))) rfl ?_|refine zA (zBE rfl rfl rfl (by omega) (by omega) (IntWalk.i64_in _ (by omega))) rfl ?_|refine zA (zBT rfl rfl rfl (by omega) (by omega)) rfl ?_|refine zA (zBF rfl rfl rfl) rfl ?_|refine zA (zA7 rfl rfl rfl) rfl ?_|refine zA (zAN rfl rfl (by exact rfl)) rfl ?_|refine zA (zAI rfl rfl rfl) rfl ?_)|(with_reducible refine zBI ?_)))
 all_goals (repeat' (first|((with_reducible refine zV ?_);first|refine zO rfl rfl rfl ?_|refine zD rfl rfl rfl ?_|(refine zQ rfl rfl rfl ?_;refine ⟨_,rfl,?_⟩)|refine zS rfl rfl rfl ?_|(refine zd rfl rfl rfl rfl rfl (fun h=>?_) (fun h=>?_)<;>(dsimp only [cmpP] at h;(try (exfalso;omega))))|refine zb rfl rfl rfl rfl (by omega) ?_|refine zm rfl rfl rfl rfl (IntWalk.i64_in _ (by omega)) ?_|refine zCO rfl rfl rfl rfl (IntWalk.i64_in _ (by omega)) ?_|refine zK rfl rfl rfl rfl rfl (by omega) ?_|refine zL rfl rfl rfl rfl rfl (by first|decide|omega) ?_|(refine zl rfl rfl rfl rfl (fun b=>?_))|refine zFe rfl rfl rfl rfl (by omega) (by omega) (IntWalk.i64_in _ (by omega)) ?_)|(with_reducible first|refine zW ?_|refine zC ?_|refine zU ?_|refine zB ?_|refine zX ?_|refine zT ?_|refine zF ?_|refine zf ?_)|((with_reducible refine zI ?_ ?_);(· exact rfl))|((with_reducible refine zH ?_ ?_);(· exact rfl))))
 ·exact zk (by exact rTm rfl) () trivial (by rw [if_pos (by assumption)];rfl) (fun _ h=>h.sub (by (repeat constructor)))
 ·(refine zAY (by kernel_rfl) (by kernel_rfl) (by kernel_rfl) ?_)
  (repeat' (first|((with_reducible refine zAq ?_);first|refine zA (zAT rfl rfl) rfl ?_|refine zA (zAF rfl rfl (by exact rfl)) rfl ?_|refine zA (zAQ rfl rfl) rfl ?_|refine zA (zAz rfl rfl rfl) rfl ?_|refine zA (zAS rfl rfl) rfl ?_|refine zAA rfl rfl rfl ?_|(refine zBP rfl rfl rfl rfl rfl (fun h=>?_) (fun h=>?_)<;>(dsimp only [cmpP] at h;(try (exfalso;omega))))|refine zAk rfl rfl rfl rfl (fun _ _ q=>hO2 _) ?_|refine zA (zA6 rfl rfl rfl (IntWalk.i64_in _ (by omega))) rfl ?_|refine zA (zBE rfl rfl rfl (by omega) (by omega) (IntWalk.i64_in _ (by omega))) rfl ?_|refine zA (zA8 rfl rfl rfl (IntWalk.i64_in _ (by omega))) rfl ?_|refine zA (zAM rfl rfl rfl) rfl ?_|refine zA (zBU rfl rfl) rfl ?_|refine zA (zAl rfl rfl rfl (by omega)) rfl ?_|refine zA (zA8 rfl rfl rfl (IntWalk.i64_in _ (by omega))) rfl ?_|refine zA (zBB rfl rfl rfl (IntWalk.i64_in _ (by omega))) rfl ?_|refine zA (zA6 rfl rfl rfl (IntWalk.i64_in _ (by omega))) rfl ?_|refine zA (zu rfl rfl rfl rfl (by omega)) rfl ?_|refine zA (zAJ rfl rfl rfl rfl (by first|decide|omega)) rfl ?_|refine zA (zBM rfl rfl) rfl ?_|refine zA (zBV rfl rfl) rfl ?_|refine zA (zAE rfl rfl) rfl ?_|refine zA (zAR rfl rfl (IntWalk.i64_in _ (by omega))) rfl ?_|refine zA (zBE rfl rfl rfl (by omega) (by omega) (IntWalk.i64_in _ (by omega))) rfl ?_|refine zA (zBT rfl rfl rfl (by omega) (by omega)) rfl ?_|refine zA (zBF rfl rfl rfl) rfl ?_|refine zA (zA7 rfl rfl rfl) rfl ?_|refine zA (zAN rfl rfl (by exact rfl)) rfl ?_|refine zA (zAI rfl rfl rfl) rfl ?_)|(with_reducible refine zBI ?_)))
  all_goals (repeat' (first|((with_reducible refine zV ?_);first|refine zO rfl rfl rfl ?_|refine zD rfl rfl rfl ?_|(refine zQ rfl rfl rfl ?_;refine ⟨_,rfl,?_⟩)|refine zS rfl rfl rfl ?_|(refine zd rfl rfl rfl rfl rfl (fun h=>?_) (fun h=>?_)<;>(dsimp only [cmpP] at h;(try (exfalso;omega))))|refine zb rfl rfl rfl rfl (by omega) ?_|refine zm rfl rfl rfl rfl (IntWalk.i64_in _ (by omega)) ?_|refine zCO rfl rfl rfl rfl (IntWalk.i64_in _ (by omega)) ?_|refine zK rfl rfl rfl rfl rfl (by omega) ?_|refine zL rfl rfl rfl rfl rfl (by first|decide|omega) ?_|(refine zl rfl rfl rfl rfl (fun b=>?_))|refine zFe rfl rfl rfl rfl (by omega) (by omega) (IntWalk.i64_in _ (by omega)) ?_)|(with_reducible first|refine zW ?_|refine zC ?_|refine zU ?_|refine zB ?_|refine zX ?_|refine zT ?_|refine zF ?_|refine zf ?_)|((with_reducible refine zI ?_ ?_);(· exact rfl))|((with_reducible refine zH ?_ ?_);(· exact rfl))))
  all_goals exact zk (by exact rTm rfl) () trivial (by rw [if_neg (by assumption)];rfl) (fun _ h=>h.sub (by (repeat constructor)))
end Go.Proofs.YtcpdjamlhhfbhaaGreat
