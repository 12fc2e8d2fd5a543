/- S18 -/
import Derived.Test.YtcpdjamlhhfbhaaGreatS17
import Derived.Test.YtcpdjamlhhfbhaaGreatS9
set_option linter.unusedSimpArgs false
set_option linter.unusedVariables false
namespace Go.Proofs.YtcpdjamlhhfbhaaGreat.Two
variable {ro : Option Nat}
open Go.RowKit
set_option maxRecDepth 20000
theorem zFn (a:List Sp) (A B:Option Addr) (c d:Nat) (w:World) (ha:zg zAM 2 w A a) (hb:zg zAM 2 w B a) (hl:a.length≤1000000):Gv Tryz.prog 35 [.slice A a.length c,.slice B a.length d] w (.bool true) :=
 ((zGI a a A B c d w ha hb hl hl).of (by simp)).gv
def t04 : List St:=[⟨1,⟨1000,1000⟩,⟨100,100⟩,⟨0,0⟩,0,0⟩]
def s04 : SlM:=⟨3,⟨50,50⟩,⟨0,0⟩,⟨0,0⟩,⟨60000,60000⟩,⟨0,0⟩⟩
theorem ev_h04 : zBc s04 t04 2=[⟨50,50⟩,⟨150,150⟩]:=by decide +kernel
theorem fit04 : zBs t04:=fun s hs=>by simp [t04] at hs;subst hs;decide
set_option maxHeartbeats 2000000 in
theorem zF9 (w:World):Gv Tryz.prog 13 [] w (.bool true):=by
 have hH:=fun W A (hA:zg zq 9 W A t04)=>zEO s04 t04 A 1 W hA fit04 (by decide) (by decide +kernel) (by decide +kernel)
 rw [show t04.length+1=2 from rfl,ev_h04] at hH
 unfold Gv
 unfold vSl s04 at *
 simp only at hH
 (refine zD (n:=44) Tryz.func13 rfl rfl rfl ?_)
 (repeat' (first|((with_reducible refine zH ?_);first|refine zF rfl rfl rfl ?_|refine zC rfl rfl rfl ?_|(refine zB8 rfl rfl rfl rfl (fun _ _ q=>zHP _) ?_;rintro bp -;dsimp only [List.cons_append,List.nil_append])|refine zE rfl rfl rfl rfl (fun _ _ q=>zBi _ _ _) ?_|refine zh rfl rfl rfl rfl ?_|(refine zV rfl rfl rfl rfl rfl ?_;refine ⟨rfl,by first|decide|exact Nat.le_of_ble_eq_true rfl|(simp;omega),_,rfl,?_⟩)|(refine zX rfl rfl (fun b=>?_))|(refine zAJ rfl rfl rfl ?_;refine ⟨_,rfl,?_⟩)|(refine zc rfl rfl rfl ?_;refine ⟨rfl,_,rfl,fun b=>?_⟩))|(with_reducible first|refine zK ?_|refine zB ?_|refine zG ?_|refine zA ?_)))
 obtain ⟨b3,hb3⟩:∃ y,y=b:=⟨_,rfl⟩
 subst hb3
 obtain ⟨bT,hbT⟩:∃ y,y=b:=⟨_,rfl⟩
 subst hbT
 refine zBk (H':=[.blk b3 [.slice (some ⟨bT,0,none⟩) 1 1],.blk bT (zq ⟨1,⟨1000,1000⟩,⟨100,100⟩,⟨0,0⟩,0,0⟩),.blk bp [.int .i64 500,.int .i64 500]]) (fun _ h=>h) ?_
 (refine zAP [] [] [] rfl (show ([]:List Nat).Nodup by decide) (fun _ h=>h) (by kernel_rfl) [[],[Y],[Z,Y],[Z,Z,Y],[Z,Z,Z,Z],[Z,Z,Z,Z,Z],[Z,Z,Z,Z,Z,Z],[Y,Z,Z,Z,Z,Z,Z],[Y,Z,Z,Z,Z,Z,Z,Z],[Z,Z,Z,Z,Z,Z,Z,Z,Z]] (by kernel_rfl) (by kernel_rfl) (by kernel_rfl) (by kernel_rfl) (by kernel_rfl) ?_)
 (repeat' (first|(((with_reducible refine zCL ?_ ?_);(· exact rfl);refine ⟨_,fun G=>(by (try simp (decide:=true) only [vis,see,fltT,z8,Nat.reduceAdd,Nat.reduceSub,if_true,if_false,List.set_cons_zero,List.set_cons_succ,List.set_nil,List.nil_append,List.cons_append]);rfl),?_⟩);first|refine zW _ (fun _=>zAi rfl rfl) (fun _=>rfl) rfl (by intro G G' h;simp (decide:=true) only [h]) ?_|refine zW _ (fun _=>zAC rfl rfl (by exact rfl)) (fun _=>rfl) rfl (by intro G G' h;simp (decide:=true) only [h]) ?_|refine zW _ (fun _=>zAa rfl rfl) (fun _=>rfl) rfl (by intro G G' h;simp (decide:=true) only [h]) ?_|refine zAR _ rfl (fun _=>rfl) rfl (fun _=>rfl) (fun _=>rfl) (fun _ _ _ q=>zBi _ _ _) (by intro G G' h;simp (decide:=true) only [h]) ?_|refine c_newsl rfl (fun _=>rfl) rfl (fun _=>rfl) (fun _=>rfl) (fun _ _ _ q=>hH _ _ (zo (enc:=zq) (by exact rfl) _ q.below q.own)) ?_|refine zW _ (fun _=>zCJ rfl rfl rfl) (fun _=>rfl) rfl (by intro G G' h;simp (decide:=true) only [h]) ?_|refine zW _ (fun _=>zCK rfl rfl (by exact rfl)) (fun _=>rfl) rfl (by intro G G' h;simp (decide:=true) only [h]) ?_)|(with_reducible refine zB2 ?_)))
 (intro G;simp only [regsT,z8,zA7,ini,List.nil_append,List.cons_append])
 (repeat' (first|((with_reducible refine zH ?_);first|refine zF rfl rfl rfl ?_|refine zC rfl rfl rfl ?_|refine zn rfl rfl rfl rfl ?_|(refine zS rfl rfl rfl rfl rfl (fun h=>?_) (fun h=>?_)<;>(dsimp only [cmpP] at h;(try (exfalso;omega))))|refine zE rfl rfl rfl rfl (fun _ _ q=>zBi _ _ _) ?_|refine zE rfl rfl rfl rfl (fun _ _ q=>zFn [⟨500,500⟩] _ _ _ _ _ (zo (enc:=zAM) (by exact rfl) _ q.below q.own) (zo (enc:=zAM) (by exact rfl) _ q.below q.own) (by decide)) ?_|refine zE rfl rfl rfl rfl (fun _ _ q=>zFn [⟨50,50⟩,⟨150,150⟩] _ _ _ _ _ (zEw q.own (Below.refl _ _)) (zBB (enc:=zAM) [⟨50,50⟩,⟨150,150⟩] (by exact rfl) _ q.below q.own) (by decide)) ?_|(refine zc rfl rfl rfl ?_;refine ⟨rfl,_,rfl,fun b=>?_⟩))|(with_reducible first|refine zK ?_|refine zB ?_|refine zG ?_|refine zA ?_|refine zR ?_)))
 exact zN (by exact rTm rfl) () trivial rfl (fun _ h=>h.sub (by (repeat constructor)))
def t05 : List St:=[⟨1,⟨1000,1000⟩,⟨0,0⟩,⟨0,0⟩,0,0⟩,⟨2,⟨1000,1000⟩,⟨0,0⟩,⟨0,0⟩,0,0⟩]
def s05 : SlM:=⟨1,⟨200,200⟩,⟨0,0⟩,⟨0,0⟩,⟨60000,60000⟩,⟨0,0⟩⟩
theorem ev_v05 : zEu (zt false s05 t05 1)=198∧zBE (zt true s05 t05 1)=199:=by decide +kernel
theorem zGa : topE t05 199=0:=by decide +kernel
theorem fit05 : zBs t05:=fun s hs=>by simp [t05] at hs;rcases hs with rfl|rfl<;>decide
theorem least05 (A:Option Addr) (c bS bC:Nat) (BA:Option Addr) (bc:Nat):zEV (zCD t05 A c 199 bS bC (zAz t05) BA bc) 0=5026:=by
 have h0:zCv (zCD t05 A c 199 bS bC (zAz t05) BA bc)=0:=zDE.trans zGa
 rw [zFg (l:=zCD t05 A c 199 bS bC (zAz t05) BA bc) (m:=zAz t05) (b:=0) (x:=⟨1,⟨1000,1000⟩,⟨0,0⟩,⟨0,0⟩,0,0⟩) rfl (by decide) (zEY h0) rfl]
 show upI (1000 * 1000) 199=5026
 decide
set_option maxHeartbeats 4000000 in
theorem zB5 (w:World):Gv Tryz.prog 5 [] w (.bool true):=by
 have hS:=fun W A (hA:zg zq 9 W A t05)=>zEN s05 t05 A 2 1 W hA fit05 (by decide) (by decide +kernel) (by decide +kernel) (by decide)
 rw [ev_v05.1,ev_v05.2] at hS
 have hT:=fun W A (hA:zg zq 9 W A t05)=>zDn t05 A 2 199 W hA fit05 (by decide) (by decide)
 rw [zGa] at hT
 have hL:=fun W A bS bC BA bc (ht:zg zq 9 W A t05) h1 h2 h3=>zEd (zCD t05 A 2 199 bS bC (zAz t05) BA bc) 0 W (zFL ht h1 h2 h3) (zC4 fit05 (by decide)) (zDE.trans zGa) (show 0<(zAS (zAz t05)).length by decide)
 simp only [least05] at hL
 unfold Gv
 unfold vSl s05 at *
 simp only at hS
 unfold vLn zCD at hL hT
 simp only at hL hT
 (refine zD (n:=53) Tryz.func5 rfl rfl rfl ?_)
 (repeat' (first|((with_reducible refine zH ?_);first|refine zC rfl rfl rfl ?_|refine zE rfl rfl rfl rfl (fun _ _ q=>zBi _ _ _) ?_|(refine zV rfl rfl rfl rfl rfl ?_;refine ⟨rfl,by first|decide|exact Nat.le_of_ble_eq_true rfl|(simp;omega),_,rfl,?_⟩)|(refine zX rfl rfl (fun b=>?_))|(refine zAJ rfl rfl rfl ?_;refine ⟨_,rfl,?_⟩)|(refine zc rfl rfl rfl ?_;refine ⟨rfl,_,rfl,fun b=>?_⟩))|(with_reducible first|refine zK ?_|refine zB ?_|refine zG ?_|refine zA ?_)))
 obtain ⟨b1,hb1⟩:∃ y,y=b:=⟨_,rfl⟩
 subst hb1
 obtain ⟨bT,hbT⟩:∃ y,y=b:=⟨_,rfl⟩
 subst hbT
 refine zBk (H':=[.blk b1 [.slice (some ⟨bT,0,none⟩) 2 2],.blk bT (t05.flatMap zq)]) (fun _ h=>h) ?_
 (refine zAP [(8,9)] [] [] rfl (by decide) (fun _ h=>h) (by kernel_rfl) [[],[Y],[Z,Y],[Z,Z,Y],[Z,Z,Z,Z],[Z,Z,Z,Z,Z],[Z,Z,Z,Z,Z,Z],[Y,Z,Z,Z,Z,Z,Z],[Y,Y,Y,Y,Y,Y,Y,Y],[Z,Y,Z,Z,Z,Z,Z,Z,Z],[Z,Z,Z,Z,Z,Z,Z,Z,Z,Z]] (by kernel_rfl) (by kernel_rfl) (by kernel_rfl) (by kernel_rfl) (by kernel_rfl) ?_)
 (repeat' (first|(((with_reducible refine zCL ?_ ?_);(· exact rfl);refine ⟨_,fun G=>(by (try simp (decide:=true) only [vis,see,fltT,z8,Nat.reduceAdd,Nat.reduceSub,if_true,if_false,List.set_cons_zero,List.set_cons_succ,List.set_nil,List.nil_append,List.cons_append]);rfl),?_⟩);first|refine zW _ (fun _=>zAi rfl rfl) (fun _=>rfl) rfl (by intro G G' h;simp (decide:=true) only [h]) ?_|refine zW _ (fun _=>zAC rfl rfl (by exact rfl)) (fun _=>rfl) rfl (by intro G G' h;simp (decide:=true) only [h]) ?_|refine zW _ (fun _=>zAa rfl rfl) (fun _=>rfl) rfl (by intro G G' h;simp (decide:=true) only [h]) ?_|refine zAR _ rfl (fun _=>rfl) rfl (fun _=>rfl) (fun _=>rfl) (fun _ _ _ q=>zBi _ _ _) (by intro G G' h;simp (decide:=true) only [h]) ?_|refine zAR _ rfl (fun _=>rfl) rfl (fun _=>rfl) (fun _=>rfl) (fun _ _ _ q=>hS _ _ (zBB (enc:=zq) t05 (by exact rfl) _ q.below q.own)) (by intro G G' h;simp (decide:=true) only [h]) ?_|refine zW _ (fun _=>zCJ rfl rfl rfl) (fun _=>rfl) rfl (by intro G G' h;simp (decide:=true) only [h]) ?_|refine zW _ (fun _=>zCK rfl rfl (by exact rfl)) (fun _=>rfl) rfl (by intro G G' h;simp (decide:=true) only [h]) ?_|refine zDO rfl (fun _=>rfl) rfl ?_)|(refine zCl (gx:=fun G=>(G 8).g) (cs:=fun _=>[.int .i64 0,.int .i64 0]) (cs':=fun _=>[.int .i64 198,.int .i64 199]) 8 (by decide) rfl rfl (fun _=>rfl) rfl (fun _=>rfl) (fun _=>rfl) (fun _=>rfl) (fun _=>rfl) (fun _=>rfl) (fun _=>rfl) (fun _=>rfl) (by intro G G' h;simp (decide:=true) only [h]) (by exact fun _ _ _=>rfl) ?_)|(with_reducible refine zB2 ?_)))
 intro G
 simp only [regsT,Nat.reduceAdd,List.nil_append,List.cons_append]
 generalize hg:(G 8).g=b2
 refine zBk (H':=[.blk b2 [.int .i64 198,.int .i64 199],.blk b1 [.slice (some ⟨bT,0,none⟩) 2 2],.blk bT (t05.flatMap zq)]) (fun _ h=>by first|exact h|exact hg ▸ h) ?_
 (repeat' (first|((with_reducible refine zH ?_);first|refine zF rfl rfl rfl ?_|refine zC rfl rfl rfl ?_|(refine zM rfl rfl rfl ?_;refine ⟨_,rfl,?_⟩)|(refine zB8 rfl rfl rfl rfl (fun _ _ q=>hT _ _ (zBB (enc:=zq) t05 (by exact rfl) _ q.below q.own)) ?_;rintro ⟨bS,bC,BA,bc⟩ -;dsimp only [List.cons_append,List.nil_append])|refine zh rfl rfl rfl rfl ?_|(refine zV rfl rfl rfl rfl rfl ?_;refine ⟨rfl,by first|decide|exact Nat.le_of_ble_eq_true rfl|(simp;omega),_,rfl,?_⟩)|(refine zX rfl rfl (fun b=>?_)))|(with_reducible first|refine zK ?_|refine zB ?_|refine zG ?_|refine zA ?_)))
 (repeat' (first|((with_reducible refine zH ?_);first|refine zF rfl rfl rfl ?_|refine zC rfl rfl rfl ?_|refine zE rfl rfl rfl rfl (fun _ _ q=>hL _ _ _ _ _ _ (zBB (enc:=zq) t05 (by exact rfl) _ q.below q.own) (zo (enc:=zBb) (by exact rfl) _ q.below q.own) (zo (enc:=zAf) (by exact rfl) _ q.below q.own) (zEw q.own (Below.refl _ _))) ?_|refine zh rfl rfl rfl rfl ?_)|(with_reducible first|refine zK ?_|refine zG ?_|refine zA ?_)))
 (refine zAP [] [] [] rfl (show ([]:List Nat).Nodup by decide) (fun _ h=>h) (by kernel_rfl) [[],[Z],[Z,Z],[Z,Z,Z],[Z,Z,Z,Z],[Z,Z,Z,Z,Z],[Z,Z,Z,Z,Z,Z],[Z,Z,Z,Z,Z,Z,Z],[Z,Z,Z,Z,Z,Z,Z,Z],[Z,Z,Z,Z,Z,Z,Z,Z,Z],[Y,Z,Z,Z,Z,Z,Z,Z,Z,Z],[Z,Z,Z,Z,Z,Z,Z,Z,Z,Z,Z],[Z,Z,Z,Z,Z,Z,Z,Z,Z,Z,Z,Z],[Z,Z,Z,Z,Z,Z,Z,Z,Z,Z,Z,Z,Z],[Z,Z,Z,Z,Z,Z,Z,Z,Z,Z,Z,Z,Z,Z],[Z,Z,Z,Z,Z,Z,Z,Z,Z,Z,Z,Z,Z,Z,Z],[Z,Z,Z,Z,Z,Z,Z,Z,Z,Z,Z,Z,Z,Z,Z,Z],[Z,Z,Z,Z,Z,Z,Z,Z,Z,Z,Z,Z,Z,Z,Z,Z,Z],[Z,Z,Z,Z,Z,Z,Z,Z,Z,Z,Z,Z,Z,Z,Z,Z,Z,Z],[Z,Z,Z,Z,Z,Z,Z,Z,Z,Z,Z,Z,Z,Z,Z,Z,Z,Z,Z],[Z,Z,Z,Z,Z,Z,Z,Z,Z,Z,Z,Z,Z,Z,Z,Z,Z,Z,Z,Z],[Z,Z,Z,Z,Z,Z,Z,Z,Z,Z,Z,Z,Z,Z,Z,Z,Z,Z,Z,Z,Z]] (by kernel_rfl) (by kernel_rfl) (by kernel_rfl) (by kernel_rfl) (by kernel_rfl) ?_)
 (repeat' (first|(((with_reducible refine zCL ?_ ?_);(· exact rfl);refine ⟨_,fun G=>(by (try simp (decide:=true) only [vis,see,fltT,z8,Nat.reduceAdd,Nat.reduceSub,if_true,if_false,List.set_cons_zero,List.set_cons_succ,List.set_nil,List.nil_append,List.cons_append]);rfl),?_⟩);first|refine zW _ (fun _=>zAi rfl rfl) (fun _=>rfl) rfl (by intro G G' h;simp (decide:=true) only [h]) ?_|refine zW _ (fun _=>zAC rfl rfl (by exact rfl)) (fun _=>rfl) rfl (by intro G G' h;simp (decide:=true) only [h]) ?_|refine zW _ (fun _=>zCA rfl rfl rfl) (fun _=>rfl) rfl (by intro G G' h;simp (decide:=true) only [h]) ?_|refine zW _ (fun _=>zAa rfl rfl) (fun _=>rfl) rfl (by intro G G' h;simp (decide:=true) only [h]) ?_|(refine c_cmp rfl rfl (fun _=>rfl) rfl (fun _=>rfl) (fun _=>rfl) (fun h=>?_) (fun h=>?_)<;>(dsimp only [cmpP] at h;(try (exfalso;omega))))|refine zAR _ rfl (fun _=>rfl) rfl (fun _=>rfl) (fun _=>rfl) (fun _ _ _ q=>zBi _ _ _) (by intro G G' h;simp (decide:=true) only [h]) ?_|refine zAR _ rfl (fun _=>rfl) rfl (fun _=>rfl) (fun _=>rfl) (fun _ _ _ q=>zF9 _) (by intro G G' h;simp (decide:=true) only [h]) ?_|(refine c_eqspT rfl (fun _=>rfl) rfl (fun _=>rfl) (fun _=>rfl) (fun h=>?_) (fun h=>absurd ⟨rfl,rfl⟩ h)))|(with_reducible refine zB2 ?_)))
 (intro G;simp only [regsT,z8,zA7,ini,List.nil_append,List.cons_append])
 (repeat' (first|(with_reducible first|refine zA ?_|refine zR ?_)))
 exact zN (by exact rTm rfl) () trivial rfl (fun _ h=>h.sub (by (repeat constructor)))
end Go.Proofs.YtcpdjamlhhfbhaaGreat.Two
namespace Go.Proofs.YtcpdjamlhhfbhaaGreat.Two
variable {ro : Option Nat}
open Go.RowKit
set_option maxRecDepth 20000
def zDi (f:Nat→Int) (i:Nat):List Int:=(List.range i).map f
theorem zHK {f:Nat→Int} {i:Nat}:zDi f (i+1)=zDi f i++[f i]:=by unfold zDi;rw [List.range_succ,List.map_append];rfl
theorem fsTo_len {f:Nat→Int} {i:Nat}:(zDi f i).length=i:=by simp [zDi]
theorem fsTo_at {f:Nat→Int} {i k:Nat} (h:k<i):(zDi f i)[k]?=some (f k):=by
 unfold zDi;rw [List.getElem?_map,List.getElem?_range h];rfl
theorem zFk {L v fast:Int} (hL:1≤L) (h1:1≤fast) (hv0:0<v) (hv:v≤fast):upI (1000 * L) fast≤upI (1000 * L) v∧(v=fast→upI (1000 * L) fast=upI (1000 * L) v) :=
 ⟨upI_anti (by omega) hv0 hv,fun h=>by rw [h]⟩
set_option maxHeartbeats 16000000 in
theorem zFK (s:SlM) (t:List St) (A:Option Addr) (c:Nat) (w:World) (ht:zg zq 9 w A t) (hf:zBs t) (hcl:0≤s.cls∧s.cls≤255):Gv Tryz.prog 3 [.agg #[.slice A t.length c],vSl s] w (.bool true):=by
 have hGr:=fun W=>great_n A t.length c W
 have hSl:=fun W=>zHB s W hcl
 unfold Gv
 by_cases hg:20<t.length
 ·rw [decide_eq_true hg] at hGr
  unfold vSl at *
  (refine zD (n:=140) Tryz.func3 rfl rfl rfl ?_)
  (repeat' (first|((with_reducible refine zH ?_);first|refine zF rfl rfl rfl ?_|refine zC rfl rfl rfl ?_|(refine zM rfl rfl rfl ?_;refine ⟨_,rfl,?_⟩)|refine zn rfl rfl rfl rfl ?_|refine zd rfl rfl rfl ?_|refine zE rfl rfl rfl rfl (fun _ _ q=>zB5 _) ?_|refine zE rfl rfl rfl rfl (fun _ _ q=>hGr _) ?_|(refine zf rfl rfl rfl rfl (fun b=>?_)))|(with_reducible first|refine zK ?_|refine zB ?_|refine zG ?_|refine zA ?_|refine zR ?_|refine zb ?_)|((with_reducible refine zO ?_ ?_);(· exact rfl))))
  exact zN (by exact rTm rfl) () trivial rfl (fun _ h=>h.sub (by (repeat constructor)))
 rw [decide_eq_false hg] at hGr
 have hTr:=fun W (hW:Below w.heap.size w W)=>zDD t A c W (ht.below hW) hf (by omega)
 cases hv:valid t with
 | false =>
  rw [hv] at hTr
  unfold vSl at *
  (refine zD (n:=140) Tryz.func3 rfl rfl rfl ?_)
  (repeat' (first|((with_reducible refine zH ?_);first|refine zF rfl rfl rfl ?_|refine zC rfl rfl rfl ?_|(refine zM rfl rfl rfl ?_;refine ⟨_,rfl,?_⟩)|refine zn rfl rfl rfl rfl ?_|refine zd rfl rfl rfl ?_|refine zE rfl rfl rfl rfl (fun _ _ q=>zB5 _) ?_|refine zE rfl rfl rfl rfl (fun _ _ q=>hGr _) ?_|refine zE rfl rfl rfl rfl (fun _ _ q=>hTr _ q.below) ?_|refine zAB rfl rfl rfl ?_|(refine zf rfl rfl rfl rfl (fun b=>?_)))|(with_reducible first|refine zK ?_|refine zB ?_|refine zG ?_|refine zA ?_|refine zR ?_|refine zb ?_)|((with_reducible refine zO ?_ ?_);(· exact rfl))))
  exact zN (by exact rTm rfl) () trivial rfl (fun _ h=>h.sub (by (repeat constructor)))
 | true =>
 rw [hv] at hTr
 cases hs:zCg s with
 | false =>
  rw [hs] at hSl
  unfold vSl at *
  (refine zD (n:=140) Tryz.func3 rfl rfl rfl ?_)
  (repeat' (first|((with_reducible refine zH ?_);first|refine zF rfl rfl rfl ?_|refine zC rfl rfl rfl ?_|(refine zM rfl rfl rfl ?_;refine ⟨_,rfl,?_⟩)|refine zn rfl rfl rfl rfl ?_|refine zd rfl rfl rfl ?_|refine zE rfl rfl rfl rfl (fun _ _ q=>zB5 _) ?_|refine zE rfl rfl rfl rfl (fun _ _ q=>hGr _) ?_|refine zE rfl rfl rfl rfl (fun _ _ q=>hTr _ q.below) ?_|refine zE rfl rfl rfl rfl (fun _ _ q=>hSl _) ?_|refine zAB rfl rfl rfl ?_|(refine zf rfl rfl rfl rfl (fun b=>?_)))|(with_reducible first|refine zK ?_|refine zB ?_|refine zG ?_|refine zA ?_|refine zR ?_|refine zb ?_)|((with_reducible refine zO ?_ ?_);(· exact rfl))))
  exact zN (by exact rTm rfl) () trivial rfl (fun _ h=>h.sub (by (repeat constructor)))
 | true =>
 rw [hs] at hSl
 have hl:t.length≤20:=by omega
 have hln:=valid_ln hv
 have hSp:=fun (k:Nat) W (hW:Below w.heap.size w W) (hk:k≤t.length)=>zEN s t A c k W (ht.below hW) hf hl hv hs hk
 have hLe:=fun (i:Nat) x W (hW:Below w.heap.size w W) (hx:t[i]?=some x)=>zGJ s t A c i x W (ht.below hW) hf hl hv hs hx
 simp only [fast_max] at hLe
 have hfin:=fun i=>zEA (h:=zt true s t i)
 have hTL:=fun fast W (hW:Below w.heap.size w W)=>zDn t A c fast W (ht.below hW) hf hl hln.1
 have hBL:=fun fast bS bC BA bc (b:Nat) W (hW:Below w.heap.size w W) (h1:zg zBb 2 W (some ⟨bC,0,none⟩) [⟨⟨0,[⟨0,⟨0,0⟩⟩]⟩,some ⟨bS,0,none⟩,1⟩]) (h2:zg zAf 3 W (some ⟨bS,0,none⟩) [⟨0,⟨0,0⟩⟩]) (h3:zg zAn 4 W BA (zAS (zAz t))) (he:topE t fast=0) (hb:b<zAz t)=>zEd (zCD t A c fast bS bC (zAz t) BA bc) b W (zFL (ht.below hW) h1 h2 h3) (zC4 hf hl) (zDE.trans he) (show b<(zAS (zAz t)).length by rw [zCP];exact hb)
 have hTLe:=fun fast bS bC BA bc (b:Nat) x (he:topE t fast=0) (hb:b<zAz t) (hx:t[b]?=some x)=>zFg (l:=zCD t A c fast bS bC (zAz t) BA bc) (m:=zAz t) (b:=b) (x:=x) rfl hb (zEY (zDE.trans he)) hx
 have hst:=zDB hv
 generalize hh:zt true s t=hd at *
 obtain ⟨f,hfd⟩:∃ f:Nat→Int,f=fun i=>zBE (hd i):=⟨_,rfl⟩
 have hfe:=fun i=>congrFun hfd i
 (try simp only at hfe)
 simp only [← hfe] at hSp hLe hfin
 clear hfe hfd hh
 unfold vSl at *
 (refine zD (n:=140) Tryz.func3 rfl rfl rfl ?_)
 (repeat' (first|((with_reducible refine zH ?_);first|refine zF rfl rfl rfl ?_|refine zC rfl rfl rfl ?_|(refine zM rfl rfl rfl ?_;refine ⟨_,rfl,?_⟩)|refine zP rfl rfl rfl ?_|refine zn rfl rfl rfl rfl ?_|refine zE rfl rfl rfl rfl (fun _ _ q=>zB5 _) ?_|refine zE rfl rfl rfl rfl (fun _ _ q=>hGr _) ?_|refine zE rfl rfl rfl rfl (fun _ _ q=>hTr _ q.below) ?_|refine zE rfl rfl rfl rfl (fun _ _ q=>hSl _) ?_|refine zAB rfl rfl rfl ?_|refine zAD rfl rfl rfl rfl (by omega) ?_|refine zz rfl rfl rfl ?_|(refine zf rfl rfl rfl rfl (fun b=>?_)))|(with_reducible first|refine zK ?_|refine zB ?_|refine zG ?_|refine zA ?_|refine zU ?_|refine zT ?_)|((with_reducible refine zI ?_ ?_);(· exact rfl))))
 obtain ⟨b3,hb3⟩:∃ y,y=b:=⟨_,rfl⟩
 subst hb3
 obtain ⟨b2,hb2⟩:∃ y,y=b:=⟨_,rfl⟩
 subst hb2
 refine zBh encI 1 3 ?_
 refine z9 (ι:=Nat × Value) [2,3,5,39] rfl (fun q=>q.1≤t.length+1) (fun q=>[(40,.int .i64 (q.1:Int)),(6,.int .i64 (zCZ f q.1)),(7,q.2)]) (fun q=>[.row encI 1 3 q.2 (zDi f q.1),.blk b2 [.slice A t.length c],.blk b3 [.int .u8 s.cls,.int .i64 s.start.lo,.int .i64 s.start.hi,.int .i64 s.rub.lo,.int .i64 s.rub.hi,.int .i64 s.drag.lo,.int .i64 s.drag.hi,.int .i64 s.weight.lo,.int .i64 s.weight.hi,.int .i64 s.steer.lo,.int .i64 s.steer.hi]]) (fun q=>t.length+1 - q.1) (0,.slice none 0 0) (Nat.zero_le _) (by (repeat first|exact lK1|refine za rfl ?_)) (by (repeat constructor)) ?_
 rintro ⟨i,v⟩ hi
 simp only at hi
 simp only [zAu,List.cons_append,List.nil_append]
 have hlen:=fsTo_len (f:=f) (i:=i)
 have htop:=zFe (f:=f) (B:=10000) (by omega) (fun i=>(hfin i).2) i
 by_cases hil:i<t.length+1
 ·have hS:=fun W hW=>hSp i W hW (by omega)
  have hfi:=hfin i
  have e1:zCZ f (i+1)=max (zCZ f i) (f i):=rfl
  have e2:=zHK (f:=f) (i:=i)
  generalize zEu (zt false s t i)=v1 at *
  generalize zCZ f i=tf at *
  generalize zDi f i=ls at *
  (repeat' (first|((with_reducible refine zH ?_);first|refine zF rfl rfl rfl ?_|refine zC rfl rfl rfl ?_|(refine zM rfl rfl rfl ?_;refine ⟨_,rfl,?_⟩)|refine zP rfl rfl rfl ?_|(refine zS rfl rfl rfl rfl rfl (fun h=>?_) (fun h=>?_)<;>(dsimp only [cmpP] at h;(try (exfalso;omega))))|refine zE rfl rfl rfl rfl (fun _ _ q=>hS _ q.below) ?_|(refine zCC (enc:=encI) [_] rfl rfl rfl (by (repeat constructor)) rfl rfl (zo (by exact rfl)) (by refine ⟨?_,by decide⟩;(try simp only [List.length_append,List.length_cons,List.length_nil]);omega) (fun A' c'=>?_))|refine zh rfl rfl rfl rfl ?_|refine zAD rfl rfl rfl rfl (by omega) ?_|(refine zV rfl rfl rfl rfl rfl ?_;refine ⟨rfl,by first|decide|exact Nat.le_of_ble_eq_true rfl|(simp;omega),_,rfl,?_⟩)|(refine zX rfl rfl (fun b=>?_))|(refine zc rfl rfl rfl ?_;refine ⟨rfl,_,rfl,fun b=>?_⟩)|refine zFb rfl rfl rfl rfl ?_)|(with_reducible first|refine zK ?_|refine zB ?_|refine zG ?_|refine zA ?_|refine zU ?_|refine zT ?_|refine zu ?_)|((with_reducible refine zO ?_ ?_);(· exact rfl))|((with_reducible refine zI ?_ ?_);(· exact rfl))))
  exact zl (ι:=Nat × Value) (i+1,.slice A' (ls++[f i]).length c') (by simp only;omega) (by simp only;omega) (by simp only [e1];(repeat first|exact lK1|refine za rfl ?_)) (by simp only [e2];(repeat constructor))
 obtain rfl:i=t.length+1:=by omega
 have hge:=fun k (hk:k<t.length+1)=>zFf (f:=f) hk
 generalize hfast:zCZ f (t.length+1)=fast at *
 refine zBS (xs:=zDi f (t.length+1)) (enc:=encI) (by (repeat constructor)) ?_
 rintro A9 c9 rfl
 refine zBk (H':=[.sl encI 1 A9 (zDi f (t.length+1)),.blk b2 [.slice A t.length c],.blk b3 [.int .u8 s.cls,.int .i64 s.start.lo,.int .i64 s.start.hi,.int .i64 s.rub.lo,.int .i64 s.rub.hi,.int .i64 s.drag.lo,.int .i64 s.drag.hi,.int .i64 s.weight.lo,.int .i64 s.weight.hi,.int .i64 s.steer.lo,.int .i64 s.steer.hi]]) (fun _ h=>(h.zDe (xs:=zDi f (t.length+1)) (enc:=encI) (by (repeat constructor))).sub (by (repeat constructor))) ?_
 have hat:=fun k (hk:k<t.length+1)=>fsTo_at (f:=f) hk
 generalize zDi f (t.length+1)=fs at *
 refine zCn (enc:=encI) (xs:=fs) (by (repeat constructor)) (by omega) (fun bF oF hLA=>?_)
 subst hLA
 by_cases hb1:fast<1
 ·(repeat' (first|((with_reducible refine zH ?_);first|refine zF rfl rfl rfl ?_|refine zC rfl rfl rfl ?_|refine zn rfl rfl rfl rfl ?_|refine zd rfl rfl rfl ?_|(refine zS rfl rfl rfl rfl rfl (fun h=>?_) (fun h=>?_)<;>(dsimp only [cmpP] at h;(try (exfalso;omega)))))|(with_reducible first|refine zK ?_|refine zB ?_|refine zG ?_|refine zA ?_|refine zR ?_|refine zb ?_|refine zr ?_|refine zZ ?_|refine ze ?_)|((with_reducible refine zO ?_ ?_);(· exact rfl))|((with_reducible refine zI ?_ ?_);(· exact rfl))))
  exact zN (by exact rTm rfl) () trivial rfl (fun _ h=>h.sub (by (repeat constructor)))
 by_cases hb2:5000<fast
 ·(repeat' (first|((with_reducible refine zH ?_);first|refine zF rfl rfl rfl ?_|refine zC rfl rfl rfl ?_|refine zn rfl rfl rfl rfl ?_|(refine zS rfl rfl rfl rfl rfl (fun h=>?_) (fun h=>?_)<;>(dsimp only [cmpP] at h;(try (exfalso;omega)))))|(with_reducible first|refine zK ?_|refine zB ?_|refine zG ?_|refine zA ?_|refine zR ?_|refine zb ?_|refine zr ?_|refine zZ ?_|refine ze ?_)|((with_reducible refine zO ?_ ?_);(· exact rfl))|((with_reducible refine zI ?_ ?_);(· exact rfl))))
  exact zN (by exact rTm rfl) () trivial rfl (fun _ h=>h.sub (by (repeat constructor)))
 have hT:=fun W hW=>hTL fast W hW
 have hB:=hBL fast
 have hTe:=hTLe fast
 clear hTL hBL hTLe
 by_cases he:topE t fast=0
 rotate_left
 ·rw [decide_eq_false he] at hT
  (repeat' (first|((with_reducible refine zH ?_);first|refine zF rfl rfl rfl ?_|refine zC rfl rfl rfl ?_|(refine zM rfl rfl rfl ?_;refine ⟨_,rfl,?_⟩)|refine zn rfl rfl rfl rfl ?_|(refine zS rfl rfl rfl rfl rfl (fun h=>?_) (fun h=>?_)<;>(dsimp only [cmpP] at h;(try (exfalso;omega))))|(refine zB8 rfl rfl rfl rfl (fun _ _ q=>hT _ q.below) ?_;rintro ⟨bS,bC,BA,bc⟩ -;dsimp only [List.cons_append,List.nil_append])|refine zh rfl rfl rfl rfl ?_|refine zAB rfl rfl rfl ?_|(refine zV rfl rfl rfl rfl rfl ?_;refine ⟨rfl,by first|decide|exact Nat.le_of_ble_eq_true rfl|(simp;omega),_,rfl,?_⟩)|(refine zX rfl rfl (fun b=>?_)))|(with_reducible first|refine zK ?_|refine zB ?_|refine zG ?_|refine zA ?_|refine zR ?_|refine zU ?_|refine zb ?_|refine zr ?_|refine zZ ?_|refine ze ?_)|((with_reducible refine zO ?_ ?_);(· exact rfl))|((with_reducible refine zI ?_ ?_);(· exact rfl))))
  exact zN (by exact rTm rfl) () trivial rfl (fun _ h=>h.sub (by (repeat constructor)))
 rw [decide_eq_true he] at hT
 have htm:zAz t≤t.length - 1:=by unfold zAz;omega
 have htl:=zCP (i:=zAz t)
 have hB:=fun bS bC BA bc b W hW h1 h2 h3 hb=>hB bS bC BA bc b W hW h1 h2 h3 he hb
 unfold vLn zCD at hT hB
 unfold zCD at hTe
 simp only at hT hB hTe
 generalize zAS (zAz t)=bms at *
 generalize zAz t=m at *
 (repeat' (first|((with_reducible refine zH ?_);first|refine zF rfl rfl rfl ?_|refine zC rfl rfl rfl ?_|(refine zM rfl rfl rfl ?_;refine ⟨_,rfl,?_⟩)|refine zP rfl rfl rfl ?_|refine zn rfl rfl rfl rfl ?_|(refine zS rfl rfl rfl rfl rfl (fun h=>?_) (fun h=>?_)<;>(dsimp only [cmpP] at h;(try (exfalso;omega))))|(refine zB8 rfl rfl rfl rfl (fun _ _ q=>hT _ q.below) ?_;rintro ⟨bS,bC,BA,bc⟩ -;dsimp only [List.cons_append,List.nil_append])|refine zh rfl rfl rfl rfl ?_|refine zAB rfl rfl rfl ?_|refine zz rfl rfl rfl ?_|(refine zV rfl rfl rfl rfl rfl ?_;refine ⟨rfl,by first|decide|exact Nat.le_of_ble_eq_true rfl|(simp;omega),_,rfl,?_⟩)|(refine zX rfl rfl (fun b=>?_)))|(with_reducible first|refine zK ?_|refine zB ?_|refine zG ?_|refine zA ?_|refine zU ?_|refine zT ?_|refine zr ?_|refine zZ ?_|refine ze ?_)|((with_reducible refine zI ?_ ?_);(· exact rfl))))
 obtain ⟨b11,hb11⟩:∃ y,y=b:=⟨_,rfl⟩
 subst hb11
 refine zBk (H':=[.blk b11 [.slice A t.length c,.int .i64 fast,.slice (some ⟨bC,0,none⟩) 1 1,.slice BA bms.length bc,.int .i64 0,.int .i64 0,.int .i64 0],.blk bC [.int .i64 0,.slice (some ⟨bS,0,none⟩) 1 1],.blk bS [.int .i64 0,.int .i64 0,.int .i64 0],.sl zAn 4 BA bms,.sl encI 1 (some ⟨bF,oF,none⟩) fs,.blk b2 [.slice A t.length c],.blk b3 [.int .u8 s.cls,.int .i64 s.start.lo,.int .i64 s.start.hi,.int .i64 s.rub.lo,.int .i64 s.rub.hi,.int .i64 s.drag.lo,.int .i64 s.drag.hi,.int .i64 s.weight.lo,.int .i64 s.weight.hi,.int .i64 s.steer.lo,.int .i64 s.steer.hi]]) (fun _ h=>h) ?_
 refine z9 (ι:=Nat) [2,3,5,6,7,11,80] rfl (fun k=>k≤m) (fun k=>[(81,.int .i64 (k:Int))]) (fun _=>[.blk b11 [.slice A t.length c,.int .i64 fast,.slice (some ⟨bC,0,none⟩) 1 1,.slice BA bms.length bc,.int .i64 0,.int .i64 0,.int .i64 0],.blk bC [.int .i64 0,.slice (some ⟨bS,0,none⟩) 1 1],.blk bS [.int .i64 0,.int .i64 0,.int .i64 0],.sl zAn 4 BA bms,.sl encI 1 (some ⟨bF,oF,none⟩) fs,.blk b2 [.slice A t.length c],.blk b3 [.int .u8 s.cls,.int .i64 s.start.lo,.int .i64 s.start.hi,.int .i64 s.rub.lo,.int .i64 s.rub.hi,.int .i64 s.drag.lo,.int .i64 s.drag.hi,.int .i64 s.weight.lo,.int .i64 s.weight.hi,.int .i64 s.steer.lo,.int .i64 s.steer.hi]]) (fun k=>m - k) 0 (Nat.zero_le _) (by (repeat first|exact lK1|refine za rfl ?_)) (by (repeat constructor)) ?_
 rintro k hk
 simp only [zAu,List.cons_append,List.nil_append]
 by_cases hkm:k<m
 rotate_left
 ·obtain rfl:k=m:=by omega
  (repeat' (first|((with_reducible refine zH ?_);first|refine zF rfl rfl rfl ?_|refine zC rfl rfl rfl ?_|(refine zS rfl rfl rfl rfl rfl (fun h=>?_) (fun h=>?_)<;>(dsimp only [cmpP] at h;(try (exfalso;omega)))))|(with_reducible first|refine zK ?_|refine zB ?_|refine zG ?_|refine zA ?_|refine zR ?_|refine zr ?_|refine zZ ?_|refine ze ?_)|((with_reducible refine zI ?_ ?_);(· exact rfl))))
  exact zN (by exact rTm rfl) () trivial rfl (fun _ h=>h.sub (by (repeat constructor)))
 obtain ⟨x,hx⟩:∃ x,t[k]?=some x:=⟨_,List.getElem?_eq_getElem (by omega)⟩
 have hxl:=(hst x (List.mem_of_getElem? hx)).long
 have hB1:=fun W hW h1 h2 h3=>hB bS bC BA bc k W hW h1 h2 h3 hkm
 have hT1:=hTe bS bC BA bc k x he hkm hx
 rw [hT1] at hB1
 have hL1:=fun W hW=>hLe k x W hW hx
 have hk1:=hge k (by omega)
 have hk2:=hge (k+1) (by omega)
 have hf1:=hfin k
 have hf2:=hfin (k+1)
 have:zA5 fs k (f k):=⟨hat k (by omega)⟩
 have:zA5 fs (k+1) (f (k+1)):=⟨hat (k+1) (by omega)⟩
 clear hB hT1 hTe hLe hat hge hfin
 generalize f k=f1 at *
 generalize f (k+1)=f2 at *
 by_cases hv0:max f1 f2=0
 ·rw [if_pos hv0,if_pos hv0] at hL1
  generalize upI (1000 * x.long.lo) fast=n9 at *
  (repeat' (first|((with_reducible refine zH ?_);first|refine zF rfl rfl rfl ?_|refine zC rfl rfl rfl ?_|(refine zM rfl rfl rfl ?_;refine ⟨_,rfl,?_⟩)|(refine zS rfl rfl rfl rfl rfl (fun h=>?_) (fun h=>?_)<;>(dsimp only [cmpP] at h;(try (exfalso;omega))))|refine zE rfl rfl rfl rfl (fun _ _ q=>hB1 _ q.below (zo (enc:=zBb) (by exact rfl) _ q.below q.own) (zo (enc:=zAf) (by exact rfl) _ q.below q.own) (zEw q.own (Below.refl _ _))) ?_|refine zE rfl rfl rfl rfl (fun _ _ q=>hL1 _ q.below) ?_|refine zh rfl rfl rfl rfl ?_)|(with_reducible first|refine zK ?_|refine zB ?_|refine zG ?_|refine zA ?_|refine zU ?_|refine zT ?_)|((with_reducible refine zO ?_ ?_);(· exact rfl))|((with_reducible refine zI ?_ ?_);(· exact rfl))))
  (refine zBv (by kernel_rfl) (by kernel_rfl) (by kernel_rfl) ?_)
  (repeat' (first|((with_reducible refine zCj ?_);first|refine zp (zAi rfl rfl) rfl ?_|refine zp (zAC rfl rfl (by exact rfl)) rfl ?_|refine zp (zCA rfl rfl rfl) rfl ?_|(refine q_cmp rfl rfl rfl rfl rfl (fun h=>?_) (fun h=>?_)<;>(dsimp only [cmpP] at h;(try (exfalso;omega))))|refine zp (zAV (I:=k) rfl rfl rfl (by omega) (by first|omega|(dsimp only;omega))) rfl ?_|refine zp (zAV (I:=k+1) rfl rfl rfl (by omega) (by first|omega|(dsimp only;omega))) rfl ?_|refine zp (zGb rfl rfl rfl (by omega)) rfl ?_|refine zp (e_max rfl rfl rfl) rfl ?_)|(with_reducible refine zDt ?_)))
  all_goals (repeat' (first|((with_reducible refine zH ?_);first|refine zF rfl rfl rfl ?_|refine zAD rfl rfl rfl rfl (by omega) ?_)|(with_reducible first|refine zB ?_|refine zG ?_|refine zA ?_|refine zU ?_|refine zr ?_|refine zZ ?_|refine ze ?_)|((with_reducible refine zI ?_ ?_);(· exact rfl))))
  all_goals exact zl (ι:=Nat) (k+1) (by omega) (by omega) (by (repeat first|exact lK1|refine za rfl ?_)) (by (repeat constructor))
 rw [if_neg hv0,if_neg hv0,zHG (by omega)] at hL1
 have hsw:=zFk (L:=x.long.lo) (v:=max f1 f2) (fast:=fast) hxl.1 (by omega) (by omega) (by omega)
 generalize upI (1000 * x.long.lo) fast=n9 at *
 generalize upI (1000 * x.long.lo) (max f1 f2)=m9 at *
 (repeat' (first|((with_reducible refine zH ?_);first|refine zF rfl rfl rfl ?_|refine zC rfl rfl rfl ?_|(refine zM rfl rfl rfl ?_;refine ⟨_,rfl,?_⟩)|(refine zS rfl rfl rfl rfl rfl (fun h=>?_) (fun h=>?_)<;>(dsimp only [cmpP] at h;(try (exfalso;omega))))|refine zE rfl rfl rfl rfl (fun _ _ q=>hB1 _ q.below (zo (enc:=zBb) (by exact rfl) _ q.below q.own) (zo (enc:=zAf) (by exact rfl) _ q.below q.own) (zEw q.own (Below.refl _ _))) ?_|refine zE rfl rfl rfl rfl (fun _ _ q=>hL1 _ q.below) ?_|refine zh rfl rfl rfl rfl ?_)|(with_reducible first|refine zK ?_|refine zB ?_|refine zG ?_|refine zA ?_|refine zU ?_|refine zT ?_)|((with_reducible refine zO ?_ ?_);(· exact rfl))|((with_reducible refine zI ?_ ?_);(· exact rfl))))
 (refine zBv (by kernel_rfl) (by kernel_rfl) (by kernel_rfl) ?_)
 (repeat' (first|((with_reducible refine zCj ?_);first|refine zp (zAi rfl rfl) rfl ?_|refine zp (zAC rfl rfl (by exact rfl)) rfl ?_|refine zp (zCA rfl rfl rfl) rfl ?_|refine zBd rfl rfl rfl ?_|(refine q_cmp rfl rfl rfl rfl rfl (fun h=>?_) (fun h=>?_)<;>(dsimp only [cmpP] at h;(try (exfalso;omega))))|refine zp (zAV (I:=k) rfl rfl rfl (by omega) (by first|omega|(dsimp only;omega))) rfl ?_|refine zp (zAV (I:=k+1) rfl rfl rfl (by omega) (by first|omega|(dsimp only;omega))) rfl ?_|refine zp (zGb rfl rfl rfl (by omega)) rfl ?_|refine zp (e_max rfl rfl rfl) rfl ?_)|(with_reducible refine zDt ?_)))
 all_goals (repeat' (first|((with_reducible refine zH ?_);first|refine zF rfl rfl rfl ?_|refine zAD rfl rfl rfl rfl (by omega) ?_)|(with_reducible first|refine zB ?_|refine zG ?_|refine zA ?_|refine zU ?_|refine zu ?_)|((with_reducible refine zI ?_ ?_);(· exact rfl))))
 all_goals exact zl (ι:=Nat) (k+1) (by omega) (by omega) (by (repeat first|exact lK1|refine za rfl ?_)) (by (repeat constructor))
end Go.Proofs.YtcpdjamlhhfbhaaGreat.Two
