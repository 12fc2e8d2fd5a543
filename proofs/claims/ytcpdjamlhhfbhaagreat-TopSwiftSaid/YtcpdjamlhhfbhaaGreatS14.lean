/- S14 -/
import Derived.Test.YtcpdjamlhhfbhaaGreatS13
set_option linter.unusedSimpArgs false
set_option linter.unusedVariables false
namespace Go.Proofs.YtcpdjamlhhfbhaaGreat
open Go.RowKit
theorem InC.below {w W:World} {b off:Nat} {vs:List Value} (h:InC w b off vs) (hb:Below w.heap.size w W):InC W b off vs:=⟨fun j v hv=>by
 have h1:=h.cells j v hv
 rw [hb.cell (p:=⟨b,off+j,none⟩) (World.block_lt_of_cell? w _ h1)];exact h1⟩
end Go.Proofs.YtcpdjamlhhfbhaaGreat
namespace Go.Proofs.YtcpdjamlhhfbhaaGreat.Two
variable {ro : Option Nat}
open Go.RowKit
set_option maxRecDepth 20000
theorem ask1_any (l:LnM) (w:World) (hs:zBa l):Gv Tryz.prog 94 [vLn l] w (.bool (ask1 l)):=by
 have h4:=hs.b;have h5:=hs.c
 unfold Gv vLn ask1
 (refine zD (n:=43) Tryz.func94 rfl rfl rfl ?_)
 (repeat' (first|((with_reducible refine zH ?_);first|refine zF rfl rfl rfl ?_|refine zC rfl rfl rfl ?_|(refine zM rfl rfl rfl ?_;refine ⟨_,rfl,?_⟩)|refine zP rfl rfl rfl ?_|refine zn rfl rfl rfl rfl ?_|refine zd rfl rfl rfl ?_|(refine zAO rfl rfl rfl rfl (fun _ _ q=>bin1 _ _ _ _ _ _ (zo (enc:=encI) (by exact rfl) _ q.below q.own)) (fun h=>?_) (fun h=>?_)<;>(try (exfalso;omega)))|refine zBu rfl rfl rfl rfl (IntWalk.i64_in _ (by omega)) ?_|refine zz rfl rfl rfl ?_|(refine zf rfl rfl rfl rfl (fun b=>?_))|(refine zc rfl rfl rfl ?_;refine ⟨rfl,_,rfl,fun b=>?_⟩))|(with_reducible first|refine zK ?_|refine zB ?_|refine zG ?_|refine zA ?_|refine zR ?_)))
 all_goals exact zN (by exact rTm rfl) () trivial (by simp_all [resV]) (fun _ h=>h.sub (by (repeat constructor)))
theorem zGY (x:CkM) (w:World) (hs:zg zAf 3 w x.A x.c.syncs) (hl:x.c.syncs.length≤10) (hc:x.c.syncs.length≤x.cap):Gv Tryz.prog 97 [vCk x] w (.bool (!zAe x.c)):=by
 have h1:=fun W (hW:Below w.heap.size w W)=>goes_any x W (hs.below hW) hl hc
 unfold Gv
 unfold vCk at h1 ⊢
 generalize zAe x.c=g at *
 (refine zD (n:=6) Tryz.func97 rfl rfl rfl ?_)
 (repeat' (first|((with_reducible refine zH ?_);first|refine zC rfl rfl rfl ?_|(refine zM rfl rfl rfl ?_;refine ⟨_,rfl,?_⟩)|refine zE rfl rfl rfl rfl (fun _ _ q=>h1 _ q.below) ?_|refine zAB rfl rfl rfl ?_|(refine zf rfl rfl rfl rfl (fun b=>?_)))|(with_reducible first|refine zK ?_|refine zB ?_|refine zG ?_|refine zA ?_|refine zR ?_)))
 all_goals exact zN (by exact rTm rfl) () trivial rfl (fun _ h=>h.sub (by (repeat constructor)))
theorem zD1 {α:Type} {p:α→Bool} {l:List α}:(l.any fun x=>!p x) = !l.all p:=by
 induction l with
 | nil=>rfl
 | cons a l ih=>simp [ih]
theorem ask2_any (l:LnM) (w:World) (h:zDT w l) (hs:zBa l):Gv Tryz.prog 95 [vLn l] w (.bool (l.cks.all fun x=>zAe x.c)):=by
 have h5:=hs.c
 have h1:=fun W (hW:Below w.heap.size w W)=>cc_con l.cks l.CA l.cc 97 #[] (fun x=>!zAe x.c) W (h.c.below hW) (by omega) (fun x W' hx hW'=>zGY x W' ((h.s x hx).below (hW.trans (hW'.mono hW.size))) (hs.s x hx) (h.cap x hx))
 rw [zD1] at h1
 unfold Gv vLn
 generalize l.cks.all (fun x=>zAe x.c)=g at *
 (refine zD (n:=7) Tryz.func95 rfl rfl rfl ?_)
 (repeat' (first|((with_reducible refine zH ?_);first|refine zC rfl rfl rfl ?_|(refine zM rfl rfl rfl ?_;refine ⟨_,rfl,?_⟩)|refine zP rfl rfl rfl ?_|refine zE rfl rfl rfl rfl (fun _ _ q=>h1 _ q.below) ?_|refine zAB rfl rfl rfl ?_|(refine zf rfl rfl rfl rfl (fun b=>?_)))|(with_reducible first|refine zK ?_|refine zB ?_|refine zG ?_|refine zA ?_|refine zR ?_)))
 all_goals exact zN (by exact rTm rfl) () trivial (by cases g<;>rfl) (fun _ h=>h.sub (by (repeat constructor)))
theorem bmfn_any (l:LnM) (b:Bm) (g:Nat) (w:World) (h:zDT w l) (hs:zBa l) (hv:valid l.t=true) (hr:InC w g 0 (zBf l)):Gv Tryz.prog 101 [vBm b,.pointer (some ⟨g,0,none⟩)] w (.bool (!zCm l b)):=by
 have h4:=hs.b;have h5:=hs.c;have h6:=hs.t
 have h1:=fun W (hW:Below w.heap.size w W)=>at_any l.t l.TA l.tc b.spot W (h.t.below hW) hs.fit (by omega)
 have he:zCV l.t b.spot=if zj l.t b.spot then 0 else 12:=by unfold zCV;rw [hv];rfl
 have hb:zCm l b=(zj l.t b.spot && inB 0 ((l.cks.length:Int) - 1) b.clock):=rfl
 rw [hb]
 unfold zAl vSp at h1
 unfold Gv vBm
 unfold zBf at hr
 generalize atT l.t b.spot=s at *
 cases hk:zj l.t b.spot
 ·rw [hk] at he
  rw [show (if false=true then (0:Int) else 12)=12 from rfl] at he
  rw [he] at h1
  (refine zD (n:=27) Tryz.func101 rfl rfl rfl ?_)
  (repeat' (first|((with_reducible refine zH ?_);first|refine zF rfl rfl rfl ?_|refine zC rfl rfl rfl ?_|(refine zM rfl rfl rfl ?_;refine ⟨_,rfl,?_⟩)|refine zP rfl rfl rfl ?_|refine zn rfl rfl rfl rfl ?_|refine zd rfl rfl rfl ?_|(refine zS rfl rfl rfl rfl rfl (fun h=>?_) (fun h=>?_)<;>(dsimp only [cmpP] at h;(try (exfalso;omega))))|refine zE rfl rfl rfl rfl (fun _ _ q=>h1 _ q.below) ?_|refine zh rfl rfl rfl rfl ?_|(refine zV rfl rfl rfl rfl rfl ?_;refine ⟨rfl,by first|decide|exact Nat.le_of_ble_eq_true rfl|(simp;omega),_,rfl,?_⟩)|(refine zX rfl rfl (fun b=>?_))|(refine zf rfl rfl rfl rfl (fun b=>?_)))|(with_reducible first|refine zK ?_|refine zB ?_|refine zG ?_|refine zA ?_|refine zR ?_)))
  all_goals exact zN (by exact rTm rfl) () trivial rfl (fun _ h=>h.sub (by (repeat constructor)))
 ·rw [hk] at he
  rw [show (if true=true then (0:Int) else 12)=0 from rfl] at he
  rw [he] at h1
  rw [Bool.true_and]
  (refine zD (n:=27) Tryz.func101 rfl rfl rfl ?_)
  (repeat' (first|((with_reducible refine zH ?_);first|refine zF rfl rfl rfl ?_|refine zC rfl rfl rfl ?_|(refine zM rfl rfl rfl ?_;refine ⟨_,rfl,?_⟩)|refine zP rfl rfl rfl ?_|refine zn rfl rfl rfl rfl ?_|(refine zS rfl rfl rfl rfl rfl (fun h=>?_) (fun h=>?_)<;>(dsimp only [cmpP] at h;(try (exfalso;omega))))|refine zE rfl rfl rfl rfl (fun _ _ q=>h1 _ q.below) ?_|refine zE rfl rfl rfl rfl (fun _ _ q=>bin1 _ _ _ _ _ _ (zo (enc:=encI) (by exact rfl) _ q.below q.own)) ?_|refine zh rfl rfl rfl rfl ?_|refine zAB rfl rfl rfl ?_|refine zBu rfl rfl rfl rfl (IntWalk.i64_in _ (by omega)) ?_|refine zz rfl rfl rfl ?_|(refine zV rfl rfl rfl rfl rfl ?_;refine ⟨rfl,by first|decide|exact Nat.le_of_ble_eq_true rfl|(simp;omega),_,rfl,?_⟩)|(refine zX rfl rfl (fun b=>?_))|(refine zf rfl rfl rfl rfl (fun b=>?_))|(refine zc rfl rfl rfl ?_;refine ⟨rfl,_,rfl,fun b=>?_⟩))|(with_reducible first|refine zK ?_|refine zB ?_|refine zG ?_|refine zA ?_|refine zR ?_)))
  all_goals exact zN (by exact rTm rfl) () trivial (by simp_all [resV]) (fun _ h=>h.sub (by (repeat constructor)))
theorem ask3_any (l:LnM) (w:World) (h:zDT w l) (hs:zBa l) (hv:valid l.t=true):Gv Tryz.prog 99 [vLn l] w (.bool (l.bms.all (zCm l))):=by
 have h5:=hs.b
 have h1:=fun W g (hW:Below w.heap.size w W) (hg:InC W g 0 (zBf l))=>cb_con l.bms l.BA l.bc 101 #[.pointer (some ⟨g,0,none⟩)] (fun b=>!zCm l b) W (h.b.below hW) (by omega) (fun x W' hx hW'=>bmfn_any l x g W' (h.below (hW.trans (hW'.mono hW.size))) hs hv (hg.below hW'))
 simp only [zD1] at h1
 unfold Gv vLn
 generalize l.bms.all (zCm l)=g at *
 (refine zD (n:=8) Tryz.func99 rfl rfl rfl ?_)
 (repeat' (first|((with_reducible refine zH ?_);first|refine zC rfl rfl rfl ?_|(refine zM rfl rfl rfl ?_;refine ⟨_,rfl,?_⟩)|refine zP rfl rfl rfl ?_|refine zE rfl rfl rfl rfl (fun _ _ q=>h1 _ _ q.below (zBp q.own (Below.refl _ _) rfl)) ?_|refine zAB rfl rfl rfl ?_|(refine zf rfl rfl rfl rfl (fun b=>?_))|refine zAq rfl rfl rfl rfl ?_)|(with_reducible first|refine zK ?_|refine zB ?_|refine zG ?_|refine zA ?_|refine zR ?_)))
 all_goals exact zN (by exact rTm rfl) () trivial (by cases g<;>rfl) (fun _ h=>h.sub (by (repeat constructor)))
theorem ask4_any (l:LnM) (w:World) (h:zDT w l) (hs:zBa l):Gv Tryz.prog 102 [vLn l] w (.bool ((List.range l.bms.length).all fun i=>decide (1≤zAv l i))):=by
 have h5:=hs.b
 have h1:=fun W (hW:Below w.heap.size w W) i hi=>zF6 l i W (h.below hW) hs hi
 unfold Gv
 unfold vLn at h1 ⊢
 (refine zD (n:=15) Tryz.func102 rfl rfl rfl ?_)
 (repeat' (first|((with_reducible refine zH ?_);first|refine zF rfl rfl rfl ?_|refine zC rfl rfl rfl ?_|(refine zM rfl rfl rfl ?_;refine ⟨_,rfl,?_⟩)|refine zP rfl rfl rfl ?_|refine zz rfl rfl rfl ?_|(refine zf rfl rfl rfl rfl (fun b=>?_)))|(with_reducible first|refine zK ?_|refine zB ?_|refine zG ?_|refine zA ?_|refine zT ?_)))
 refine z9 (ι:=Nat) [1,6] rfl (fun i=>i≤l.bms.length∧∀ j,j<i→1≤zAv l j) (fun i=>[(7,.int .i64 (i:Int))]) (fun _=>[.blk b (zBf l)]) (fun i=>l.bms.length - i) 0 ⟨Nat.zero_le _,fun j hj=>by omega⟩ (by (repeat first|exact lK1|refine za rfl ?_)) (by unfold zBf;(repeat constructor)) ?_
 rintro i ⟨hi,hall⟩
 simp only [zAu,zBf,List.cons_append,List.nil_append]
 by_cases hlt:i<l.bms.length
 ·have h2:=fun W hW=>h1 W hW i hlt
  by_cases hw:1≤zAv l i
  ·generalize hwv:zAv l i=v at *
   (repeat' (first|((with_reducible refine zH ?_);first|refine zF rfl rfl rfl ?_|refine zC rfl rfl rfl ?_|(refine zM rfl rfl rfl ?_;refine ⟨_,rfl,?_⟩)|(refine zS rfl rfl rfl rfl rfl (fun h=>?_) (fun h=>?_)<;>(dsimp only [cmpP] at h;(try (exfalso;omega))))|refine zE rfl rfl rfl rfl (fun _ _ q=>h2 _ q.below) ?_|refine zAD rfl rfl rfl rfl (by omega) ?_)|(with_reducible first|refine zK ?_|refine zB ?_|refine zG ?_|refine zA ?_|refine zU ?_|refine zT ?_|refine zu ?_)|((with_reducible refine zO ?_ ?_);(· exact rfl))|((with_reducible refine zI ?_ ?_);(· exact rfl))))
   exact zl (ι:=Nat) (i+1) ⟨by omega,fun j hj=>by
    by_cases e:j=i
    ·subst e;omega
    ·exact hall j (by omega)⟩ (by omega) (by (repeat first|exact lK1|refine za rfl ?_)) (by (repeat constructor))
  ·have e:((List.range l.bms.length).all fun i=>decide (1≤zAv l i))=false:=List.all_eq_false.2 ⟨i,List.mem_range.2 hlt,by simpa using hw⟩
   rw [e]
   generalize hwv:zAv l i=v at *
   (repeat' (first|((with_reducible refine zH ?_);first|refine zF rfl rfl rfl ?_|refine zC rfl rfl rfl ?_|(refine zM rfl rfl rfl ?_;refine ⟨_,rfl,?_⟩)|(refine zS rfl rfl rfl rfl rfl (fun h=>?_) (fun h=>?_)<;>(dsimp only [cmpP] at h;(try (exfalso;omega))))|refine zE rfl rfl rfl rfl (fun _ _ q=>h2 _ q.below) ?_)|(with_reducible first|refine zK ?_|refine zB ?_|refine zG ?_|refine zA ?_|refine zR ?_|refine zU ?_|refine zb ?_|refine zT ?_|refine zAw ?_)|((with_reducible refine zO ?_ ?_);(· exact rfl))))
   exact zN (by exact rTm rfl) () trivial rfl (fun _ h=>h.sub (by (repeat constructor)))
 ·obtain rfl:i=l.bms.length:=by omega
  have e:((List.range l.bms.length).all fun i=>decide (1≤zAv l i))=true:=List.all_eq_true.2 fun j hj=>by simpa using hall j (List.mem_range.1 hj)
  rw [e]
  (repeat' (first|((with_reducible refine zH ?_);first|refine zC rfl rfl rfl ?_|(refine zS rfl rfl rfl rfl rfl (fun h=>?_) (fun h=>?_)<;>(dsimp only [cmpP] at h;(try (exfalso;omega)))))|(with_reducible first|refine zK ?_|refine zB ?_|refine zG ?_|refine zA ?_|refine zR ?_|refine zr ?_|refine zZ ?_|refine ze ?_)|((with_reducible refine zI ?_ ?_);(· exact rfl))))
  exact zN (by exact rTm rfl) () trivial rfl (fun _ h=>h.sub (by (repeat constructor)))
def askC : List Value:=[.func (.func 94) #[] #[],.func (.func 95) #[] #[],.func (.func 99) #[] #[],.func (.func 102) #[] #[]]
theorem zHQ (w:World):Gv Tryz.prog 60 [] w (.agg askC.toArray):=by
 unfold Gv
 (refine zD (n:=6) Tryz.func60 rfl rfl rfl ?_)
 (repeat' (first|((with_reducible refine zH ?_);first|(refine zFY rfl rfl rfl ?_;refine ⟨_,rfl,?_⟩)|(refine zV rfl rfl rfl rfl rfl ?_;refine ⟨rfl,by first|decide|exact Nat.le_of_ble_eq_true rfl|(simp;omega),_,rfl,?_⟩)|(refine zX rfl rfl (fun b=>?_))|(refine zAJ rfl rfl rfl ?_;refine ⟨_,rfl,?_⟩))|(with_reducible first|refine zK ?_|refine zB ?_|refine zG ?_|refine zA ?_|refine zR ?_)))
 exact zN (by (exact zi.cons (by exact res1c rfl (by exact rfl)) zi.nil)) () trivial rfl (fun _ h=>h.sub (by (repeat constructor)))
set_option maxHeartbeats 2000000 in
theorem zGg (l:LnM) (w:World) (h:zDT w l) (hs:zBa l):Gv Tryz.prog 29 [vLn l] w (.int .i64 (zCv l)):=by
 have h6:=hs.t
 have hC:=fun W (hW:Below w.heap.size w W)=>zGw l.t l.TA l.tc W (h.t.below hW) hs.fit (by omega)
 have k1:=fun W=>ask1_any l W hs
 have k2:=fun W (hW:Below w.heap.size w W)=>ask2_any l W (h.below hW) hs
 have k4:=fun W (hW:Below w.heap.size w W)=>ask4_any l W (h.below hW) hs
 have hA:=fun W=>zHQ W
 unfold askC at hA
 unfold Gv
 unfold vLn at k1 k2 k4 ⊢
 cases hv:valid l.t
 ·have e:zCv l=10:=by unfold zCv;rw [hv];rfl
  rw [show zDL l.t=10 by simp [zDL,hv]] at hC
  rw [e]
  (refine zD (n:=22) Tryz.func29 rfl rfl rfl ?_)
  (repeat' (first|((with_reducible refine zH ?_);first|refine zF rfl rfl rfl ?_|refine zC rfl rfl rfl ?_|(refine zM rfl rfl rfl ?_;refine ⟨_,rfl,?_⟩)|refine zP rfl rfl rfl ?_|(refine zS rfl rfl rfl rfl rfl (fun h=>?_) (fun h=>?_)<;>(dsimp only [cmpP] at h;(try (exfalso;omega))))|refine zE rfl rfl rfl rfl (fun _ _ q=>hC _ q.below) ?_|(refine zf rfl rfl rfl rfl (fun b=>?_)))|(with_reducible first|refine zK ?_|refine zB ?_|refine zG ?_|refine zA ?_|refine zR ?_|refine zb ?_)|((with_reducible refine zO ?_ ?_);(· exact rfl))))
  exact zN (by exact rTm rfl) () trivial rfl (fun _ h=>h.sub (by (repeat constructor)))
 ·rw [zEa hv] at hC
  have k3:=fun W (hW:Below w.heap.size w W)=>ask3_any l W (h.below hW) hs hv
  unfold vLn at k3
  have e:zCv l=if zBI l then 0 else 50:=by unfold zCv;rw [hv];rfl
  have e2:zBI l=(ask1 l && (l.cks.all (fun x=>zAe x.c) && (l.bms.all (zCm l) && (List.range l.bms.length).all fun i=>decide (1≤zAv l i)))):=rfl
  rw [e2] at e
  rw [e]
  clear e e2
  generalize ask1 l=a1 at *
  generalize l.cks.all (fun x=>zAe x.c)=a2 at *
  generalize l.bms.all (zCm l)=a3 at *
  generalize (List.range l.bms.length).all (fun i=>decide (1≤zAv l i))=a4 at *
  (refine zD (n:=22) Tryz.func29 rfl rfl rfl ?_)
  (repeat' (first|((with_reducible refine zH ?_);first|refine zF rfl rfl rfl ?_|refine zC rfl rfl rfl ?_|(refine zM rfl rfl rfl ?_;refine ⟨_,rfl,?_⟩)|refine zP rfl rfl rfl ?_|(refine zS rfl rfl rfl rfl rfl (fun h=>?_) (fun h=>?_)<;>(dsimp only [cmpP] at h;(try (exfalso;omega))))|refine zE rfl rfl rfl rfl (fun _ _ q=>hC _ q.below) ?_|refine zE rfl rfl rfl rfl (fun _ _ q=>hA _) ?_|(refine zf rfl rfl rfl rfl (fun b=>?_)))|(with_reducible first|refine zK ?_|refine zB ?_|refine zG ?_|refine zA ?_|refine zU ?_|refine zT ?_)|((with_reducible refine zI ?_ ?_);(· exact rfl))))
  refine z9 (ι:=Nat) [1,12] rfl (fun i=>i≤4∧(1≤i→a1=true)∧(2≤i→a2=true)∧(3≤i→a3=true)∧(4≤i→a4=true)) (fun i=>[(13,.int .i64 (i:Int))]) (fun _=>[.blk b (zBf l)]) (fun i=>4 - i) 0 ⟨by omega,by omega,by omega,by omega,by omega⟩ (by (repeat first|exact lK1|refine za rfl ?_)) (by unfold zBf;(repeat constructor)) ?_
  rintro i ⟨hi,q1,q2,q3,q4⟩
  simp only [zAu,zBf,List.cons_append,List.nil_append]
  by_cases i0:i=0
  ·subst i0
   (repeat' (first|((with_reducible refine zH ?_);first|refine zF rfl rfl rfl ?_|refine zC rfl rfl rfl ?_|(refine zM rfl rfl rfl ?_;refine ⟨_,rfl,?_⟩)|refine zP rfl rfl rfl ?_|(refine zS rfl rfl rfl rfl rfl (fun h=>?_) (fun h=>?_)<;>(dsimp only [cmpP] at h;(try (exfalso;omega))))|refine zAI rfl (zCI (I:=0) rfl rfl rfl rfl (by decide) rfl) ?_|(refine zAO rfl rfl rfl rfl (fun _ _ q=>k1 _) (fun h=>?_) (fun h=>?_)<;>(try (exfalso;omega)))|refine zAB rfl rfl rfl ?_|refine zAD rfl rfl rfl rfl (by omega) ?_|(refine zV rfl rfl rfl rfl rfl ?_;refine ⟨rfl,by first|decide|exact Nat.le_of_ble_eq_true rfl|(simp;omega),_,rfl,?_⟩)|(refine zX rfl rfl (fun b=>?_)))|(with_reducible first|refine zK ?_|refine zB ?_|refine zG ?_|refine zA ?_|refine zR ?_|refine zU ?_|refine zb ?_|refine zT ?_|refine zu ?_|refine zAw ?_)|((with_reducible refine zO ?_ ?_);(· exact rfl))|((with_reducible refine zI ?_ ?_);(· exact rfl))))
   ·exact zl 1 ⟨by omega,fun _=>by assumption,by omega,by omega,by omega⟩ (by omega) (by (repeat first|exact lK1|refine za rfl ?_)) (by (repeat constructor))
   ·exact zN (by exact rTm rfl) () trivial (by simp_all [resV]) (fun _ h=>h.sub (by (repeat constructor)))
  by_cases i1:i=1
  ·subst i1
   (repeat' (first|((with_reducible refine zH ?_);first|refine zF rfl rfl rfl ?_|refine zC rfl rfl rfl ?_|(refine zM rfl rfl rfl ?_;refine ⟨_,rfl,?_⟩)|refine zP rfl rfl rfl ?_|(refine zS rfl rfl rfl rfl rfl (fun h=>?_) (fun h=>?_)<;>(dsimp only [cmpP] at h;(try (exfalso;omega))))|refine zAI rfl (zCI (I:=1) rfl rfl rfl rfl (by decide) rfl) ?_|(refine zAO rfl rfl rfl rfl (fun _ _ q=>k2 _ q.below) (fun h=>?_) (fun h=>?_)<;>(try (exfalso;omega)))|refine zAB rfl rfl rfl ?_|refine zAD rfl rfl rfl rfl (by omega) ?_|(refine zV rfl rfl rfl rfl rfl ?_;refine ⟨rfl,by first|decide|exact Nat.le_of_ble_eq_true rfl|(simp;omega),_,rfl,?_⟩)|(refine zX rfl rfl (fun b=>?_)))|(with_reducible first|refine zK ?_|refine zB ?_|refine zG ?_|refine zA ?_|refine zR ?_|refine zU ?_|refine zb ?_|refine zT ?_|refine zu ?_|refine zAw ?_)|((with_reducible refine zO ?_ ?_);(· exact rfl))|((with_reducible refine zI ?_ ?_);(· exact rfl))))
   ·exact zl 2 ⟨by omega,fun _=>q1 (by omega),fun _=>by assumption,by omega,by omega⟩ (by omega) (by (repeat first|exact lK1|refine za rfl ?_)) (by (repeat constructor))
   ·exact zN (by exact rTm rfl) () trivial (by simp_all [resV]) (fun _ h=>h.sub (by (repeat constructor)))
  by_cases i2:i=2
  ·subst i2
   (repeat' (first|((with_reducible refine zH ?_);first|refine zF rfl rfl rfl ?_|refine zC rfl rfl rfl ?_|(refine zM rfl rfl rfl ?_;refine ⟨_,rfl,?_⟩)|refine zP rfl rfl rfl ?_|(refine zS rfl rfl rfl rfl rfl (fun h=>?_) (fun h=>?_)<;>(dsimp only [cmpP] at h;(try (exfalso;omega))))|refine zAI rfl (zCI (I:=2) rfl rfl rfl rfl (by decide) rfl) ?_|(refine zAO rfl rfl rfl rfl (fun _ _ q=>k3 _ q.below) (fun h=>?_) (fun h=>?_)<;>(try (exfalso;omega)))|refine zAB rfl rfl rfl ?_|refine zAD rfl rfl rfl rfl (by omega) ?_|(refine zV rfl rfl rfl rfl rfl ?_;refine ⟨rfl,by first|decide|exact Nat.le_of_ble_eq_true rfl|(simp;omega),_,rfl,?_⟩)|(refine zX rfl rfl (fun b=>?_)))|(with_reducible first|refine zK ?_|refine zB ?_|refine zG ?_|refine zA ?_|refine zR ?_|refine zU ?_|refine zb ?_|refine zT ?_|refine zu ?_|refine zAw ?_)|((with_reducible refine zO ?_ ?_);(· exact rfl))|((with_reducible refine zI ?_ ?_);(· exact rfl))))
   ·exact zl 3 ⟨by omega,fun _=>q1 (by omega),fun _=>q2 (by omega),fun _=>by assumption,by omega⟩ (by omega) (by (repeat first|exact lK1|refine za rfl ?_)) (by (repeat constructor))
   ·exact zN (by exact rTm rfl) () trivial (by simp_all [resV]) (fun _ h=>h.sub (by (repeat constructor)))
  by_cases i3:i=3
  ·subst i3
   (repeat' (first|((with_reducible refine zH ?_);first|refine zF rfl rfl rfl ?_|refine zC rfl rfl rfl ?_|(refine zM rfl rfl rfl ?_;refine ⟨_,rfl,?_⟩)|refine zP rfl rfl rfl ?_|(refine zS rfl rfl rfl rfl rfl (fun h=>?_) (fun h=>?_)<;>(dsimp only [cmpP] at h;(try (exfalso;omega))))|refine zAI rfl (zCI (I:=3) rfl rfl rfl rfl (by decide) rfl) ?_|(refine zAO rfl rfl rfl rfl (fun _ _ q=>k4 _ q.below) (fun h=>?_) (fun h=>?_)<;>(try (exfalso;omega)))|refine zAB rfl rfl rfl ?_|refine zAD rfl rfl rfl rfl (by omega) ?_|(refine zV rfl rfl rfl rfl rfl ?_;refine ⟨rfl,by first|decide|exact Nat.le_of_ble_eq_true rfl|(simp;omega),_,rfl,?_⟩)|(refine zX rfl rfl (fun b=>?_)))|(with_reducible first|refine zK ?_|refine zB ?_|refine zG ?_|refine zA ?_|refine zR ?_|refine zU ?_|refine zb ?_|refine zT ?_|refine zu ?_|refine zAw ?_)|((with_reducible refine zO ?_ ?_);(· exact rfl))|((with_reducible refine zI ?_ ?_);(· exact rfl))))
   ·exact zl 4 ⟨by omega,fun _=>q1 (by omega),fun _=>q2 (by omega),fun _=>q3 (by omega),fun _=>by assumption⟩ (by omega) (by (repeat first|exact lK1|refine za rfl ?_)) (by (repeat constructor))
   ·exact zN (by exact rTm rfl) () trivial (by simp_all [resV]) (fun _ h=>h.sub (by (repeat constructor)))
  obtain rfl:i=4:=by omega
  (repeat' (first|((with_reducible refine zH ?_);first|refine zC rfl rfl rfl ?_|(refine zS rfl rfl rfl rfl rfl (fun h=>?_) (fun h=>?_)<;>(dsimp only [cmpP] at h;(try (exfalso;omega)))))|(with_reducible first|refine zK ?_|refine zB ?_|refine zG ?_|refine zA ?_|refine zR ?_|refine zr ?_|refine zZ ?_|refine ze ?_)|((with_reducible refine zI ?_ ?_);(· exact rfl))))
  exact zN (by exact rTm rfl) () trivial (by simp [q1 (by omega),q2 (by omega),q3 (by omega),q4 (by omega),resV]) (fun _ h=>h.sub (by (repeat constructor)))
end Go.Proofs.YtcpdjamlhhfbhaaGreat.Two
