/- A15 -/
import Derived.Test.YtfiekidciiighaaGreatA14
set_option linter.unusedSimpArgs false
set_option linter.unusedVariables false
namespace Go.Proofs.YtfiekidciiighaaGreat
open Go.RowKit
theorem InC.below {w W:World} {b off:Nat} {vs:List Value} (h:InC w b off vs) (hb:Below w.heap.size w W):InC W b off vs:=⟨fun j v hv=>by
 have h1:=h.cells j v hv
 rw [hb.cell (p:=⟨b,off+j,none⟩) (World.block_lt_of_cell? w _ h1)];exact h1⟩
end Go.Proofs.YtfiekidciiighaaGreat
namespace Go.Proofs.YtfiekidciiighaaGreat.Two
variable {ro : Option Nat}
open Go.RowKit
set_option maxRecDepth 20000
theorem ask1_any (l:LnM) (w:World) (hs:zBA l):Gv Tryz.prog 75 [vLn l] w (.bool (ask1 l)):=by
 have h4:=hs.b;have h5:=hs.c
 unfold Gv vLn ask1
 (refine zK (n:=43) Tryz.func75 rfl rfl rfl ?_)
 (repeat' (first|((with_reducible refine zG ?_);first|refine zD rfl rfl rfl ?_|refine zC rfl rfl rfl ?_|(refine zJ rfl rfl rfl ?_;refine ⟨_,rfl,?_⟩)|refine zL rfl rfl rfl ?_|refine z7 rfl rfl rfl rfl ?_|refine zf rfl rfl rfl ?_|(refine zAf rfl rfl rfl rfl (fun _ _ q=>bin1 _ _ _ _ _ _ (zAF (enc:=encI) (by exact rfl) _ q.below q.own)) (fun h=>?_) (fun h=>?_)<;>(try (exfalso;omega)))|refine zAc rfl rfl rfl rfl (IntWalk.i64_in _ (by omega)) ?_|refine zn rfl rfl rfl ?_|(refine zp rfl rfl rfl rfl (fun b=>?_))|(refine zi rfl rfl rfl ?_;refine ⟨rfl,_,rfl,fun b=>?_⟩))|(with_reducible first|refine zI ?_|refine zB ?_|refine zE ?_|refine zA ?_|refine zV ?_)))
 all_goals exact zP (by exact rTm rfl) () trivial (by simp_all [resV]) (fun _ h=>h.sub (by (repeat constructor)))
theorem zKp (x:CkM) (w:World) (hs:zAC zBV 3 w x.A x.c.syncs) (hl:x.c.syncs.length≤10) (hc:x.c.syncs.length≤x.cap):Gv Tryz.prog 78 [vCk x] w (.bool (!zBg x.c)):=by
 have h1:=fun W (hW:Below w.heap.size w W)=>goes_any x W (hs.below hW) hl hc
 unfold Gv
 unfold vCk at h1 ⊢
 generalize zBg x.c=g at *
 (refine zK (n:=6) Tryz.func78 rfl rfl rfl ?_)
 (repeat' (first|((with_reducible refine zG ?_);first|refine zC rfl rfl rfl ?_|(refine zJ rfl rfl rfl ?_;refine ⟨_,rfl,?_⟩)|refine zO rfl rfl rfl rfl (fun _ _ q=>h1 _ q.below) ?_|refine zAI rfl rfl rfl ?_|(refine zp rfl rfl rfl rfl (fun b=>?_)))|(with_reducible first|refine zI ?_|refine zB ?_|refine zE ?_|refine zA ?_|refine zV ?_)))
 all_goals exact zP (by exact rTm rfl) () trivial rfl (fun _ h=>h.sub (by (repeat constructor)))
theorem zGd {α:Type} {p:α→Bool} {l:List α}:(l.any fun x=>!p x) = !l.all p:=by
 induction l with
 | nil=>rfl
 | cons a l ih=>simp [ih]
theorem ask2_any (l:LnM) (w:World) (h:zCY w l) (hs:zBA l):Gv Tryz.prog 76 [vLn l] w (.bool (l.cks.all fun x=>zBg x.c)):=by
 have h5:=hs.c
 have h1:=fun W (hW:Below w.heap.size w W)=>cc_con l.cks l.CA l.cc 78 #[] (fun x=>!zBg x.c) W (h.c.below hW) (by omega) (fun x W' hx hW'=>zKp x W' ((h.s x hx).below (hW.trans (hW'.mono hW.size))) (hs.s x hx) (h.cap x hx))
 rw [zGd] at h1
 unfold Gv vLn
 generalize l.cks.all (fun x=>zBg x.c)=g at *
 (refine zK (n:=7) Tryz.func76 rfl rfl rfl ?_)
 (repeat' (first|((with_reducible refine zG ?_);first|refine zC rfl rfl rfl ?_|(refine zJ rfl rfl rfl ?_;refine ⟨_,rfl,?_⟩)|refine zL rfl rfl rfl ?_|refine zO rfl rfl rfl rfl (fun _ _ q=>h1 _ q.below) ?_|refine zAI rfl rfl rfl ?_|(refine zp rfl rfl rfl rfl (fun b=>?_)))|(with_reducible first|refine zI ?_|refine zB ?_|refine zE ?_|refine zA ?_|refine zV ?_)))
 all_goals exact zP (by exact rTm rfl) () trivial (by cases g<;>rfl) (fun _ h=>h.sub (by (repeat constructor)))
theorem bmfn_any (l:LnM) (b:Bm) (g:Nat) (w:World) (h:zCY w l) (hs:zBA l) (hv:valid l.t=true) (hr:InC w g 0 (zAH l)):Gv Tryz.prog 82 [vBm b,.pointer (some ⟨g,0,none⟩)] w (.bool (!zEv l b)):=by
 have h4:=hs.b;have h5:=hs.c;have h6:=hs.t
 have h1:=fun W (hW:Below w.heap.size w W)=>at_any l.t l.TA l.tc b.spot W (h.t.below hW) hs.fit (by omega)
 have he:zBk l.t b.spot=if zAd l.t b.spot then 0 else 12:=by unfold zBk;rw [hv];rfl
 have hb:zEv l b=(zAd l.t b.spot && inB 0 ((l.cks.length:Int) - 1) b.clock):=rfl
 rw [hb]
 unfold zBx vSp at h1
 unfold Gv vBm
 unfold zAH at hr
 generalize atT l.t b.spot=s at *
 cases hk:zAd l.t b.spot
 ·rw [hk] at he
  rw [show (if false=true then (0:Int) else 12)=12 from rfl] at he
  rw [he] at h1
  (refine zK (n:=27) Tryz.func82 rfl rfl rfl ?_)
  (repeat' (first|((with_reducible refine zG ?_);first|refine zD rfl rfl rfl ?_|refine zC rfl rfl rfl ?_|(refine zJ rfl rfl rfl ?_;refine ⟨_,rfl,?_⟩)|refine zL rfl rfl rfl ?_|refine z7 rfl rfl rfl rfl ?_|refine zf rfl rfl rfl ?_|(refine zS rfl rfl rfl rfl rfl (fun h=>?_) (fun h=>?_)<;>(dsimp only [cmpP] at h;(try (exfalso;omega))))|refine zO rfl rfl rfl rfl (fun _ _ q=>h1 _ q.below) ?_|refine zk rfl rfl rfl rfl ?_|(refine zX rfl rfl rfl rfl rfl ?_;refine ⟨rfl,by first|decide|exact Nat.le_of_ble_eq_true rfl|(simp;omega),_,rfl,?_⟩)|(refine zb rfl rfl (fun b=>?_))|(refine zp rfl rfl rfl rfl (fun b=>?_)))|(with_reducible first|refine zI ?_|refine zB ?_|refine zE ?_|refine zA ?_|refine zV ?_)))
  all_goals exact zP (by exact rTm rfl) () trivial rfl (fun _ h=>h.sub (by (repeat constructor)))
 ·rw [hk] at he
  rw [show (if true=true then (0:Int) else 12)=0 from rfl] at he
  rw [he] at h1
  rw [Bool.true_and]
  (refine zK (n:=27) Tryz.func82 rfl rfl rfl ?_)
  (repeat' (first|((with_reducible refine zG ?_);first|refine zD rfl rfl rfl ?_|refine zC rfl rfl rfl ?_|(refine zJ rfl rfl rfl ?_;refine ⟨_,rfl,?_⟩)|refine zL rfl rfl rfl ?_|refine z7 rfl rfl rfl rfl ?_|(refine zS rfl rfl rfl rfl rfl (fun h=>?_) (fun h=>?_)<;>(dsimp only [cmpP] at h;(try (exfalso;omega))))|refine zO rfl rfl rfl rfl (fun _ _ q=>h1 _ q.below) ?_|refine zO rfl rfl rfl rfl (fun _ _ q=>bin1 _ _ _ _ _ _ (zAF (enc:=encI) (by exact rfl) _ q.below q.own)) ?_|refine zk rfl rfl rfl rfl ?_|refine zAI rfl rfl rfl ?_|refine zAc rfl rfl rfl rfl (IntWalk.i64_in _ (by omega)) ?_|refine zn rfl rfl rfl ?_|(refine zX rfl rfl rfl rfl rfl ?_;refine ⟨rfl,by first|decide|exact Nat.le_of_ble_eq_true rfl|(simp;omega),_,rfl,?_⟩)|(refine zb rfl rfl (fun b=>?_))|(refine zp rfl rfl rfl rfl (fun b=>?_))|(refine zi rfl rfl rfl ?_;refine ⟨rfl,_,rfl,fun b=>?_⟩))|(with_reducible first|refine zI ?_|refine zB ?_|refine zE ?_|refine zA ?_|refine zV ?_)))
  all_goals exact zP (by exact rTm rfl) () trivial (by simp_all [resV]) (fun _ h=>h.sub (by (repeat constructor)))
theorem ask3_any (l:LnM) (w:World) (h:zCY w l) (hs:zBA l) (hv:valid l.t=true):Gv Tryz.prog 80 [vLn l] w (.bool (l.bms.all (zEv l))):=by
 have h5:=hs.b
 have h1:=fun W g (hW:Below w.heap.size w W) (hg:InC W g 0 (zAH l))=>cb_con l.bms l.BA l.bc 82 #[.pointer (some ⟨g,0,none⟩)] (fun b=>!zEv l b) W (h.b.below hW) (by omega) (fun x W' hx hW'=>bmfn_any l x g W' (h.below (hW.trans (hW'.mono hW.size))) hs hv (hg.below hW'))
 simp only [zGd] at h1
 unfold Gv vLn
 generalize l.bms.all (zEv l)=g at *
 (refine zK (n:=8) Tryz.func80 rfl rfl rfl ?_)
 (repeat' (first|((with_reducible refine zG ?_);first|refine zC rfl rfl rfl ?_|(refine zJ rfl rfl rfl ?_;refine ⟨_,rfl,?_⟩)|refine zL rfl rfl rfl ?_|refine zO rfl rfl rfl rfl (fun _ _ q=>h1 _ _ q.below (zA7 q.own (Below.refl _ _) rfl)) ?_|refine zAI rfl rfl rfl ?_|(refine zp rfl rfl rfl rfl (fun b=>?_))|refine zB2 rfl rfl rfl rfl ?_)|(with_reducible first|refine zI ?_|refine zB ?_|refine zE ?_|refine zA ?_|refine zV ?_)))
 all_goals exact zP (by exact rTm rfl) () trivial (by cases g<;>rfl) (fun _ h=>h.sub (by (repeat constructor)))
theorem ask4_any (l:LnM) (w:World) (h:zCY w l) (hs:zBA l):Gv Tryz.prog 84 [vLn l] w (.bool ((List.range l.bms.length).all fun i=>decide (1≤zBo l i))):=by
 have h5:=hs.b
 have h1:=fun W (hW:Below w.heap.size w W) i hi=>zJ0 l i W (h.below hW) hs hi
 unfold Gv
 unfold vLn at h1 ⊢
 (refine zK (n:=15) Tryz.func84 rfl rfl rfl ?_)
 (repeat' (first|((with_reducible refine zG ?_);first|refine zD rfl rfl rfl ?_|refine zC rfl rfl rfl ?_|(refine zJ rfl rfl rfl ?_;refine ⟨_,rfl,?_⟩)|refine zL rfl rfl rfl ?_|refine zn rfl rfl rfl ?_|(refine zp rfl rfl rfl rfl (fun b=>?_)))|(with_reducible first|refine zI ?_|refine zB ?_|refine zE ?_|refine zA ?_|refine zQ ?_)))
 refine zAB (ι:=Nat) [1,6] rfl (fun i=>i≤l.bms.length∧∀ j,j<i→1≤zBo l j) (fun i=>[(7,.int .i64 (i:Int))]) (fun _=>[.blk b (zAH l)]) (fun i=>l.bms.length - i) 0 ⟨Nat.zero_le _,fun j hj=>by omega⟩ (by (repeat first|exact lK1|refine zT rfl ?_)) (by unfold zAH;(repeat constructor)) ?_
 rintro i ⟨hi,hall⟩
 simp only [zAk,zAH,List.cons_append,List.nil_append]
 by_cases hlt:i<l.bms.length
 ·have h2:=fun W hW=>h1 W hW i hlt
  by_cases hw:1≤zBo l i
  ·generalize hwv:zBo l i=v at *
   (repeat' (first|((with_reducible refine zG ?_);first|refine zD rfl rfl rfl ?_|refine zC rfl rfl rfl ?_|(refine zJ rfl rfl rfl ?_;refine ⟨_,rfl,?_⟩)|(refine zS rfl rfl rfl rfl rfl (fun h=>?_) (fun h=>?_)<;>(dsimp only [cmpP] at h;(try (exfalso;omega))))|refine zO rfl rfl rfl rfl (fun _ _ q=>h2 _ q.below) ?_|refine zu rfl rfl rfl rfl (by omega) ?_)|(with_reducible first|refine zI ?_|refine zB ?_|refine zE ?_|refine zA ?_|refine zR ?_|refine zQ ?_|refine zj ?_)|((with_reducible refine zH ?_ ?_);(· exact rfl))|((with_reducible refine zF ?_ ?_);(· exact rfl))))
   exact zd (ι:=Nat) (i+1) ⟨by omega,fun j hj=>by
    by_cases e:j=i
    ·subst e;omega
    ·exact hall j (by omega)⟩ (by omega) (by (repeat first|exact lK1|refine zT rfl ?_)) (by (repeat constructor))
  ·have e:((List.range l.bms.length).all fun i=>decide (1≤zBo l i))=false:=List.all_eq_false.2 ⟨i,List.mem_range.2 hlt,by simpa using hw⟩
   rw [e]
   generalize hwv:zBo l i=v at *
   (repeat' (first|((with_reducible refine zG ?_);first|refine zD rfl rfl rfl ?_|refine zC rfl rfl rfl ?_|(refine zJ rfl rfl rfl ?_;refine ⟨_,rfl,?_⟩)|(refine zS rfl rfl rfl rfl rfl (fun h=>?_) (fun h=>?_)<;>(dsimp only [cmpP] at h;(try (exfalso;omega))))|refine zO rfl rfl rfl rfl (fun _ _ q=>h2 _ q.below) ?_)|(with_reducible first|refine zI ?_|refine zB ?_|refine zE ?_|refine zA ?_|refine zV ?_|refine zR ?_|refine zU ?_|refine zQ ?_|refine zAV ?_)|((with_reducible refine zH ?_ ?_);(· exact rfl))))
   exact zP (by exact rTm rfl) () trivial rfl (fun _ h=>h.sub (by (repeat constructor)))
 ·obtain rfl:i=l.bms.length:=by omega
  have e:((List.range l.bms.length).all fun i=>decide (1≤zBo l i))=true:=List.all_eq_true.2 fun j hj=>by simpa using hall j (List.mem_range.1 hj)
  rw [e]
  (repeat' (first|((with_reducible refine zG ?_);first|refine zC rfl rfl rfl ?_|(refine zS rfl rfl rfl rfl rfl (fun h=>?_) (fun h=>?_)<;>(dsimp only [cmpP] at h;(try (exfalso;omega)))))|(with_reducible first|refine zI ?_|refine zB ?_|refine zE ?_|refine zA ?_|refine zV ?_|refine zz ?_|refine zZ ?_|refine ze ?_)|((with_reducible refine zF ?_ ?_);(· exact rfl))))
  exact zP (by exact rTm rfl) () trivial rfl (fun _ h=>h.sub (by (repeat constructor)))
def askC : List Value:=[.func (.func 75) #[] #[],.func (.func 76) #[] #[],.func (.func 80) #[] #[],.func (.func 84) #[] #[]]
theorem zMB (w:World):Gv Tryz.prog 58 [] w (.agg askC.toArray):=by
 unfold Gv
 (refine zK (n:=6) Tryz.func58 rfl rfl rfl ?_)
 (repeat' (first|((with_reducible refine zG ?_);first|(refine x_buildA rfl rfl rfl ?_;refine ⟨_,rfl,?_⟩)|(refine zX rfl rfl rfl rfl rfl ?_;refine ⟨rfl,by first|decide|exact Nat.le_of_ble_eq_true rfl|(simp;omega),_,rfl,?_⟩)|(refine zb rfl rfl (fun b=>?_))|(refine zAZ rfl rfl rfl ?_;refine ⟨_,rfl,?_⟩))|(with_reducible first|refine zI ?_|refine zB ?_|refine zE ?_|refine zA ?_|refine zV ?_)))
 exact zP (by (exact zh.cons (by exact res1c rfl (by exact rfl)) zh.nil)) () trivial rfl (fun _ h=>h.sub (by (repeat constructor)))
set_option maxHeartbeats 2000000 in
theorem zHg (l:LnM) (w:World) (h:zCY w l) (hs:zBA l):Gv Tryz.prog 40 [vLn l] w (.int .i64 (zCd l)):=by
 have h6:=hs.t
 have hC:=fun W (hW:Below w.heap.size w W)=>check_n l.t l.TA l.tc W (h.t.below hW) hs.fit (by omega)
 have k1:=fun W=>ask1_any l W hs
 have k2:=fun W (hW:Below w.heap.size w W)=>ask2_any l W (h.below hW) hs
 have k4:=fun W (hW:Below w.heap.size w W)=>ask4_any l W (h.below hW) hs
 have hA:=fun W=>zMB W
 unfold askC at hA
 unfold Gv
 unfold vLn at k1 k2 k4 ⊢
 cases hv:valid l.t
 ·have e:zCd l=10:=by unfold zCd;rw [hv];rfl
  rw [show zGe l.t=10 by simp [zGe,hv]] at hC
  rw [e]
  (refine zK (n:=22) Tryz.func40 rfl rfl rfl ?_)
  (repeat' (first|((with_reducible refine zG ?_);first|refine zD rfl rfl rfl ?_|refine zC rfl rfl rfl ?_|(refine zJ rfl rfl rfl ?_;refine ⟨_,rfl,?_⟩)|refine zL rfl rfl rfl ?_|(refine zS rfl rfl rfl rfl rfl (fun h=>?_) (fun h=>?_)<;>(dsimp only [cmpP] at h;(try (exfalso;omega))))|refine zO rfl rfl rfl rfl (fun _ _ q=>hC _ q.below) ?_|(refine zp rfl rfl rfl rfl (fun b=>?_)))|(with_reducible first|refine zI ?_|refine zB ?_|refine zE ?_|refine zA ?_|refine zV ?_|refine zU ?_)|((with_reducible refine zH ?_ ?_);(· exact rfl))))
  exact zP (by exact rTm rfl) () trivial rfl (fun _ h=>h.sub (by (repeat constructor)))
 ·rw [zHU hv] at hC
  have k3:=fun W (hW:Below w.heap.size w W)=>ask3_any l W (h.below hW) hs hv
  unfold vLn at k3
  have e:zCd l=if zCh l then 0 else 50:=by unfold zCd;rw [hv];rfl
  have e2:zCh l=(ask1 l && (l.cks.all (fun x=>zBg x.c) && (l.bms.all (zEv l) && (List.range l.bms.length).all fun i=>decide (1≤zBo l i)))):=rfl
  rw [e2] at e
  rw [e]
  clear e e2
  generalize ask1 l=a1 at *
  generalize l.cks.all (fun x=>zBg x.c)=a2 at *
  generalize l.bms.all (zEv l)=a3 at *
  generalize (List.range l.bms.length).all (fun i=>decide (1≤zBo l i))=a4 at *
  (refine zK (n:=22) Tryz.func40 rfl rfl rfl ?_)
  (repeat' (first|((with_reducible refine zG ?_);first|refine zD rfl rfl rfl ?_|refine zC rfl rfl rfl ?_|(refine zJ rfl rfl rfl ?_;refine ⟨_,rfl,?_⟩)|refine zL rfl rfl rfl ?_|(refine zS rfl rfl rfl rfl rfl (fun h=>?_) (fun h=>?_)<;>(dsimp only [cmpP] at h;(try (exfalso;omega))))|refine zO rfl rfl rfl rfl (fun _ _ q=>hC _ q.below) ?_|refine zO rfl rfl rfl rfl (fun _ _ q=>hA _) ?_|(refine zp rfl rfl rfl rfl (fun b=>?_)))|(with_reducible first|refine zI ?_|refine zB ?_|refine zE ?_|refine zA ?_|refine zR ?_|refine zQ ?_)|((with_reducible refine zF ?_ ?_);(· exact rfl))))
  refine zAB (ι:=Nat) [1,12] rfl (fun i=>i≤4∧(1≤i→a1=true)∧(2≤i→a2=true)∧(3≤i→a3=true)∧(4≤i→a4=true)) (fun i=>[(13,.int .i64 (i:Int))]) (fun _=>[.blk b (zAH l)]) (fun i=>4 - i) 0 ⟨by omega,by omega,by omega,by omega,by omega⟩ (by (repeat first|exact lK1|refine zT rfl ?_)) (by unfold zAH;(repeat constructor)) ?_
  rintro i ⟨hi,q1,q2,q3,q4⟩
  simp only [zAk,zAH,List.cons_append,List.nil_append]
  by_cases i0:i=0
  ·subst i0
   (repeat' (first|((with_reducible refine zG ?_);first|refine zD rfl rfl rfl ?_|refine zC rfl rfl rfl ?_|(refine zJ rfl rfl rfl ?_;refine ⟨_,rfl,?_⟩)|refine zL rfl rfl rfl ?_|(refine zS rfl rfl rfl rfl rfl (fun h=>?_) (fun h=>?_)<;>(dsimp only [cmpP] at h;(try (exfalso;omega))))|refine zBD rfl (zDl (I:=0) rfl rfl rfl rfl (by decide) rfl) ?_|(refine zAf rfl rfl rfl rfl (fun _ _ q=>k1 _) (fun h=>?_) (fun h=>?_)<;>(try (exfalso;omega)))|refine zAI rfl rfl rfl ?_|refine zu rfl rfl rfl rfl (by omega) ?_|(refine zX rfl rfl rfl rfl rfl ?_;refine ⟨rfl,by first|decide|exact Nat.le_of_ble_eq_true rfl|(simp;omega),_,rfl,?_⟩)|(refine zb rfl rfl (fun b=>?_)))|(with_reducible first|refine zI ?_|refine zB ?_|refine zE ?_|refine zA ?_|refine zV ?_|refine zR ?_|refine zU ?_|refine zQ ?_|refine zj ?_|refine zAV ?_)|((with_reducible refine zH ?_ ?_);(· exact rfl))|((with_reducible refine zF ?_ ?_);(· exact rfl))))
   ·exact zd 1 ⟨by omega,fun _=>by assumption,by omega,by omega,by omega⟩ (by omega) (by (repeat first|exact lK1|refine zT rfl ?_)) (by (repeat constructor))
   ·exact zP (by exact rTm rfl) () trivial (by simp_all [resV]) (fun _ h=>h.sub (by (repeat constructor)))
  by_cases i1:i=1
  ·subst i1
   (repeat' (first|((with_reducible refine zG ?_);first|refine zD rfl rfl rfl ?_|refine zC rfl rfl rfl ?_|(refine zJ rfl rfl rfl ?_;refine ⟨_,rfl,?_⟩)|refine zL rfl rfl rfl ?_|(refine zS rfl rfl rfl rfl rfl (fun h=>?_) (fun h=>?_)<;>(dsimp only [cmpP] at h;(try (exfalso;omega))))|refine zBD rfl (zDl (I:=1) rfl rfl rfl rfl (by decide) rfl) ?_|(refine zAf rfl rfl rfl rfl (fun _ _ q=>k2 _ q.below) (fun h=>?_) (fun h=>?_)<;>(try (exfalso;omega)))|refine zAI rfl rfl rfl ?_|refine zu rfl rfl rfl rfl (by omega) ?_|(refine zX rfl rfl rfl rfl rfl ?_;refine ⟨rfl,by first|decide|exact Nat.le_of_ble_eq_true rfl|(simp;omega),_,rfl,?_⟩)|(refine zb rfl rfl (fun b=>?_)))|(with_reducible first|refine zI ?_|refine zB ?_|refine zE ?_|refine zA ?_|refine zV ?_|refine zR ?_|refine zU ?_|refine zQ ?_|refine zj ?_|refine zAV ?_)|((with_reducible refine zH ?_ ?_);(· exact rfl))|((with_reducible refine zF ?_ ?_);(· exact rfl))))
   ·exact zd 2 ⟨by omega,fun _=>q1 (by omega),fun _=>by assumption,by omega,by omega⟩ (by omega) (by (repeat first|exact lK1|refine zT rfl ?_)) (by (repeat constructor))
   ·exact zP (by exact rTm rfl) () trivial (by simp_all [resV]) (fun _ h=>h.sub (by (repeat constructor)))
  by_cases i2:i=2
  ·subst i2
   (repeat' (first|((with_reducible refine zG ?_);first|refine zD rfl rfl rfl ?_|refine zC rfl rfl rfl ?_|(refine zJ rfl rfl rfl ?_;refine ⟨_,rfl,?_⟩)|refine zL rfl rfl rfl ?_|(refine zS rfl rfl rfl rfl rfl (fun h=>?_) (fun h=>?_)<;>(dsimp only [cmpP] at h;(try (exfalso;omega))))|refine zBD rfl (zDl (I:=2) rfl rfl rfl rfl (by decide) rfl) ?_|(refine zAf rfl rfl rfl rfl (fun _ _ q=>k3 _ q.below) (fun h=>?_) (fun h=>?_)<;>(try (exfalso;omega)))|refine zAI rfl rfl rfl ?_|refine zu rfl rfl rfl rfl (by omega) ?_|(refine zX rfl rfl rfl rfl rfl ?_;refine ⟨rfl,by first|decide|exact Nat.le_of_ble_eq_true rfl|(simp;omega),_,rfl,?_⟩)|(refine zb rfl rfl (fun b=>?_)))|(with_reducible first|refine zI ?_|refine zB ?_|refine zE ?_|refine zA ?_|refine zV ?_|refine zR ?_|refine zU ?_|refine zQ ?_|refine zj ?_|refine zAV ?_)|((with_reducible refine zH ?_ ?_);(· exact rfl))|((with_reducible refine zF ?_ ?_);(· exact rfl))))
   ·exact zd 3 ⟨by omega,fun _=>q1 (by omega),fun _=>q2 (by omega),fun _=>by assumption,by omega⟩ (by omega) (by (repeat first|exact lK1|refine zT rfl ?_)) (by (repeat constructor))
   ·exact zP (by exact rTm rfl) () trivial (by simp_all [resV]) (fun _ h=>h.sub (by (repeat constructor)))
  by_cases i3:i=3
  ·subst i3
   (repeat' (first|((with_reducible refine zG ?_);first|refine zD rfl rfl rfl ?_|refine zC rfl rfl rfl ?_|(refine zJ rfl rfl rfl ?_;refine ⟨_,rfl,?_⟩)|refine zL rfl rfl rfl ?_|(refine zS rfl rfl rfl rfl rfl (fun h=>?_) (fun h=>?_)<;>(dsimp only [cmpP] at h;(try (exfalso;omega))))|refine zBD rfl (zDl (I:=3) rfl rfl rfl rfl (by decide) rfl) ?_|(refine zAf rfl rfl rfl rfl (fun _ _ q=>k4 _ q.below) (fun h=>?_) (fun h=>?_)<;>(try (exfalso;omega)))|refine zAI rfl rfl rfl ?_|refine zu rfl rfl rfl rfl (by omega) ?_|(refine zX rfl rfl rfl rfl rfl ?_;refine ⟨rfl,by first|decide|exact Nat.le_of_ble_eq_true rfl|(simp;omega),_,rfl,?_⟩)|(refine zb rfl rfl (fun b=>?_)))|(with_reducible first|refine zI ?_|refine zB ?_|refine zE ?_|refine zA ?_|refine zV ?_|refine zR ?_|refine zU ?_|refine zQ ?_|refine zj ?_|refine zAV ?_)|((with_reducible refine zH ?_ ?_);(· exact rfl))|((with_reducible refine zF ?_ ?_);(· exact rfl))))
   ·exact zd 4 ⟨by omega,fun _=>q1 (by omega),fun _=>q2 (by omega),fun _=>q3 (by omega),fun _=>by assumption⟩ (by omega) (by (repeat first|exact lK1|refine zT rfl ?_)) (by (repeat constructor))
   ·exact zP (by exact rTm rfl) () trivial (by simp_all [resV]) (fun _ h=>h.sub (by (repeat constructor)))
  obtain rfl:i=4:=by omega
  (repeat' (first|((with_reducible refine zG ?_);first|refine zC rfl rfl rfl ?_|(refine zS rfl rfl rfl rfl rfl (fun h=>?_) (fun h=>?_)<;>(dsimp only [cmpP] at h;(try (exfalso;omega)))))|(with_reducible first|refine zI ?_|refine zB ?_|refine zE ?_|refine zA ?_|refine zV ?_|refine zz ?_|refine zZ ?_|refine ze ?_)|((with_reducible refine zF ?_ ?_);(· exact rfl))))
  exact zP (by exact rTm rfl) () trivial (by simp [q1 (by omega),q2 (by omega),q3 (by omega),q4 (by omega),resV]) (fun _ h=>h.sub (by (repeat constructor)))
end Go.Proofs.YtfiekidciiighaaGreat.Two
