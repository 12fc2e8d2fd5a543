/- A30 -/
import Derived.Test.YtfiekidciiighaaGreatA29
set_option linter.unusedSimpArgs false
set_option linter.unusedVariables false
namespace Go.Proofs.YtfiekidciiighaaGreat.Two
variable {ro : Option Nat}
open Go.RowKit
set_option maxRecDepth 20000
theorem zD0 {l:LnM} {r:Rid} (h0:zAt l r=0) (m:Int):zCI l r m=if (zDR l r).2≠0∨m<(zDR l r).1.lo then 0 else if zBt l r=2∧(zDR l r).1.hi≤m then 2 else 1:=by
 have hk:(krd l r).start=r.start:=rfl
 unfold zCI wentW zDR zBt
 rw [if_pos h0,if_pos h0]
 cases hsp:zCG (krd l r) l.finish.toNat with
 | none=>simp [ranV]
 | some p =>
  obtain ⟨p1,p2⟩:=p
  simp only [ranV,hk]
  rcases zGt hsp with ⟨h1,h2⟩ | ⟨h1,h2⟩
  ·rw [h1,h2];simp
  ·rw [h1,h2];simp
def zED (p:RdM→Bool) (rs:List RdM) (i:Nat):Nat:=(rs.take i).countP p
theorem zEB {p:RdM→Bool} {rs:List RdM}:zED p rs 0=0:=by simp [zED]
theorem zE9 {p:RdM→Bool} {rs:List RdM}:zED p rs rs.length=rs.countP p:=by simp [zED]
theorem zEC {p:RdM→Bool} {rs:List RdM} {i:Nat} {y:RdM} (h:rs[i]?=some y):zED p rs (i+1)=zED p rs i+if p y then 1 else 0:=by
 unfold zED
 rw [List.take_add_one,h,List.countP_append]
 simp [List.countP_cons]
theorem zGF {p:RdM→Bool} {rs:List RdM} {i:Nat}:zED p rs i≤i:=Nat.le_trans List.countP_le_length (by rw [List.length_take];omega)
set_option maxHeartbeats 4000000 in
theorem zJN (t:TrM) (a:Nat) (x:AtM) (w:World) (h:zCj w t) (hs:zBR t) (hF:TnF t) (hx:t.ats[a]?=some x):Gv Tryz.prog 16 [vTn t,.int .i64 (a:Int),.int .i64 1] w (.tuple #[.int .i64 (zBw t x 0).1,.int .i64 (zBw t x 0).2]):=by
 obtain ⟨l,nas,NA,nc,gns,GA,gc,total,gap,down,every,seats,pace,ats,AA,ac,p1,p2,p3⟩:=t
 obtain ⟨h1,h2,h3,h4,h5,h6⟩:=h
 obtain ⟨k1,k2,k3,k4,k5,k6⟩:=hs
 have hxm:=List.mem_of_getElem? hx
 have hAt:=(hF.at_ a x hx).2.2.2.2
 simp only at h1 h2 h3 h4 h5 h6 k1 k2 k3 k4 k5 k6 hx hAt hxm
 have e0:zBw (⟨l,nas,NA,nc,gns,GA,gc,total,gap,down,every,seats,pace,ats,AA,ac,p1,p2,p3⟩:TrM) x 0=(((zED (fun y=>zCI l y.r p1.time == 2) x.rides x.rides.length:Nat):Int),((zED (fun y=>zCI l y.r p1.time != 0) x.rides x.rides.length:Nat):Int)):=by
  rw [zE9,zE9];rfl
 rw [e0]
 clear e0
 have hlt:=(List.getElem?_eq_some_iff.1 hx).1
 have:zAT ats a x:=⟨hx⟩
 obtain ⟨bA,oA,hAe,hAl,hAc⟩:=h4.at_ hlt
 subst hAe
 have:InS w bA oA zB1 4 ats:=⟨h4⟩
 have h5x:=h5 x hxm
 have k5x:=k5 x hxm
 have h6x:=h6 x hxm
 have k6x:=k6 x hxm
 obtain ⟨id,na,ag,RA,rides,rc⟩:=x
 simp only at h5x k5x h6x k6x hAt ⊢
 have hwt:=fun (i:Nat) y (hy:rides[i]?=some y)=>zD0 (hAt i y hy) p1.time
 obtain ⟨f,hf⟩:∃ f:RdM→Nat,f=fun y=>zCI l y.r p1.time:=⟨_,rfl⟩
 have hfy:=fun y=>congrFun hf y
 (try simp only at hfy)
 simp only [← hfy] at hwt ⊢
 clear hfy hf
 have hSs:=fun (i:Nat) y (hy:rides[i]?=some y)=>zEC (p:=fun y=>f y == 2) hy
 have hMs:=fun (i:Nat) y (hy:rides[i]?=some y)=>zEC (p:=fun y=>f y != 0) hy
 have hSl:=fun i=>zGF (p:=fun y=>f y == 2) (rs:=rides) (i:=i)
 have hMl:=fun i=>zGF (p:=fun y=>f y != 0) (rs:=rides) (i:=i)
 have hS0:=zEB (p:=fun y=>f y == 2) (rs:=rides)
 have hM0:=zEB (p:=fun y=>f y != 0) (rs:=rides)
 (try simp only at hSs hMs)
 generalize zED (fun y=>f y == 2) rides=S at *
 generalize zED (fun y=>f y != 0) rides=M at *
 unfold Gv vTn zg
 simp only
 (refine zK (n:=80) Tryz.func16 rfl rfl rfl ?_)
 (repeat' (first|((with_reducible refine zG ?_);first|refine zD rfl rfl rfl ?_|refine zC rfl rfl rfl ?_|(refine zJ rfl rfl rfl ?_;refine ⟨_,rfl,?_⟩)|refine zL rfl rfl rfl ?_|refine zo (I:=a) rfl rfl rfl rfl rfl (by omega) ?_|(refine zp rfl rfl rfl rfl (fun b=>?_)))|(with_reducible first|refine zI ?_|refine zB ?_|refine zE ?_|refine zA ?_|refine zQ ?_)))
 refine zAB (ι:=Nat) [2,3,10] rfl (fun i=>i≤rides.length) (fun i=>[(11,.int .i64 (i:Int)),(8,.int .i64 (S i:Int)),(9,.int .i64 (M i:Int))]) (fun _=>[.blk b (zg ⟨l,nas,NA,nc,gns,GA,gc,total,gap,down,every,seats,pace,ats,some ⟨bA,oA,none⟩,ac,p1,p2,p3⟩)]) (fun i=>rides.length - i) 0 (Nat.zero_le _) (by (try rw [hS0,hM0]);(repeat first|exact lK1|refine zT rfl ?_)) (by (try unfold zg);(repeat constructor)) ?_
 rintro i hi
 simp only [zAk,zg,List.cons_append,List.nil_append]
 by_cases hil:i<rides.length
 rotate_left
 ·obtain rfl:i=rides.length:=by omega
  (repeat' (first|((with_reducible refine zG ?_);first|refine zD rfl rfl rfl ?_|refine zC rfl rfl rfl ?_|(refine zS rfl rfl rfl rfl rfl (fun h=>?_) (fun h=>?_)<;>(dsimp only [cmpP] at h;(try (exfalso;omega))))|refine zn rfl rfl rfl ?_)|(with_reducible first|refine zI ?_|refine zB ?_|refine zE ?_|refine zA ?_|refine zV ?_|refine zz ?_|refine zZ ?_|refine ze ?_)|((with_reducible refine zF ?_ ?_);(· exact rfl))))
  exact zP (by (exact zh.cons (by exact zAO.tmp rfl) (zh.cons (by exact zAO.tmp rfl) zh.nil))) () trivial rfl (fun _ h=>h.sub (by (repeat constructor)))
 obtain ⟨y,hy⟩:∃ y,rides[i]?=some y:=⟨_,List.getElem?_eq_getElem hil⟩
 have:zAT rides i y:=⟨hy⟩
 obtain ⟨bR,oR,hRe,hRl,hRc⟩:=h5x.at_ hil
 subst hRe
 have:InS w bR oR zAN 3 rides:=⟨h5x⟩
 have hym:=List.mem_of_getElem? hy
 have hRn:=fun W (hW:Below w.heap.size w W)=>zG9 l y W (h1.below hW) k1 ((h6x y hym).below hW) (by have:=k6x y hym;omega)
 have hCl:=fun W (hW:Below w.heap.size w W)=>zFN l y W (h1.below hW) k1 ((h6x y hym).below hW) (by have:=k6x y hym;omega)
 have hw:=hwt i y hy
 have hS1:=hSs i y hy
 have hM1:=hMs i y hy
 have hSi:=hSl i
 have hMi:=hMl i
 rw [hAt i y hy] at hCl
 unfold vLn vRd vSp at hRn
 unfold vLn vRd at hCl
 generalize zDR l y.r=rn at *
 obtain ⟨⟨lo,hi'⟩,e⟩:=rn
 generalize zBt l y.r=cl at *
 generalize f y=fy at *
 simp only at hw hRn
 by_cases hA:e≠0∨p1.time<lo
 ·rw [if_pos hA] at hw
  subst hw
  simp only [Nat.zero_ne_one,bne_self_eq_false,Bool.false_eq_true,if_false,Nat.add_zero,show ((0:Nat) == 2)=false from rfl] at hS1 hM1
  (repeat' (first|((with_reducible refine zG ?_);first|refine zD rfl rfl rfl ?_|(refine zS rfl rfl rfl rfl rfl (fun h=>?_) (fun h=>?_)<;>(dsimp only [cmpP] at h;(try (exfalso;omega))))|refine zn rfl rfl rfl ?_)|(with_reducible first|refine zI ?_|refine zB ?_|refine zE ?_|refine zA ?_|refine zR ?_|refine zQ ?_)|((with_reducible refine zH ?_ ?_);(· exact rfl))))
  (refine z9 [(10,11)] [] [] rfl (by decide) (fun _ h=>h) (by kernel_rfl) [[],[Z],[Y,Y],[Y,Y,Y],[Z,Z,Y,Y],[Z,Z,Z,Y,Y],[Z,Z,Z,Z,Z,Z],[Z,Z,Z,Z,Z,Z,Z],[Z,Z,Z,Z,Z,Z,Z,Z],[Y,Z,Z,Z,Z,Z,Z,Z,Z],[Y,Y,Y,Y,Y,Y,Y,Y,Y,Y],[Z,Y,Z,Z,Z,Z,Z,Z,Z,Z,Z],[Z,Z,Z,Z,Z,Z,Z,Z,Z,Z,Z,Z]] (by kernel_rfl) (by kernel_rfl) (by kernel_rfl) (by kernel_rfl) (by kernel_rfl) ?_)
  (repeat' (first|(((with_reducible refine zA0 ?_ ?_);(· exact rfl);refine ⟨_,fun G=>(by (try simp (decide:=true) only [vis,see,fltT,zq,Nat.reduceAdd,Nat.reduceSub,if_true,if_false,List.set_cons_zero,List.set_cons_succ,List.set_nil,List.nil_append,List.cons_append]);rfl),?_⟩);first|refine zN _ (fun _=>zl rfl rfl) (fun _=>rfl) rfl (by intro G G' h;simp (decide:=true) only [h]) ?_|refine zN _ (fun _=>zW rfl rfl (by exact rfl)) (fun _=>rfl) rfl (by intro G G' h;simp (decide:=true) only [h]) ?_|(refine zm rfl ?_;refine zN _ (fun _=>zY rfl rfl) (fun _=>rfl) rfl (by intro G G' h;simp (decide:=true) only [h]) ?_)|refine zN _ (fun _=>zt rfl rfl) (fun _=>rfl) rfl (by intro G G' h;simp (decide:=true) only [h]) ?_|(refine zAj rfl ?_;refine zN _ (fun _=>zw (I:=i) rfl rfl rfl rfl (by omega)) (fun _=>rfl) rfl (by exact fun _ _ _=>rfl) ?_)|(refine zAM rfl ?_;refine zAR _ rfl (fun _=>rfl) rfl (fun _=>rfl) (fun _=>rfl) (fun _ _ _ q=>hRn _ q.below) (by intro G G' h;simp (decide:=true) only [h]) ?_)|refine zN _ (fun _=>zAL rfl rfl rfl) (fun _=>rfl) rfl (by intro G G' h;simp (decide:=true) only [h]) ?_|refine zA1 rfl (fun _=>rfl) rfl ?_)|(refine zAo (gx:=fun G=>(G 10).g) (cs:=fun _=>[.int .i64 0,.int .i64 0]) (cs':=fun _=>[.int .i64 lo,.int .i64 hi']) 10 (by decide) rfl rfl (fun _=>rfl) rfl (fun _=>rfl) (fun _=>rfl) (fun _=>rfl) (fun _=>rfl) (fun _=>rfl) (fun _=>rfl) (fun _=>rfl) (by intro G G' h;simp (decide:=true) only [h]) (by exact fun _ _ _=>rfl) ?_)|(with_reducible refine zAx ?_)))
  intro G
  simp only [regsT,Nat.reduceAdd,List.nil_append,List.cons_append]
  generalize hg:(G 10).g=bk
  refine zBF (H':=[.blk bk [.int .i64 lo,.int .i64 hi'],.blk b (zg ⟨l,nas,NA,nc,gns,GA,gc,total,gap,down,every,seats,pace,ats,some ⟨bA,oA,none⟩,ac,p1,p2,p3⟩)]) (fun _ h=>by first|exact h|exact hg ▸ h) ?_
  simp only [zg]
  (repeat' (first|(with_reducible first|refine zI ?_|refine zA ?_)))
  (refine zAD (by kernel_rfl) (by kernel_rfl) (by kernel_rfl) ?_)
  (repeat' (first|((with_reducible refine zAP ?_);first|refine zM (zl rfl rfl) rfl ?_|refine zM (zW rfl rfl (by exact rfl)) rfl ?_|refine zM (zY rfl rfl) rfl ?_|refine zM (zAh rfl rfl rfl) rfl ?_|refine zAJ rfl rfl rfl ?_|(refine zAu rfl rfl rfl rfl rfl (fun h=>?_) (fun h=>?_)<;>(dsimp only [cmpP] at h;(try (exfalso;omega))))|refine zM (zBh (I:=0) rfl rfl rfl rfl (by decide)) rfl ?_|refine zM (zBW rfl rfl rfl (IntWalk.i64_in _ (by omega))) rfl ?_)|(with_reducible refine zAe ?_)))
  all_goals (repeat' (first|((with_reducible refine zG ?_);first|refine zD rfl rfl rfl ?_|refine zC rfl rfl rfl ?_|refine zu rfl rfl rfl rfl (by omega) ?_)|(with_reducible first|refine zB ?_|refine zE ?_|refine zA ?_|refine zz ?_|refine zZ ?_|refine ze ?_)|((with_reducible refine zH ?_ ?_);(· exact rfl))))
  all_goals exact zd (ι:=Nat) (i+1) (by omega) (by omega) (by simp only [hS1,hM1];(repeat first|exact lK1|refine zT rfl ?_)) (by (repeat constructor))
 rw [if_neg hA] at hw
 by_cases hC:cl=2∧hi'≤p1.time
 ·rw [if_pos hC] at hw
  subst hw
  simp only [show ((2:Nat) == 2)=true from rfl,show ((2:Nat) != 0)=true from rfl,if_true] at hS1 hM1
  replace hS1:((S (i+1):Nat):Int)=(S i:Int)+1:=by omega
  replace hM1:((M (i+1):Nat):Int)=(M i:Int)+1:=by omega
  (repeat' (first|((with_reducible refine zG ?_);first|refine zD rfl rfl rfl ?_|(refine zS rfl rfl rfl rfl rfl (fun h=>?_) (fun h=>?_)<;>(dsimp only [cmpP] at h;(try (exfalso;omega))))|refine zn rfl rfl rfl ?_)|(with_reducible first|refine zI ?_|refine zB ?_|refine zE ?_|refine zA ?_|refine zR ?_|refine zQ ?_)|((with_reducible refine zH ?_ ?_);(· exact rfl))))
  (refine z9 [(10,11)] [] [] rfl (by decide) (fun _ h=>h) (by kernel_rfl) [[],[Z],[Y,Y],[Y,Y,Y],[Z,Z,Y,Y],[Z,Z,Z,Y,Y],[Z,Z,Z,Z,Z,Z],[Z,Z,Z,Z,Z,Z,Z],[Z,Z,Z,Z,Z,Z,Z,Z],[Y,Z,Z,Z,Z,Z,Z,Z,Z],[Y,Y,Y,Y,Y,Y,Y,Y,Y,Y],[Z,Y,Z,Z,Z,Z,Z,Z,Z,Z,Z],[Z,Z,Z,Z,Z,Z,Z,Z,Z,Z,Z,Z]] (by kernel_rfl) (by kernel_rfl) (by kernel_rfl) (by kernel_rfl) (by kernel_rfl) ?_)
  (repeat' (first|(((with_reducible refine zA0 ?_ ?_);(· exact rfl);refine ⟨_,fun G=>(by (try simp (decide:=true) only [vis,see,fltT,zq,Nat.reduceAdd,Nat.reduceSub,if_true,if_false,List.set_cons_zero,List.set_cons_succ,List.set_nil,List.nil_append,List.cons_append]);rfl),?_⟩);first|refine zN _ (fun _=>zl rfl rfl) (fun _=>rfl) rfl (by intro G G' h;simp (decide:=true) only [h]) ?_|refine zN _ (fun _=>zW rfl rfl (by exact rfl)) (fun _=>rfl) rfl (by intro G G' h;simp (decide:=true) only [h]) ?_|(refine zm rfl ?_;refine zN _ (fun _=>zY rfl rfl) (fun _=>rfl) rfl (by intro G G' h;simp (decide:=true) only [h]) ?_)|refine zN _ (fun _=>zt rfl rfl) (fun _=>rfl) rfl (by intro G G' h;simp (decide:=true) only [h]) ?_|(refine zAj rfl ?_;refine zN _ (fun _=>zw (I:=i) rfl rfl rfl rfl (by omega)) (fun _=>rfl) rfl (by exact fun _ _ _=>rfl) ?_)|(refine zAM rfl ?_;refine zAR _ rfl (fun _=>rfl) rfl (fun _=>rfl) (fun _=>rfl) (fun _ _ _ q=>hRn _ q.below) (by intro G G' h;simp (decide:=true) only [h]) ?_)|refine zN _ (fun _=>zAL rfl rfl rfl) (fun _=>rfl) rfl (by intro G G' h;simp (decide:=true) only [h]) ?_|refine zA1 rfl (fun _=>rfl) rfl ?_)|(refine zAo (gx:=fun G=>(G 10).g) (cs:=fun _=>[.int .i64 0,.int .i64 0]) (cs':=fun _=>[.int .i64 lo,.int .i64 hi']) 10 (by decide) rfl rfl (fun _=>rfl) rfl (fun _=>rfl) (fun _=>rfl) (fun _=>rfl) (fun _=>rfl) (fun _=>rfl) (fun _=>rfl) (fun _=>rfl) (by intro G G' h;simp (decide:=true) only [h]) (by exact fun _ _ _=>rfl) ?_)|(with_reducible refine zAx ?_)))
  intro G
  simp only [regsT,Nat.reduceAdd,List.nil_append,List.cons_append]
  generalize hg:(G 10).g=bk
  refine zBF (H':=[.blk bk [.int .i64 lo,.int .i64 hi'],.blk b (zg ⟨l,nas,NA,nc,gns,GA,gc,total,gap,down,every,seats,pace,ats,some ⟨bA,oA,none⟩,ac,p1,p2,p3⟩)]) (fun _ h=>by first|exact h|exact hg ▸ h) ?_
  simp only [zg]
  (repeat' (first|(with_reducible first|refine zI ?_|refine zA ?_)))
  (refine zAD (by kernel_rfl) (by kernel_rfl) (by kernel_rfl) ?_)
  (repeat' (first|((with_reducible refine zAP ?_);first|refine zM (zl rfl rfl) rfl ?_|refine zM (zW rfl rfl (by exact rfl)) rfl ?_|refine zM (zY rfl rfl) rfl ?_|refine zM (zAh rfl rfl rfl) rfl ?_|(refine zAu rfl rfl rfl rfl rfl (fun h=>?_) (fun h=>?_)<;>(dsimp only [cmpP] at h;(try (exfalso;omega))))|refine zM (zBh (I:=0) rfl rfl rfl rfl (by decide)) rfl ?_|refine zM (zBW rfl rfl rfl (IntWalk.i64_in _ (by omega))) rfl ?_)|(with_reducible refine zAe ?_)))
  all_goals (repeat' (first|((with_reducible refine zG ?_);first|refine zD rfl rfl rfl ?_|refine zC rfl rfl rfl ?_|refine zu rfl rfl rfl rfl (by omega) ?_)|(with_reducible first|refine zI ?_|refine zB ?_|refine zE ?_|refine zA ?_|refine zR ?_)|((with_reducible refine zF ?_ ?_);(· exact rfl))))
  (refine z9 [] [] [] rfl (show ([]:List Nat).Nodup by decide) (fun _ h=>h) (by kernel_rfl) [[],[Z],[Y,Y],[Y,Y,Y],[Z,Z,Y,Y],[Z,Z,Z,Y,Y],[Z,Z,Z,Z,Z,Z],[Z,Z,Z,Z,Z,Z,Z],[Z,Z,Z,Z,Z,Z,Z,Z],[Y,Z,Z,Z,Z,Z,Z,Z,Z],[Y,Z,Z,Z,Z,Z,Z,Z,Z,Z],[Z,Z,Z,Z,Z,Z,Z,Z,Z,Z,Z]] (by kernel_rfl) (by kernel_rfl) (by kernel_rfl) (by kernel_rfl) (by kernel_rfl) ?_)
  (repeat' (first|(((with_reducible refine zA0 ?_ ?_);(· exact rfl);refine ⟨_,fun G=>(by (try simp (decide:=true) only [vis,see,fltT,zq,Nat.reduceAdd,Nat.reduceSub,if_true,if_false,List.set_cons_zero,List.set_cons_succ,List.set_nil,List.nil_append,List.cons_append]);rfl),?_⟩);first|refine zN _ (fun _=>zl rfl rfl) (fun _=>rfl) rfl (by intro G G' h;simp (decide:=true) only [h]) ?_|refine zN _ (fun _=>zW rfl rfl (by exact rfl)) (fun _=>rfl) rfl (by intro G G' h;simp (decide:=true) only [h]) ?_|(refine zm rfl ?_;refine zN _ (fun _=>zY rfl rfl) (fun _=>rfl) rfl (by intro G G' h;simp (decide:=true) only [h]) ?_)|refine zN _ (fun _=>zt rfl rfl) (fun _=>rfl) rfl (by intro G G' h;simp (decide:=true) only [h]) ?_|(refine zAj rfl ?_;refine zN _ (fun _=>zw (I:=i) rfl rfl rfl rfl (by omega)) (fun _=>rfl) rfl (by exact fun _ _ _=>rfl) ?_)|(refine zAM rfl ?_;refine zAR _ rfl (fun _=>rfl) rfl (fun _=>rfl) (fun _=>rfl) (fun _ _ _ q=>hCl _ q.below) (by intro G G' h;simp (decide:=true) only [h]) ?_)|refine zN _ (fun _=>zAL rfl rfl rfl) (fun _=>rfl) rfl (by intro G G' h;simp (decide:=true) only [h]) ?_)|(with_reducible refine zAx ?_)))
  (intro G;simp only [regsT,zq,zAa,ini,List.nil_append,List.cons_append])
  (repeat' (first|(with_reducible first|refine zI ?_|refine zA ?_)))
  (refine zAD (by kernel_rfl) (by kernel_rfl) (by kernel_rfl) ?_)
  (repeat' (first|((with_reducible refine zAP ?_);first|refine zM (zl rfl rfl) rfl ?_|refine zM (zW rfl rfl (by exact rfl)) rfl ?_|refine zM (zY rfl rfl) rfl ?_|refine zM (zAh rfl rfl rfl) rfl ?_|(refine zAu rfl rfl rfl rfl rfl (fun h=>?_) (fun h=>?_)<;>(dsimp only [cmpP] at h;(try (exfalso;omega))))|refine zM (zBh (I:=0) rfl rfl rfl rfl (by decide)) rfl ?_|refine zM (zBW rfl rfl rfl (IntWalk.i64_in _ (by omega))) rfl ?_)|(with_reducible refine zAe ?_)))
  all_goals (repeat' (first|((with_reducible refine zG ?_);first|refine zD rfl rfl rfl ?_|refine zC rfl rfl rfl ?_|refine zu rfl rfl rfl rfl (by omega) ?_)|(with_reducible first|refine zB ?_|refine zE ?_|refine zA ?_|refine zj ?_)|((with_reducible refine zH ?_ ?_);(· exact rfl))))
  all_goals exact zd (ι:=Nat) (i+1) (by omega) (by omega) (by simp only [hS1,hM1];(repeat first|exact lK1|refine zT rfl ?_)) (by (repeat constructor))
 ·rw [if_neg hC] at hw
  subst hw
  simp only [show ((1:Nat) == 2)=false from rfl,show ((1:Nat) != 0)=true from rfl,if_true,Bool.false_eq_true,if_false,Nat.add_zero] at hS1 hM1
  replace hM1:((M (i+1):Nat):Int)=(M i:Int)+1:=by omega
  (repeat' (first|((with_reducible refine zG ?_);first|refine zD rfl rfl rfl ?_|(refine zS rfl rfl rfl rfl rfl (fun h=>?_) (fun h=>?_)<;>(dsimp only [cmpP] at h;(try (exfalso;omega))))|refine zn rfl rfl rfl ?_)|(with_reducible first|refine zI ?_|refine zB ?_|refine zE ?_|refine zA ?_|refine zR ?_|refine zQ ?_)|((with_reducible refine zH ?_ ?_);(· exact rfl))))
  (refine z9 [(10,11)] [] [] rfl (by decide) (fun _ h=>h) (by kernel_rfl) [[],[Z],[Y,Y],[Y,Y,Y],[Z,Z,Y,Y],[Z,Z,Z,Y,Y],[Z,Z,Z,Z,Z,Z],[Z,Z,Z,Z,Z,Z,Z],[Z,Z,Z,Z,Z,Z,Z,Z],[Y,Z,Z,Z,Z,Z,Z,Z,Z],[Y,Y,Y,Y,Y,Y,Y,Y,Y,Y],[Z,Y,Z,Z,Z,Z,Z,Z,Z,Z,Z],[Z,Z,Z,Z,Z,Z,Z,Z,Z,Z,Z,Z]] (by kernel_rfl) (by kernel_rfl) (by kernel_rfl) (by kernel_rfl) (by kernel_rfl) ?_)
  (repeat' (first|(((with_reducible refine zA0 ?_ ?_);(· exact rfl);refine ⟨_,fun G=>(by (try simp (decide:=true) only [vis,see,fltT,zq,Nat.reduceAdd,Nat.reduceSub,if_true,if_false,List.set_cons_zero,List.set_cons_succ,List.set_nil,List.nil_append,List.cons_append]);rfl),?_⟩);first|refine zN _ (fun _=>zl rfl rfl) (fun _=>rfl) rfl (by intro G G' h;simp (decide:=true) only [h]) ?_|refine zN _ (fun _=>zW rfl rfl (by exact rfl)) (fun _=>rfl) rfl (by intro G G' h;simp (decide:=true) only [h]) ?_|(refine zm rfl ?_;refine zN _ (fun _=>zY rfl rfl) (fun _=>rfl) rfl (by intro G G' h;simp (decide:=true) only [h]) ?_)|refine zN _ (fun _=>zt rfl rfl) (fun _=>rfl) rfl (by intro G G' h;simp (decide:=true) only [h]) ?_|(refine zAj rfl ?_;refine zN _ (fun _=>zw (I:=i) rfl rfl rfl rfl (by omega)) (fun _=>rfl) rfl (by exact fun _ _ _=>rfl) ?_)|(refine zAM rfl ?_;refine zAR _ rfl (fun _=>rfl) rfl (fun _=>rfl) (fun _=>rfl) (fun _ _ _ q=>hRn _ q.below) (by intro G G' h;simp (decide:=true) only [h]) ?_)|refine zN _ (fun _=>zAL rfl rfl rfl) (fun _=>rfl) rfl (by intro G G' h;simp (decide:=true) only [h]) ?_|refine zA1 rfl (fun _=>rfl) rfl ?_)|(refine zAo (gx:=fun G=>(G 10).g) (cs:=fun _=>[.int .i64 0,.int .i64 0]) (cs':=fun _=>[.int .i64 lo,.int .i64 hi']) 10 (by decide) rfl rfl (fun _=>rfl) rfl (fun _=>rfl) (fun _=>rfl) (fun _=>rfl) (fun _=>rfl) (fun _=>rfl) (fun _=>rfl) (fun _=>rfl) (by intro G G' h;simp (decide:=true) only [h]) (by exact fun _ _ _=>rfl) ?_)|(with_reducible refine zAx ?_)))
  intro G
  simp only [regsT,Nat.reduceAdd,List.nil_append,List.cons_append]
  generalize hg:(G 10).g=bk
  refine zBF (H':=[.blk bk [.int .i64 lo,.int .i64 hi'],.blk b (zg ⟨l,nas,NA,nc,gns,GA,gc,total,gap,down,every,seats,pace,ats,some ⟨bA,oA,none⟩,ac,p1,p2,p3⟩)]) (fun _ h=>by first|exact h|exact hg ▸ h) ?_
  simp only [zg]
  (repeat' (first|(with_reducible first|refine zI ?_|refine zA ?_)))
  (refine zAD (by kernel_rfl) (by kernel_rfl) (by kernel_rfl) ?_)
  (repeat' (first|((with_reducible refine zAP ?_);first|refine zM (zl rfl rfl) rfl ?_|refine zM (zW rfl rfl (by exact rfl)) rfl ?_|refine zM (zY rfl rfl) rfl ?_|refine zM (zAh rfl rfl rfl) rfl ?_|(refine zAu rfl rfl rfl rfl rfl (fun h=>?_) (fun h=>?_)<;>(dsimp only [cmpP] at h;(try (exfalso;omega))))|refine zM (zBh (I:=0) rfl rfl rfl rfl (by decide)) rfl ?_|refine zM (zBW rfl rfl rfl (IntWalk.i64_in _ (by omega))) rfl ?_)|(with_reducible refine zAe ?_)))
  all_goals (repeat' (first|((with_reducible refine zG ?_);first|refine zD rfl rfl rfl ?_|refine zC rfl rfl rfl ?_|refine zu rfl rfl rfl rfl (by omega) ?_)|(with_reducible first|refine zI ?_|refine zB ?_|refine zE ?_|refine zA ?_|refine zR ?_)|((with_reducible refine zF ?_ ?_);(· exact rfl))))
  (refine z9 [] [] [] rfl (show ([]:List Nat).Nodup by decide) (fun _ h=>h) (by kernel_rfl) [[],[Z],[Y,Y],[Y,Y,Y],[Z,Z,Y,Y],[Z,Z,Z,Y,Y],[Z,Z,Z,Z,Z,Z],[Z,Z,Z,Z,Z,Z,Z],[Z,Z,Z,Z,Z,Z,Z,Z],[Y,Z,Z,Z,Z,Z,Z,Z,Z],[Y,Z,Z,Z,Z,Z,Z,Z,Z,Z],[Z,Z,Z,Z,Z,Z,Z,Z,Z,Z,Z]] (by kernel_rfl) (by kernel_rfl) (by kernel_rfl) (by kernel_rfl) (by kernel_rfl) ?_)
  (repeat' (first|(((with_reducible refine zA0 ?_ ?_);(· exact rfl);refine ⟨_,fun G=>(by (try simp (decide:=true) only [vis,see,fltT,zq,Nat.reduceAdd,Nat.reduceSub,if_true,if_false,List.set_cons_zero,List.set_cons_succ,List.set_nil,List.nil_append,List.cons_append]);rfl),?_⟩);first|refine zN _ (fun _=>zl rfl rfl) (fun _=>rfl) rfl (by intro G G' h;simp (decide:=true) only [h]) ?_|refine zN _ (fun _=>zW rfl rfl (by exact rfl)) (fun _=>rfl) rfl (by intro G G' h;simp (decide:=true) only [h]) ?_|(refine zm rfl ?_;refine zN _ (fun _=>zY rfl rfl) (fun _=>rfl) rfl (by intro G G' h;simp (decide:=true) only [h]) ?_)|refine zN _ (fun _=>zt rfl rfl) (fun _=>rfl) rfl (by intro G G' h;simp (decide:=true) only [h]) ?_|(refine zAj rfl ?_;refine zN _ (fun _=>zw (I:=i) rfl rfl rfl rfl (by omega)) (fun _=>rfl) rfl (by exact fun _ _ _=>rfl) ?_)|(refine zAM rfl ?_;refine zAR _ rfl (fun _=>rfl) rfl (fun _=>rfl) (fun _=>rfl) (fun _ _ _ q=>hCl _ q.below) (by intro G G' h;simp (decide:=true) only [h]) ?_)|refine zN _ (fun _=>zAL rfl rfl rfl) (fun _=>rfl) rfl (by intro G G' h;simp (decide:=true) only [h]) ?_)|(with_reducible refine zAx ?_)))
  (intro G;simp only [regsT,zq,zAa,ini,List.nil_append,List.cons_append])
  (repeat' (first|(with_reducible first|refine zI ?_|refine zA ?_)))
  (refine zAD (by kernel_rfl) (by kernel_rfl) (by kernel_rfl) ?_)
  (repeat' (first|((with_reducible refine zAP ?_);first|refine zM (zl rfl rfl) rfl ?_|refine zM (zW rfl rfl (by exact rfl)) rfl ?_|refine zM (zY rfl rfl) rfl ?_|refine zM (zAh rfl rfl rfl) rfl ?_|refine zAJ rfl rfl rfl ?_|(refine zAu rfl rfl rfl rfl rfl (fun h=>?_) (fun h=>?_)<;>(dsimp only [cmpP] at h;(try (exfalso;omega))))|refine zM (zBh (I:=0) rfl rfl rfl rfl (by decide)) rfl ?_|refine zM (zBW rfl rfl rfl (IntWalk.i64_in _ (by omega))) rfl ?_)|(with_reducible refine zAe ?_)))
  all_goals (repeat' (first|((with_reducible refine zG ?_);first|refine zD rfl rfl rfl ?_|refine zC rfl rfl rfl ?_|refine zu rfl rfl rfl rfl (by omega) ?_)|(with_reducible first|refine zB ?_|refine zE ?_|refine zA ?_|refine zR ?_|refine zj ?_)|((with_reducible refine zF ?_ ?_);(· exact rfl))))
  all_goals exact zd (ι:=Nat) (i+1) (by omega) (by omega) (by simp only [hS1,hM1];(repeat first|exact lK1|refine zT rfl ?_)) (by (repeat constructor))
set_option maxHeartbeats 4000000 in
theorem zJM (t:TrM) (a:Nat) (x:AtM) (w:World) (h:zCj w t) (hs:zBR t) (hF:TnF t) (hx:t.ats[a]?=some x):Gv Tryz.prog 16 [vTn t,.int .i64 (a:Int),.int .i64 2] w (.tuple #[.int .i64 (zBw t x 1).1,.int .i64 (zBw t x 1).2]):=by
 obtain ⟨l,nas,NA,nc,gns,GA,gc,total,gap,down,every,seats,pace,ats,AA,ac,p1,p2,p3⟩:=t
 obtain ⟨h1,h2,h3,h4,h5,h6⟩:=h
 obtain ⟨k1,k2,k3,k4,k5,k6⟩:=hs
 have hxm:=List.mem_of_getElem? hx
 have hAt:=(hF.at_ a x hx).2.2.2.2
 simp only at h1 h2 h3 h4 h5 h6 k1 k2 k3 k4 k5 k6 hx hAt hxm
 have e0:zBw (⟨l,nas,NA,nc,gns,GA,gc,total,gap,down,every,seats,pace,ats,AA,ac,p1,p2,p3⟩:TrM) x 1=(((zED (fun y=>zCI l y.r p2.time == 2) x.rides x.rides.length:Nat):Int),((zED (fun y=>zCI l y.r p2.time != 0) x.rides x.rides.length:Nat):Int)):=by
  rw [zE9,zE9];rfl
 rw [e0]
 clear e0
 have hlt:=(List.getElem?_eq_some_iff.1 hx).1
 have:zAT ats a x:=⟨hx⟩
 obtain ⟨bA,oA,hAe,hAl,hAc⟩:=h4.at_ hlt
 subst hAe
 have:InS w bA oA zB1 4 ats:=⟨h4⟩
 have h5x:=h5 x hxm
 have k5x:=k5 x hxm
 have h6x:=h6 x hxm
 have k6x:=k6 x hxm
 obtain ⟨id,na,ag,RA,rides,rc⟩:=x
 simp only at h5x k5x h6x k6x hAt ⊢
 have hwt:=fun (i:Nat) y (hy:rides[i]?=some y)=>zD0 (hAt i y hy) p2.time
 obtain ⟨f,hf⟩:∃ f:RdM→Nat,f=fun y=>zCI l y.r p2.time:=⟨_,rfl⟩
 have hfy:=fun y=>congrFun hf y
 (try simp only at hfy)
 simp only [← hfy] at hwt ⊢
 clear hfy hf
 have hSs:=fun (i:Nat) y (hy:rides[i]?=some y)=>zEC (p:=fun y=>f y == 2) hy
 have hMs:=fun (i:Nat) y (hy:rides[i]?=some y)=>zEC (p:=fun y=>f y != 0) hy
 have hSl:=fun i=>zGF (p:=fun y=>f y == 2) (rs:=rides) (i:=i)
 have hMl:=fun i=>zGF (p:=fun y=>f y != 0) (rs:=rides) (i:=i)
 have hS0:=zEB (p:=fun y=>f y == 2) (rs:=rides)
 have hM0:=zEB (p:=fun y=>f y != 0) (rs:=rides)
 (try simp only at hSs hMs)
 generalize zED (fun y=>f y == 2) rides=S at *
 generalize zED (fun y=>f y != 0) rides=M at *
 unfold Gv vTn zg
 simp only
 (refine zK (n:=80) Tryz.func16 rfl rfl rfl ?_)
 (repeat' (first|((with_reducible refine zG ?_);first|refine zD rfl rfl rfl ?_|refine zC rfl rfl rfl ?_|(refine zJ rfl rfl rfl ?_;refine ⟨_,rfl,?_⟩)|refine zL rfl rfl rfl ?_|refine zo (I:=a) rfl rfl rfl rfl rfl (by omega) ?_|(refine zp rfl rfl rfl rfl (fun b=>?_)))|(with_reducible first|refine zI ?_|refine zB ?_|refine zE ?_|refine zA ?_|refine zQ ?_)))
 refine zAB (ι:=Nat) [2,3,10] rfl (fun i=>i≤rides.length) (fun i=>[(11,.int .i64 (i:Int)),(8,.int .i64 (S i:Int)),(9,.int .i64 (M i:Int))]) (fun _=>[.blk b (zg ⟨l,nas,NA,nc,gns,GA,gc,total,gap,down,every,seats,pace,ats,some ⟨bA,oA,none⟩,ac,p1,p2,p3⟩)]) (fun i=>rides.length - i) 0 (Nat.zero_le _) (by (try rw [hS0,hM0]);(repeat first|exact lK1|refine zT rfl ?_)) (by (try unfold zg);(repeat constructor)) ?_
 rintro i hi
 simp only [zAk,zg,List.cons_append,List.nil_append]
 by_cases hil:i<rides.length
 rotate_left
 ·obtain rfl:i=rides.length:=by omega
  (repeat' (first|((with_reducible refine zG ?_);first|refine zD rfl rfl rfl ?_|refine zC rfl rfl rfl ?_|(refine zS rfl rfl rfl rfl rfl (fun h=>?_) (fun h=>?_)<;>(dsimp only [cmpP] at h;(try (exfalso;omega))))|refine zn rfl rfl rfl ?_)|(with_reducible first|refine zI ?_|refine zB ?_|refine zE ?_|refine zA ?_|refine zV ?_|refine zz ?_|refine zZ ?_|refine ze ?_)|((with_reducible refine zF ?_ ?_);(· exact rfl))))
  exact zP (by (exact zh.cons (by exact zAO.tmp rfl) (zh.cons (by exact zAO.tmp rfl) zh.nil))) () trivial rfl (fun _ h=>h.sub (by (repeat constructor)))
 obtain ⟨y,hy⟩:∃ y,rides[i]?=some y:=⟨_,List.getElem?_eq_getElem hil⟩
 have:zAT rides i y:=⟨hy⟩
 obtain ⟨bR,oR,hRe,hRl,hRc⟩:=h5x.at_ hil
 subst hRe
 have:InS w bR oR zAN 3 rides:=⟨h5x⟩
 have hym:=List.mem_of_getElem? hy
 have hRn:=fun W (hW:Below w.heap.size w W)=>zG9 l y W (h1.below hW) k1 ((h6x y hym).below hW) (by have:=k6x y hym;omega)
 have hCl:=fun W (hW:Below w.heap.size w W)=>zFN l y W (h1.below hW) k1 ((h6x y hym).below hW) (by have:=k6x y hym;omega)
 have hw:=hwt i y hy
 have hS1:=hSs i y hy
 have hM1:=hMs i y hy
 have hSi:=hSl i
 have hMi:=hMl i
 rw [hAt i y hy] at hCl
 unfold vLn vRd vSp at hRn
 unfold vLn vRd at hCl
 generalize zDR l y.r=rn at *
 obtain ⟨⟨lo,hi'⟩,e⟩:=rn
 generalize zBt l y.r=cl at *
 generalize f y=fy at *
 simp only at hw hRn
 by_cases hA:e≠0∨p2.time<lo
 ·rw [if_pos hA] at hw
  subst hw
  simp only [Nat.zero_ne_one,bne_self_eq_false,Bool.false_eq_true,if_false,Nat.add_zero,show ((0:Nat) == 2)=false from rfl] at hS1 hM1
  (repeat' (first|((with_reducible refine zG ?_);first|refine zD rfl rfl rfl ?_|(refine zS rfl rfl rfl rfl rfl (fun h=>?_) (fun h=>?_)<;>(dsimp only [cmpP] at h;(try (exfalso;omega))))|refine zn rfl rfl rfl ?_)|(with_reducible first|refine zI ?_|refine zB ?_|refine zE ?_|refine zA ?_|refine zR ?_|refine zQ ?_)|((with_reducible refine zH ?_ ?_);(· exact rfl))))
  (refine z9 [(10,11)] [] [] rfl (by decide) (fun _ h=>h) (by kernel_rfl) [[],[Z],[Y,Y],[Y,Y,Y],[Z,Z,Y,Y],[Z,Z,Z,Y,Y],[Z,Z,Z,Z,Z,Z],[Z,Z,Z,Z,Z,Z,Z],[Z,Z,Z,Z,Z,Z,Z,Z],[Y,Z,Z,Z,Z,Z,Z,Z,Z],[Y,Y,Y,Y,Y,Y,Y,Y,Y,Y],[Z,Y,Z,Z,Z,Z,Z,Z,Z,Z,Z],[Z,Z,Z,Z,Z,Z,Z,Z,Z,Z,Z,Z]] (by kernel_rfl) (by kernel_rfl) (by kernel_rfl) (by kernel_rfl) (by kernel_rfl) ?_)
  (repeat' (first|(((with_reducible refine zA0 ?_ ?_);(· exact rfl);refine ⟨_,fun G=>(by (try simp (decide:=true) only [vis,see,fltT,zq,Nat.reduceAdd,Nat.reduceSub,if_true,if_false,List.set_cons_zero,List.set_cons_succ,List.set_nil,List.nil_append,List.cons_append]);rfl),?_⟩);first|refine zN _ (fun _=>zl rfl rfl) (fun _=>rfl) rfl (by intro G G' h;simp (decide:=true) only [h]) ?_|refine zN _ (fun _=>zW rfl rfl (by exact rfl)) (fun _=>rfl) rfl (by intro G G' h;simp (decide:=true) only [h]) ?_|(refine zm rfl ?_;refine zN _ (fun _=>zY rfl rfl) (fun _=>rfl) rfl (by intro G G' h;simp (decide:=true) only [h]) ?_)|refine zN _ (fun _=>zt rfl rfl) (fun _=>rfl) rfl (by intro G G' h;simp (decide:=true) only [h]) ?_|(refine zAj rfl ?_;refine zN _ (fun _=>zw (I:=i) rfl rfl rfl rfl (by omega)) (fun _=>rfl) rfl (by exact fun _ _ _=>rfl) ?_)|(refine zAM rfl ?_;refine zAR _ rfl (fun _=>rfl) rfl (fun _=>rfl) (fun _=>rfl) (fun _ _ _ q=>hRn _ q.below) (by intro G G' h;simp (decide:=true) only [h]) ?_)|refine zN _ (fun _=>zAL rfl rfl rfl) (fun _=>rfl) rfl (by intro G G' h;simp (decide:=true) only [h]) ?_|refine zA1 rfl (fun _=>rfl) rfl ?_)|(refine zAo (gx:=fun G=>(G 10).g) (cs:=fun _=>[.int .i64 0,.int .i64 0]) (cs':=fun _=>[.int .i64 lo,.int .i64 hi']) 10 (by decide) rfl rfl (fun _=>rfl) rfl (fun _=>rfl) (fun _=>rfl) (fun _=>rfl) (fun _=>rfl) (fun _=>rfl) (fun _=>rfl) (fun _=>rfl) (by intro G G' h;simp (decide:=true) only [h]) (by exact fun _ _ _=>rfl) ?_)|(with_reducible refine zAx ?_)))
  intro G
  simp only [regsT,Nat.reduceAdd,List.nil_append,List.cons_append]
  generalize hg:(G 10).g=bk
  refine zBF (H':=[.blk bk [.int .i64 lo,.int .i64 hi'],.blk b (zg ⟨l,nas,NA,nc,gns,GA,gc,total,gap,down,every,seats,pace,ats,some ⟨bA,oA,none⟩,ac,p1,p2,p3⟩)]) (fun _ h=>by first|exact h|exact hg ▸ h) ?_
  simp only [zg]
  (repeat' (first|(with_reducible first|refine zI ?_|refine zA ?_)))
  (refine zAD (by kernel_rfl) (by kernel_rfl) (by kernel_rfl) ?_)
  (repeat' (first|((with_reducible refine zAP ?_);first|refine zM (zl rfl rfl) rfl ?_|refine zM (zW rfl rfl (by exact rfl)) rfl ?_|refine zM (zY rfl rfl) rfl ?_|refine zM (zAh rfl rfl rfl) rfl ?_|refine zAJ rfl rfl rfl ?_|(refine zAu rfl rfl rfl rfl rfl (fun h=>?_) (fun h=>?_)<;>(dsimp only [cmpP] at h;(try (exfalso;omega))))|refine zM (zBh (I:=1) rfl rfl rfl rfl (by decide)) rfl ?_|refine zM (zBW rfl rfl rfl (IntWalk.i64_in _ (by omega))) rfl ?_)|(with_reducible refine zAe ?_)))
  all_goals (repeat' (first|((with_reducible refine zG ?_);first|refine zD rfl rfl rfl ?_|refine zC rfl rfl rfl ?_|refine zu rfl rfl rfl rfl (by omega) ?_)|(with_reducible first|refine zB ?_|refine zE ?_|refine zA ?_|refine zz ?_|refine zZ ?_|refine ze ?_)|((with_reducible refine zH ?_ ?_);(· exact rfl))))
  all_goals exact zd (ι:=Nat) (i+1) (by omega) (by omega) (by simp only [hS1,hM1];(repeat first|exact lK1|refine zT rfl ?_)) (by (repeat constructor))
 rw [if_neg hA] at hw
 by_cases hC:cl=2∧hi'≤p2.time
 ·rw [if_pos hC] at hw
  subst hw
  simp only [show ((2:Nat) == 2)=true from rfl,show ((2:Nat) != 0)=true from rfl,if_true] at hS1 hM1
  replace hS1:((S (i+1):Nat):Int)=(S i:Int)+1:=by omega
  replace hM1:((M (i+1):Nat):Int)=(M i:Int)+1:=by omega
  (repeat' (first|((with_reducible refine zG ?_);first|refine zD rfl rfl rfl ?_|(refine zS rfl rfl rfl rfl rfl (fun h=>?_) (fun h=>?_)<;>(dsimp only [cmpP] at h;(try (exfalso;omega))))|refine zn rfl rfl rfl ?_)|(with_reducible first|refine zI ?_|refine zB ?_|refine zE ?_|refine zA ?_|refine zR ?_|refine zQ ?_)|((with_reducible refine zH ?_ ?_);(· exact rfl))))
  (refine z9 [(10,11)] [] [] rfl (by decide) (fun _ h=>h) (by kernel_rfl) [[],[Z],[Y,Y],[Y,Y,Y],[Z,Z,Y,Y],[Z,Z,Z,Y,Y],[Z,Z,Z,Z,Z,Z],[Z,Z,Z,Z,Z,Z,Z],[Z,Z,Z,Z,Z,Z,Z,Z],[Y,Z,Z,Z,Z,Z,Z,Z,Z],[Y,Y,Y,Y,Y,Y,Y,Y,Y,Y],[Z,Y,Z,Z,Z,Z,Z,Z,Z,Z,Z],[Z,Z,Z,Z,Z,Z,Z,Z,Z,Z,Z,Z]] (by kernel_rfl) (by kernel_rfl) (by kernel_rfl) (by kernel_rfl) (by kernel_rfl) ?_)
  (repeat' (first|(((with_reducible refine zA0 ?_ ?_);(· exact rfl);refine ⟨_,fun G=>(by (try simp (decide:=true) only [vis,see,fltT,zq,Nat.reduceAdd,Nat.reduceSub,if_true,if_false,List.set_cons_zero,List.set_cons_succ,List.set_nil,List.nil_append,List.cons_append]);rfl),?_⟩);first|refine zN _ (fun _=>zl rfl rfl) (fun _=>rfl) rfl (by intro G G' h;simp (decide:=true) only [h]) ?_|refine zN _ (fun _=>zW rfl rfl (by exact rfl)) (fun _=>rfl) rfl (by intro G G' h;simp (decide:=true) only [h]) ?_|(refine zm rfl ?_;refine zN _ (fun _=>zY rfl rfl) (fun _=>rfl) rfl (by intro G G' h;simp (decide:=true) only [h]) ?_)|refine zN _ (fun _=>zt rfl rfl) (fun _=>rfl) rfl (by intro G G' h;simp (decide:=true) only [h]) ?_|(refine zAj rfl ?_;refine zN _ (fun _=>zw (I:=i) rfl rfl rfl rfl (by omega)) (fun _=>rfl) rfl (by exact fun _ _ _=>rfl) ?_)|(refine zAM rfl ?_;refine zAR _ rfl (fun _=>rfl) rfl (fun _=>rfl) (fun _=>rfl) (fun _ _ _ q=>hRn _ q.below) (by intro G G' h;simp (decide:=true) only [h]) ?_)|refine zN _ (fun _=>zAL rfl rfl rfl) (fun _=>rfl) rfl (by intro G G' h;simp (decide:=true) only [h]) ?_|refine zA1 rfl (fun _=>rfl) rfl ?_)|(refine zAo (gx:=fun G=>(G 10).g) (cs:=fun _=>[.int .i64 0,.int .i64 0]) (cs':=fun _=>[.int .i64 lo,.int .i64 hi']) 10 (by decide) rfl rfl (fun _=>rfl) rfl (fun _=>rfl) (fun _=>rfl) (fun _=>rfl) (fun _=>rfl) (fun _=>rfl) (fun _=>rfl) (fun _=>rfl) (by intro G G' h;simp (decide:=true) only [h]) (by exact fun _ _ _=>rfl) ?_)|(with_reducible refine zAx ?_)))
  intro G
  simp only [regsT,Nat.reduceAdd,List.nil_append,List.cons_append]
  generalize hg:(G 10).g=bk
  refine zBF (H':=[.blk bk [.int .i64 lo,.int .i64 hi'],.blk b (zg ⟨l,nas,NA,nc,gns,GA,gc,total,gap,down,every,seats,pace,ats,some ⟨bA,oA,none⟩,ac,p1,p2,p3⟩)]) (fun _ h=>by first|exact h|exact hg ▸ h) ?_
  simp only [zg]
  (repeat' (first|(with_reducible first|refine zI ?_|refine zA ?_)))
  (refine zAD (by kernel_rfl) (by kernel_rfl) (by kernel_rfl) ?_)
  (repeat' (first|((with_reducible refine zAP ?_);first|refine zM (zl rfl rfl) rfl ?_|refine zM (zW rfl rfl (by exact rfl)) rfl ?_|refine zM (zY rfl rfl) rfl ?_|refine zM (zAh rfl rfl rfl) rfl ?_|(refine zAu rfl rfl rfl rfl rfl (fun h=>?_) (fun h=>?_)<;>(dsimp only [cmpP] at h;(try (exfalso;omega))))|refine zM (zBh (I:=1) rfl rfl rfl rfl (by decide)) rfl ?_|refine zM (zBW rfl rfl rfl (IntWalk.i64_in _ (by omega))) rfl ?_)|(with_reducible refine zAe ?_)))
  all_goals (repeat' (first|((with_reducible refine zG ?_);first|refine zD rfl rfl rfl ?_|refine zC rfl rfl rfl ?_|refine zu rfl rfl rfl rfl (by omega) ?_)|(with_reducible first|refine zI ?_|refine zB ?_|refine zE ?_|refine zA ?_|refine zR ?_)|((with_reducible refine zF ?_ ?_);(· exact rfl))))
  (refine z9 [] [] [] rfl (show ([]:List Nat).Nodup by decide) (fun _ h=>h) (by kernel_rfl) [[],[Z],[Y,Y],[Y,Y,Y],[Z,Z,Y,Y],[Z,Z,Z,Y,Y],[Z,Z,Z,Z,Z,Z],[Z,Z,Z,Z,Z,Z,Z],[Z,Z,Z,Z,Z,Z,Z,Z],[Y,Z,Z,Z,Z,Z,Z,Z,Z],[Y,Z,Z,Z,Z,Z,Z,Z,Z,Z],[Z,Z,Z,Z,Z,Z,Z,Z,Z,Z,Z]] (by kernel_rfl) (by kernel_rfl) (by kernel_rfl) (by kernel_rfl) (by kernel_rfl) ?_)
  (repeat' (first|(((with_reducible refine zA0 ?_ ?_);(· exact rfl);refine ⟨_,fun G=>(by (try simp (decide:=true) only [vis,see,fltT,zq,Nat.reduceAdd,Nat.reduceSub,if_true,if_false,List.set_cons_zero,List.set_cons_succ,List.set_nil,List.nil_append,List.cons_append]);rfl),?_⟩);first|refine zN _ (fun _=>zl rfl rfl) (fun _=>rfl) rfl (by intro G G' h;simp (decide:=true) only [h]) ?_|refine zN _ (fun _=>zW rfl rfl (by exact rfl)) (fun _=>rfl) rfl (by intro G G' h;simp (decide:=true) only [h]) ?_|(refine zm rfl ?_;refine zN _ (fun _=>zY rfl rfl) (fun _=>rfl) rfl (by intro G G' h;simp (decide:=true) only [h]) ?_)|refine zN _ (fun _=>zt rfl rfl) (fun _=>rfl) rfl (by intro G G' h;simp (decide:=true) only [h]) ?_|(refine zAj rfl ?_;refine zN _ (fun _=>zw (I:=i) rfl rfl rfl rfl (by omega)) (fun _=>rfl) rfl (by exact fun _ _ _=>rfl) ?_)|(refine zAM rfl ?_;refine zAR _ rfl (fun _=>rfl) rfl (fun _=>rfl) (fun _=>rfl) (fun _ _ _ q=>hCl _ q.below) (by intro G G' h;simp (decide:=true) only [h]) ?_)|refine zN _ (fun _=>zAL rfl rfl rfl) (fun _=>rfl) rfl (by intro G G' h;simp (decide:=true) only [h]) ?_)|(with_reducible refine zAx ?_)))
  (intro G;simp only [regsT,zq,zAa,ini,List.nil_append,List.cons_append])
  (repeat' (first|(with_reducible first|refine zI ?_|refine zA ?_)))
  (refine zAD (by kernel_rfl) (by kernel_rfl) (by kernel_rfl) ?_)
  (repeat' (first|((with_reducible refine zAP ?_);first|refine zM (zl rfl rfl) rfl ?_|refine zM (zW rfl rfl (by exact rfl)) rfl ?_|refine zM (zY rfl rfl) rfl ?_|refine zM (zAh rfl rfl rfl) rfl ?_|(refine zAu rfl rfl rfl rfl rfl (fun h=>?_) (fun h=>?_)<;>(dsimp only [cmpP] at h;(try (exfalso;omega))))|refine zM (zBh (I:=1) rfl rfl rfl rfl (by decide)) rfl ?_|refine zM (zBW rfl rfl rfl (IntWalk.i64_in _ (by omega))) rfl ?_)|(with_reducible refine zAe ?_)))
  all_goals (repeat' (first|((with_reducible refine zG ?_);first|refine zD rfl rfl rfl ?_|refine zC rfl rfl rfl ?_|refine zu rfl rfl rfl rfl (by omega) ?_)|(with_reducible first|refine zB ?_|refine zE ?_|refine zA ?_|refine zj ?_)|((with_reducible refine zH ?_ ?_);(· exact rfl))))
  all_goals exact zd (ι:=Nat) (i+1) (by omega) (by omega) (by simp only [hS1,hM1];(repeat first|exact lK1|refine zT rfl ?_)) (by (repeat constructor))
 ·rw [if_neg hC] at hw
  subst hw
  simp only [show ((1:Nat) == 2)=false from rfl,show ((1:Nat) != 0)=true from rfl,if_true,Bool.false_eq_true,if_false,Nat.add_zero] at hS1 hM1
  replace hM1:((M (i+1):Nat):Int)=(M i:Int)+1:=by omega
  (repeat' (first|((with_reducible refine zG ?_);first|refine zD rfl rfl rfl ?_|(refine zS rfl rfl rfl rfl rfl (fun h=>?_) (fun h=>?_)<;>(dsimp only [cmpP] at h;(try (exfalso;omega))))|refine zn rfl rfl rfl ?_)|(with_reducible first|refine zI ?_|refine zB ?_|refine zE ?_|refine zA ?_|refine zR ?_|refine zQ ?_)|((with_reducible refine zH ?_ ?_);(· exact rfl))))
  (refine z9 [(10,11)] [] [] rfl (by decide) (fun _ h=>h) (by kernel_rfl) [[],[Z],[Y,Y],[Y,Y,Y],[Z,Z,Y,Y],[Z,Z,Z,Y,Y],[Z,Z,Z,Z,Z,Z],[Z,Z,Z,Z,Z,Z,Z],[Z,Z,Z,Z,Z,Z,Z,Z],[Y,Z,Z,Z,Z,Z,Z,Z,Z],[Y,Y,Y,Y,Y,Y,Y,Y,Y,Y],[Z,Y,Z,Z,Z,Z,Z,Z,Z,Z,Z],[Z,Z,Z,Z,Z,Z,Z,Z,Z,Z,Z,Z]] (by kernel_rfl) (by kernel_rfl) (by kernel_rfl) (by kernel_rfl) (by kernel_rfl) ?_)
  (repeat' (first|(((with_reducible refine zA0 ?_ ?_);(· exact rfl);refine ⟨_,fun G=>(by (try simp (decide:=true) only [vis,see,fltT,zq,Nat.reduceAdd,Nat.reduceSub,if_true,if_false,List.set_cons_zero,List.set_cons_succ,List.set_nil,List.nil_append,List.cons_append]);rfl),?_⟩);first|refine zN _ (fun _=>zl rfl rfl) (fun _=>rfl) rfl (by intro G G' h;simp (decide:=true) only [h]) ?_|refine zN _ (fun _=>zW rfl rfl (by exact rfl)) (fun _=>rfl) rfl (by intro G G' h;simp (decide:=true) only [h]) ?_|(refine zm rfl ?_;refine zN _ (fun _=>zY rfl rfl) (fun _=>rfl) rfl (by intro G G' h;simp (decide:=true) only [h]) ?_)|refine zN _ (fun _=>zt rfl rfl) (fun _=>rfl) rfl (by intro G G' h;simp (decide:=true) only [h]) ?_|(refine zAj rfl ?_;refine zN _ (fun _=>zw (I:=i) rfl rfl rfl rfl (by omega)) (fun _=>rfl) rfl (by exact fun _ _ _=>rfl) ?_)|(refine zAM rfl ?_;refine zAR _ rfl (fun _=>rfl) rfl (fun _=>rfl) (fun _=>rfl) (fun _ _ _ q=>hRn _ q.below) (by intro G G' h;simp (decide:=true) only [h]) ?_)|refine zN _ (fun _=>zAL rfl rfl rfl) (fun _=>rfl) rfl (by intro G G' h;simp (decide:=true) only [h]) ?_|refine zA1 rfl (fun _=>rfl) rfl ?_)|(refine zAo (gx:=fun G=>(G 10).g) (cs:=fun _=>[.int .i64 0,.int .i64 0]) (cs':=fun _=>[.int .i64 lo,.int .i64 hi']) 10 (by decide) rfl rfl (fun _=>rfl) rfl (fun _=>rfl) (fun _=>rfl) (fun _=>rfl) (fun _=>rfl) (fun _=>rfl) (fun _=>rfl) (fun _=>rfl) (by intro G G' h;simp (decide:=true) only [h]) (by exact fun _ _ _=>rfl) ?_)|(with_reducible refine zAx ?_)))
  intro G
  simp only [regsT,Nat.reduceAdd,List.nil_append,List.cons_append]
  generalize hg:(G 10).g=bk
  refine zBF (H':=[.blk bk [.int .i64 lo,.int .i64 hi'],.blk b (zg ⟨l,nas,NA,nc,gns,GA,gc,total,gap,down,every,seats,pace,ats,some ⟨bA,oA,none⟩,ac,p1,p2,p3⟩)]) (fun _ h=>by first|exact h|exact hg ▸ h) ?_
  simp only [zg]
  (repeat' (first|(with_reducible first|refine zI ?_|refine zA ?_)))
  (refine zAD (by kernel_rfl) (by kernel_rfl) (by kernel_rfl) ?_)
  (repeat' (first|((with_reducible refine zAP ?_);first|refine zM (zl rfl rfl) rfl ?_|refine zM (zW rfl rfl (by exact rfl)) rfl ?_|refine zM (zY rfl rfl) rfl ?_|refine zM (zAh rfl rfl rfl) rfl ?_|(refine zAu rfl rfl rfl rfl rfl (fun h=>?_) (fun h=>?_)<;>(dsimp only [cmpP] at h;(try (exfalso;omega))))|refine zM (zBh (I:=1) rfl rfl rfl rfl (by decide)) rfl ?_|refine zM (zBW rfl rfl rfl (IntWalk.i64_in _ (by omega))) rfl ?_)|(with_reducible refine zAe ?_)))
  all_goals (repeat' (first|((with_reducible refine zG ?_);first|refine zD rfl rfl rfl ?_|refine zC rfl rfl rfl ?_|refine zu rfl rfl rfl rfl (by omega) ?_)|(with_reducible first|refine zI ?_|refine zB ?_|refine zE ?_|refine zA ?_|refine zR ?_)|((with_reducible refine zF ?_ ?_);(· exact rfl))))
  (refine z9 [] [] [] rfl (show ([]:List Nat).Nodup by decide) (fun _ h=>h) (by kernel_rfl) [[],[Z],[Y,Y],[Y,Y,Y],[Z,Z,Y,Y],[Z,Z,Z,Y,Y],[Z,Z,Z,Z,Z,Z],[Z,Z,Z,Z,Z,Z,Z],[Z,Z,Z,Z,Z,Z,Z,Z],[Y,Z,Z,Z,Z,Z,Z,Z,Z],[Y,Z,Z,Z,Z,Z,Z,Z,Z,Z],[Z,Z,Z,Z,Z,Z,Z,Z,Z,Z,Z]] (by kernel_rfl) (by kernel_rfl) (by kernel_rfl) (by kernel_rfl) (by kernel_rfl) ?_)
  (repeat' (first|(((with_reducible refine zA0 ?_ ?_);(· exact rfl);refine ⟨_,fun G=>(by (try simp (decide:=true) only [vis,see,fltT,zq,Nat.reduceAdd,Nat.reduceSub,if_true,if_false,List.set_cons_zero,List.set_cons_succ,List.set_nil,List.nil_append,List.cons_append]);rfl),?_⟩);first|refine zN _ (fun _=>zl rfl rfl) (fun _=>rfl) rfl (by intro G G' h;simp (decide:=true) only [h]) ?_|refine zN _ (fun _=>zW rfl rfl (by exact rfl)) (fun _=>rfl) rfl (by intro G G' h;simp (decide:=true) only [h]) ?_|(refine zm rfl ?_;refine zN _ (fun _=>zY rfl rfl) (fun _=>rfl) rfl (by intro G G' h;simp (decide:=true) only [h]) ?_)|refine zN _ (fun _=>zt rfl rfl) (fun _=>rfl) rfl (by intro G G' h;simp (decide:=true) only [h]) ?_|(refine zAj rfl ?_;refine zN _ (fun _=>zw (I:=i) rfl rfl rfl rfl (by omega)) (fun _=>rfl) rfl (by exact fun _ _ _=>rfl) ?_)|(refine zAM rfl ?_;refine zAR _ rfl (fun _=>rfl) rfl (fun _=>rfl) (fun _=>rfl) (fun _ _ _ q=>hCl _ q.below) (by intro G G' h;simp (decide:=true) only [h]) ?_)|refine zN _ (fun _=>zAL rfl rfl rfl) (fun _=>rfl) rfl (by intro G G' h;simp (decide:=true) only [h]) ?_)|(with_reducible refine zAx ?_)))
  (intro G;simp only [regsT,zq,zAa,ini,List.nil_append,List.cons_append])
  (repeat' (first|(with_reducible first|refine zI ?_|refine zA ?_)))
  (refine zAD (by kernel_rfl) (by kernel_rfl) (by kernel_rfl) ?_)
  (repeat' (first|((with_reducible refine zAP ?_);first|refine zM (zl rfl rfl) rfl ?_|refine zM (zW rfl rfl (by exact rfl)) rfl ?_|refine zM (zY rfl rfl) rfl ?_|refine zM (zAh rfl rfl rfl) rfl ?_|refine zAJ rfl rfl rfl ?_|(refine zAu rfl rfl rfl rfl rfl (fun h=>?_) (fun h=>?_)<;>(dsimp only [cmpP] at h;(try (exfalso;omega))))|refine zM (zBh (I:=1) rfl rfl rfl rfl (by decide)) rfl ?_|refine zM (zBW rfl rfl rfl (IntWalk.i64_in _ (by omega))) rfl ?_)|(with_reducible refine zAe ?_)))
  all_goals (repeat' (first|((with_reducible refine zG ?_);first|refine zD rfl rfl rfl ?_|refine zC rfl rfl rfl ?_|refine zu rfl rfl rfl rfl (by omega) ?_)|(with_reducible first|refine zB ?_|refine zE ?_|refine zA ?_|refine zR ?_|refine zj ?_)|((with_reducible refine zF ?_ ?_);(· exact rfl))))
  all_goals exact zd (ι:=Nat) (i+1) (by omega) (by omega) (by simp only [hS1,hM1];(repeat first|exact lK1|refine zT rfl ?_)) (by (repeat constructor))
set_option maxHeartbeats 4000000 in
theorem zJL (t:TrM) (a:Nat) (x:AtM) (w:World) (h:zCj w t) (hs:zBR t) (hF:TnF t) (hx:t.ats[a]?=some x):Gv Tryz.prog 16 [vTn t,.int .i64 (a:Int),.int .i64 3] w (.tuple #[.int .i64 (zBw t x 2).1,.int .i64 (zBw t x 2).2]):=by
 obtain ⟨l,nas,NA,nc,gns,GA,gc,total,gap,down,every,seats,pace,ats,AA,ac,p1,p2,p3⟩:=t
 obtain ⟨h1,h2,h3,h4,h5,h6⟩:=h
 obtain ⟨k1,k2,k3,k4,k5,k6⟩:=hs
 have hxm:=List.mem_of_getElem? hx
 have hAt:=(hF.at_ a x hx).2.2.2.2
 simp only at h1 h2 h3 h4 h5 h6 k1 k2 k3 k4 k5 k6 hx hAt hxm
 have e0:zBw (⟨l,nas,NA,nc,gns,GA,gc,total,gap,down,every,seats,pace,ats,AA,ac,p1,p2,p3⟩:TrM) x 2=(((zED (fun y=>zCI l y.r p3.time == 2) x.rides x.rides.length:Nat):Int),((zED (fun y=>zCI l y.r p3.time != 0) x.rides x.rides.length:Nat):Int)):=by
  rw [zE9,zE9];rfl
 rw [e0]
 clear e0
 have hlt:=(List.getElem?_eq_some_iff.1 hx).1
 have:zAT ats a x:=⟨hx⟩
 obtain ⟨bA,oA,hAe,hAl,hAc⟩:=h4.at_ hlt
 subst hAe
 have:InS w bA oA zB1 4 ats:=⟨h4⟩
 have h5x:=h5 x hxm
 have k5x:=k5 x hxm
 have h6x:=h6 x hxm
 have k6x:=k6 x hxm
 obtain ⟨id,na,ag,RA,rides,rc⟩:=x
 simp only at h5x k5x h6x k6x hAt ⊢
 have hwt:=fun (i:Nat) y (hy:rides[i]?=some y)=>zD0 (hAt i y hy) p3.time
 obtain ⟨f,hf⟩:∃ f:RdM→Nat,f=fun y=>zCI l y.r p3.time:=⟨_,rfl⟩
 have hfy:=fun y=>congrFun hf y
 (try simp only at hfy)
 simp only [← hfy] at hwt ⊢
 clear hfy hf
 have hSs:=fun (i:Nat) y (hy:rides[i]?=some y)=>zEC (p:=fun y=>f y == 2) hy
 have hMs:=fun (i:Nat) y (hy:rides[i]?=some y)=>zEC (p:=fun y=>f y != 0) hy
 have hSl:=fun i=>zGF (p:=fun y=>f y == 2) (rs:=rides) (i:=i)
 have hMl:=fun i=>zGF (p:=fun y=>f y != 0) (rs:=rides) (i:=i)
 have hS0:=zEB (p:=fun y=>f y == 2) (rs:=rides)
 have hM0:=zEB (p:=fun y=>f y != 0) (rs:=rides)
 (try simp only at hSs hMs)
 generalize zED (fun y=>f y == 2) rides=S at *
 generalize zED (fun y=>f y != 0) rides=M at *
 unfold Gv vTn zg
 simp only
 (refine zK (n:=80) Tryz.func16 rfl rfl rfl ?_)
 (repeat' (first|((with_reducible refine zG ?_);first|refine zD rfl rfl rfl ?_|refine zC rfl rfl rfl ?_|(refine zJ rfl rfl rfl ?_;refine ⟨_,rfl,?_⟩)|refine zL rfl rfl rfl ?_|refine zo (I:=a) rfl rfl rfl rfl rfl (by omega) ?_|(refine zp rfl rfl rfl rfl (fun b=>?_)))|(with_reducible first|refine zI ?_|refine zB ?_|refine zE ?_|refine zA ?_|refine zQ ?_)))
 refine zAB (ι:=Nat) [2,3,10] rfl (fun i=>i≤rides.length) (fun i=>[(11,.int .i64 (i:Int)),(8,.int .i64 (S i:Int)),(9,.int .i64 (M i:Int))]) (fun _=>[.blk b (zg ⟨l,nas,NA,nc,gns,GA,gc,total,gap,down,every,seats,pace,ats,some ⟨bA,oA,none⟩,ac,p1,p2,p3⟩)]) (fun i=>rides.length - i) 0 (Nat.zero_le _) (by (try rw [hS0,hM0]);(repeat first|exact lK1|refine zT rfl ?_)) (by (try unfold zg);(repeat constructor)) ?_
 rintro i hi
 simp only [zAk,zg,List.cons_append,List.nil_append]
 by_cases hil:i<rides.length
 rotate_left
 ·obtain rfl:i=rides.length:=by omega
  (repeat' (first|((with_reducible refine zG ?_);first|refine zD rfl rfl rfl ?_|refine zC rfl rfl rfl ?_|(refine zS rfl rfl rfl rfl rfl (fun h=>?_) (fun h=>?_)<;>(dsimp only [cmpP] at h;(try (exfalso;omega))))|refine zn rfl rfl rfl ?_)|(with_reducible first|refine zI ?_|refine zB ?_|refine zE ?_|refine zA ?_|refine zV ?_|refine zz ?_|refine zZ ?_|refine ze ?_)|((with_reducible refine zF ?_ ?_);(· exact rfl))))
  exact zP (by (exact zh.cons (by exact zAO.tmp rfl) (zh.cons (by exact zAO.tmp rfl) zh.nil))) () trivial rfl (fun _ h=>h.sub (by (repeat constructor)))
 obtain ⟨y,hy⟩:∃ y,rides[i]?=some y:=⟨_,List.getElem?_eq_getElem hil⟩
 have:zAT rides i y:=⟨hy⟩
 obtain ⟨bR,oR,hRe,hRl,hRc⟩:=h5x.at_ hil
 subst hRe
 have:InS w bR oR zAN 3 rides:=⟨h5x⟩
 have hym:=List.mem_of_getElem? hy
 have hRn:=fun W (hW:Below w.heap.size w W)=>zG9 l y W (h1.below hW) k1 ((h6x y hym).below hW) (by have:=k6x y hym;omega)
 have hCl:=fun W (hW:Below w.heap.size w W)=>zFN l y W (h1.below hW) k1 ((h6x y hym).below hW) (by have:=k6x y hym;omega)
 have hw:=hwt i y hy
 have hS1:=hSs i y hy
 have hM1:=hMs i y hy
 have hSi:=hSl i
 have hMi:=hMl i
 rw [hAt i y hy] at hCl
 unfold vLn vRd vSp at hRn
 unfold vLn vRd at hCl
 generalize zDR l y.r=rn at *
 obtain ⟨⟨lo,hi'⟩,e⟩:=rn
 generalize zBt l y.r=cl at *
 generalize f y=fy at *
 simp only at hw hRn
 by_cases hA:e≠0∨p3.time<lo
 ·rw [if_pos hA] at hw
  subst hw
  simp only [Nat.zero_ne_one,bne_self_eq_false,Bool.false_eq_true,if_false,Nat.add_zero,show ((0:Nat) == 2)=false from rfl] at hS1 hM1
  (repeat' (first|((with_reducible refine zG ?_);first|refine zD rfl rfl rfl ?_|(refine zS rfl rfl rfl rfl rfl (fun h=>?_) (fun h=>?_)<;>(dsimp only [cmpP] at h;(try (exfalso;omega))))|refine zn rfl rfl rfl ?_)|(with_reducible first|refine zI ?_|refine zB ?_|refine zE ?_|refine zA ?_|refine zR ?_|refine zQ ?_)|((with_reducible refine zH ?_ ?_);(· exact rfl))))
  (refine z9 [(10,11)] [] [] rfl (by decide) (fun _ h=>h) (by kernel_rfl) [[],[Z],[Y,Y],[Y,Y,Y],[Z,Z,Y,Y],[Z,Z,Z,Y,Y],[Z,Z,Z,Z,Z,Z],[Z,Z,Z,Z,Z,Z,Z],[Z,Z,Z,Z,Z,Z,Z,Z],[Y,Z,Z,Z,Z,Z,Z,Z,Z],[Y,Y,Y,Y,Y,Y,Y,Y,Y,Y],[Z,Y,Z,Z,Z,Z,Z,Z,Z,Z,Z],[Z,Z,Z,Z,Z,Z,Z,Z,Z,Z,Z,Z]] (by kernel_rfl) (by kernel_rfl) (by kernel_rfl) (by kernel_rfl) (by kernel_rfl) ?_)
  (repeat' (first|(((with_reducible refine zA0 ?_ ?_);(· exact rfl);refine ⟨_,fun G=>(by (try simp (decide:=true) only [vis,see,fltT,zq,Nat.reduceAdd,Nat.reduceSub,if_true,if_false,List.set_cons_zero,List.set_cons_succ,List.set_nil,List.nil_append,List.cons_append]);rfl),?_⟩);first|refine zN _ (fun _=>zl rfl rfl) (fun _=>rfl) rfl (by intro G G' h;simp (decide:=true) only [h]) ?_|refine zN _ (fun _=>zW rfl rfl (by exact rfl)) (fun _=>rfl) rfl (by intro G G' h;simp (decide:=true) only [h]) ?_|(refine zm rfl ?_;refine zN _ (fun _=>zY rfl rfl) (fun _=>rfl) rfl (by intro G G' h;simp (decide:=true) only [h]) ?_)|refine zN _ (fun _=>zt rfl rfl) (fun _=>rfl) rfl (by intro G G' h;simp (decide:=true) only [h]) ?_|(refine zAj rfl ?_;refine zN _ (fun _=>zw (I:=i) rfl rfl rfl rfl (by omega)) (fun _=>rfl) rfl (by exact fun _ _ _=>rfl) ?_)|(refine zAM rfl ?_;refine zAR _ rfl (fun _=>rfl) rfl (fun _=>rfl) (fun _=>rfl) (fun _ _ _ q=>hRn _ q.below) (by intro G G' h;simp (decide:=true) only [h]) ?_)|refine zN _ (fun _=>zAL rfl rfl rfl) (fun _=>rfl) rfl (by intro G G' h;simp (decide:=true) only [h]) ?_|refine zA1 rfl (fun _=>rfl) rfl ?_)|(refine zAo (gx:=fun G=>(G 10).g) (cs:=fun _=>[.int .i64 0,.int .i64 0]) (cs':=fun _=>[.int .i64 lo,.int .i64 hi']) 10 (by decide) rfl rfl (fun _=>rfl) rfl (fun _=>rfl) (fun _=>rfl) (fun _=>rfl) (fun _=>rfl) (fun _=>rfl) (fun _=>rfl) (fun _=>rfl) (by intro G G' h;simp (decide:=true) only [h]) (by exact fun _ _ _=>rfl) ?_)|(with_reducible refine zAx ?_)))
  intro G
  simp only [regsT,Nat.reduceAdd,List.nil_append,List.cons_append]
  generalize hg:(G 10).g=bk
  refine zBF (H':=[.blk bk [.int .i64 lo,.int .i64 hi'],.blk b (zg ⟨l,nas,NA,nc,gns,GA,gc,total,gap,down,every,seats,pace,ats,some ⟨bA,oA,none⟩,ac,p1,p2,p3⟩)]) (fun _ h=>by first|exact h|exact hg ▸ h) ?_
  simp only [zg]
  (repeat' (first|(with_reducible first|refine zI ?_|refine zA ?_)))
  (refine zAD (by kernel_rfl) (by kernel_rfl) (by kernel_rfl) ?_)
  (repeat' (first|((with_reducible refine zAP ?_);first|refine zM (zl rfl rfl) rfl ?_|refine zM (zW rfl rfl (by exact rfl)) rfl ?_|refine zM (zY rfl rfl) rfl ?_|refine zM (zAh rfl rfl rfl) rfl ?_|refine zAJ rfl rfl rfl ?_|(refine zAu rfl rfl rfl rfl rfl (fun h=>?_) (fun h=>?_)<;>(dsimp only [cmpP] at h;(try (exfalso;omega))))|refine zM (zBh (I:=2) rfl rfl rfl rfl (by decide)) rfl ?_|refine zM (zBW rfl rfl rfl (IntWalk.i64_in _ (by omega))) rfl ?_)|(with_reducible refine zAe ?_)))
  all_goals (repeat' (first|((with_reducible refine zG ?_);first|refine zD rfl rfl rfl ?_|refine zC rfl rfl rfl ?_|refine zu rfl rfl rfl rfl (by omega) ?_)|(with_reducible first|refine zB ?_|refine zE ?_|refine zA ?_|refine zz ?_|refine zZ ?_|refine ze ?_)|((with_reducible refine zH ?_ ?_);(· exact rfl))))
  all_goals exact zd (ι:=Nat) (i+1) (by omega) (by omega) (by simp only [hS1,hM1];(repeat first|exact lK1|refine zT rfl ?_)) (by (repeat constructor))
 rw [if_neg hA] at hw
 by_cases hC:cl=2∧hi'≤p3.time
 ·rw [if_pos hC] at hw
  subst hw
  simp only [show ((2:Nat) == 2)=true from rfl,show ((2:Nat) != 0)=true from rfl,if_true] at hS1 hM1
  replace hS1:((S (i+1):Nat):Int)=(S i:Int)+1:=by omega
  replace hM1:((M (i+1):Nat):Int)=(M i:Int)+1:=by omega
  (repeat' (first|((with_reducible refine zG ?_);first|refine zD rfl rfl rfl ?_|(refine zS rfl rfl rfl rfl rfl (fun h=>?_) (fun h=>?_)<;>(dsimp only [cmpP] at h;(try (exfalso;omega))))|refine zn rfl rfl rfl ?_)|(with_reducible first|refine zI ?_|refine zB ?_|refine zE ?_|refine zA ?_|refine zR ?_|refine zQ ?_)|((with_reducible refine zH ?_ ?_);(· exact rfl))))
  (refine z9 [(10,11)] [] [] rfl (by decide) (fun _ h=>h) (by kernel_rfl) [[],[Z],[Y,Y],[Y,Y,Y],[Z,Z,Y,Y],[Z,Z,Z,Y,Y],[Z,Z,Z,Z,Z,Z],[Z,Z,Z,Z,Z,Z,Z],[Z,Z,Z,Z,Z,Z,Z,Z],[Y,Z,Z,Z,Z,Z,Z,Z,Z],[Y,Y,Y,Y,Y,Y,Y,Y,Y,Y],[Z,Y,Z,Z,Z,Z,Z,Z,Z,Z,Z],[Z,Z,Z,Z,Z,Z,Z,Z,Z,Z,Z,Z]] (by kernel_rfl) (by kernel_rfl) (by kernel_rfl) (by kernel_rfl) (by kernel_rfl) ?_)
  (repeat' (first|(((with_reducible refine zA0 ?_ ?_);(· exact rfl);refine ⟨_,fun G=>(by (try simp (decide:=true) only [vis,see,fltT,zq,Nat.reduceAdd,Nat.reduceSub,if_true,if_false,List.set_cons_zero,List.set_cons_succ,List.set_nil,List.nil_append,List.cons_append]);rfl),?_⟩);first|refine zN _ (fun _=>zl rfl rfl) (fun _=>rfl) rfl (by intro G G' h;simp (decide:=true) only [h]) ?_|refine zN _ (fun _=>zW rfl rfl (by exact rfl)) (fun _=>rfl) rfl (by intro G G' h;simp (decide:=true) only [h]) ?_|(refine zm rfl ?_;refine zN _ (fun _=>zY rfl rfl) (fun _=>rfl) rfl (by intro G G' h;simp (decide:=true) only [h]) ?_)|refine zN _ (fun _=>zt rfl rfl) (fun _=>rfl) rfl (by intro G G' h;simp (decide:=true) only [h]) ?_|(refine zAj rfl ?_;refine zN _ (fun _=>zw (I:=i) rfl rfl rfl rfl (by omega)) (fun _=>rfl) rfl (by exact fun _ _ _=>rfl) ?_)|(refine zAM rfl ?_;refine zAR _ rfl (fun _=>rfl) rfl (fun _=>rfl) (fun _=>rfl) (fun _ _ _ q=>hRn _ q.below) (by intro G G' h;simp (decide:=true) only [h]) ?_)|refine zN _ (fun _=>zAL rfl rfl rfl) (fun _=>rfl) rfl (by intro G G' h;simp (decide:=true) only [h]) ?_|refine zA1 rfl (fun _=>rfl) rfl ?_)|(refine zAo (gx:=fun G=>(G 10).g) (cs:=fun _=>[.int .i64 0,.int .i64 0]) (cs':=fun _=>[.int .i64 lo,.int .i64 hi']) 10 (by decide) rfl rfl (fun _=>rfl) rfl (fun _=>rfl) (fun _=>rfl) (fun _=>rfl) (fun _=>rfl) (fun _=>rfl) (fun _=>rfl) (fun _=>rfl) (by intro G G' h;simp (decide:=true) only [h]) (by exact fun _ _ _=>rfl) ?_)|(with_reducible refine zAx ?_)))
  intro G
  simp only [regsT,Nat.reduceAdd,List.nil_append,List.cons_append]
  generalize hg:(G 10).g=bk
  refine zBF (H':=[.blk bk [.int .i64 lo,.int .i64 hi'],.blk b (zg ⟨l,nas,NA,nc,gns,GA,gc,total,gap,down,every,seats,pace,ats,some ⟨bA,oA,none⟩,ac,p1,p2,p3⟩)]) (fun _ h=>by first|exact h|exact hg ▸ h) ?_
  simp only [zg]
  (repeat' (first|(with_reducible first|refine zI ?_|refine zA ?_)))
  (refine zAD (by kernel_rfl) (by kernel_rfl) (by kernel_rfl) ?_)
  (repeat' (first|((with_reducible refine zAP ?_);first|refine zM (zl rfl rfl) rfl ?_|refine zM (zW rfl rfl (by exact rfl)) rfl ?_|refine zM (zY rfl rfl) rfl ?_|refine zM (zAh rfl rfl rfl) rfl ?_|(refine zAu rfl rfl rfl rfl rfl (fun h=>?_) (fun h=>?_)<;>(dsimp only [cmpP] at h;(try (exfalso;omega))))|refine zM (zBh (I:=2) rfl rfl rfl rfl (by decide)) rfl ?_|refine zM (zBW rfl rfl rfl (IntWalk.i64_in _ (by omega))) rfl ?_)|(with_reducible refine zAe ?_)))
  all_goals (repeat' (first|((with_reducible refine zG ?_);first|refine zD rfl rfl rfl ?_|refine zC rfl rfl rfl ?_|refine zu rfl rfl rfl rfl (by omega) ?_)|(with_reducible first|refine zI ?_|refine zB ?_|refine zE ?_|refine zA ?_|refine zR ?_)|((with_reducible refine zF ?_ ?_);(· exact rfl))))
  (refine z9 [] [] [] rfl (show ([]:List Nat).Nodup by decide) (fun _ h=>h) (by kernel_rfl) [[],[Z],[Y,Y],[Y,Y,Y],[Z,Z,Y,Y],[Z,Z,Z,Y,Y],[Z,Z,Z,Z,Z,Z],[Z,Z,Z,Z,Z,Z,Z],[Z,Z,Z,Z,Z,Z,Z,Z],[Y,Z,Z,Z,Z,Z,Z,Z,Z],[Y,Z,Z,Z,Z,Z,Z,Z,Z,Z],[Z,Z,Z,Z,Z,Z,Z,Z,Z,Z,Z]] (by kernel_rfl) (by kernel_rfl) (by kernel_rfl) (by kernel_rfl) (by kernel_rfl) ?_)
  (repeat' (first|(((with_reducible refine zA0 ?_ ?_);(· exact rfl);refine ⟨_,fun G=>(by (try simp (decide:=true) only [vis,see,fltT,zq,Nat.reduceAdd,Nat.reduceSub,if_true,if_false,List.set_cons_zero,List.set_cons_succ,List.set_nil,List.nil_append,List.cons_append]);rfl),?_⟩);first|refine zN _ (fun _=>zl rfl rfl) (fun _=>rfl) rfl (by intro G G' h;simp (decide:=true) only [h]) ?_|refine zN _ (fun _=>zW rfl rfl (by exact rfl)) (fun _=>rfl) rfl (by intro G G' h;simp (decide:=true) only [h]) ?_|(refine zm rfl ?_;refine zN _ (fun _=>zY rfl rfl) (fun _=>rfl) rfl (by intro G G' h;simp (decide:=true) only [h]) ?_)|refine zN _ (fun _=>zt rfl rfl) (fun _=>rfl) rfl (by intro G G' h;simp (decide:=true) only [h]) ?_|(refine zAj rfl ?_;refine zN _ (fun _=>zw (I:=i) rfl rfl rfl rfl (by omega)) (fun _=>rfl) rfl (by exact fun _ _ _=>rfl) ?_)|(refine zAM rfl ?_;refine zAR _ rfl (fun _=>rfl) rfl (fun _=>rfl) (fun _=>rfl) (fun _ _ _ q=>hCl _ q.below) (by intro G G' h;simp (decide:=true) only [h]) ?_)|refine zN _ (fun _=>zAL rfl rfl rfl) (fun _=>rfl) rfl (by intro G G' h;simp (decide:=true) only [h]) ?_)|(with_reducible refine zAx ?_)))
  (intro G;simp only [regsT,zq,zAa,ini,List.nil_append,List.cons_append])
  (repeat' (first|(with_reducible first|refine zI ?_|refine zA ?_)))
  (refine zAD (by kernel_rfl) (by kernel_rfl) (by kernel_rfl) ?_)
  (repeat' (first|((with_reducible refine zAP ?_);first|refine zM (zl rfl rfl) rfl ?_|refine zM (zW rfl rfl (by exact rfl)) rfl ?_|refine zM (zY rfl rfl) rfl ?_|refine zM (zAh rfl rfl rfl) rfl ?_|(refine zAu rfl rfl rfl rfl rfl (fun h=>?_) (fun h=>?_)<;>(dsimp only [cmpP] at h;(try (exfalso;omega))))|refine zM (zBh (I:=2) rfl rfl rfl rfl (by decide)) rfl ?_|refine zM (zBW rfl rfl rfl (IntWalk.i64_in _ (by omega))) rfl ?_)|(with_reducible refine zAe ?_)))
  all_goals (repeat' (first|((with_reducible refine zG ?_);first|refine zD rfl rfl rfl ?_|refine zC rfl rfl rfl ?_|refine zu rfl rfl rfl rfl (by omega) ?_)|(with_reducible first|refine zB ?_|refine zE ?_|refine zA ?_|refine zj ?_)|((with_reducible refine zH ?_ ?_);(· exact rfl))))
  all_goals exact zd (ι:=Nat) (i+1) (by omega) (by omega) (by simp only [hS1,hM1];(repeat first|exact lK1|refine zT rfl ?_)) (by (repeat constructor))
 ·rw [if_neg hC] at hw
  subst hw
  simp only [show ((1:Nat) == 2)=false from rfl,show ((1:Nat) != 0)=true from rfl,if_true,Bool.false_eq_true,if_false,Nat.add_zero] at hS1 hM1
  replace hM1:((M (i+1):Nat):Int)=(M i:Int)+1:=by omega
  (repeat' (first|((with_reducible refine zG ?_);first|refine zD rfl rfl rfl ?_|(refine zS rfl rfl rfl rfl rfl (fun h=>?_) (fun h=>?_)<;>(dsimp only [cmpP] at h;(try (exfalso;omega))))|refine zn rfl rfl rfl ?_)|(with_reducible first|refine zI ?_|refine zB ?_|refine zE ?_|refine zA ?_|refine zR ?_|refine zQ ?_)|((with_reducible refine zH ?_ ?_);(· exact rfl))))
  (refine z9 [(10,11)] [] [] rfl (by decide) (fun _ h=>h) (by kernel_rfl) [[],[Z],[Y,Y],[Y,Y,Y],[Z,Z,Y,Y],[Z,Z,Z,Y,Y],[Z,Z,Z,Z,Z,Z],[Z,Z,Z,Z,Z,Z,Z],[Z,Z,Z,Z,Z,Z,Z,Z],[Y,Z,Z,Z,Z,Z,Z,Z,Z],[Y,Y,Y,Y,Y,Y,Y,Y,Y,Y],[Z,Y,Z,Z,Z,Z,Z,Z,Z,Z,Z],[Z,Z,Z,Z,Z,Z,Z,Z,Z,Z,Z,Z]] (by kernel_rfl) (by kernel_rfl) (by kernel_rfl) (by kernel_rfl) (by kernel_rfl) ?_)
  (repeat' (first|(((with_reducible refine zA0 ?_ ?_);(· exact rfl);refine ⟨_,fun G=>(by (try simp (decide:=true) only [vis,see,fltT,zq,Nat.reduceAdd,Nat.reduceSub,if_true,if_false,List.set_cons_zero,List.set_cons_succ,List.set_nil,List.nil_append,List.cons_append]);rfl),?_⟩);first|refine zN _ (fun _=>zl rfl rfl) (fun _=>rfl) rfl (by intro G G' h;simp (decide:=true) only [h]) ?_|refine zN _ (fun _=>zW rfl rfl (by exact rfl)) (fun _=>rfl) rfl (by intro G G' h;simp (decide:=true) only [h]) ?_|(refine zm rfl ?_;refine zN _ (fun _=>zY rfl rfl) (fun _=>rfl) rfl (by intro G G' h;simp (decide:=true) only [h]) ?_)|refine zN _ (fun _=>zt rfl rfl) (fun _=>rfl) rfl (by intro G G' h;simp (decide:=true) only [h]) ?_|(refine zAj rfl ?_;refine zN _ (fun _=>zw (I:=i) rfl rfl rfl rfl (by omega)) (fun _=>rfl) rfl (by exact fun _ _ _=>rfl) ?_)|(refine zAM rfl ?_;refine zAR _ rfl (fun _=>rfl) rfl (fun _=>rfl) (fun _=>rfl) (fun _ _ _ q=>hRn _ q.below) (by intro G G' h;simp (decide:=true) only [h]) ?_)|refine zN _ (fun _=>zAL rfl rfl rfl) (fun _=>rfl) rfl (by intro G G' h;simp (decide:=true) only [h]) ?_|refine zA1 rfl (fun _=>rfl) rfl ?_)|(refine zAo (gx:=fun G=>(G 10).g) (cs:=fun _=>[.int .i64 0,.int .i64 0]) (cs':=fun _=>[.int .i64 lo,.int .i64 hi']) 10 (by decide) rfl rfl (fun _=>rfl) rfl (fun _=>rfl) (fun _=>rfl) (fun _=>rfl) (fun _=>rfl) (fun _=>rfl) (fun _=>rfl) (fun _=>rfl) (by intro G G' h;simp (decide:=true) only [h]) (by exact fun _ _ _=>rfl) ?_)|(with_reducible refine zAx ?_)))
  intro G
  simp only [regsT,Nat.reduceAdd,List.nil_append,List.cons_append]
  generalize hg:(G 10).g=bk
  refine zBF (H':=[.blk bk [.int .i64 lo,.int .i64 hi'],.blk b (zg ⟨l,nas,NA,nc,gns,GA,gc,total,gap,down,every,seats,pace,ats,some ⟨bA,oA,none⟩,ac,p1,p2,p3⟩)]) (fun _ h=>by first|exact h|exact hg ▸ h) ?_
  simp only [zg]
  (repeat' (first|(with_reducible first|refine zI ?_|refine zA ?_)))
  (refine zAD (by kernel_rfl) (by kernel_rfl) (by kernel_rfl) ?_)
  (repeat' (first|((with_reducible refine zAP ?_);first|refine zM (zl rfl rfl) rfl ?_|refine zM (zW rfl rfl (by exact rfl)) rfl ?_|refine zM (zY rfl rfl) rfl ?_|refine zM (zAh rfl rfl rfl) rfl ?_|(refine zAu rfl rfl rfl rfl rfl (fun h=>?_) (fun h=>?_)<;>(dsimp only [cmpP] at h;(try (exfalso;omega))))|refine zM (zBh (I:=2) rfl rfl rfl rfl (by decide)) rfl ?_|refine zM (zBW rfl rfl rfl (IntWalk.i64_in _ (by omega))) rfl ?_)|(with_reducible refine zAe ?_)))
  all_goals (repeat' (first|((with_reducible refine zG ?_);first|refine zD rfl rfl rfl ?_|refine zC rfl rfl rfl ?_|refine zu rfl rfl rfl rfl (by omega) ?_)|(with_reducible first|refine zI ?_|refine zB ?_|refine zE ?_|refine zA ?_|refine zR ?_)|((with_reducible refine zF ?_ ?_);(· exact rfl))))
  (refine z9 [] [] [] rfl (show ([]:List Nat).Nodup by decide) (fun _ h=>h) (by kernel_rfl) [[],[Z],[Y,Y],[Y,Y,Y],[Z,Z,Y,Y],[Z,Z,Z,Y,Y],[Z,Z,Z,Z,Z,Z],[Z,Z,Z,Z,Z,Z,Z],[Z,Z,Z,Z,Z,Z,Z,Z],[Y,Z,Z,Z,Z,Z,Z,Z,Z],[Y,Z,Z,Z,Z,Z,Z,Z,Z,Z],[Z,Z,Z,Z,Z,Z,Z,Z,Z,Z,Z]] (by kernel_rfl) (by kernel_rfl) (by kernel_rfl) (by kernel_rfl) (by kernel_rfl) ?_)
  (repeat' (first|(((with_reducible refine zA0 ?_ ?_);(· exact rfl);refine ⟨_,fun G=>(by (try simp (decide:=true) only [vis,see,fltT,zq,Nat.reduceAdd,Nat.reduceSub,if_true,if_false,List.set_cons_zero,List.set_cons_succ,List.set_nil,List.nil_append,List.cons_append]);rfl),?_⟩);first|refine zN _ (fun _=>zl rfl rfl) (fun _=>rfl) rfl (by intro G G' h;simp (decide:=true) only [h]) ?_|refine zN _ (fun _=>zW rfl rfl (by exact rfl)) (fun _=>rfl) rfl (by intro G G' h;simp (decide:=true) only [h]) ?_|(refine zm rfl ?_;refine zN _ (fun _=>zY rfl rfl) (fun _=>rfl) rfl (by intro G G' h;simp (decide:=true) only [h]) ?_)|refine zN _ (fun _=>zt rfl rfl) (fun _=>rfl) rfl (by intro G G' h;simp (decide:=true) only [h]) ?_|(refine zAj rfl ?_;refine zN _ (fun _=>zw (I:=i) rfl rfl rfl rfl (by omega)) (fun _=>rfl) rfl (by exact fun _ _ _=>rfl) ?_)|(refine zAM rfl ?_;refine zAR _ rfl (fun _=>rfl) rfl (fun _=>rfl) (fun _=>rfl) (fun _ _ _ q=>hCl _ q.below) (by intro G G' h;simp (decide:=true) only [h]) ?_)|refine zN _ (fun _=>zAL rfl rfl rfl) (fun _=>rfl) rfl (by intro G G' h;simp (decide:=true) only [h]) ?_)|(with_reducible refine zAx ?_)))
  (intro G;simp only [regsT,zq,zAa,ini,List.nil_append,List.cons_append])
  (repeat' (first|(with_reducible first|refine zI ?_|refine zA ?_)))
  (refine zAD (by kernel_rfl) (by kernel_rfl) (by kernel_rfl) ?_)
  (repeat' (first|((with_reducible refine zAP ?_);first|refine zM (zl rfl rfl) rfl ?_|refine zM (zW rfl rfl (by exact rfl)) rfl ?_|refine zM (zY rfl rfl) rfl ?_|refine zM (zAh rfl rfl rfl) rfl ?_|refine zAJ rfl rfl rfl ?_|(refine zAu rfl rfl rfl rfl rfl (fun h=>?_) (fun h=>?_)<;>(dsimp only [cmpP] at h;(try (exfalso;omega))))|refine zM (zBh (I:=2) rfl rfl rfl rfl (by decide)) rfl ?_|refine zM (zBW rfl rfl rfl (IntWalk.i64_in _ (by omega))) rfl ?_)|(with_reducible refine zAe ?_)))
  all_goals (repeat' (first|((with_reducible refine zG ?_);first|refine zD rfl rfl rfl ?_|refine zC rfl rfl rfl ?_|refine zu rfl rfl rfl rfl (by omega) ?_)|(with_reducible first|refine zB ?_|refine zE ?_|refine zA ?_|refine zR ?_|refine zj ?_)|((with_reducible refine zF ?_ ?_);(· exact rfl))))
  all_goals exact zd (ι:=Nat) (i+1) (by omega) (by omega) (by simp only [hS1,hM1];(repeat first|exact lK1|refine zT rfl ?_)) (by (repeat constructor))
end Go.Proofs.YtfiekidciiighaaGreat.Two
