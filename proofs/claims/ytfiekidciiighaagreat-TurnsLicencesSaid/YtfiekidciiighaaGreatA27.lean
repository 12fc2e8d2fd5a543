/- A27 -/
import Derived.Test.YtfiekidciiighaaGreatA21
import Derived.Test.YtfiekidciiighaaGreatA18
import Derived.Test.YtfiekidciiighaaGreatA19
set_option linter.unusedSimpArgs false
set_option linter.unusedVariables false
namespace Go.Proofs.YtfiekidciiighaaGreat.Two
variable {ro : Option Nat}
open Go.RowKit
set_option maxRecDepth 20000
set_option maxHeartbeats 4000000 in
theorem zHy (l:LnM) (x:RdM) (w:World) (h:zCY w l) (hs:zBA l) (hS:zAC zAw 2 w x.A x.r.sigs) (hn:x.r.sigs.length≤1000) :
  Ret Tryz.prog 37 [vLn l,vRd x] w (fun z:(Option Addr × Nat) × List WyM × List Sli=>.tuple #[.slice z.1.1 z.2.1.length z.1.2,.int .i64 (zAt l x.r)]) (fun z=>[.sl zA3 3 z.1.1 z.2.1,.rows z.2.2])
   (fun z=>zBS (krd l x.r) z.2.1 (zI7 l x.r)∧∀ y∈z.2.1,∀ s∈[y.R,y.F,y.L],s∈z.2.2∨s=⟨none,[],0⟩):=by
 have hC:=fun W (hW:Below w.heap.size w W)=>zGS l W (h.below hW) hs
 have hR:=fun W (hW:Below w.heap.size w W)=>zLp l x W hs (hS.below hW) hn
 by_cases h0:zCd l=0
 rotate_left
 ·rw [zGC h0,zGx (by rw [zGC h0];exact h0)]
  generalize zCd l=e at *
  unfold vRd vLn
  unfold vLn at hC
  (refine zK (n:=27) Tryz.func37 rfl rfl rfl ?_)
  (repeat' (first|((with_reducible refine zG ?_);first|refine zD rfl rfl rfl ?_|refine zC rfl rfl rfl ?_|(refine zJ rfl rfl rfl ?_;refine ⟨_,rfl,?_⟩)|(refine zS rfl rfl rfl rfl rfl (fun h=>?_) (fun h=>?_)<;>(dsimp only [cmpP] at h;(try (exfalso;omega))))|refine zO rfl rfl rfl rfl (fun _ _ q=>hC _ q.below) ?_|(refine zp rfl rfl rfl rfl (fun b=>?_)))|(with_reducible first|refine zI ?_|refine zB ?_|refine zE ?_|refine zA ?_|refine zV ?_|refine zU ?_)|((with_reducible refine zH ?_ ?_);(· exact rfl))))
  exact zP (by (exact zh.cons (by exact zAO.tmp rfl) (zh.cons (by exact zAO.tmp rfl) zh.nil))) ((none,0),[],[]) ⟨.nil,fun y hy=>by cases hy⟩ rfl (fun _ h=>(Own.zCa (zDN h)).sub (by (repeat constructor)))
 rw [h0] at hC
 by_cases h1:zCC l.bms.length x.r=true
 rotate_left
 ·have h1:=Bool.eq_false_iff.2 h1
  rw [zE8 h0 h1,zGx (by rw [zE8 h0 h1];decide)]
  rw [h1] at hR
  unfold vRd vLn
  unfold vLn at hC
  unfold vRd vLn at hR
  (refine zK (n:=27) Tryz.func37 rfl rfl rfl ?_)
  (repeat' (first|((with_reducible refine zG ?_);first|refine zD rfl rfl rfl ?_|refine zC rfl rfl rfl ?_|(refine zJ rfl rfl rfl ?_;refine ⟨_,rfl,?_⟩)|(refine zS rfl rfl rfl rfl rfl (fun h=>?_) (fun h=>?_)<;>(dsimp only [cmpP] at h;(try (exfalso;omega))))|refine zO rfl rfl rfl rfl (fun _ _ q=>hC _ q.below) ?_|refine zO rfl rfl rfl rfl (fun _ _ q=>hR _ q.below) ?_|refine zAI rfl rfl rfl ?_|(refine zp rfl rfl rfl rfl (fun b=>?_)))|(with_reducible first|refine zI ?_|refine zB ?_|refine zE ?_|refine zA ?_|refine zV ?_|refine zR ?_|refine zU ?_)|((with_reducible refine zH ?_ ?_);(· exact rfl))|((with_reducible refine zF ?_ ?_);(· exact rfl))))
  exact zP (by (exact zh.cons (by exact zAO.tmp rfl) (zh.cons (by exact zAO.tmp rfl) zh.nil))) ((none,0),[],[]) ⟨.nil,fun y hy=>by cases hy⟩ rfl (fun _ h=>(Own.zCa (zDN h)).sub (by (repeat constructor)))
 rw [h1] at hR
 have hf:=zDI h0
 obtain ⟨⟨r1,r2,r3⟩,r4⟩:=zBM.1 h1
 rw [zAA] at r1 r2
 have hT:=fun W (hW:Below w.heap.size w W)=>tell_any l x W (h.below hW) hs hf (hS.below hW) h1
 have hWy:=fun W (hW:Below w.heap.size w W) LA TA SA lc tc sc q1 q2 q3=>ways_any l x LA TA SA lc tc sc hs hf h1 l.bms.length [] none none 0 0 W (by simp) (fun o ho=>by cases ho) (h.below hW) (hS.below hW) q1 q2 q3 zAC.nil zAC.nil (by exact Int.le_refl _) (by show x.r.start≤x.r.now;omega)
 simp only [show zCJ (krd l x.r) l.bms.length [] (zA2 (krd l x.r) 0 x.r.start [])=zBb (krd l x.r) from rfl] at hWy
 have hEr:=zIM h0 h1
 unfold vRd vLn
 unfold vLn at hC
 unfold vRd vLn at hR hT hWy
 (refine zK (n:=27) Tryz.func37 rfl rfl rfl ?_)
 (repeat' (first|((with_reducible refine zG ?_);first|refine zD rfl rfl rfl ?_|refine zC rfl rfl rfl ?_|(refine zJ rfl rfl rfl ?_;refine ⟨_,rfl,?_⟩)|(refine zS rfl rfl rfl rfl rfl (fun h=>?_) (fun h=>?_)<;>(dsimp only [cmpP] at h;(try (exfalso;omega))))|refine zO rfl rfl rfl rfl (fun _ _ q=>hC _ q.below) ?_|refine zO rfl rfl rfl rfl (fun _ _ q=>hR _ q.below) ?_|refine zAI rfl rfl rfl ?_|(refine zp rfl rfl rfl rfl (fun b=>?_)))|(with_reducible first|refine zI ?_|refine zB ?_|refine zE ?_|refine zA ?_|refine zR ?_)|((with_reducible refine zF ?_ ?_);(· exact rfl))))
 (refine z9 [] [] [] rfl (show ([]:List Nat).Nodup by decide) (fun _ h=>h) (by kernel_rfl) [[],[Y],[Y,Y],[Y,Y,Y],[Z,Z,Y,Y],[Z,Z,Z,Z,Z],[Z,Z,Z,Z,Z,Z]] (by kernel_rfl) (by kernel_rfl) (by kernel_rfl) (by kernel_rfl) (by kernel_rfl) ?_)
 (repeat' (first|(((with_reducible refine zA0 ?_ ?_);(· exact rfl);refine ⟨_,fun G=>(by (try simp (decide:=true) only [vis,see,fltT,zq,Nat.reduceAdd,Nat.reduceSub,if_true,if_false,List.set_cons_zero,List.set_cons_succ,List.set_nil,List.nil_append,List.cons_append]);rfl),?_⟩);first|refine zN _ (fun _=>zW rfl rfl (by exact rfl)) (fun _=>rfl) rfl (by intro G G' h;simp (decide:=true) only [h]) ?_|refine zN _ (fun _=>zt rfl rfl) (fun _=>rfl) rfl (by intro G G' h;simp (decide:=true) only [h]) ?_|(refine c_retC (α:=(Option Addr × Nat) × (Option Addr × Nat) × (Option Addr × Nat)) rfl (fun _=>rfl) rfl (fun _=>rfl) (fun _=>rfl) (fun _ _ _ q=>hT _ q.below) ?_)|(refine c_retL (α:=(Option Addr × Nat) × List WyM × List Sli) rfl (fun _=>rfl) rfl (fun _=>rfl) (fun _=>rfl) (fun _ _ _ q=>hWy _ q.below _ _ _ _ _ _ (zEi q.own (Below.refl _ _)) (zEi q.own (Below.refl _ _)) (zEi q.own (Below.refl _ _))) (by intro G G' h;rfl) ?_))|(with_reducible refine zAx ?_)))
 (intro G;simp only [regsT,zq,zAa,ini,List.nil_append,List.cons_append])
 refine U.sub (R':=[(7,.slice (deC ((Option Addr × Nat) × List WyM × List Sli) (G 5).g).1.1 (deC ((Option Addr × Nat) × List WyM × List Sli) (G 5).g).2.1.length (deC ((Option Addr × Nat) × List WyM × List Sli) (G 5).g).1.2)]) (H':=[.fact (zBS (krd l x.r) (deC ((Option Addr × Nat) × List WyM × List Sli) (G 5).g).2.1 (zBb (krd l x.r))∧∀ y∈(deC ((Option Addr × Nat) × List WyM × List Sli) (G 5).g).2.1,∀ s∈[y.R,y.F,y.L],s∈(deC ((Option Addr × Nat) × List WyM × List Sli) (G 5).g).2.2∨s=⟨none,[],0⟩∨s=⟨none,[],0⟩),.sl zA3 3 (deC ((Option Addr × Nat) × List WyM × List Sli) (G 5).g).1.1 (deC ((Option Addr × Nat) × List WyM × List Sli) (G 5).g).2.1,.rows (deC ((Option Addr × Nat) × List WyM × List Sli) (G 5).g).2.2]) (by (repeat first|exact lK1|refine zT rfl ?_)) (by (repeat constructor)) ?_
 generalize (deC ((Option Addr × Nat) × List WyM × List Sli) (G 5).g)=Z
 obtain ⟨⟨ZA,zc⟩,ys,own⟩:=Z
 simp only
 refine zK8 (by (repeat constructor)) fun hp=>?_
 obtain ⟨hpW,hpM⟩:=hp
 have hyl:=hpW.len
 by_cases hz:zBb (krd l x.r)=[]
 ·rw [hz] at hyl
  rw [zGx (by rw [hEr,if_pos hz];decide),hEr,if_pos hz]
  simp only [List.length_nil] at hyl
  (repeat' (first|((with_reducible refine zG ?_);first|refine zD rfl rfl rfl ?_|refine zC rfl rfl rfl ?_|(refine zS rfl rfl rfl rfl rfl (fun h=>?_) (fun h=>?_)<;>(dsimp only [cmpP] at h;(try (exfalso;omega))))|refine zn rfl rfl rfl ?_)|(with_reducible first|refine zI ?_|refine zB ?_|refine zE ?_|refine zA ?_|refine zV ?_|refine zU ?_)|((with_reducible refine zH ?_ ?_);(· exact rfl))))
  exact zP (by (exact zh.cons (by exact zAO.tmp rfl) (zh.cons (by exact zAO.tmp rfl) zh.nil))) ((none,0),[],[]) ⟨.nil,fun y hy=>by cases hy⟩ rfl (fun _ h=>(Own.zCa (zDN h)).sub (by (repeat constructor)))
 ·have hz2:0<(zBb (krd l x.r)).length:=List.length_pos_iff.2 hz
  rw [zIY (by rw [hEr,if_neg hz]),hEr,if_neg hz]
  (repeat' (first|((with_reducible refine zG ?_);first|refine zD rfl rfl rfl ?_|refine zC rfl rfl rfl ?_|(refine zS rfl rfl rfl rfl rfl (fun h=>?_) (fun h=>?_)<;>(dsimp only [cmpP] at h;(try (exfalso;omega))))|refine zn rfl rfl rfl ?_)|(with_reducible first|refine zI ?_|refine zB ?_|refine zE ?_|refine zA ?_|refine zV ?_|refine zR ?_)|((with_reducible refine zF ?_ ?_);(· exact rfl))))
  exact zP (by (exact zh.cons (by exact zAO.tmp rfl) (zh.cons (by exact zAO.tmp rfl) zh.nil))) ((ZA,zc),ys,own) ⟨hpW,fun y hy s hs=>by
   rcases hpM y hy s hs with h|h|h
   ·exact .inl h
   ·exact .inr h
   ·exact .inr h⟩ rfl (fun _ h=>h.sub (by (repeat constructor)))
theorem zHt {l:LnM} {r:Rid} (h1:l.bms.length≤10) (h2:r.sigs.length≤10):(zBb (krd l r)).length≤11264:=by
 have h:=zFy l r l.bms.length [] r.start (by simp)
 have h3:=zHS r ([]:List Opn).length
 have h4:2 ^ zDP r ([]:List Opn).length≤2 ^ 10:=Nat.pow_le_pow_right (by decide) (by omega)
 have h5:=Nat.mul_le_mul (show l.bms.length+1≤11 by omega) h4
 exact Nat.le_trans h (by omega)
set_option maxHeartbeats 4000000 in
theorem zFM (l:LnM) (x:RdM) (w:World) (h:zCY w l) (hs:zBA l) (hS:zAC zAw 2 w x.A x.r.sigs) (hn:x.r.sigs.length≤1000):zCe encI 1 (zFg l x.r) (fun v=>.tuple #[v,.int .i64 (zAt l x.r)]) Tryz.prog 39 [vLn l,vRd x] w:=by
 have hb:=hs.b
 have hWy:=fun W (hW:Below w.heap.size w W)=>zHy l x W (h.below hW) hs (hS.below hW) hn
 by_cases h0:zAt l x.r=0
 rotate_left
 ·rw [zJf h0]
  generalize zAt l x.r=e at *
  unfold vRd vLn at hWy
  unfold zCe vRd vLn
  (refine zK (n:=51) Tryz.func39 rfl rfl rfl ?_)
  (repeat' (first|((with_reducible refine zG ?_);first|refine zD rfl rfl rfl ?_|refine zC rfl rfl rfl ?_|(refine zJ rfl rfl rfl ?_;refine ⟨_,rfl,?_⟩)|(refine zS rfl rfl rfl rfl rfl (fun h=>?_) (fun h=>?_)<;>(dsimp only [cmpP] at h;(try (exfalso;omega))))|(refine zBL rfl rfl rfl rfl (fun _ _ q=>hWy _ q.below) ?_;rintro ⟨⟨A1,a1⟩,xs,own⟩ -;dsimp only [List.cons_append,List.nil_append])|refine zk rfl rfl rfl rfl ?_|(refine zp rfl rfl rfl rfl (fun b=>?_)))|(with_reducible first|refine zI ?_|refine zB ?_|refine zE ?_|refine zA ?_|refine zV ?_|refine zU ?_)|((with_reducible refine zH ?_ ?_);(· exact rfl))))
  exact zP (by (exact zh.cons (by exact zAO.tmp rfl) (zh.cons (by exact zAO.tmp rfl) zh.nil))) (none,0) trivial rfl (fun _ h=>(zDN h).sub (by (repeat constructor)))
 have hno:=zKg (l:=l) (r:=x.r)
 rw [zGn h0,← hno]
 rw [zIY h0,h0] at hWy
 rw [h0]
 clear hno
 unfold vRd vLn at hWy
 unfold zCe vRd vLn
 have hns:=fun n=>zGW (os:=zBb (krd l x.r)) (n:=n)
 have hnl:=fun n=>zHL (os:=zBb (krd l x.r)) (n:=n)
 have hn0:zCE (zBb (krd l x.r)) 0=[]:=rfl
 have hol:=zHt (l:=l) (r:=x.r) hb (zBM.1 (zGD.1 h0).2.1).1.2.2
 generalize zBb (krd l x.r)=oss at *
 (refine zK (n:=51) Tryz.func39 rfl rfl rfl ?_)
 (repeat' (first|((with_reducible refine zG ?_);first|refine zD rfl rfl rfl ?_|refine zC rfl rfl rfl ?_|(refine zJ rfl rfl rfl ?_;refine ⟨_,rfl,?_⟩)|(refine zS rfl rfl rfl rfl rfl (fun h=>?_) (fun h=>?_)<;>(dsimp only [cmpP] at h;(try (exfalso;omega))))|(refine zBL rfl rfl rfl rfl (fun _ _ q=>hWy _ q.below) ?_;rintro ⟨⟨A1,a1⟩,xs,own⟩ ⟨hWA,-⟩;dsimp only [List.cons_append,List.nil_append])|refine zk rfl rfl rfl rfl ?_|(refine zp rfl rfl rfl rfl (fun b=>?_)))|(with_reducible first|refine zI ?_|refine zB ?_|refine zE ?_|refine zA ?_|refine zR ?_|refine zQ ?_)|((with_reducible refine zF ?_ ?_);(· exact rfl))))
 simp only at hWA
 have hxl:=hWA.len
 rename_i b2
 obtain ⟨b3,hb3⟩:∃ y,y=b:=⟨_,rfl⟩
 subst hb3
 refine zBa encI 1 3 ?_
 refine zAB (ι:=Nat × Value) [2,3,6] rfl (fun q=>q.1≤l.bms.length+1) (fun q=>[(9,.int .i64 (q.1:Int)),(8,q.2)]) (fun q=>[.row encI 1 3 q.2 (zCE oss q.1),.sl zA3 3 A1 xs,.rows own,.blk b3 (zAN x),.blk b2 (zAH l)]) (fun q=>l.bms.length+1 - q.1) (0,.slice none 0 0) (Nat.zero_le _) (by (repeat first|exact lK1|refine zT rfl ?_)) (by unfold zAN zAH;(repeat constructor)) ?_
 rintro ⟨n,v⟩ hi
 simp only at hi
 simp only [zAk,zAN,zAH,List.cons_append,List.nil_append]
 have hnn:=hnl n
 by_cases hil:n<l.bms.length+1
 ·(repeat' (first|((with_reducible refine zG ?_);first|refine zD rfl rfl rfl ?_|refine zC rfl rfl rfl ?_|(refine zJ rfl rfl rfl ?_;refine ⟨_,rfl,?_⟩)|refine zL rfl rfl rfl ?_|(refine zS rfl rfl rfl rfl rfl (fun h=>?_) (fun h=>?_)<;>(dsimp only [cmpP] at h;(try (exfalso;omega))))|refine zn rfl rfl rfl ?_)|(with_reducible first|refine zI ?_|refine zB ?_|refine zE ?_|refine zA ?_|refine zR ?_|refine zQ ?_)|((with_reducible refine zH ?_ ?_);(· exact rfl))))
  refine zAB (ι:=Nat) [2,3,6,8,9] rfl (fun i=>i≤xs.length) (fun i=>[(11,.int .i64 (i:Int)),(10,.bool ((oss.take i).any fun y=>y.length == n))]) (fun i=>[.row encI 1 3 v (zCE oss n),.sl zA3 3 A1 xs,.rows own,.blk b3 (zAN x),.blk b2 (zAH l)]) (fun i=>xs.length - i) 0 (Nat.zero_le _) (by (repeat first|exact lK1|refine zT rfl ?_)) (by unfold zAN zAH;(repeat constructor)) ?_
  rintro i hi2
  simp only [zAk,zAN,zAH,List.cons_append,List.nil_append]
  by_cases hil2:i<xs.length
  ·obtain ⟨y,hy⟩:∃ x,xs[i]?=some x:=⟨_,List.getElem?_eq_getElem hil2⟩
   obtain ⟨os,hos,h1,h2,h3⟩:=hWA.at_ hy
   have htk:(oss.take (i+1)).any (fun y=>y.length == n)=((oss.take i).any (fun y=>y.length == n) || os.length == n):=by rw [List.take_add_one,hos,List.any_append];simp
   have hRl:y.R.xs.length=os.length:=by rw [h1,List.length_map]
   have:zAT xs i y:=⟨hy⟩
   refine u_slS (enc:=zA3) (A:=A1) (xs:=xs) (by (repeat constructor)) (by omega) ?_
   rintro ba oa rfl
   obtain ⟨⟨RA,rx,rc⟩,⟨FA,fx,fc⟩,⟨LA,lx,lc⟩⟩:=y
   simp only at hRl
   cases his:(oss.take i).any fun y=>y.length == n with
   | true =>
    rw [his,Bool.true_or] at htk
    (repeat' (first|((with_reducible refine zG ?_);first|refine zD rfl rfl rfl ?_|refine zC rfl rfl rfl ?_|refine z7 rfl rfl rfl rfl ?_|refine zf rfl rfl rfl ?_|(refine zS rfl rfl rfl rfl rfl (fun h=>?_) (fun h=>?_)<;>(dsimp only [cmpP] at h;(try (exfalso;omega))))|refine zu rfl rfl rfl rfl (by omega) ?_|refine zn rfl rfl rfl ?_)|(with_reducible first|refine zI ?_|refine zB ?_|refine zE ?_|refine zA ?_|refine zR ?_|refine zQ ?_|refine zj ?_)|((with_reducible refine zH ?_ ?_);(· exact rfl))))
    exact zd (ι:=Nat) (i+1) (by omega) (by omega) (by rw [htk];(repeat first|exact lK1|refine zT rfl ?_)) (by (repeat constructor))
   | false =>
    rw [his,Bool.false_or] at htk
    (repeat' (first|((with_reducible refine zG ?_);first|refine zD rfl rfl rfl ?_|refine zC rfl rfl rfl ?_|(refine zJ rfl rfl rfl ?_;refine ⟨_,rfl,?_⟩)|refine zL rfl rfl rfl ?_|refine z7 rfl rfl rfl rfl ?_|(refine zS rfl rfl rfl rfl rfl (fun h=>?_) (fun h=>?_)<;>(dsimp only [cmpP] at h;(try (exfalso;omega))))|refine zu rfl rfl rfl rfl (by omega) ?_|refine zo rfl rfl rfl rfl rfl (by omega) ?_|refine zn rfl rfl rfl ?_)|(with_reducible first|refine zI ?_|refine zB ?_|refine zE ?_|refine zA ?_|refine zR ?_|refine zQ ?_|refine zj ?_)|((with_reducible refine zH ?_ ?_);(· exact rfl))))
    ·exact zd (ι:=Nat) (i+1) (by omega) (by omega) (by rw [htk,show (os.length == n)=true by simp;omega];(repeat first|exact lK1|refine zT rfl ?_)) (by (repeat constructor))
    ·exact zd (ι:=Nat) (i+1) (by omega) (by omega) (by rw [htk,show (os.length == n)=false by simp;omega];(repeat first|exact lK1|refine zT rfl ?_)) (by (repeat constructor))
  ·obtain rfl:i=xs.length:=by omega
   have hsn:=hns n
   rw [List.take_of_length_le (by omega)]
   cases his:oss.any fun y=>y.length == n with
   | true =>
    rw [his,if_pos rfl] at hsn
    (repeat' (first|((with_reducible refine zG ?_);first|refine zD rfl rfl rfl ?_|refine zC rfl rfl rfl ?_|(refine zS rfl rfl rfl rfl rfl (fun h=>?_) (fun h=>?_)<;>(dsimp only [cmpP] at h;(try (exfalso;omega))))|(refine zB6 (enc:=encI) [_] rfl rfl rfl (by (repeat constructor)) rfl rfl (zAF (by exact rfl)) (by refine ⟨?_,by decide⟩;(try simp only [List.length_append,List.length_cons,List.length_nil]);omega) (fun A' c'=>?_))|refine zu rfl rfl rfl rfl (by omega) ?_|refine zn rfl rfl rfl ?_|(refine zi rfl rfl rfl ?_;refine ⟨rfl,_,rfl,fun b=>?_⟩))|(with_reducible first|refine zI ?_|refine zB ?_|refine zE ?_|refine zA ?_|refine zz ?_|refine zj ?_|refine zZ ?_|refine ze ?_)|((with_reducible refine zH ?_ ?_);(· exact rfl))|((with_reducible refine zF ?_ ?_);(· exact rfl))))
    exact zd (ι:=Nat × Value) (n+1,.slice A' (zCE oss n++[(n:Int)]).length c') (by simp only;omega) (by simp only;omega) (by (repeat first|exact lK1|refine zT rfl ?_)) (by rw [hsn];(repeat constructor))
   | false =>
    rw [his,if_neg (by simp),List.append_nil] at hsn
    (repeat' (first|((with_reducible refine zG ?_);first|refine zD rfl rfl rfl ?_|refine zC rfl rfl rfl ?_|(refine zS rfl rfl rfl rfl rfl (fun h=>?_) (fun h=>?_)<;>(dsimp only [cmpP] at h;(try (exfalso;omega))))|refine zu rfl rfl rfl rfl (by omega) ?_|refine zn rfl rfl rfl ?_)|(with_reducible first|refine zI ?_|refine zB ?_|refine zE ?_|refine zA ?_|refine zR ?_|refine zz ?_|refine zj ?_|refine zZ ?_|refine ze ?_)|((with_reducible refine zF ?_ ?_);(· exact rfl))))
    exact zd (ι:=Nat × Value) (n+1,v) (by simp only;omega) (by simp only;omega) (by (repeat first|exact lK1|refine zT rfl ?_)) (by rw [hsn];(repeat constructor))
 ·obtain rfl:n=l.bms.length+1:=by omega
  (repeat' (first|((with_reducible refine zG ?_);first|refine zD rfl rfl rfl ?_|refine zC rfl rfl rfl ?_|(refine zJ rfl rfl rfl ?_;refine ⟨_,rfl,?_⟩)|refine zL rfl rfl rfl ?_|(refine zS rfl rfl rfl rfl rfl (fun h=>?_) (fun h=>?_)<;>(dsimp only [cmpP] at h;(try (exfalso;omega))))|refine zn rfl rfl rfl ?_)|(with_reducible first|refine zI ?_|refine zB ?_|refine zE ?_|refine zA ?_|refine zV ?_|refine zz ?_|refine zZ ?_|refine ze ?_)|((with_reducible refine zF ?_ ?_);(· exact rfl))))
  refine zBT (xs:=zCE oss (l.bms.length+1)) (enc:=encI) (by (repeat constructor)) ?_
  rintro A9 c9 rfl
  exact zP (by (exact zh.cons (by exact zAO.tmp rfl) (zh.cons (by exact zAO.tmp rfl) zh.nil))) (A9,c9) trivial rfl (fun _ h=>(h.zCN (by (repeat constructor))).sub (by (repeat constructor)))
end Go.Proofs.YtfiekidciiighaaGreat.Two
namespace Go.Proofs.YtfiekidciiighaaGreat.Two
variable {ro : Option Nat}
open Go.RowKit
set_option maxRecDepth 20000
theorem zGu {base:Nat} {w:World} {H H':List Ent} {own:List Sli} {xs:List WyM} (h:Own base w H) (ht:Take H (.rows own) H') (hM:∀ y∈xs,∀ s∈[y.R,y.F,y.L],s∈own∨s=⟨none,[],0⟩):∀ y∈xs,zAC encI 1 w y.F.A y.F.xs∧zAC encI 1 w y.L.A y.L.xs:=fun y hy=>by
 have hr:∀ s∈own,zAC encI 1 w s.A s.xs:=h.here _ ht.mem
 have one:∀ s,s∈own∨s=⟨none,[],0⟩→zAC encI 1 w s.A s.xs:=fun s hs=>by
  rcases hs with hs|rfl
  ·exact hr s hs
  ·exact zAC.nil
 exact ⟨one _ (hM y hy y.F (by simp)),one _ (hM y hy y.L (by simp))⟩
def spS (s:Option (Int × Int)):Sp:=match s with|some p=>⟨p.1,p.2⟩|none=>⟨0,0⟩
set_option maxHeartbeats 2000000 in
theorem zJS (k:RdK) (xs:List WyM) (oss:List (List Opn)) (A:Option Addr) (ca:Nat) (j:Nat) (w:World) (hA:zAC zA3 3 w A xs) (hr:∀ y∈xs,zAC encI 1 w y.F.A y.F.xs∧zAC encI 1 w y.L.A y.L.xs) (hW:zBS k xs oss) (hn:xs.length≤1000000) :
  Gv Tryz.prog 38 [.slice A xs.length ca,.int .i64 (j:Int)] w (.tuple #[vSp (zFe (zDE k j oss)).1,.int .i64 (zFe (zDE k j oss)).2]):=by
 have hl:=hW.len
 unfold Gv vSp
 (refine zK (n:=58) Tryz.func38 rfl rfl rfl ?_)
 (repeat' (first|((with_reducible refine zG ?_);first|refine zC rfl rfl rfl ?_|(refine zb rfl rfl (fun b=>?_)))|(with_reducible first|refine zI ?_|refine zB ?_|refine zE ?_|refine zA ?_|refine zQ ?_)))
 rename_i b4
 obtain ⟨b6,hb6⟩:∃ y,y=b:=⟨_,rfl⟩
 subst hb6
 refine zAB (ι:=Nat) [0,1,4,6] rfl (fun i=>i≤xs.length) (fun i=>[(8,.int .i64 (i:Int)),(7,.bool (zDE k j (oss.take i)).isSome)]) (fun i=>[.blk b6 (zAr (spS (zDE k j (oss.take i)))),.blk b4 [.int .i64 0,.int .i64 0]]) (fun i=>xs.length - i) 0 (Nat.zero_le _) (by (repeat first|exact lK1|refine zT rfl ?_)) (by (repeat constructor)) ?_
 rintro i hi
 simp only [zAk,List.cons_append,List.nil_append]
 by_cases hlt:i<xs.length
 ·obtain ⟨x,hx⟩:∃ x,xs[i]?=some x:=⟨_,List.getElem?_eq_getElem hlt⟩
  obtain ⟨os,hos,h1,h2,h3⟩:=hW.at_ hx
  obtain ⟨f1,f2⟩:=hr x (List.mem_of_getElem? hx)
  have htk:oss.take (i+1)=oss.take i++[os]:=by rw [List.take_add_one,hos];rfl
  have hRl:x.R.xs.length=os.length:=by rw [h1,List.length_map]
  have:zAT xs i x:=⟨hx⟩
  obtain ⟨bA,oA,hAe,hAl,hAc⟩:=hA.at_ hlt
  rw [hAe] at hA
  have:InS w bA oA zA3 3 xs:=⟨hA⟩
  rw [hAe]
  obtain ⟨⟨RA,rx,rc⟩,⟨FA,fx,fc⟩,⟨LA,lx,lc⟩⟩:=x
  simp only at h1 h2 h3 f1 f2 hRl
  by_cases hj:j<os.length
  ·have q1:=zKr (k:=k) hj
   have q2:=zIv (k:=k) hj
   rw [← h2] at q1
   rw [← h3] at q2
   have e1:zDE k j (oss.take (i+1))=addS (zDE k j (oss.take i)) (zAv k os j) (zBe k os j):=by rw [htk,zLh hj]
   generalize zAv k os j=p at *
   generalize zBe k os j=r at *
   have:zAT fx j p:=⟨q1⟩
   have:zAT lx j r:=⟨q2⟩
   have hfl:=(List.getElem?_eq_some_iff.1 q1).1
   have hll:=(List.getElem?_eq_some_iff.1 q2).1
   obtain ⟨bF,oF,hFe,hFl,hFc⟩:=f1.at_ hfl
   obtain ⟨bL,oL,hLe,hLl,hLc⟩:=f2.at_ hll
   subst hFe hLe
   have:InS w bF oF encI 1 fx:=⟨f1⟩
   have:InS w bL oL encI 1 lx:=⟨f2⟩
   cases hsp:zDE k j (oss.take i) with
   | none =>
    rw [hsp] at e1
    (repeat' (first|((with_reducible refine zG ?_);first|refine zD rfl rfl rfl ?_|(refine zJ rfl rfl rfl ?_;refine ⟨_,rfl,?_⟩)|refine zL rfl rfl rfl ?_|(refine zS rfl rfl rfl rfl rfl (fun h=>?_) (fun h=>?_)<;>(dsimp only [cmpP] at h;(try (exfalso;omega))))|refine zo rfl rfl rfl rfl rfl (by omega) ?_|refine zn rfl rfl rfl ?_)|(with_reducible first|refine zI ?_|refine zB ?_|refine zE ?_|refine zA ?_|refine zR ?_|refine zQ ?_)|((with_reducible refine zH ?_ ?_);(· exact rfl))|((with_reducible refine zF ?_ ?_);(· exact rfl))))
    (refine z9 [(17,18)] [] [] rfl (by decide) (fun _ h=>h) (by kernel_rfl) [[],[Y],[Z,Z],[Z,Z,Z],[Z,Z,Z,Z],[Y,Y,Y,Y,Y],[Z,Z,Z,Z,Z,Z],[Z,Z,Z,Z,Z,Z,Z],[Y,Y,Y,Y,Y,Y,Y,Y],[Y,Y,Y,Y,Y,Y,Y,Y,Y],[Z,Z,Y,Y,Y,Y,Y,Y,Y,Y],[Z,Z,Z,Y,Y,Y,Y,Y,Y,Y,Y],[Z,Z,Z,Z,Y,Y,Y,Y,Y,Y,Y,Y],[Y,Y,Y,Y,Y,Y,Y,Y,Y,Y,Y,Y,Y],[Z,Z,Z,Z,Z,Z,Y,Y,Y,Y,Y,Y,Y,Y],[Z,Z,Z,Z,Z,Z,Z,Y,Y,Y,Y,Y,Y,Y,Y],[Z,Z,Z,Z,Z,Z,Z,Z,Z,Z,Z,Z,Z,Z,Z,Z],[Y,Y,Y,Y,Y,Y,Y,Y,Y,Y,Y,Y,Y,Y,Y,Y,Y],[Z,Z,Z,Z,Z,Z,Z,Z,Z,Z,Z,Z,Z,Z,Z,Z,Z,Z]] (by kernel_rfl) (by kernel_rfl) (by kernel_rfl) (by kernel_rfl) (by kernel_rfl) ?_)
    (repeat' (first|(((with_reducible refine zA0 ?_ ?_);(· exact rfl);refine ⟨_,fun G=>(by (try simp (decide:=true) only [vis,see,fltT,zq,Nat.reduceAdd,Nat.reduceSub,if_true,if_false,List.set_cons_zero,List.set_cons_succ,List.set_nil,List.nil_append,List.cons_append]);rfl),?_⟩);first|refine zN _ (fun _=>zl rfl rfl) (fun _=>rfl) rfl (by intro G G' h;simp (decide:=true) only [h]) ?_|refine zN _ (fun _=>zW rfl rfl (by exact rfl)) (fun _=>rfl) rfl (by intro G G' h;simp (decide:=true) only [h]) ?_|(refine zm rfl ?_;refine zN _ (fun _=>zY rfl rfl) (fun _=>rfl) rfl (by intro G G' h;simp (decide:=true) only [h]) ?_)|refine zN _ (fun _=>zw (I:=i) rfl rfl rfl rfl (by omega)) (fun _=>rfl) rfl (by exact fun _ _ _=>rfl) ?_|refine zN _ (fun _=>zw (I:=j) rfl rfl rfl rfl (by omega)) (fun _=>rfl) rfl (by exact fun _ _ _=>rfl) ?_|refine zN _ (fun _=>zDK rfl rfl (by exact rfl)) (fun _=>rfl) rfl (by intro G G' h;simp (decide:=true) only [h]) ?_|refine zA1 rfl (fun _=>rfl) rfl ?_)|(refine zAo (gx:=fun G=>(G 17).g) (cs:=fun _=>[.int .i64 0,.int .i64 0]) (cs':=fun _=>[.int .i64 p,.int .i64 r]) 17 (by decide) rfl rfl (fun _=>rfl) rfl (fun _=>rfl) (fun _=>rfl) (fun _=>rfl) (fun _=>rfl) (fun _=>rfl) (fun _=>rfl) (fun _=>rfl) (by intro G G' h;simp (decide:=true) only [h]) (by exact fun _ _ _=>rfl) ?_)|(with_reducible refine zAx ?_)))
    intro G
    simp only [regsT,List.nil_append,List.cons_append]
    generalize hg:(G (0+1+1+1+1+1+1+1+1+1+1+1+1+1+1+1+1+1)).g=bk
    refine zBF (H':=[.blk bk [.int .i64 p,.int .i64 r],.blk b6 [.int .i64 0,.int .i64 0],.blk b4 [.int .i64 0,.int .i64 0]]) (fun _ h=>hg ▸ h) ?_
    (repeat' (first|((with_reducible refine zG ?_);first|refine zD rfl rfl rfl ?_|refine zC rfl rfl rfl ?_|(refine zJ rfl rfl rfl ?_;refine ⟨_,rfl,?_⟩)|refine zu rfl rfl rfl rfl (by omega) ?_|(refine zX rfl rfl rfl rfl rfl ?_;refine ⟨rfl,by first|decide|exact Nat.le_of_ble_eq_true rfl|(simp;omega),_,rfl,?_⟩))|(with_reducible first|refine zI ?_|refine zB ?_|refine zE ?_|refine zA ?_|refine zR ?_|refine zj ?_)|((with_reducible refine zF ?_ ?_);(· exact rfl))))
    exact zd (ι:=Nat) (i+1) (by omega) (by omega) (by rw [e1];(repeat first|exact lK1|refine zT rfl ?_)) (by rw [e1];(repeat constructor))
   | some s =>
    obtain ⟨s1,s2⟩:=s
    rw [hsp] at e1
    (repeat' (first|((with_reducible refine zG ?_);first|refine zD rfl rfl rfl ?_|(refine zJ rfl rfl rfl ?_;refine ⟨_,rfl,?_⟩)|refine zL rfl rfl rfl ?_|(refine zS rfl rfl rfl rfl rfl (fun h=>?_) (fun h=>?_)<;>(dsimp only [cmpP] at h;(try (exfalso;omega))))|refine zo rfl rfl rfl rfl rfl (by omega) ?_|refine zn rfl rfl rfl ?_)|(with_reducible first|refine zI ?_|refine zB ?_|refine zE ?_|refine zA ?_|refine zR ?_|refine zQ ?_)|((with_reducible refine zH ?_ ?_);(· exact rfl))|((with_reducible refine zF ?_ ?_);(· exact rfl))))
    (refine z9 [(17,18)] [] [] rfl (by decide) (fun _ h=>h) (by kernel_rfl) [[],[Y],[Z,Z],[Z,Z,Z],[Z,Z,Z,Z],[Y,Y,Y,Y,Y],[Z,Z,Z,Z,Z,Z],[Z,Z,Z,Z,Z,Z,Z],[Y,Y,Y,Y,Y,Y,Y,Y],[Y,Y,Y,Y,Y,Y,Y,Y,Y],[Z,Z,Y,Y,Y,Y,Y,Y,Y,Y],[Z,Z,Z,Y,Y,Y,Y,Y,Y,Y,Y],[Z,Z,Z,Z,Y,Y,Y,Y,Y,Y,Y,Y],[Y,Y,Y,Y,Y,Y,Y,Y,Y,Y,Y,Y,Y],[Z,Z,Z,Z,Z,Z,Y,Y,Y,Y,Y,Y,Y,Y],[Z,Z,Z,Z,Z,Z,Z,Y,Y,Y,Y,Y,Y,Y,Y],[Z,Z,Z,Z,Z,Z,Z,Z,Z,Z,Z,Z,Z,Z,Z,Z],[Y,Y,Y,Y,Y,Y,Y,Y,Y,Y,Y,Y,Y,Y,Y,Y,Y],[Z,Z,Z,Z,Z,Z,Z,Z,Z,Z,Z,Z,Z,Z,Z,Z,Z,Z]] (by kernel_rfl) (by kernel_rfl) (by kernel_rfl) (by kernel_rfl) (by kernel_rfl) ?_)
    (repeat' (first|(((with_reducible refine zA0 ?_ ?_);(· exact rfl);refine ⟨_,fun G=>(by (try simp (decide:=true) only [vis,see,fltT,zq,Nat.reduceAdd,Nat.reduceSub,if_true,if_false,List.set_cons_zero,List.set_cons_succ,List.set_nil,List.nil_append,List.cons_append]);rfl),?_⟩);first|refine zN _ (fun _=>zl rfl rfl) (fun _=>rfl) rfl (by intro G G' h;simp (decide:=true) only [h]) ?_|refine zN _ (fun _=>zW rfl rfl (by exact rfl)) (fun _=>rfl) rfl (by intro G G' h;simp (decide:=true) only [h]) ?_|(refine zm rfl ?_;refine zN _ (fun _=>zY rfl rfl) (fun _=>rfl) rfl (by intro G G' h;simp (decide:=true) only [h]) ?_)|refine zN _ (fun _=>zw (I:=i) rfl rfl rfl rfl (by omega)) (fun _=>rfl) rfl (by exact fun _ _ _=>rfl) ?_|refine zN _ (fun _=>zw (I:=j) rfl rfl rfl rfl (by omega)) (fun _=>rfl) rfl (by exact fun _ _ _=>rfl) ?_|refine zN _ (fun _=>zDK rfl rfl (by exact rfl)) (fun _=>rfl) rfl (by intro G G' h;simp (decide:=true) only [h]) ?_|refine zA1 rfl (fun _=>rfl) rfl ?_)|(refine zAo (gx:=fun G=>(G 17).g) (cs:=fun _=>[.int .i64 0,.int .i64 0]) (cs':=fun _=>[.int .i64 p,.int .i64 r]) 17 (by decide) rfl rfl (fun _=>rfl) rfl (fun _=>rfl) (fun _=>rfl) (fun _=>rfl) (fun _=>rfl) (fun _=>rfl) (fun _=>rfl) (fun _=>rfl) (by intro G G' h;simp (decide:=true) only [h]) (by exact fun _ _ _=>rfl) ?_)|(with_reducible refine zAx ?_)))
    intro G
    simp only [regsT,List.nil_append,List.cons_append]
    generalize hg:(G (0+1+1+1+1+1+1+1+1+1+1+1+1+1+1+1+1+1)).g=bk
    refine zBF (H':=[.blk bk [.int .i64 p,.int .i64 r],.blk b6 [.int .i64 s1,.int .i64 s2],.blk b4 [.int .i64 0,.int .i64 0]]) (fun _ h=>hg ▸ h) ?_
    (repeat' (first|((with_reducible refine zG ?_);first|refine zD rfl rfl rfl ?_|refine zC rfl rfl rfl ?_|(refine zJ rfl rfl rfl ?_;refine ⟨_,rfl,?_⟩)|refine zL rfl rfl rfl ?_|refine zu rfl rfl rfl rfl (by omega) ?_|(refine zX rfl rfl rfl rfl rfl ?_;refine ⟨rfl,by first|decide|exact Nat.le_of_ble_eq_true rfl|(simp;omega),_,rfl,?_⟩)|(refine zAZ rfl rfl rfl ?_;refine ⟨_,rfl,?_⟩)|refine zCF rfl rfl rfl rfl ?_|refine zGJ rfl rfl rfl rfl ?_)|(with_reducible first|refine zI ?_|refine zB ?_|refine zE ?_|refine zA ?_|refine zj ?_)|((with_reducible refine zH ?_ ?_);(· exact rfl))))
    exact zd (ι:=Nat) (i+1) (by omega) (by omega) (by rw [e1];(repeat first|exact lK1|refine zT rfl ?_)) (by rw [e1];(repeat constructor))
  ·have e1:zDE k j (oss.take (i+1))=zDE k j (oss.take i):=by rw [htk,spanT_no hj]
   (repeat' (first|((with_reducible refine zG ?_);first|refine zD rfl rfl rfl ?_|refine zC rfl rfl rfl ?_|(refine zJ rfl rfl rfl ?_;refine ⟨_,rfl,?_⟩)|refine zL rfl rfl rfl ?_|(refine zS rfl rfl rfl rfl rfl (fun h=>?_) (fun h=>?_)<;>(dsimp only [cmpP] at h;(try (exfalso;omega))))|refine zu rfl rfl rfl rfl (by omega) ?_|refine zo rfl rfl rfl rfl rfl (by omega) ?_|refine zn rfl rfl rfl ?_)|(with_reducible first|refine zI ?_|refine zB ?_|refine zE ?_|refine zA ?_|refine zR ?_|refine zQ ?_|refine zz ?_|refine zZ ?_|refine ze ?_)|((with_reducible refine zH ?_ ?_);(· exact rfl))))
   exact zd (ι:=Nat) (i+1) (by omega) (by omega) (by rw [e1];(repeat first|exact lK1|refine zT rfl ?_)) (by rw [e1];(repeat constructor))
 ·obtain rfl:i=xs.length:=by omega
  rw [List.take_of_length_le (by omega)]
  cases hsp:zDE k j oss with
  | none =>
   (repeat' (first|((with_reducible refine zG ?_);first|refine zD rfl rfl rfl ?_|refine zC rfl rfl rfl ?_|(refine zS rfl rfl rfl rfl rfl (fun h=>?_) (fun h=>?_)<;>(dsimp only [cmpP] at h;(try (exfalso;omega))))|refine zAI rfl rfl rfl ?_|refine zn rfl rfl rfl ?_|(refine zX rfl rfl rfl rfl rfl ?_;refine ⟨rfl,by first|decide|exact Nat.le_of_ble_eq_true rfl|(simp;omega),_,rfl,?_⟩)|(refine zAZ rfl rfl rfl ?_;refine ⟨_,rfl,?_⟩))|(with_reducible first|refine zI ?_|refine zB ?_|refine zE ?_|refine zA ?_|refine zV ?_|refine zU ?_|refine zz ?_|refine zZ ?_|refine ze ?_)|((with_reducible refine zH ?_ ?_);(· exact rfl))|((with_reducible refine zF ?_ ?_);(· exact rfl))))
   exact zP (by (exact zh.cons (by exact res1c rfl (by exact rfl)) (zh.cons (by exact zAO.tmp rfl) zh.nil))) () trivial rfl (fun _ h=>h.sub (by (repeat constructor)))
  | some s =>
   obtain ⟨s1,s2⟩:=s
   (repeat' (first|((with_reducible refine zG ?_);first|refine zD rfl rfl rfl ?_|refine zC rfl rfl rfl ?_|(refine zJ rfl rfl rfl ?_;refine ⟨_,rfl,?_⟩)|(refine zS rfl rfl rfl rfl rfl (fun h=>?_) (fun h=>?_)<;>(dsimp only [cmpP] at h;(try (exfalso;omega))))|refine zAI rfl rfl rfl ?_|refine zn rfl rfl rfl ?_|(refine zX rfl rfl rfl rfl rfl ?_;refine ⟨rfl,by first|decide|exact Nat.le_of_ble_eq_true rfl|(simp;omega),_,rfl,?_⟩))|(with_reducible first|refine zI ?_|refine zB ?_|refine zE ?_|refine zA ?_|refine zV ?_|refine zR ?_|refine zz ?_|refine zZ ?_|refine ze ?_)|((with_reducible refine zF ?_ ?_);(· exact rfl))))
   exact zP (by (exact zh.cons (by exact res1c rfl (by exact rfl)) (zh.cons (by exact zAO.tmp rfl) zh.nil))) () trivial rfl (fun _ h=>h.sub (by (repeat constructor)))
set_option maxHeartbeats 2000000 in
theorem zG9 (l:LnM) (x:RdM) (w:World) (h:zCY w l) (hs:zBA l) (hS:zAC zAw 2 w x.A x.r.sigs) (hn:x.r.sigs.length≤1000):Gv Tryz.prog 28 [vLn l,vRd x] w (.tuple #[vSp (zDR l x.r).1,.int .i64 (zDR l x.r).2]):=by
 have hb:=hs.b
 have hWy:=fun W (hW:Below w.heap.size w W)=>zHy l x W (h.below hW) hs (hS.below hW) hn
 unfold Gv vSp
 by_cases h0:zAt l x.r=0
 rotate_left
 ·have e:zDR l x.r=(⟨0,0⟩,zAt l x.r):=by unfold zDR;rw [if_neg h0]
  rw [e]
  generalize zAt l x.r=e at *
  unfold vRd vLn at hWy
  unfold vRd vLn
  (refine zK (n:=41) Tryz.func28 rfl rfl rfl ?_)
  (repeat' (first|((with_reducible refine zG ?_);first|refine zD rfl rfl rfl ?_|refine zC rfl rfl rfl ?_|(refine zJ rfl rfl rfl ?_;refine ⟨_,rfl,?_⟩)|(refine zS rfl rfl rfl rfl rfl (fun h=>?_) (fun h=>?_)<;>(dsimp only [cmpP] at h;(try (exfalso;omega))))|(refine zBL rfl rfl rfl rfl (fun _ _ q=>hWy _ q.below) ?_;rintro ⟨⟨A1,a1⟩,xs,own⟩ -;dsimp only [List.cons_append,List.nil_append])|refine zk rfl rfl rfl rfl ?_|(refine zX rfl rfl rfl rfl rfl ?_;refine ⟨rfl,by first|decide|exact Nat.le_of_ble_eq_true rfl|(simp;omega),_,rfl,?_⟩)|(refine zb rfl rfl (fun b=>?_))|(refine zp rfl rfl rfl rfl (fun b=>?_))|(refine zAZ rfl rfl rfl ?_;refine ⟨_,rfl,?_⟩))|(with_reducible first|refine zI ?_|refine zB ?_|refine zE ?_|refine zA ?_|refine zV ?_|refine zU ?_)|((with_reducible refine zH ?_ ?_);(· exact rfl))))
  exact zP (by (exact zh.cons (by exact res1c rfl (by exact rfl)) (zh.cons (by exact zAO.tmp rfl) zh.nil))) () trivial rfl (fun _ h=>h.sub (by (repeat constructor)))
 obtain ⟨q1,q2,q3⟩:=zGD.1 h0
 have hf:=zDI q1
 obtain ⟨⟨r1,r2,r3⟩,r4⟩:=zBM.1 q2
 rw [zAA] at r1 r2
 have hol:=zHt (l:=l) (r:=x.r) hb r3
 obtain ⟨fin,hfin⟩:∃ fin:Nat,l.finish=fin:=⟨l.finish.toNat,by have:=hf.finish;omega⟩
 have e:zDR l x.r=ranV (zCG (krd l x.r) fin) x.r.start:=by unfold zDR;rw [if_pos h0,hfin,Int.toNat_natCast]
 rw [e]
 rw [zIY h0,h0] at hWy
 have hP:=fun W xs A ca q1 q2 q3 q4=>zJS (krd l x.r) xs (zBb (krd l x.r)) A ca fin W q1 q2 q3 q4
 simp only [zLi] at hP
 have hbd:∀ p,zCG (krd l x.r) fin=some p→-100000000000≤p.1∧p.1≤100000000000∧-100000000000≤p.2∧p.2≤100000000000:=fun p hp=>zLA hf (by omega) (by omega) (by omega) hp
 generalize zBb (krd l x.r)=oss at *
 unfold vRd vLn at hWy
 unfold vRd vLn
 unfold vSp at hP
 rw [hfin] at *
 cases hsp:zCG (krd l x.r) fin with
 | none =>
  rw [hsp] at hP
  simp only [zFe] at hP
  (refine zK (n:=41) Tryz.func28 rfl rfl rfl ?_)
  (repeat' (first|((with_reducible refine zG ?_);first|refine zD rfl rfl rfl ?_|refine zC rfl rfl rfl ?_|(refine zJ rfl rfl rfl ?_;refine ⟨_,rfl,?_⟩)|refine zL rfl rfl rfl ?_|(refine zS rfl rfl rfl rfl rfl (fun h=>?_) (fun h=>?_)<;>(dsimp only [cmpP] at h;(try (exfalso;omega))))|(refine zBL rfl rfl rfl rfl (fun _ _ q=>hWy _ q.below) ?_;rintro ⟨⟨A1,a1⟩,xs,own⟩ ⟨hWA,hM⟩;dsimp only [List.cons_append,List.nil_append] at hWA hM ⊢;have hxl:=hWA.len)|refine zO rfl rfl rfl rfl (fun _ _ q=>hP _ xs _ _ (zEi q.own (Below.refl _ _)) (fun y hy=>zGu q.own (by (repeat constructor)) hM y hy) hWA (by omega)) ?_|refine zk rfl rfl rfl rfl ?_|(refine zX rfl rfl rfl rfl rfl ?_;refine ⟨rfl,by first|decide|exact Nat.le_of_ble_eq_true rfl|(simp;omega),_,rfl,?_⟩)|(refine zb rfl rfl (fun b=>?_))|(refine zp rfl rfl rfl rfl (fun b=>?_))|(refine zAZ rfl rfl rfl ?_;refine ⟨_,rfl,?_⟩))|(with_reducible first|refine zI ?_|refine zB ?_|refine zE ?_|refine zA ?_|refine zV ?_|refine zR ?_|refine zU ?_)|((with_reducible refine zH ?_ ?_);(· exact rfl))|((with_reducible refine zF ?_ ?_);(· exact rfl))))
  exact zP (by (exact zh.cons (by exact res1c rfl (by exact rfl)) (zh.cons (by exact zAO.tmp rfl) zh.nil))) () trivial rfl (fun _ h=>h.sub (by (repeat constructor)))
 | some p =>
  rw [hsp] at hP
  have hb9:=hbd p hsp
  obtain ⟨p1,p2⟩:=p
  simp only [zFe] at hP hb9
  (refine zK (n:=41) Tryz.func28 rfl rfl rfl ?_)
  (repeat' (first|((with_reducible refine zG ?_);first|refine zD rfl rfl rfl ?_|refine zC rfl rfl rfl ?_|(refine zJ rfl rfl rfl ?_;refine ⟨_,rfl,?_⟩)|refine zL rfl rfl rfl ?_|(refine zS rfl rfl rfl rfl rfl (fun h=>?_) (fun h=>?_)<;>(dsimp only [cmpP] at h;(try (exfalso;omega))))|(refine zBL rfl rfl rfl rfl (fun _ _ q=>hWy _ q.below) ?_;rintro ⟨⟨A1,a1⟩,xs,own⟩ ⟨hWA,hM⟩;dsimp only [List.cons_append,List.nil_append] at hWA hM ⊢;have hxl:=hWA.len)|refine zO rfl rfl rfl rfl (fun _ _ q=>hP _ xs _ _ (zEi q.own (Below.refl _ _)) (fun y hy=>zGu q.own (by (repeat constructor)) hM y hy) hWA (by omega)) ?_|refine zk rfl rfl rfl rfl ?_|refine zAc rfl rfl rfl rfl (IntWalk.i64_in _ (by omega)) ?_|(refine zX rfl rfl rfl rfl rfl ?_;refine ⟨rfl,by first|decide|exact Nat.le_of_ble_eq_true rfl|(simp;omega),_,rfl,?_⟩)|(refine zb rfl rfl (fun b=>?_))|(refine zp rfl rfl rfl rfl (fun b=>?_))|(refine zAZ rfl rfl rfl ?_;refine ⟨_,rfl,?_⟩))|(with_reducible first|refine zI ?_|refine zB ?_|refine zE ?_|refine zA ?_|refine zV ?_|refine zR ?_)|((with_reducible refine zF ?_ ?_);(· exact rfl))))
  exact zP (by (exact zh.cons (by exact res1c rfl (by exact rfl)) (zh.cons (by exact zAO.tmp rfl) zh.nil))) () trivial rfl (fun _ h=>h.sub (by (repeat constructor)))
set_option maxHeartbeats 2000000 in
theorem zFN (l:LnM) (x:RdM) (w:World) (h:zCY w l) (hs:zBA l) (hS:zAC zAw 2 w x.A x.r.sigs) (hn:x.r.sigs.length≤1000):Gv Tryz.prog 29 [vLn l,vRd x] w (.tuple #[.int .u8 (zBt l x.r),.int .i64 (zAt l x.r)]):=by
 have hb:=hs.b
 have hWh:=fun W (hW:Below w.heap.size w W)=>zFM l x W (h.below hW) hs (hS.below hW) hn
 unfold Gv
 by_cases h0:zAt l x.r=0
 rotate_left
 ·have e:zBt l x.r=0:=by unfold zBt;rw [if_neg h0]
  rw [e]
  generalize zAt l x.r=e at *
  unfold vRd vLn at hWh
  unfold vRd vLn
  (refine zK (n:=35) Tryz.func29 rfl rfl rfl ?_)
  (repeat' (first|((with_reducible refine zG ?_);first|refine zD rfl rfl rfl ?_|refine zC rfl rfl rfl ?_|(refine zJ rfl rfl rfl ?_;refine ⟨_,rfl,?_⟩)|(refine zS rfl rfl rfl rfl rfl (fun h=>?_) (fun h=>?_)<;>(dsimp only [cmpP] at h;(try (exfalso;omega))))|refine zCf rfl rfl rfl rfl (fun _ _ q=>hWh _ q.below) (fun A' c'=>?_)|refine zk rfl rfl rfl rfl ?_|(refine zp rfl rfl rfl rfl (fun b=>?_)))|(with_reducible first|refine zI ?_|refine zB ?_|refine zE ?_|refine zA ?_|refine zV ?_|refine zU ?_|refine zQ ?_|refine zAV ?_)|((with_reducible refine zH ?_ ?_);(· exact rfl))))
  exact zP (by (exact zh.cons (by exact zAO.tmp rfl) (zh.cons (by exact zAO.tmp rfl) zh.nil))) () trivial rfl (fun _ h=>h.sub (by (repeat constructor)))
 obtain ⟨q1,q2,q3⟩:=zGD.1 h0
 have hf:=zDI q1
 obtain ⟨fin,hfin⟩:∃ fin:Nat,l.finish=fin:=⟨l.finish.toNat,by have:=hf.finish;omega⟩
 have hne:=zIr q3
 have e:zBt l x.r=if fin<(zAs (krd l x.r)).head hne then 2 else if (zAs (krd l x.r)).getLast hne≤fin then 0 else 1:=by
  unfold zBt;rw [if_pos h0,hfin,Int.toNat_natCast];exact zGb (zEo _) hne
 rw [e,h0]
 rw [h0,zGn h0] at hWh
 have hlen:(zAs (krd l x.r)).length≤1000:=Nat.le_trans (List.length_filter_le _ _) (by rw [List.length_range];show l.bms.length+1≤1000;omega)
 have hpos:=List.length_pos_iff.2 hne
 have g1:((zAs (krd l x.r)).map fun n:Nat=>(n:Int))[0]?=some (((zAs (krd l x.r)).head hne:Nat):Int):=by
  rw [List.getElem?_map,List.head_eq_getElem,List.getElem?_eq_getElem hpos];rfl
 have g2:((zAs (krd l x.r)).map fun n:Nat=>(n:Int))[(zAs (krd l x.r)).length - 1]?=some (((zAs (krd l x.r)).getLast hne:Nat):Int):=by
  rw [List.getElem?_map,List.getLast_eq_getElem,List.getElem?_eq_getElem (by omega)];rfl
 have hml:((zAs (krd l x.r)).map fun n:Nat=>(n:Int)).length=(zAs (krd l x.r)).length:=List.length_map _
 generalize (zAs (krd l x.r)).head hne=p at *
 generalize (zAs (krd l x.r)).getLast hne=r at *
 generalize (zAs (krd l x.r)).length=N at *
 generalize (zAs (krd l x.r)).map (fun n:Nat=>(n:Int))=L at *
 subst hml
 have:zAT L 0 (p:Int):=⟨g1⟩
 have:zAT L (L.length - 1) (r:Int):=⟨g2⟩
 unfold vRd vLn at hWh
 unfold vRd vLn
 rw [hfin] at *
 (refine zK (n:=35) Tryz.func29 rfl rfl rfl ?_)
 (repeat' (first|((with_reducible refine zG ?_);first|refine zD rfl rfl rfl ?_|refine zC rfl rfl rfl ?_|(refine zJ rfl rfl rfl ?_;refine ⟨_,rfl,?_⟩)|(refine zS rfl rfl rfl rfl rfl (fun h=>?_) (fun h=>?_)<;>(dsimp only [cmpP] at h;(try (exfalso;omega))))|refine zCf rfl rfl rfl rfl (fun _ _ q=>hWh _ q.below) (fun A' c'=>?_)|refine zk rfl rfl rfl rfl ?_|(refine zp rfl rfl rfl rfl (fun b=>?_)))|(with_reducible first|refine zI ?_|refine zB ?_|refine zE ?_|refine zA ?_|refine zQ ?_)|((with_reducible refine zF ?_ ?_);(· exact rfl))))
 refine u_slS (enc:=encI) (A:=A') (xs:=L) (by (repeat constructor)) (by omega) ?_
 rintro ba oa rfl
 (refine zAD (by kernel_rfl) (by kernel_rfl) (by kernel_rfl) ?_)
 (repeat' (first|((with_reducible refine zAP ?_);first|refine zM (zl rfl rfl) rfl ?_|refine zM (zW rfl rfl (by exact rfl)) rfl ?_|refine zM (zY rfl rfl) rfl ?_|refine zM (zt rfl rfl) rfl ?_|(refine zAu rfl rfl rfl rfl rfl (fun h=>?_) (fun h=>?_)<;>(dsimp only [cmpP] at h;(try (exfalso;omega))))|refine zM (zw (I:=0) rfl rfl rfl (by omega) (by first|omega|(dsimp only;omega))) rfl ?_)|(with_reducible refine zAe ?_)))
 all_goals (repeat' (first|((with_reducible refine zG ?_);first|refine zC rfl rfl rfl ?_)|(with_reducible first|refine zI ?_|refine zB ?_|refine zE ?_|refine zA ?_|refine zV ?_|refine zU ?_|refine zAV ?_)|((with_reducible refine zH ?_ ?_);(· exact rfl))|((with_reducible refine zF ?_ ?_);(· exact rfl))))
 ·exact zP (by (exact zh.cons (by exact zAO.tmp rfl) (zh.cons (by exact zAO.tmp rfl) zh.nil))) () trivial (by rw [if_pos (by omega)];rfl) (fun _ h=>h.sub (by (repeat constructor)))
 ·(refine zAD (by kernel_rfl) (by kernel_rfl) (by kernel_rfl) ?_)
  (repeat' (first|((with_reducible refine zAP ?_);first|refine zM (zl rfl rfl) rfl ?_|refine zM (zW rfl rfl (by exact rfl)) rfl ?_|refine zM (zY rfl rfl) rfl ?_|refine zM (zt rfl rfl) rfl ?_|(refine zAu rfl rfl rfl rfl rfl (fun h=>?_) (fun h=>?_)<;>(dsimp only [cmpP] at h;(try (exfalso;omega))))|refine zM (zw (I:=(L.length - 1)) rfl rfl rfl (by omega) (by first|omega|(dsimp only;omega))) rfl ?_|refine zM (zBW rfl rfl rfl (IntWalk.i64_in _ (by omega))) rfl ?_|refine zM (zEu rfl rfl) rfl ?_)|(with_reducible refine zAe ?_)))
  all_goals (repeat' (first|((with_reducible refine zG ?_);first|refine zC rfl rfl rfl ?_)|(with_reducible first|refine zI ?_|refine zB ?_|refine zE ?_|refine zA ?_|refine zV ?_|refine zR ?_|refine zU ?_|refine zj ?_|refine zAV ?_)|((with_reducible refine zH ?_ ?_);(· exact rfl))|((with_reducible refine zF ?_ ?_);(· exact rfl))))
  ·exact zP (by (exact zh.cons (by exact zAO.tmp rfl) (zh.cons (by exact zAO.tmp rfl) zh.nil))) () trivial (by rw [if_neg (by omega),if_pos (by omega)];rfl) (fun _ h=>h.sub (by (repeat constructor)))
  ·exact zP (by (exact zh.cons (by exact zAO.tmp rfl) (zh.cons (by exact zAO.tmp rfl) zh.nil))) () trivial (by rw [if_neg (by omega),if_neg (by omega)];rfl) (fun _ h=>h.sub (by (repeat constructor)))
end Go.Proofs.YtfiekidciiighaaGreat.Two
