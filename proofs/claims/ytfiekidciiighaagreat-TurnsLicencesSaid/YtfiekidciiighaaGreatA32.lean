/- A32 -/
import Derived.Test.YtfiekidciiighaaGreatA31
set_option linter.unusedSimpArgs false
set_option linter.unusedVariables false
namespace Go.Proofs.YtfiekidciiighaaGreat.Two
variable {ro : Option Nat}
open Go.RowKit
set_option maxRecDepth 20000
set_option maxHeartbeats 16000000 in
theorem zKB (t:TrM) (w:World) (h:zCj w t) (hs:zBR t):Gv Tryz.prog 30 [vTn t] w (.int .i64 (zBu t)):=by
 have hC:=fun W (hW:Below w.heap.size w W)=>zHg t.l W (h.l.below hW) hs.l
 by_cases h0:zCd t.l=0
 rotate_left
 ·have e:zBu t=zCd t.l:=by unfold zBu;rw [if_neg h0]
  rw [e]
  generalize zCd t.l=el at *
  unfold Gv
  unfold vTn zg vLn at *
  (refine zK (n:=189) Tryz.func30 rfl rfl rfl ?_)
  (repeat' (first|((with_reducible refine zG ?_);first|refine zD rfl rfl rfl ?_|refine zC rfl rfl rfl ?_|(refine zJ rfl rfl rfl ?_;refine ⟨_,rfl,?_⟩)|refine zL rfl rfl rfl ?_|(refine zS rfl rfl rfl rfl rfl (fun h=>?_) (fun h=>?_)<;>(dsimp only [cmpP] at h;(try (exfalso;omega))))|refine zO rfl rfl rfl rfl (fun _ _ q=>hC _ q.below) ?_|(refine zp rfl rfl rfl rfl (fun b=>?_)))|(with_reducible first|refine zI ?_|refine zB ?_|refine zE ?_|refine zA ?_|refine zV ?_|refine zU ?_)|((with_reducible refine zH ?_ ?_);(· exact rfl))))
  exact zP (by exact rTm rfl) () trivial rfl (fun _ h=>h.sub (by (repeat constructor)))
 have e:zBu t=if tnB t=true then 0 else 80:=by unfold zBu;rw [if_pos h0]
 rw [h0] at hC
 obtain ⟨E,hE⟩:∃ E,E=zBu t:=⟨_,rfl⟩
 rw [← hE] at e ⊢
 clear hE
 obtain ⟨l,nas,NA,nc,gns,GA,gc,total,gap,down,every,seats,pace,ats,AA,ac,p1,p2,p3⟩:=t
 obtain ⟨h1,h2,h3,h4,h5,h6⟩:=h
 obtain ⟨k1,k2,k3,k4,k5,k6⟩:=hs
 have hno:(TnF (⟨l,nas,NA,nc,gns,GA,gc,total,gap,down,every,seats,pace,ats,AA,ac,p1,p2,p3⟩:TrM)→False)→E=80:=fun h=>by rw [e,if_neg (fun h9=>h (zF2.1 h9))]
 have hyes:TnF (⟨l,nas,NA,nc,gns,GA,gc,total,gap,down,every,seats,pace,ats,AA,ac,p1,p2,p3⟩:TrM)→E=0:=fun h=>by rw [e,if_pos (zF2.2 h)]
 clear e h0
 simp only at h1 h2 h3 h4 h5 h6 k1 k2 k3 k4 k5 k6
 unfold vLn at hC
 unfold Gv vTn zg
 simp only at hC ⊢
 (refine zK (n:=189) Tryz.func30 rfl rfl rfl ?_)
 (repeat' (first|((with_reducible refine zG ?_);first|refine zC rfl rfl rfl ?_|(refine zJ rfl rfl rfl ?_;refine ⟨_,rfl,?_⟩)|refine zL rfl rfl rfl ?_|(refine zp rfl rfl rfl rfl (fun b=>?_)))|(with_reducible first|refine zI ?_|refine zB ?_|refine zE ?_|refine zA ?_)))
 obtain ⟨b1,hb1⟩:∃ y,y=b:=⟨_,rfl⟩
 subst hb1
 (repeat' (first|((with_reducible refine zG ?_);first|refine zD rfl rfl rfl ?_|refine zC rfl rfl rfl ?_|(refine zJ rfl rfl rfl ?_;refine ⟨_,rfl,?_⟩)|refine zL rfl rfl rfl ?_|refine z7 rfl rfl rfl rfl ?_|refine zf rfl rfl rfl ?_|(refine zS rfl rfl rfl rfl rfl (fun h=>?_) (fun h=>?_)<;>(dsimp only [cmpP] at h;(try (exfalso;omega))))|refine zO rfl rfl rfl rfl (fun _ _ q=>hC _ q.below) ?_|(refine zAf rfl rfl rfl rfl (fun _ _ q=>uin1 _ _ _ _ _ _ (zAF (enc:=encI) (by exact rfl) _ q.below q.own)) (fun h=>?_) (fun h=>?_)<;>(simp only [zAA,zBO,Bool.and_eq_true,Bool.and_eq_false_iff] at h)<;>(try (exfalso;omega)))|(refine zAf rfl rfl rfl rfl (fun _ _ q=>uin3 _ _ _ _ _ _ _ _ (zDe (enc:=encI) [_,_,_] (by exact rfl) _ q.below q.own)) (fun h=>?_) (fun h=>?_)<;>(simp only [zAA,zBO,Bool.and_eq_true,Bool.and_eq_false_iff] at h)<;>(try (exfalso;omega)))|refine zAI rfl rfl rfl ?_|refine zn rfl rfl rfl ?_|(refine zi rfl rfl rfl ?_;refine ⟨rfl,_,rfl,fun b=>?_⟩))|(with_reducible first|refine zI ?_|refine zB ?_|refine zE ?_|refine zA ?_|refine zV ?_|refine zR ?_|refine zU ?_)|((with_reducible refine zH ?_ ?_);(· exact rfl))|((with_reducible refine zF ?_ ?_);(· exact rfl))))
 all_goals first|(refine zP (by exact rTm rfl) () trivial ?_ (fun _ h=>h.sub (by (repeat constructor)));refine congrArg (Value.int .i64) (hno fun hF=>?_);have h8:=hF.one;simp only [OneF] at h8;omega)|skip
 have hone:OneF (⟨l,nas,NA,nc,gns,GA,gc,total,gap,down,every,seats,pace,ats,AA,ac,p1,p2,p3⟩:TrM):=by unfold OneF;simp only;omega
 cases r1:zCm 0 9999 (nas.map (·.id)) with
 | false =>
  (repeat' (first|((with_reducible refine zG ?_);first|refine zD rfl rfl rfl ?_|refine zC rfl rfl rfl ?_|refine z7 rfl rfl rfl rfl ?_|refine zf rfl rfl rfl ?_|(refine zO rfl rfl rfl rfl (fun _ _ q=>r1 ▸ zE0 nas _ _ _ _ _ (h2.below q.below) (by omega) (by omega) (by omega)) ?_)|refine zAI rfl rfl rfl ?_)|(with_reducible first|refine zI ?_|refine zB ?_|refine zE ?_|refine zA ?_|refine zV ?_|refine zU ?_)|((with_reducible refine zH ?_ ?_);(· exact rfl))))
  refine zP (by exact rTm rfl) () trivial ?_ (fun _ h=>h.sub (by (repeat constructor)))
  exact congrArg (Value.int .i64) (hno fun hF=>by have:=zCv.2 (fun i x hx=>(hF.na i x hx).1);rw [r1] at this;cases this)
 | true =>
 cases r2:zCm 0 ((nas.length:Int) - 1) (gns.map (·.nation)) with
 | false =>
  (repeat' (first|((with_reducible refine zG ?_);first|refine zD rfl rfl rfl ?_|refine zC rfl rfl rfl ?_|(refine zJ rfl rfl rfl ?_;refine ⟨_,rfl,?_⟩)|refine zL rfl rfl rfl ?_|refine z7 rfl rfl rfl rfl ?_|refine zf rfl rfl rfl ?_|(refine zO rfl rfl rfl rfl (fun _ _ q=>r1 ▸ zE0 nas _ _ _ _ _ (h2.below q.below) (by omega) (by omega) (by omega)) ?_)|(refine zO rfl rfl rfl rfl (fun _ _ q=>r2 ▸ zF8 gns _ _ _ _ _ (h3.below q.below) (by omega) (by omega) (by omega)) ?_)|refine zAI rfl rfl rfl ?_|refine zAc rfl rfl rfl rfl (IntWalk.i64_in _ (by omega)) ?_)|(with_reducible first|refine zI ?_|refine zB ?_|refine zE ?_|refine zA ?_|refine zV ?_|refine zU ?_)|((with_reducible refine zH ?_ ?_);(· exact rfl))))
  refine zP (by exact rTm rfl) () trivial ?_ (fun _ h=>h.sub (by (repeat constructor)))
  exact congrArg (Value.int .i64) (hno fun hF=>by have:=zCv.2 (fun i x hx=>(hF.gn i x hx).1);rw [r2] at this;cases this)
 | true =>
 cases r3:zCm 0 9999 (ats.map (·.id)) with
 | false =>
  (repeat' (first|((with_reducible refine zG ?_);first|refine zD rfl rfl rfl ?_|refine zC rfl rfl rfl ?_|(refine zJ rfl rfl rfl ?_;refine ⟨_,rfl,?_⟩)|refine zL rfl rfl rfl ?_|refine z7 rfl rfl rfl rfl ?_|(refine zO rfl rfl rfl rfl (fun _ _ q=>r1 ▸ zE0 nas _ _ _ _ _ (h2.below q.below) (by omega) (by omega) (by omega)) ?_)|(refine zO rfl rfl rfl rfl (fun _ _ q=>r2 ▸ zF8 gns _ _ _ _ _ (h3.below q.below) (by omega) (by omega) (by omega)) ?_)|(refine zO rfl rfl rfl rfl (fun _ _ q=>r3 ▸ zH3 ats _ _ _ _ _ (h4.below q.below) (by omega) (by omega) (by omega)) ?_)|refine zAI rfl rfl rfl ?_|refine zAc rfl rfl rfl rfl (IntWalk.i64_in _ (by omega)) ?_)|(with_reducible first|refine zI ?_|refine zB ?_|refine zE ?_|refine zA ?_|refine zV ?_|refine zU ?_)|((with_reducible refine zH ?_ ?_);(· exact rfl))))
  refine zP (by exact rTm rfl) () trivial ?_ (fun _ h=>h.sub (by (repeat constructor)))
  exact congrArg (Value.int .i64) (hno fun hF=>by have:=zCv.2 (fun i x hx=>(hF.at_ i x hx).1);rw [r3] at this;cases this)
 | true =>
 (repeat' (first|((with_reducible refine zG ?_);first|refine zD rfl rfl rfl ?_|(refine zJ rfl rfl rfl ?_;refine ⟨_,rfl,?_⟩)|refine zL rfl rfl rfl ?_|refine z7 rfl rfl rfl rfl ?_|(refine zO rfl rfl rfl rfl (fun _ _ q=>r1 ▸ zE0 nas _ _ _ _ _ (h2.below q.below) (by omega) (by omega) (by omega)) ?_)|(refine zO rfl rfl rfl rfl (fun _ _ q=>r2 ▸ zF8 gns _ _ _ _ _ (h3.below q.below) (by omega) (by omega) (by omega)) ?_)|(refine zO rfl rfl rfl rfl (fun _ _ q=>r3 ▸ zH3 ats _ _ _ _ _ (h4.below q.below) (by omega) (by omega) (by omega)) ?_)|refine zAI rfl rfl rfl ?_|refine zAc rfl rfl rfl rfl (IntWalk.i64_in _ (by omega)) ?_|refine zn rfl rfl rfl ?_)|(with_reducible first|refine zI ?_|refine zB ?_|refine zE ?_|refine zA ?_|refine zR ?_|refine zQ ?_)|((with_reducible refine zF ?_ ?_);(· exact rfl))))
 refine zAB (ι:=Nat) [1,4,87,88] rfl (fun i=>i≤nas.length∧∀ (j:Nat) x,j<i→nas[j]?=some x→(0≤x.wish∧x.wish≤10)∧1≤x.sleds∧x.sleds≤10) (fun i=>[(89,.int .i64 (i:Int))]) (fun _=>[.blk b1 (zg (⟨l,nas,NA,nc,gns,GA,gc,total,gap,down,every,seats,pace,ats,AA,ac,p1,p2,p3⟩:TrM))]) (fun i=>nas.length - i) 0 ⟨Nat.zero_le _,fun j x hj=>absurd hj (Nat.not_lt_zero _)⟩ (by (repeat first|exact lK1|refine zT rfl ?_)) (by (try unfold zg);(repeat constructor)) ?_
 rintro i ⟨hi,hall⟩
 simp only [zAk,zg,List.cons_append,List.nil_append]
 by_cases hlt:i<nas.length
 ·obtain ⟨x,hx⟩:∃ x,nas[i]?=some x:=⟨_,List.getElem?_eq_getElem hlt⟩
  have:zAT nas i x:=⟨hx⟩
  obtain ⟨bA,oA,hAe,hAl,hAc⟩:=h2.at_ hlt
  subst hAe
  have:InS w bA oA zEs 3 nas:=⟨h2⟩
  have hF1:=fun (hF:TnF (⟨l,nas,some ⟨bA,oA,none⟩,nc,gns,GA,gc,total,gap,down,every,seats,pace,ats,AA,ac,p1,p2,p3⟩:TrM))=>hF.na i x hx
  have hy1:=fun (hN:(0≤x.wish∧x.wish≤10)∧1≤x.sleds∧x.sleds≤10) (j:Nat) y (hj:j<i+1) (hy:nas[j]?=some y)=>(show (0≤y.wish∧y.wish≤10)∧1≤y.sleds∧y.sleds≤10 from by
   rcases Nat.lt_succ_iff_lt_or_eq.1 hj with h9|rfl
   ·exact hall j y h9 hy
   ·rw [hx] at hy;cases hy;exact hN)
  obtain ⟨id,wi,sl⟩:=x
  simp only [NaF] at hF1 hy1
  (repeat' (first|((with_reducible refine zG ?_);first|refine zD rfl rfl rfl ?_|refine zC rfl rfl rfl ?_|(refine zJ rfl rfl rfl ?_;refine ⟨_,rfl,?_⟩)|refine zL rfl rfl rfl ?_|refine z7 rfl rfl rfl rfl ?_|refine zf rfl rfl rfl ?_|(refine zS rfl rfl rfl rfl rfl (fun h=>?_) (fun h=>?_)<;>(dsimp only [cmpP] at h;(try (exfalso;omega))))|refine zo (I:=i) rfl rfl rfl rfl rfl (by omega) ?_|(refine zAf rfl rfl rfl rfl (fun _ _ q=>uin1 _ _ _ _ _ _ (zAF (enc:=encI) (by exact rfl) _ q.below q.own)) (fun h=>?_) (fun h=>?_)<;>(simp only [zAA,zBO,Bool.and_eq_true,Bool.and_eq_false_iff] at h)<;>(try (exfalso;omega)))|refine zAI rfl rfl rfl ?_|refine zu rfl rfl rfl rfl (by omega) ?_|(refine zX rfl rfl rfl rfl rfl ?_;refine ⟨rfl,by first|decide|exact Nat.le_of_ble_eq_true rfl|(simp;omega),_,rfl,?_⟩)|(refine zb rfl rfl (fun b=>?_))|(refine zi rfl rfl rfl ?_;refine ⟨rfl,_,rfl,fun b=>?_⟩))|(with_reducible first|refine zI ?_|refine zB ?_|refine zE ?_|refine zA ?_|refine zV ?_|refine zR ?_|refine zU ?_|refine zQ ?_|refine zj ?_|refine zAV ?_)|((with_reducible refine zH ?_ ?_);(· exact rfl))|((with_reducible refine zF ?_ ?_);(· exact rfl))))
  all_goals first|(refine zP (by exact rTm rfl) () trivial ?_ (fun _ h=>h.sub (by (repeat constructor)));refine congrArg (Value.int .i64) (hno fun hF=>?_);have h8:=hF1 hF;omega)|skip
  exact zd (ι:=Nat) (i+1) ⟨by omega,hy1 (by omega)⟩ (by omega) (by (repeat first|exact lK1|refine zT rfl ?_)) (by (repeat constructor))
 obtain rfl:i=nas.length:=by omega
 have hna:∀ (j:Nat) x,nas[j]?=some x→(0≤x.wish∧x.wish≤10)∧1≤x.sleds∧x.sleds≤10:=fun j x hj=>hall j x (List.getElem?_eq_some_iff.1 hj).1 hj
 (repeat' (first|((with_reducible refine zG ?_);first|refine zD rfl rfl rfl ?_|(refine zJ rfl rfl rfl ?_;refine ⟨_,rfl,?_⟩)|refine zL rfl rfl rfl ?_|(refine zS rfl rfl rfl rfl rfl (fun h=>?_) (fun h=>?_)<;>(dsimp only [cmpP] at h;(try (exfalso;omega))))|refine zn rfl rfl rfl ?_)|(with_reducible first|refine zI ?_|refine zB ?_|refine zE ?_|refine zA ?_|refine zQ ?_|refine zz ?_|refine zZ ?_|refine ze ?_)|((with_reducible refine zF ?_ ?_);(· exact rfl))))
 refine zAB (ι:=Nat) [1,4,107,108] rfl (fun i=>i≤gns.length∧∀ (j:Nat) x,j<i→gns[j]?=some x→0≤x.after∧x.after≤40) (fun i=>[(109,.int .i64 (i:Int))]) (fun _=>[.blk b1 (zg (⟨l,nas,NA,nc,gns,GA,gc,total,gap,down,every,seats,pace,ats,AA,ac,p1,p2,p3⟩:TrM))]) (fun i=>gns.length - i) 0 ⟨Nat.zero_le _,fun j x hj=>absurd hj (Nat.not_lt_zero _)⟩ (by (repeat first|exact lK1|refine zT rfl ?_)) (by (try unfold zg);(repeat constructor)) ?_
 rintro i ⟨hi,hall⟩
 simp only [zAk,zg,List.cons_append,List.nil_append]
 by_cases hlt:i<gns.length
 ·obtain ⟨x,hx⟩:∃ x,gns[i]?=some x:=⟨_,List.getElem?_eq_getElem hlt⟩
  have:zAT gns i x:=⟨hx⟩
  obtain ⟨bA,oA,hAe,hAl,hAc⟩:=h3.at_ hlt
  subst hAe
  have:InS w bA oA zEt 2 gns:=⟨h3⟩
  have hF1:=fun (hF:TnF (⟨l,nas,NA,nc,gns,some ⟨bA,oA,none⟩,gc,total,gap,down,every,seats,pace,ats,AA,ac,p1,p2,p3⟩:TrM))=>hF.gn i x hx
  have hy1:=fun (hN:0≤x.after∧x.after≤40) (j:Nat) y (hj:j<i+1) (hy:gns[j]?=some y)=>(show 0≤y.after∧y.after≤40 from by
   rcases Nat.lt_succ_iff_lt_or_eq.1 hj with h9|rfl
   ·exact hall j y h9 hy
   ·rw [hx] at hy;cases hy;exact hN)
  obtain ⟨na,af⟩:=x
  simp only [GnF] at hF1 hy1
  (repeat' (first|((with_reducible refine zG ?_);first|refine zD rfl rfl rfl ?_|refine zC rfl rfl rfl ?_|(refine zJ rfl rfl rfl ?_;refine ⟨_,rfl,?_⟩)|refine zL rfl rfl rfl ?_|(refine zS rfl rfl rfl rfl rfl (fun h=>?_) (fun h=>?_)<;>(dsimp only [cmpP] at h;(try (exfalso;omega))))|refine zo (I:=i) rfl rfl rfl rfl rfl (by omega) ?_|(refine zAf rfl rfl rfl rfl (fun _ _ q=>uin1 _ _ _ _ _ _ (zAF (enc:=encI) (by exact rfl) _ q.below q.own)) (fun h=>?_) (fun h=>?_)<;>(simp only [zAA,zBO,Bool.and_eq_true,Bool.and_eq_false_iff] at h)<;>(try (exfalso;omega)))|refine zAI rfl rfl rfl ?_|refine zu rfl rfl rfl rfl (by omega) ?_|(refine zX rfl rfl rfl rfl rfl ?_;refine ⟨rfl,by first|decide|exact Nat.le_of_ble_eq_true rfl|(simp;omega),_,rfl,?_⟩)|(refine zb rfl rfl (fun b=>?_))|(refine zi rfl rfl rfl ?_;refine ⟨rfl,_,rfl,fun b=>?_⟩))|(with_reducible first|refine zI ?_|refine zB ?_|refine zE ?_|refine zA ?_|refine zV ?_|refine zR ?_|refine zU ?_|refine zQ ?_|refine zj ?_|refine zAV ?_)|((with_reducible refine zH ?_ ?_);(· exact rfl))|((with_reducible refine zF ?_ ?_);(· exact rfl))))
  all_goals first|(refine zP (by exact rTm rfl) () trivial ?_ (fun _ h=>h.sub (by (repeat constructor)));refine congrArg (Value.int .i64) (hno fun hF=>?_);have h8:=hF1 hF;omega)|skip
  exact zd (ι:=Nat) (i+1) ⟨by omega,hy1 (by omega)⟩ (by omega) (by (repeat first|exact lK1|refine zT rfl ?_)) (by (repeat constructor))
 obtain rfl:i=gns.length:=by omega
 have hgn:∀ (j:Nat) x,gns[j]?=some x→0≤x.after∧x.after≤40:=fun j x hj=>hall j x (List.getElem?_eq_some_iff.1 hj).1 hj
 (repeat' (first|((with_reducible refine zG ?_);first|refine zD rfl rfl rfl ?_|(refine zJ rfl rfl rfl ?_;refine ⟨_,rfl,?_⟩)|refine zL rfl rfl rfl ?_|(refine zS rfl rfl rfl rfl rfl (fun h=>?_) (fun h=>?_)<;>(dsimp only [cmpP] at h;(try (exfalso;omega)))))|(with_reducible first|refine zI ?_|refine zB ?_|refine zE ?_|refine zA ?_|refine zQ ?_|refine zz ?_|refine zZ ?_|refine ze ?_)|((with_reducible refine zF ?_ ?_);(· exact rfl))))
 refine zAB (ι:=Nat) [1,4,120] rfl (fun i=>i≤3∧(1≤i→PmF p1)∧(2≤i→PmF p2)∧(3≤i→PmF p3)) (fun i=>[(121,.int .i64 (i:Int))]) (fun _=>[.blk b1 (zg (⟨l,nas,NA,nc,gns,GA,gc,total,gap,down,every,seats,pace,ats,AA,ac,p1,p2,p3⟩:TrM))]) (fun i=>3 - i) 0 ⟨Nat.zero_le _,by omega,by omega,by omega⟩ (by (repeat first|exact lK1|refine zT rfl ?_)) (by (try unfold zg);(repeat constructor)) ?_
 rintro i ⟨hi,g1,g2,g3⟩
 simp only [zAk,zg,List.cons_append,List.nil_append]
 by_cases hlt:i<3
 ·obtain ⟨pa,pr,pt⟩:=p1
  obtain ⟨qa,qr,qt⟩:=p2
  obtain ⟨ra,rr,rt⟩:=p3
  simp only [PmF] at g1 g2 g3
  obtain rfl|rfl|rfl:i=0∨i=1∨i=2:=by omega
  ·have hF1:=fun (hF:TnF ⟨l,nas,NA,nc,gns,GA,gc,total,gap,down,every,seats,pace,ats,AA,ac,⟨pa,pr,pt⟩,⟨qa,qr,qt⟩,⟨ra,rr,rt⟩⟩)=>hF.p1
   simp only [PmF] at hF1
   (repeat' (first|((with_reducible refine zG ?_);first|refine zD rfl rfl rfl ?_|refine zC rfl rfl rfl ?_|(refine zJ rfl rfl rfl ?_;refine ⟨_,rfl,?_⟩)|refine zL rfl rfl rfl ?_|refine z7 rfl rfl rfl rfl ?_|refine zf rfl rfl rfl ?_|(refine zS rfl rfl rfl rfl rfl (fun h=>?_) (fun h=>?_)<;>(dsimp only [cmpP] at h;(try (exfalso;omega))))|refine zBD rfl (zDl (I:=0) rfl rfl rfl rfl (by decide) rfl) ?_|(refine zAf rfl rfl rfl rfl (fun _ _ q=>uin1 _ _ _ _ _ _ (zAF (enc:=encI) (by exact rfl) _ q.below q.own)) (fun h=>?_) (fun h=>?_)<;>(simp only [zAA,zBO,Bool.and_eq_true,Bool.and_eq_false_iff] at h)<;>(try (exfalso;omega)))|refine zAI rfl rfl rfl ?_|refine zu rfl rfl rfl rfl (by omega) ?_|(refine zX rfl rfl rfl rfl rfl ?_;refine ⟨rfl,by first|decide|exact Nat.le_of_ble_eq_true rfl|(simp;omega),_,rfl,?_⟩)|(refine zb rfl rfl (fun b=>?_))|(refine zi rfl rfl rfl ?_;refine ⟨rfl,_,rfl,fun b=>?_⟩))|(with_reducible first|refine zI ?_|refine zB ?_|refine zE ?_|refine zA ?_|refine zV ?_|refine zR ?_|refine zU ?_|refine zQ ?_|refine zj ?_|refine zAV ?_)|((with_reducible refine zH ?_ ?_);(· exact rfl))|((with_reducible refine zF ?_ ?_);(· exact rfl))))
   all_goals first|(refine zP (by exact rTm rfl) () trivial ?_ (fun _ h=>h.sub (by (repeat constructor)));refine congrArg (Value.int .i64) (hno fun hF=>?_);have h8:=hF1 hF;omega)|skip
   exact zd (ι:=Nat) (0+1) ⟨by omega,fun _=>(by simp only [PmF];omega),fun _=>(by simp only [PmF];omega),fun _=>(by simp only [PmF];omega)⟩ (by omega) (by (repeat first|exact lK1|refine zT rfl ?_)) (by (repeat constructor))
  ·have hF1:=fun (hF:TnF ⟨l,nas,NA,nc,gns,GA,gc,total,gap,down,every,seats,pace,ats,AA,ac,⟨pa,pr,pt⟩,⟨qa,qr,qt⟩,⟨ra,rr,rt⟩⟩)=>hF.p2
   simp only [PmF] at hF1
   (repeat' (first|((with_reducible refine zG ?_);first|refine zD rfl rfl rfl ?_|refine zC rfl rfl rfl ?_|(refine zJ rfl rfl rfl ?_;refine ⟨_,rfl,?_⟩)|refine zL rfl rfl rfl ?_|refine z7 rfl rfl rfl rfl ?_|refine zf rfl rfl rfl ?_|(refine zS rfl rfl rfl rfl rfl (fun h=>?_) (fun h=>?_)<;>(dsimp only [cmpP] at h;(try (exfalso;omega))))|refine zBD rfl (zDl (I:=1) rfl rfl rfl rfl (by decide) rfl) ?_|(refine zAf rfl rfl rfl rfl (fun _ _ q=>uin1 _ _ _ _ _ _ (zAF (enc:=encI) (by exact rfl) _ q.below q.own)) (fun h=>?_) (fun h=>?_)<;>(simp only [zAA,zBO,Bool.and_eq_true,Bool.and_eq_false_iff] at h)<;>(try (exfalso;omega)))|refine zAI rfl rfl rfl ?_|refine zu rfl rfl rfl rfl (by omega) ?_|(refine zX rfl rfl rfl rfl rfl ?_;refine ⟨rfl,by first|decide|exact Nat.le_of_ble_eq_true rfl|(simp;omega),_,rfl,?_⟩)|(refine zb rfl rfl (fun b=>?_))|(refine zi rfl rfl rfl ?_;refine ⟨rfl,_,rfl,fun b=>?_⟩))|(with_reducible first|refine zI ?_|refine zB ?_|refine zE ?_|refine zA ?_|refine zV ?_|refine zR ?_|refine zU ?_|refine zQ ?_|refine zj ?_|refine zAV ?_)|((with_reducible refine zH ?_ ?_);(· exact rfl))|((with_reducible refine zF ?_ ?_);(· exact rfl))))
   all_goals first|(refine zP (by exact rTm rfl) () trivial ?_ (fun _ h=>h.sub (by (repeat constructor)));refine congrArg (Value.int .i64) (hno fun hF=>?_);have h8:=hF1 hF;omega)|skip
   exact zd (ι:=Nat) (1+1) ⟨by omega,fun _=>(by simp only [PmF];omega),fun _=>(by simp only [PmF];omega),fun _=>(by simp only [PmF];omega)⟩ (by omega) (by (repeat first|exact lK1|refine zT rfl ?_)) (by (repeat constructor))
  ·have hF1:=fun (hF:TnF ⟨l,nas,NA,nc,gns,GA,gc,total,gap,down,every,seats,pace,ats,AA,ac,⟨pa,pr,pt⟩,⟨qa,qr,qt⟩,⟨ra,rr,rt⟩⟩)=>hF.p3
   simp only [PmF] at hF1
   (repeat' (first|((with_reducible refine zG ?_);first|refine zD rfl rfl rfl ?_|refine zC rfl rfl rfl ?_|(refine zJ rfl rfl rfl ?_;refine ⟨_,rfl,?_⟩)|refine zL rfl rfl rfl ?_|refine z7 rfl rfl rfl rfl ?_|refine zf rfl rfl rfl ?_|(refine zS rfl rfl rfl rfl rfl (fun h=>?_) (fun h=>?_)<;>(dsimp only [cmpP] at h;(try (exfalso;omega))))|refine zBD rfl (zDl (I:=2) rfl rfl rfl rfl (by decide) rfl) ?_|(refine zAf rfl rfl rfl rfl (fun _ _ q=>uin1 _ _ _ _ _ _ (zAF (enc:=encI) (by exact rfl) _ q.below q.own)) (fun h=>?_) (fun h=>?_)<;>(simp only [zAA,zBO,Bool.and_eq_true,Bool.and_eq_false_iff] at h)<;>(try (exfalso;omega)))|refine zAI rfl rfl rfl ?_|refine zu rfl rfl rfl rfl (by omega) ?_|(refine zX rfl rfl rfl rfl rfl ?_;refine ⟨rfl,by first|decide|exact Nat.le_of_ble_eq_true rfl|(simp;omega),_,rfl,?_⟩)|(refine zb rfl rfl (fun b=>?_))|(refine zi rfl rfl rfl ?_;refine ⟨rfl,_,rfl,fun b=>?_⟩))|(with_reducible first|refine zI ?_|refine zB ?_|refine zE ?_|refine zA ?_|refine zV ?_|refine zR ?_|refine zU ?_|refine zQ ?_|refine zj ?_|refine zAV ?_)|((with_reducible refine zH ?_ ?_);(· exact rfl))|((with_reducible refine zF ?_ ?_);(· exact rfl))))
   all_goals first|(refine zP (by exact rTm rfl) () trivial ?_ (fun _ h=>h.sub (by (repeat constructor)));refine congrArg (Value.int .i64) (hno fun hF=>?_);have h8:=hF1 hF;omega)|skip
   exact zd (ι:=Nat) (2+1) ⟨by omega,fun _=>(by simp only [PmF];omega),fun _=>(by simp only [PmF];omega),fun _=>(by simp only [PmF];omega)⟩ (by omega) (by (repeat first|exact lK1|refine zT rfl ?_)) (by (repeat constructor))
 obtain rfl:i=3:=by omega
 have g1:=g1 (by omega)
 have g2:=g2 (by omega)
 have g3:=g3 (by omega)
 (repeat' (first|((with_reducible refine zG ?_);first|refine zD rfl rfl rfl ?_|(refine zJ rfl rfl rfl ?_;refine ⟨_,rfl,?_⟩)|refine zL rfl rfl rfl ?_|(refine zS rfl rfl rfl rfl rfl (fun h=>?_) (fun h=>?_)<;>(dsimp only [cmpP] at h;(try (exfalso;omega))))|refine zn rfl rfl rfl ?_)|(with_reducible first|refine zI ?_|refine zB ?_|refine zE ?_|refine zA ?_|refine zQ ?_|refine zz ?_|refine zZ ?_|refine ze ?_)|((with_reducible refine zF ?_ ?_);(· exact rfl))))
 refine zAB (ι:=Nat) [1,4,145,146] rfl (fun i=>i≤ats.length∧∀ (j:Nat) x,j<i→ats[j]?=some x→(0≤x.nation∧x.nation≤(nas.length:Int) - 1)∧(0≤x.age∧x.age≤99)∧x.rides.length≤3∧∀ (k:Nat) y,x.rides[k]?=some y→zAt l y.r=0) (fun i=>[(147,.int .i64 (i:Int))]) (fun _=>[.blk b1 (zg (⟨l,nas,NA,nc,gns,GA,gc,total,gap,down,every,seats,pace,ats,AA,ac,p1,p2,p3⟩:TrM))]) (fun i=>ats.length - i) 0 ⟨Nat.zero_le _,fun j x hj=>absurd hj (Nat.not_lt_zero _)⟩ (by (repeat first|exact lK1|refine zT rfl ?_)) (by (try unfold zg);(repeat constructor)) ?_
 rintro i ⟨hi,hall⟩
 simp only [zAk,zg,List.cons_append,List.nil_append]
 by_cases hlt:i<ats.length
 ·obtain ⟨x,hx⟩:∃ x,ats[i]?=some x:=⟨_,List.getElem?_eq_getElem hlt⟩
  have:zAT ats i x:=⟨hx⟩
  obtain ⟨bA,oA,hAe,hAl,hAc⟩:=h4.at_ hlt
  subst hAe
  have:InS w bA oA zB1 4 ats:=⟨h4⟩
  have hxm:=List.mem_of_getElem? hx
  have h5x:=h5 x hxm
  have k5x:=k5 x hxm
  have hF1:=fun (hF:TnF (⟨l,nas,NA,nc,gns,GA,gc,total,gap,down,every,seats,pace,ats,some ⟨bA,oA,none⟩,ac,p1,p2,p3⟩:TrM))=>hF.at_ i x hx
  have hy1:=fun (hN:(0≤x.nation∧x.nation≤(nas.length:Int) - 1)∧(0≤x.age∧x.age≤99)∧x.rides.length≤3∧∀ (k:Nat) y,x.rides[k]?=some y→zAt l y.r=0) (j:Nat) z (hj:j<i+1) (hy:ats[j]?=some z)=>(show (0≤z.nation∧z.nation≤(nas.length:Int) - 1)∧(0≤z.age∧z.age≤99)∧z.rides.length≤3∧∀ (k:Nat) y,z.rides[k]?=some y→zAt l y.r=0 from by
   rcases Nat.lt_succ_iff_lt_or_eq.1 hj with h9|rfl
   ·exact hall j z h9 hy
   ·rw [hx] at hy;cases hy;exact hN)
  obtain ⟨id,na,ag,RA,rides,rc⟩:=x
  simp only at h5x k5x hy1
  simp only [AtF] at hF1
  (repeat' (first|((with_reducible refine zG ?_);first|refine zD rfl rfl rfl ?_|refine zC rfl rfl rfl ?_|(refine zJ rfl rfl rfl ?_;refine ⟨_,rfl,?_⟩)|refine zL rfl rfl rfl ?_|refine z7 rfl rfl rfl rfl ?_|refine zf rfl rfl rfl ?_|(refine zS rfl rfl rfl rfl rfl (fun h=>?_) (fun h=>?_)<;>(dsimp only [cmpP] at h;(try (exfalso;omega))))|refine zo (I:=i) rfl rfl rfl rfl rfl (by omega) ?_|(refine zAf rfl rfl rfl rfl (fun _ _ q=>uin1 _ _ _ _ _ _ (zAF (enc:=encI) (by exact rfl) _ q.below q.own)) (fun h=>?_) (fun h=>?_)<;>(simp only [zAA,zBO,Bool.and_eq_true,Bool.and_eq_false_iff] at h)<;>(try (exfalso;omega)))|refine zAI rfl rfl rfl ?_|refine zAc rfl rfl rfl rfl (IntWalk.i64_in _ (by omega)) ?_|refine zn rfl rfl rfl ?_|(refine zX rfl rfl rfl rfl rfl ?_;refine ⟨rfl,by first|decide|exact Nat.le_of_ble_eq_true rfl|(simp;omega),_,rfl,?_⟩)|(refine zb rfl rfl (fun b=>?_))|(refine zi rfl rfl rfl ?_;refine ⟨rfl,_,rfl,fun b=>?_⟩))|(with_reducible first|refine zI ?_|refine zB ?_|refine zE ?_|refine zA ?_|refine zV ?_|refine zR ?_|refine zU ?_|refine zQ ?_|refine zAV ?_)|((with_reducible refine zH ?_ ?_);(· exact rfl))|((with_reducible refine zF ?_ ?_);(· exact rfl))))
  all_goals first|(refine zP (by exact rTm rfl) () trivial ?_ (fun _ h=>h.sub (by (repeat constructor)));refine congrArg (Value.int .i64) (hno fun hF=>?_);have h8:=hF1 hF;omega)|skip
  refine zAB (ι:=Nat) [1,4,145,146,147,172,173] rfl (fun k=>k≤rides.length∧∀ (j:Nat) y,j<k→rides[j]?=some y→zAt l y.r=0) (fun k=>[(174,.int .i64 (k:Int))]) (fun _=>[.blk b1 (zg (⟨l,nas,NA,nc,gns,GA,gc,total,gap,down,every,seats,pace,ats,some ⟨bA,oA,none⟩,ac,p1,p2,p3⟩:TrM))]) (fun k=>rides.length - k) 0 ⟨Nat.zero_le _,fun j x hj=>absurd hj (Nat.not_lt_zero _)⟩ (by (repeat first|exact lK1|refine zT rfl ?_)) (by (try unfold zg);(repeat constructor)) ?_
  rintro k ⟨hk,hal⟩
  simp only [zAk,zg,List.cons_append,List.nil_append]
  by_cases hkl:k<rides.length
  ·obtain ⟨y,hy⟩:∃ y,rides[k]?=some y:=⟨_,List.getElem?_eq_getElem hkl⟩
   have:zAT rides k y:=⟨hy⟩
   obtain ⟨bR,oR,hRe,hRl,hRc⟩:=h5x.at_ hkl
   subst hRe
   have:InS w bR oR zAN 3 rides:=⟨h5x⟩
   have hym:=List.mem_of_getElem? hy
   have hWh:=fun W (hW:Below w.heap.size w W)=>zHd l y W (h1.below hW) k1 ((h6 _ hxm y hym).below hW) (by have:=k6 _ hxm y hym;omega)
   unfold vLn vRd at hWh
   have hF2:=fun (hF:TnF (⟨l,nas,NA,nc,gns,GA,gc,total,gap,down,every,seats,pace,ats,some ⟨bA,oA,none⟩,ac,p1,p2,p3⟩:TrM))=>(hF1 hF).2.2.2.2 k y hy
   have hal2:=fun (hN:zAt l y.r=0) (j:Nat) z (hj:j<k+1) (hz:rides[j]?=some z)=>(show zAt l z.r=0 from by
    rcases Nat.lt_succ_iff_lt_or_eq.1 hj with h9|rfl
    ·exact hal j z h9 hz
    ·rw [hy] at hz;cases hz;exact hN)
   generalize zFg l y.r=nu at *
   generalize zAt l y.r=er at *
   by_cases h0:er=0
   ·subst h0
    (repeat' (first|((with_reducible refine zG ?_);first|refine zD rfl rfl rfl ?_|refine zC rfl rfl rfl ?_|(refine zJ rfl rfl rfl ?_;refine ⟨_,rfl,?_⟩)|refine zL rfl rfl rfl ?_|(refine zS rfl rfl rfl rfl rfl (fun h=>?_) (fun h=>?_)<;>(dsimp only [cmpP] at h;(try (exfalso;omega))))|refine zo (I:=k) rfl rfl rfl rfl rfl (by omega) ?_|refine zCf rfl rfl rfl rfl (fun _ _ q=>hWh _ q.below) (fun A' c'=>?_)|refine zk rfl rfl rfl rfl ?_|refine zu rfl rfl rfl rfl (by omega) ?_|(refine zX rfl rfl rfl rfl rfl ?_;refine ⟨rfl,by first|decide|exact Nat.le_of_ble_eq_true rfl|(simp;omega),_,rfl,?_⟩)|(refine zb rfl rfl (fun b=>?_)))|(with_reducible first|refine zI ?_|refine zB ?_|refine zE ?_|refine zA ?_|refine zR ?_|refine zQ ?_|refine zj ?_)|((with_reducible refine zH ?_ ?_);(· exact rfl))|((with_reducible refine zF ?_ ?_);(· exact rfl))))
    exact zd (ι:=Nat) (k+1) ⟨by omega,hal2 rfl⟩ (by omega) (by (repeat first|exact lK1|refine zT rfl ?_)) (by (repeat constructor))
   ·(repeat' (first|((with_reducible refine zG ?_);first|refine zD rfl rfl rfl ?_|refine zC rfl rfl rfl ?_|(refine zJ rfl rfl rfl ?_;refine ⟨_,rfl,?_⟩)|refine zL rfl rfl rfl ?_|(refine zS rfl rfl rfl rfl rfl (fun h=>?_) (fun h=>?_)<;>(dsimp only [cmpP] at h;(try (exfalso;omega))))|refine zo (I:=k) rfl rfl rfl rfl rfl (by omega) ?_|refine zCf rfl rfl rfl rfl (fun _ _ q=>hWh _ q.below) (fun A' c'=>?_)|refine zk rfl rfl rfl rfl ?_|(refine zX rfl rfl rfl rfl rfl ?_;refine ⟨rfl,by first|decide|exact Nat.le_of_ble_eq_true rfl|(simp;omega),_,rfl,?_⟩)|(refine zb rfl rfl (fun b=>?_)))|(with_reducible first|refine zI ?_|refine zB ?_|refine zE ?_|refine zA ?_|refine zV ?_|refine zR ?_|refine zU ?_|refine zQ ?_|refine zAV ?_)|((with_reducible refine zH ?_ ?_);(· exact rfl))))
    refine zP (by exact rTm rfl) () trivial ?_ (fun _ h=>h.sub (by (repeat constructor)))
    exact congrArg (Value.int .i64) (hno fun hF=>h0 (hF2 hF))
  obtain rfl:k=rides.length:=by omega
  (repeat' (first|((with_reducible refine zG ?_);first|refine zD rfl rfl rfl ?_|(refine zS rfl rfl rfl rfl rfl (fun h=>?_) (fun h=>?_)<;>(dsimp only [cmpP] at h;(try (exfalso;omega))))|refine zu rfl rfl rfl rfl (by omega) ?_)|(with_reducible first|refine zI ?_|refine zB ?_|refine zE ?_|refine zA ?_|refine zz ?_|refine zj ?_|refine zZ ?_|refine ze ?_)|((with_reducible refine zF ?_ ?_);(· exact rfl))))
  exact zd (ι:=Nat) (i+1) ⟨by omega,hy1 ⟨by omega,by omega,by omega,fun j y hj=>hal j y (List.getElem?_eq_some_iff.1 hj).1 hj⟩⟩ (by omega) (by (repeat first|exact lK1|refine zT rfl ?_)) (by (repeat constructor))
 obtain rfl:i=ats.length:=by omega
 rw [hyes ⟨hone,fun i x hx=>⟨zCv.1 r1 i x hx,hna i x hx⟩,fun i x hx=>⟨zCv.1 r2 i x hx,hgn i x hx⟩,fun i x hx=>⟨zCv.1 r3 i x hx,hall i x (List.getElem?_eq_some_iff.1 hx).1 hx⟩,g1,g2,g3⟩]
 (repeat' (first|((with_reducible refine zG ?_);first|refine zC rfl rfl rfl ?_|(refine zS rfl rfl rfl rfl rfl (fun h=>?_) (fun h=>?_)<;>(dsimp only [cmpP] at h;(try (exfalso;omega)))))|(with_reducible first|refine zI ?_|refine zB ?_|refine zE ?_|refine zA ?_|refine zV ?_|refine zz ?_|refine zZ ?_|refine ze ?_)|((with_reducible refine zF ?_ ?_);(· exact rfl))))
 exact zP (by exact rTm rfl) () trivial rfl (fun _ h=>h.sub (by (repeat constructor)))
end Go.Proofs.YtfiekidciiighaaGreat.Two
namespace Go.Proofs.YtfiekidciiighaaGreat.Two
variable {ro : Option Nat}
open Go.RowKit
set_option maxRecDepth 20000
def zAl (t:TrM) (a:Nat):List Value:=[.slice t.l.TA t.l.t.length t.l.tc,.int .i64 t.l.fast,.slice t.l.CA t.l.cks.length t.l.cc,.slice t.l.BA t.l.bms.length t.l.bc,.int .i64 t.l.finish,.int .i64 t.l.fakes,.int .i64 t.l.misses,.slice t.NA t.nas.length t.nc,.slice t.GA t.gns.length t.gc,.int .i64 t.total,.int .i64 t.gap,.int .i64 t.down,.int .i64 t.every,.int .i64 t.seats,.int .i64 t.pace,.slice t.AA t.ats.length t.ac,.int .i64 t.p1.age,.int .i64 t.p1.runs,.int .i64 t.p1.time,.int .i64 t.p2.age,.int .i64 t.p2.runs,.int .i64 t.p2.time,.int .i64 t.p3.age,.int .i64 t.p3.runs,.int .i64 t.p3.time,.slice (some ⟨a,0,none⟩) t.nas.length t.nas.length,.int .i64 0]
section
variable {S : List (Nat × Nat)} {I:List (Nat × Nat × Nat × List Ent)} {P:Program} {w0:World} {n:Nat} {d:List Deferred} {R R0:List (Nat × Value)} {H H' H0:List Ent} {Q:Exit→Act→World→Prop} {ops:Array Oper} {bs:List (List Bool)} {b:List Bool} {k:Nat} {o:Oper} {rest:List Oper} {T:List Rw} {Hk:zAp→List Ent}
theorem c_isMkS {F:TypeId} {x y:Operand} (hop:o.op = .makeSlice F x y) (h:CAt ro S I P w0 n d ops R0 H0 Q b bs k o rest T Hk):CAt ro S I P w0 n d ops R0 H0 Q b bs k o rest T Hk:=h
end
set_option maxHeartbeats 4000000 in
theorem zLa (c0 c1 c2 c3 c4 c5 c6 c8 c9 c10 c11 c12 c13 c14 c15 c16 c17 c18 c19 c20 c21 c22 c23 c24:Value) (NA:Option Addr) (n nc:Nat) (e:Int) (w:World) (hn:n≤1000) (hC:∀ W,Below w.heap.size w W→Gv Tryz.prog 30 [.agg #[c0,c1,c2,c3,c4,c5,c6,.slice NA n nc,c8,c9,c10,c11,c12,c13,c14,c15,c16,c17,c18,c19,c20,c21,c22,c23,c24]] W (.int .i64 e)):Ret Tryz.prog 19 [.agg #[c0,c1,c2,c3,c4,c5,c6,.slice NA n nc,c8,c9,c10,c11,c12,c13,c14,c15,c16,c17,c18,c19,c20,c21,c22,c23,c24]] w (fun d:Option (Nat × Nat)=>.tuple #[.pointer (d.map fun d=>⟨d.1,0,none⟩),.int .i64 e]) (fun d=>match d with|some d=>[.blk d.1 [c0,c1,c2,c3,c4,c5,c6,.slice NA n nc,c8,c9,c10,c11,c12,c13,c14,c15,c16,c17,c18,c19,c20,c21,c22,c23,c24,.slice (some ⟨d.2,0,none⟩) n n,.int .i64 0]]|none=>[]) (fun d=>match d with|some _=>e=0|none=>e≠0):=by
 by_cases h0:e=0
 ·subst h0
  (refine zK (n:=17) Tryz.func19 rfl rfl rfl ?_)
  (repeat' (first|((with_reducible refine zG ?_);first|refine zD rfl rfl rfl ?_|refine zC rfl rfl rfl ?_|(refine zJ rfl rfl rfl ?_;refine ⟨_,rfl,?_⟩)|(refine zS rfl rfl rfl rfl rfl (fun h=>?_) (fun h=>?_)<;>(dsimp only [cmpP] at h;(try (exfalso;omega))))|refine zO rfl rfl rfl rfl (fun _ _ q=>hC _ q.below) ?_|(refine zp rfl rfl rfl rfl (fun b=>?_)))|(with_reducible first|refine zI ?_|refine zB ?_|refine zE ?_|refine zA ?_|refine zR ?_)|((with_reducible refine zF ?_ ?_);(· exact rfl))))
  (refine z9 [] [] [] rfl (show ([]:List Nat).Nodup by decide) (fun _ h=>h) (by kernel_rfl) [[],[Y],[Z,Y],[Z,Z,Y],[Z,Z,Z,Y],[Z,Z,Z,Z,Z],[Z,Z,Z,Z,Z,Z],[Z,Z,Z,Z,Z,Z,Z],[Z,Z,Z,Z,Z,Z,Z,Z]] (by kernel_rfl) (by kernel_rfl) (by kernel_rfl) (by kernel_rfl) (by kernel_rfl) ?_)
  (repeat' (first|(((with_reducible refine zA0 ?_ ?_);(· exact rfl);refine ⟨_,fun G=>(by (try simp (decide:=true) only [vis,see,fltT,zq,Nat.reduceAdd,Nat.reduceSub,if_true,if_false,List.set_cons_zero,List.set_cons_succ,List.set_nil,List.nil_append,List.cons_append]);rfl),?_⟩);first|refine zN _ (fun _=>zW rfl rfl (by exact rfl)) (fun _=>rfl) rfl (by intro G G' h;simp (decide:=true) only [h]) ?_|(refine zm rfl ?_;refine zN _ (fun _=>zY rfl rfl) (fun _=>rfl) rfl (by intro G G' h;simp (decide:=true) only [h]) ?_)|refine zN _ (fun _=>zt rfl rfl) (fun _=>rfl) rfl (by intro G G' h;simp (decide:=true) only [h]) ?_|(refine c_isMkS rfl ?_;refine zI1 (n0:=n) (v:=.int .i64 0) rfl rfl rfl rfl rfl rfl (fun _=>rfl) rfl (fun _=>rfl) (fun _=>rfl) (by omega) ?_)|refine zN (fun G=>.agg [c0,c1,c2,c3,c4,c5,c6,.slice NA n nc,c8,c9,c10,c11,c12,c13,c14,c15,c16,c17,c18,c19,c20,c21,c22,c23,c24,.slice (some ⟨(G 4).g,0,none⟩) n n,.int .i64 0].toArray) (fun G=>zDK (cs:=[c0,c1,c2,c3,c4,c5,c6,.slice NA n nc,c8,c9,c10,c11,c12,c13,c14,c15,c16,c17,c18,c19,c20,c21,c22,c23,c24,.slice (some ⟨(G 4).g,0,none⟩) n n,.int .i64 0]) rfl rfl (by kernel_rfl)) (fun _=>rfl) rfl (by intro G G' h;simp (decide:=true) only [h]) ?_|(refine zAM rfl ?_;refine zN _ (fun _=>zEu rfl rfl) (fun _=>rfl) rfl (by intro G G' h;simp (decide:=true) only [h]) ?_)|refine c_box rfl (fun _=>rfl) rfl (fun _=>rfl) (fun _=>rfl) (by intro G G' h;simp (decide:=true) only [h]) ?_)|(with_reducible refine zAx ?_)))
  (intro G;simp only [regsT,zq,zAa,ini,List.nil_append,List.cons_append])
  (repeat' (first|(with_reducible first|refine zA ?_|refine zV ?_)))
  exact zP (by (exact zh.cons (by exact zAO.tmp rfl) (zh.cons (by exact zAO.tmp rfl) zh.nil))) (some ((G 6).g,(G 4).g)) (by simp) rfl (fun _ h=>h.sub (by (repeat constructor)))
 ·(refine zK (n:=17) Tryz.func19 rfl rfl rfl ?_)
  (repeat' (first|((with_reducible refine zG ?_);first|refine zD rfl rfl rfl ?_|refine zC rfl rfl rfl ?_|(refine zJ rfl rfl rfl ?_;refine ⟨_,rfl,?_⟩)|(refine zS rfl rfl rfl rfl rfl (fun h=>?_) (fun h=>?_)<;>(dsimp only [cmpP] at h;(try (exfalso;omega))))|refine zO rfl rfl rfl rfl (fun _ _ q=>hC _ q.below) ?_|(refine zp rfl rfl rfl rfl (fun b=>?_)))|(with_reducible first|refine zI ?_|refine zB ?_|refine zE ?_|refine zA ?_|refine zV ?_|refine zU ?_)|((with_reducible refine zH ?_ ?_);(· exact rfl))))
  exact zP (by (exact zh.cons (by exact zAO.tmp rfl) (zh.cons (by exact zAO.tmp rfl) zh.nil))) none h0 rfl (fun _ h=>h.sub (by (repeat constructor)))
end Go.Proofs.YtfiekidciiighaaGreat.Two
namespace Go.Proofs.YtfiekidciiighaaGreat.Two
variable {ro : Option Nat}
open Go.RowKit
set_option maxRecDepth 20000
set_option maxHeartbeats 4000000 in
theorem zHu (t:TrM) (w:World) (h:zCj w t) (hs:zBR t):Ret Tryz.prog 19 [vTn t] w (fun d:Option (Nat × Nat)=>.tuple #[.pointer (d.map fun d=>⟨d.1,0,none⟩),.int .i64 (zBu t)]) (fun d=>match d with|some d=>[.blk d.1 (zAl t d.2)]|none=>[]) (fun d=>match d with|some _=>zBu t=0|none=>zBu t≠0):=by
 have hC:=fun W (hW:Below w.heap.size w W)=>zKB t W (h.below hW) hs
 have hn:=hs.n
 generalize zBu t=e at *
 unfold vTn zg at *
 unfold zAl
 exact zLa _ _ _ _ _ _ _ _ _ _ _ _ _ _ _ _ _ _ _ _ _ _ _ _ _ _ _ _ _ (by omega) hC
set_option maxHeartbeats 4000000 in
theorem zGz (t:TrM) (a c:Int) (w:World) (h:zCj w t) (hs:zBR t):Ret Tryz.prog 13 [vTn t,.int .i64 a,.int .i64 c] w (fun d:Option (Nat × Nat)=>.tuple #[.pointer (d.map fun d=>⟨d.1,0,none⟩),.int .i64 (zBk t a c)]) (fun d=>match d with|some d=>[.blk d.1 (zAl t d.2)]|none=>[]) (fun d=>match d with|some _=>zBk t a c=0|none=>zBk t a c≠0):=by
 have hO:=fun W (hW:Below w.heap.size w W)=>zHu t W (h.below hW) hs
 have ha:=hs.a
 obtain ⟨E,hE⟩:∃ E,E=zBk t a c:=⟨_,rfl⟩
 have hE2:=hE
 rw [← hE]
 unfold zBk at hE2
 generalize zBu t=e8 at *
 clear hE
 unfold vTn at *
 generalize hcd:zAl t=cd at *
 clear hcd
 by_cases h0:e8=0
 ·subst h0
  rw [if_pos rfl] at hE2
  unfold zg at *
  cases i1:inB 0 ((t.ats.length:Int) - 1) a with
  | false =>
   rw [i1,if_neg (by simp)] at hE2
   subst hE2
   (refine zK (n:=33) Tryz.func13 rfl rfl rfl ?_)
   (repeat' (first|((with_reducible refine zG ?_);first|refine zD rfl rfl rfl ?_|refine zC rfl rfl rfl ?_|(refine zJ rfl rfl rfl ?_;refine ⟨_,rfl,?_⟩)|refine zL rfl rfl rfl ?_|refine z7 rfl rfl rfl rfl ?_|refine zf rfl rfl rfl ?_|(refine zS rfl rfl rfl rfl rfl (fun h=>?_) (fun h=>?_)<;>(dsimp only [cmpP] at h;(try (exfalso;omega))))|(refine zBL rfl rfl rfl rfl (fun _ _ q=>hO _ q.below) ?_;rintro (_ | ⟨gd,ga⟩) hp;(exact absurd rfl hp);dsimp only [Option.map,List.cons_append,List.nil_append])|(refine zO rfl rfl rfl rfl (fun _ _ q=>i1 ▸ uin1 _ _ _ _ _ _ (zAF (enc:=encI) (by exact rfl) _ q.below q.own)) ?_)|refine zk rfl rfl rfl rfl ?_|refine zAI rfl rfl rfl ?_|refine zAc rfl rfl rfl rfl (IntWalk.i64_in _ (by omega)) ?_|refine zn rfl rfl rfl ?_|(refine zp rfl rfl rfl rfl (fun b=>?_))|(refine zi rfl rfl rfl ?_;refine ⟨rfl,_,rfl,fun b=>?_⟩))|(with_reducible first|refine zI ?_|refine zB ?_|refine zE ?_|refine zA ?_|refine zV ?_|refine zR ?_|refine zU ?_)|((with_reducible refine zH ?_ ?_);(· exact rfl))|((with_reducible refine zF ?_ ?_);(· exact rfl))))
   exact zP (by (exact zh.cons (by exact zAO.tmp rfl) (zh.cons (by exact zAO.tmp rfl) zh.nil))) none (by decide) rfl (fun _ h=>h.sub (by (repeat constructor)))
  | true =>
   cases i2:inB 1 3 c with
   | false =>
    rw [i1,i2,if_neg (by simp)] at hE2
    subst hE2
    (refine zK (n:=33) Tryz.func13 rfl rfl rfl ?_)
    (repeat' (first|((with_reducible refine zG ?_);first|refine zD rfl rfl rfl ?_|refine zC rfl rfl rfl ?_|(refine zJ rfl rfl rfl ?_;refine ⟨_,rfl,?_⟩)|refine zL rfl rfl rfl ?_|refine z7 rfl rfl rfl rfl ?_|(refine zS rfl rfl rfl rfl rfl (fun h=>?_) (fun h=>?_)<;>(dsimp only [cmpP] at h;(try (exfalso;omega))))|(refine zBL rfl rfl rfl rfl (fun _ _ q=>hO _ q.below) ?_;rintro (_ | ⟨gd,ga⟩) hp;(exact absurd rfl hp);dsimp only [Option.map,List.cons_append,List.nil_append])|(refine zO rfl rfl rfl rfl (fun _ _ q=>i1 ▸ uin1 _ _ _ _ _ _ (zAF (enc:=encI) (by exact rfl) _ q.below q.own)) ?_)|(refine zO rfl rfl rfl rfl (fun _ _ q=>i2 ▸ uin1 _ _ _ _ _ _ (zAF (enc:=encI) (by exact rfl) _ q.below q.own)) ?_)|refine zk rfl rfl rfl rfl ?_|refine zAI rfl rfl rfl ?_|refine zAc rfl rfl rfl rfl (IntWalk.i64_in _ (by omega)) ?_|refine zn rfl rfl rfl ?_|(refine zp rfl rfl rfl rfl (fun b=>?_))|(refine zi rfl rfl rfl ?_;refine ⟨rfl,_,rfl,fun b=>?_⟩))|(with_reducible first|refine zI ?_|refine zB ?_|refine zE ?_|refine zA ?_|refine zV ?_|refine zR ?_|refine zU ?_)|((with_reducible refine zH ?_ ?_);(· exact rfl))|((with_reducible refine zF ?_ ?_);(· exact rfl))))
    exact zP (by (exact zh.cons (by exact zAO.tmp rfl) (zh.cons (by exact zAO.tmp rfl) zh.nil))) none (by decide) rfl (fun _ h=>h.sub (by (repeat constructor)))
   | true =>
    rw [i1,i2,if_pos (by simp)] at hE2
    subst hE2
    (refine zK (n:=33) Tryz.func13 rfl rfl rfl ?_)
    (repeat' (first|((with_reducible refine zG ?_);first|refine zD rfl rfl rfl ?_|refine zC rfl rfl rfl ?_|(refine zJ rfl rfl rfl ?_;refine ⟨_,rfl,?_⟩)|refine zL rfl rfl rfl ?_|refine z7 rfl rfl rfl rfl ?_|(refine zS rfl rfl rfl rfl rfl (fun h=>?_) (fun h=>?_)<;>(dsimp only [cmpP] at h;(try (exfalso;omega))))|(refine zBL rfl rfl rfl rfl (fun _ _ q=>hO _ q.below) ?_;rintro (_ | ⟨gd,ga⟩) hp;(exact absurd rfl hp);dsimp only [Option.map,List.cons_append,List.nil_append])|(refine zO rfl rfl rfl rfl (fun _ _ q=>i1 ▸ uin1 _ _ _ _ _ _ (zAF (enc:=encI) (by exact rfl) _ q.below q.own)) ?_)|(refine zO rfl rfl rfl rfl (fun _ _ q=>i2 ▸ uin1 _ _ _ _ _ _ (zAF (enc:=encI) (by exact rfl) _ q.below q.own)) ?_)|refine zk rfl rfl rfl rfl ?_|refine zAI rfl rfl rfl ?_|refine zAc rfl rfl rfl rfl (IntWalk.i64_in _ (by omega)) ?_|refine zn rfl rfl rfl ?_|(refine zp rfl rfl rfl rfl (fun b=>?_))|(refine zi rfl rfl rfl ?_;refine ⟨rfl,_,rfl,fun b=>?_⟩))|(with_reducible first|refine zI ?_|refine zB ?_|refine zE ?_|refine zA ?_|refine zV ?_|refine zR ?_)|((with_reducible refine zF ?_ ?_);(· exact rfl))))
    exact zP (by (exact zh.cons (by exact zAO.tmp rfl) (zh.cons (by exact zAO.tmp rfl) zh.nil))) (some (gd,ga)) rfl rfl (fun _ h=>h.sub (by (repeat constructor)))
 ·rw [if_neg h0] at hE2
  subst hE2
  unfold zg at *
  (refine zK (n:=33) Tryz.func13 rfl rfl rfl ?_)
  (repeat' (first|((with_reducible refine zG ?_);first|refine zD rfl rfl rfl ?_|refine zC rfl rfl rfl ?_|(refine zJ rfl rfl rfl ?_;refine ⟨_,rfl,?_⟩)|(refine zS rfl rfl rfl rfl rfl (fun h=>?_) (fun h=>?_)<;>(dsimp only [cmpP] at h;(try (exfalso;omega))))|(refine zBL rfl rfl rfl rfl (fun _ _ q=>hO _ q.below) ?_;rintro (_ | ⟨gd,ga⟩) hp;rotate_left;(exact absurd hp h0);dsimp only [Option.map,List.cons_append,List.nil_append])|refine zk rfl rfl rfl rfl ?_|(refine zp rfl rfl rfl rfl (fun b=>?_)))|(with_reducible first|refine zI ?_|refine zB ?_|refine zE ?_|refine zA ?_|refine zV ?_|refine zU ?_)|((with_reducible refine zH ?_ ?_);(· exact rfl))))
  exact zP (by (exact zh.cons (by exact zAO.tmp rfl) (zh.cons (by exact zAO.tmp rfl) zh.nil))) none h0 rfl (fun _ h=>h.sub (by (repeat constructor)))
end Go.Proofs.YtfiekidciiighaaGreat.Two
