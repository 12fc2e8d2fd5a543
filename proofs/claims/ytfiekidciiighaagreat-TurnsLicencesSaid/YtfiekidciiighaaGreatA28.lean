/- A28 -/
import Derived.Test.YtfiekidciiighaaGreatA26
import Derived.Test.YtfiekidciiighaaGreatA27
set_option linter.unusedSimpArgs false
set_option linter.unusedVariables false
namespace Go.Proofs.YtfiekidciiighaaGreat.Two
variable {ro : Option Nat}
open Go.RowKit
set_option maxRecDepth 20000
theorem zAW (n lo hi:Int) (w:World):Gv Tryz.prog 22 [.int .i64 n,.int .i64 lo,.int .i64 hi] w (.bool (inB lo hi n)):=by
 unfold Gv inB
 (refine zK (n:=15) Tryz.func22 rfl rfl rfl ?_)
 (repeat' (first|((with_reducible refine zG ?_);first|refine zD rfl rfl rfl ?_|refine zC rfl rfl rfl ?_|refine z7 rfl rfl rfl rfl ?_|refine zf rfl rfl rfl ?_|(refine zS rfl rfl rfl rfl rfl (fun h=>?_) (fun h=>?_)<;>(dsimp only [cmpP] at h;(try (exfalso;omega)))))|(with_reducible first|refine zI ?_|refine zB ?_|refine zE ?_|refine zA ?_|refine zV ?_)))
 all_goals exact zP (by exact rTm rfl) () trivial (by simp [resV];omega) (fun _ h=>h.sub (by (repeat constructor)))
set_option maxHeartbeats 16000000 in
theorem zJR (t:TrM) (w:World) (h:zCj w t) (hs:zBR t):Gv Tryz.prog 34 [vTn t] w (.bool (tnB t)):=by
 obtain ⟨l,nas,NA,nc,gns,GA,gc,total,gap,down,every,seats,pace,ats,AA,ac,p1,p2,p3⟩:=t
 obtain ⟨h1,h2,h3,h4,h5,h6⟩:=h
 obtain ⟨k1,k2,k3,k4,k5,k6⟩:=hs
 obtain ⟨B,hB⟩:∃ B,B=tnB (⟨l,nas,NA,nc,gns,GA,gc,total,gap,down,every,seats,pace,ats,AA,ac,p1,p2,p3⟩:TrM):=⟨_,rfl⟩
 have hno:(TnF (⟨l,nas,NA,nc,gns,GA,gc,total,gap,down,every,seats,pace,ats,AA,ac,p1,p2,p3⟩:TrM)→False)→B=false:=fun h=>by rw [hB];exact Bool.eq_false_iff.2 (fun h9=>h (zF2.1 h9))
 have hyes:TnF (⟨l,nas,NA,nc,gns,GA,gc,total,gap,down,every,seats,pace,ats,AA,ac,p1,p2,p3⟩:TrM)→B=true:=fun h=>by rw [hB];exact zF2.2 h
 rw [← hB]
 clear hB
 simp only at h1 h2 h3 h4 h5 h6 k1 k2 k3 k4 k5 k6
 unfold Gv vTn zg
 simp only
 (refine zK (n:=241) Tryz.func34 rfl rfl rfl ?_)
 (repeat' (first|((with_reducible refine zG ?_);first|refine zD rfl rfl rfl ?_|refine zC rfl rfl rfl ?_|(refine zJ rfl rfl rfl ?_;refine ⟨_,rfl,?_⟩)|refine zL rfl rfl rfl ?_|refine zn rfl rfl rfl ?_|(refine zp rfl rfl rfl rfl (fun b=>?_)))|(with_reducible first|refine zI ?_|refine zB ?_|refine zE ?_|refine zA ?_)))
 obtain ⟨b1,hb1⟩:∃ y,y=b:=⟨_,rfl⟩
 subst hb1
 (repeat' (first|((with_reducible refine zG ?_);first|refine zD rfl rfl rfl ?_|refine zC rfl rfl rfl ?_|(refine zJ rfl rfl rfl ?_;refine ⟨_,rfl,?_⟩)|refine zL rfl rfl rfl ?_|refine z7 rfl rfl rfl rfl ?_|refine zf rfl rfl rfl ?_|(refine zS rfl rfl rfl rfl rfl (fun h=>?_) (fun h=>?_)<;>(dsimp only [cmpP] at h;(try (exfalso;omega))))|(refine zAf rfl rfl rfl rfl (fun _ _ q=>zAW _ _ _ _) (fun h=>?_) (fun h=>?_)<;>(simp only [zAA,zBO] at h)<;>(try (exfalso;omega)))|refine zAI rfl rfl rfl ?_|refine zn rfl rfl rfl ?_)|(with_reducible first|refine zI ?_|refine zB ?_|refine zE ?_|refine zA ?_|refine zV ?_|refine zR ?_|refine zU ?_|refine zQ ?_)|((with_reducible refine zH ?_ ?_);(· exact rfl))|((with_reducible refine zF ?_ ?_);(· exact rfl))))
 all_goals first|(refine zP (by exact rTm rfl) () trivial ?_ (fun _ h=>h.sub (by (repeat constructor)));refine congrArg Value.bool (hno fun hF=>?_);have h8:=hF.one;simp only [OneF] at h8;omega)|skip
 have hone:OneF (⟨l,nas,NA,nc,gns,GA,gc,total,gap,down,every,seats,pace,ats,AA,ac,p1,p2,p3⟩:TrM):=by unfold OneF;simp only;omega
 refine zAB (ι:=Nat) [1,3] rfl (fun i=>i≤nas.length∧∀ (j:Nat) x,j<i→nas[j]?=some x→NaF nas j x) (fun i=>[(4,.int .i64 (i:Int))]) (fun _=>[.blk b1 (zg (⟨l,nas,NA,nc,gns,GA,gc,total,gap,down,every,seats,pace,ats,AA,ac,p1,p2,p3⟩:TrM))]) (fun i=>nas.length - i) 0 ⟨Nat.zero_le _,fun j x hj=>absurd hj (Nat.not_lt_zero _)⟩ (by (repeat first|exact lK1|refine zT rfl ?_)) (by (try unfold zg);(repeat constructor)) ?_
 rintro i ⟨hi,hall⟩
 simp only [zAk,zg,List.cons_append,List.nil_append]
 by_cases hlt:i<nas.length
 ·obtain ⟨x,hx⟩:∃ x,nas[i]?=some x:=⟨_,List.getElem?_eq_getElem hlt⟩
  have:zAT nas i x:=⟨hx⟩
  obtain ⟨bA,oA,hAe,hAl,hAc⟩:=h2.at_ hlt
  subst hAe
  have:InS w bA oA zEs 3 nas:=⟨h2⟩
  have hF1:=fun (hF:TnF (⟨l,nas,some ⟨bA,oA,none⟩,nc,gns,GA,gc,total,gap,down,every,seats,pace,ats,AA,ac,p1,p2,p3⟩:TrM))=>hF.na i x hx
  have hy1:=fun (hN:NaF nas i x) (j:Nat) y (hj:j<i+1) (hy:nas[j]?=some y)=>(show NaF nas j y from by
   rcases Nat.lt_succ_iff_lt_or_eq.1 hj with h9|rfl
   ·exact hall j y h9 hy
   ·rw [hx] at hy;cases hy;exact hN)
  obtain ⟨id,wi,sl⟩:=x
  simp only [NaF] at hF1 hy1
  rcases Nat.eq_zero_or_pos i with rfl|hi0
  ·(repeat' (first|((with_reducible refine zG ?_);first|refine zD rfl rfl rfl ?_|(refine zJ rfl rfl rfl ?_;refine ⟨_,rfl,?_⟩)|refine zL rfl rfl rfl ?_|(refine zS rfl rfl rfl rfl rfl (fun h=>?_) (fun h=>?_)<;>(dsimp only [cmpP] at h;(try (exfalso;omega))))|refine zo (I:=0) rfl rfl rfl rfl rfl (by omega) ?_|(refine zX rfl rfl rfl rfl rfl ?_;refine ⟨rfl,by first|decide|exact Nat.le_of_ble_eq_true rfl|(simp;omega),_,rfl,?_⟩)|(refine zb rfl rfl (fun b=>?_)))|(with_reducible first|refine zI ?_|refine zB ?_|refine zE ?_|refine zA ?_|refine zR ?_|refine zQ ?_)|((with_reducible refine zH ?_ ?_);(· exact rfl))))
   (refine zAD (by kernel_rfl) (by kernel_rfl) (by kernel_rfl) ?_)
   (repeat' (first|((with_reducible refine zAP ?_);first|refine zM (zl rfl rfl) rfl ?_|refine zM (zW rfl rfl (by exact rfl)) rfl ?_|refine zM (zY rfl rfl) rfl ?_|refine zM (zAh rfl rfl rfl) rfl ?_|refine zAJ rfl rfl rfl ?_|(refine zAu rfl rfl rfl rfl rfl (fun h=>?_) (fun h=>?_)<;>(dsimp only [cmpP] at h;(try (exfalso;omega))))|(refine zCb rfl rfl rfl rfl (fun _ _ q=>zAW _ _ _ _) (fun h=>?_) (fun h=>?_)<;>(simp only [zAA,zBO] at h)<;>(try (exfalso;omega)))|refine zM (zDt rfl rfl) rfl ?_)|(with_reducible refine zAe ?_)))
   all_goals (repeat' (first|((with_reducible refine zG ?_);first|refine zD rfl rfl rfl ?_|refine zC rfl rfl rfl ?_|refine zu rfl rfl rfl rfl (by omega) ?_)|(with_reducible first|refine zI ?_|refine zB ?_|refine zE ?_|refine zA ?_|refine zV ?_|refine zR ?_|refine zU ?_|refine zj ?_|refine zAV ?_)|((with_reducible refine zH ?_ ?_);(· exact rfl))|((with_reducible refine zF ?_ ?_);(· exact rfl))))
   all_goals first|(refine zP (by exact rTm rfl) () trivial ?_ (fun _ h=>h.sub (by (repeat constructor)));refine congrArg Value.bool (hno fun hF=>?_);have h8:=hF1 hF;omega)|skip
   exact zd (ι:=Nat) (0+1) ⟨by omega,hy1 ⟨⟨by omega,by omega,fun y h0=>absurd h0 (Nat.lt_irrefl _)⟩,by omega⟩⟩ (by omega) (by (repeat first|exact lK1|refine zT rfl ?_)) (by (repeat constructor))
  ·obtain ⟨y,hy⟩:∃ y,nas[i - 1]?=some y:=⟨_,List.getElem?_eq_getElem (by omega)⟩
   have:zAT nas (i - 1) y:=⟨hy⟩
   (repeat' (first|((with_reducible refine zG ?_);first|refine zD rfl rfl rfl ?_|(refine zJ rfl rfl rfl ?_;refine ⟨_,rfl,?_⟩)|refine zL rfl rfl rfl ?_|(refine zS rfl rfl rfl rfl rfl (fun h=>?_) (fun h=>?_)<;>(dsimp only [cmpP] at h;(try (exfalso;omega))))|refine zo (I:=i) rfl rfl rfl rfl rfl (by omega) ?_|(refine zX rfl rfl rfl rfl rfl ?_;refine ⟨rfl,by first|decide|exact Nat.le_of_ble_eq_true rfl|(simp;omega),_,rfl,?_⟩)|(refine zb rfl rfl (fun b=>?_)))|(with_reducible first|refine zI ?_|refine zB ?_|refine zE ?_|refine zA ?_|refine zR ?_|refine zQ ?_)|((with_reducible refine zH ?_ ?_);(· exact rfl))))
   (refine zAD (by kernel_rfl) (by kernel_rfl) (by kernel_rfl) ?_)
   (repeat' (first|((with_reducible refine zAP ?_);first|refine zM (zl rfl rfl) rfl ?_|refine zM (zW rfl rfl (by exact rfl)) rfl ?_|refine zM (zY rfl rfl) rfl ?_|refine zM (zAh rfl rfl rfl) rfl ?_|refine zAJ rfl rfl rfl ?_|(refine zAu rfl rfl rfl rfl rfl (fun h=>?_) (fun h=>?_)<;>(dsimp only [cmpP] at h;(try (exfalso;omega))))|refine zM (zw (I:=(i - 1)) rfl rfl rfl (by omega) (by first|omega|(dsimp only;omega))) rfl ?_|(refine zCb rfl rfl rfl rfl (fun _ _ q=>zAW _ _ _ _) (fun h=>?_) (fun h=>?_)<;>(simp only [zAA,zBO] at h)<;>(try (exfalso;omega)))|refine zM (zDt rfl rfl) rfl ?_|refine zM (zBW rfl rfl rfl (IntWalk.i64_in _ (by omega))) rfl ?_)|(with_reducible refine zAe ?_)))
   all_goals (repeat' (first|((with_reducible refine zG ?_);first|refine zD rfl rfl rfl ?_|refine zC rfl rfl rfl ?_|refine zu rfl rfl rfl rfl (by omega) ?_)|(with_reducible first|refine zI ?_|refine zB ?_|refine zE ?_|refine zA ?_|refine zV ?_|refine zR ?_|refine zU ?_|refine zj ?_|refine zAV ?_)|((with_reducible refine zH ?_ ?_);(· exact rfl))|((with_reducible refine zF ?_ ?_);(· exact rfl))))
   all_goals first|(refine zP (by exact rTm rfl) () trivial ?_ (fun _ h=>h.sub (by (repeat constructor)));refine congrArg Value.bool (hno fun hF=>?_);have h8:=hF1 hF;have h7:=h8.1.2.2 y hi0 hy;omega)|skip
   exact zd (ι:=Nat) (i+1) ⟨by omega,hy1 ⟨⟨by omega,by omega,fun z _ hz=>by rw [hy] at hz;cases hz;omega⟩,by omega⟩⟩ (by omega) (by (repeat first|exact lK1|refine zT rfl ?_)) (by (repeat constructor))
 obtain rfl:i=nas.length:=by omega
 have hna:∀ (j:Nat) x,nas[j]?=some x→NaF nas j x:=fun j x hj=>hall j x (List.getElem?_eq_some_iff.1 hj).1 hj
 (repeat' (first|((with_reducible refine zG ?_);first|refine zD rfl rfl rfl ?_|refine zC rfl rfl rfl ?_|(refine zS rfl rfl rfl rfl rfl (fun h=>?_) (fun h=>?_)<;>(dsimp only [cmpP] at h;(try (exfalso;omega)))))|(with_reducible first|refine zI ?_|refine zB ?_|refine zE ?_|refine zA ?_|refine zQ ?_|refine zz ?_|refine zZ ?_|refine ze ?_)|((with_reducible refine zF ?_ ?_);(· exact rfl))))
 refine zAB (ι:=Nat) [1,3] rfl (fun i=>i≤gns.length∧∀ (j:Nat) x,j<i→gns[j]?=some x→GnF nas.length gns j x) (fun i=>[(6,.int .i64 (i:Int))]) (fun _=>[.blk b1 (zg (⟨l,nas,NA,nc,gns,GA,gc,total,gap,down,every,seats,pace,ats,AA,ac,p1,p2,p3⟩:TrM))]) (fun i=>gns.length - i) 0 ⟨Nat.zero_le _,fun j x hj=>absurd hj (Nat.not_lt_zero _)⟩ (by (repeat first|exact lK1|refine zT rfl ?_)) (by (try unfold zg);(repeat constructor)) ?_
 rintro i ⟨hi,hall⟩
 simp only [zAk,zg,List.cons_append,List.nil_append]
 by_cases hlt:i<gns.length
 ·obtain ⟨x,hx⟩:∃ x,gns[i]?=some x:=⟨_,List.getElem?_eq_getElem hlt⟩
  have:zAT gns i x:=⟨hx⟩
  obtain ⟨bA,oA,hAe,hAl,hAc⟩:=h3.at_ hlt
  subst hAe
  have:InS w bA oA zEt 2 gns:=⟨h3⟩
  have hF1:=fun (hF:TnF (⟨l,nas,NA,nc,gns,some ⟨bA,oA,none⟩,gc,total,gap,down,every,seats,pace,ats,AA,ac,p1,p2,p3⟩:TrM))=>hF.gn i x hx
  have hy1:=fun (hN:GnF nas.length gns i x) (j:Nat) y (hj:j<i+1) (hy:gns[j]?=some y)=>(show GnF nas.length gns j y from by
   rcases Nat.lt_succ_iff_lt_or_eq.1 hj with h9|rfl
   ·exact hall j y h9 hy
   ·rw [hx] at hy;cases hy;exact hN)
  obtain ⟨na,af⟩:=x
  simp only [GnF] at hF1 hy1
  rcases Nat.eq_zero_or_pos i with rfl|hi0
  ·(repeat' (first|((with_reducible refine zG ?_);first|refine zD rfl rfl rfl ?_|(refine zJ rfl rfl rfl ?_;refine ⟨_,rfl,?_⟩)|refine zL rfl rfl rfl ?_|(refine zS rfl rfl rfl rfl rfl (fun h=>?_) (fun h=>?_)<;>(dsimp only [cmpP] at h;(try (exfalso;omega))))|refine zo (I:=0) rfl rfl rfl rfl rfl (by omega) ?_|refine zn rfl rfl rfl ?_|(refine zX rfl rfl rfl rfl rfl ?_;refine ⟨rfl,by first|decide|exact Nat.le_of_ble_eq_true rfl|(simp;omega),_,rfl,?_⟩)|(refine zb rfl rfl (fun b=>?_)))|(with_reducible first|refine zI ?_|refine zB ?_|refine zE ?_|refine zA ?_|refine zR ?_|refine zQ ?_)|((with_reducible refine zH ?_ ?_);(· exact rfl))))
   (refine zAD (by kernel_rfl) (by kernel_rfl) (by kernel_rfl) ?_)
   (repeat' (first|((with_reducible refine zAP ?_);first|refine zM (zl rfl rfl) rfl ?_|refine zM (zW rfl rfl (by exact rfl)) rfl ?_|refine zM (zY rfl rfl) rfl ?_|refine zM (zAh rfl rfl rfl) rfl ?_|refine zAJ rfl rfl rfl ?_|(refine zAu rfl rfl rfl rfl rfl (fun h=>?_) (fun h=>?_)<;>(dsimp only [cmpP] at h;(try (exfalso;omega))))|(refine zCb rfl rfl rfl rfl (fun _ _ q=>zAW _ _ _ _) (fun h=>?_) (fun h=>?_)<;>(simp only [zAA,zBO] at h)<;>(try (exfalso;omega)))|refine zM (zDt rfl rfl) rfl ?_|refine zM (zBW rfl rfl rfl (IntWalk.i64_in _ (by omega))) rfl ?_)|(with_reducible refine zAe ?_)))
   all_goals (repeat' (first|((with_reducible refine zG ?_);first|refine zD rfl rfl rfl ?_|refine zC rfl rfl rfl ?_|refine zu rfl rfl rfl rfl (by omega) ?_)|(with_reducible first|refine zI ?_|refine zB ?_|refine zE ?_|refine zA ?_|refine zV ?_|refine zR ?_|refine zU ?_|refine zj ?_|refine zAV ?_)|((with_reducible refine zH ?_ ?_);(· exact rfl))|((with_reducible refine zF ?_ ?_);(· exact rfl))))
   all_goals first|(refine zP (by exact rTm rfl) () trivial ?_ (fun _ h=>h.sub (by (repeat constructor)));refine congrArg Value.bool (hno fun hF=>?_);have h8:=hF1 hF;omega)|skip
   exact zd (ι:=Nat) (0+1) ⟨by omega,hy1 ⟨⟨by omega,by omega,fun y h0=>absurd h0 (Nat.lt_irrefl _)⟩,by omega⟩⟩ (by omega) (by (repeat first|exact lK1|refine zT rfl ?_)) (by (repeat constructor))
  ·obtain ⟨y,hy⟩:∃ y,gns[i - 1]?=some y:=⟨_,List.getElem?_eq_getElem (by omega)⟩
   have:zAT gns (i - 1) y:=⟨hy⟩
   (repeat' (first|((with_reducible refine zG ?_);first|refine zD rfl rfl rfl ?_|(refine zJ rfl rfl rfl ?_;refine ⟨_,rfl,?_⟩)|refine zL rfl rfl rfl ?_|(refine zS rfl rfl rfl rfl rfl (fun h=>?_) (fun h=>?_)<;>(dsimp only [cmpP] at h;(try (exfalso;omega))))|refine zo (I:=i) rfl rfl rfl rfl rfl (by omega) ?_|refine zn rfl rfl rfl ?_|(refine zX rfl rfl rfl rfl rfl ?_;refine ⟨rfl,by first|decide|exact Nat.le_of_ble_eq_true rfl|(simp;omega),_,rfl,?_⟩)|(refine zb rfl rfl (fun b=>?_)))|(with_reducible first|refine zI ?_|refine zB ?_|refine zE ?_|refine zA ?_|refine zR ?_|refine zQ ?_)|((with_reducible refine zH ?_ ?_);(· exact rfl))))
   (refine zAD (by kernel_rfl) (by kernel_rfl) (by kernel_rfl) ?_)
   (repeat' (first|((with_reducible refine zAP ?_);first|refine zM (zl rfl rfl) rfl ?_|refine zM (zW rfl rfl (by exact rfl)) rfl ?_|refine zM (zY rfl rfl) rfl ?_|refine zM (zAh rfl rfl rfl) rfl ?_|refine zAJ rfl rfl rfl ?_|(refine zAu rfl rfl rfl rfl rfl (fun h=>?_) (fun h=>?_)<;>(dsimp only [cmpP] at h;(try (exfalso;omega))))|refine zM (zw (I:=(i - 1)) rfl rfl rfl (by omega) (by first|omega|(dsimp only;omega))) rfl ?_|(refine zCb rfl rfl rfl rfl (fun _ _ q=>zAW _ _ _ _) (fun h=>?_) (fun h=>?_)<;>(simp only [zAA,zBO] at h)<;>(try (exfalso;omega)))|refine zM (zDt rfl rfl) rfl ?_|refine zM (zBW rfl rfl rfl (IntWalk.i64_in _ (by omega))) rfl ?_)|(with_reducible refine zAe ?_)))
   all_goals (repeat' (first|((with_reducible refine zG ?_);first|refine zD rfl rfl rfl ?_|refine zC rfl rfl rfl ?_|refine zu rfl rfl rfl rfl (by omega) ?_)|(with_reducible first|refine zI ?_|refine zB ?_|refine zE ?_|refine zA ?_|refine zV ?_|refine zR ?_|refine zU ?_|refine zj ?_|refine zAV ?_)|((with_reducible refine zH ?_ ?_);(· exact rfl))|((with_reducible refine zF ?_ ?_);(· exact rfl))))
   all_goals first|(refine zP (by exact rTm rfl) () trivial ?_ (fun _ h=>h.sub (by (repeat constructor)));refine congrArg Value.bool (hno fun hF=>?_);have h8:=hF1 hF;have h7:=h8.1.2.2 y hi0 hy;omega)|skip
   exact zd (ι:=Nat) (i+1) ⟨by omega,hy1 ⟨⟨by omega,by omega,fun z _ hz=>by rw [hy] at hz;cases hz;omega⟩,by omega⟩⟩ (by omega) (by (repeat first|exact lK1|refine zT rfl ?_)) (by (repeat constructor))
 obtain rfl:i=gns.length:=by omega
 have hgn:∀ (j:Nat) x,gns[j]?=some x→GnF nas.length gns j x:=fun j x hj=>hall j x (List.getElem?_eq_some_iff.1 hj).1 hj
 (repeat' (first|((with_reducible refine zG ?_);first|refine zD rfl rfl rfl ?_|refine zC rfl rfl rfl ?_|(refine zJ rfl rfl rfl ?_;refine ⟨_,rfl,?_⟩)|refine zL rfl rfl rfl ?_|(refine zS rfl rfl rfl rfl rfl (fun h=>?_) (fun h=>?_)<;>(dsimp only [cmpP] at h;(try (exfalso;omega))))|refine zn rfl rfl rfl ?_)|(with_reducible first|refine zI ?_|refine zB ?_|refine zE ?_|refine zA ?_|refine zQ ?_|refine zz ?_|refine zZ ?_|refine ze ?_)|((with_reducible refine zF ?_ ?_);(· exact rfl))))
 refine zAB (ι:=Nat) [1,3] rfl (fun i=>i≤ats.length∧∀ (j:Nat) x,j<i→ats[j]?=some x→AtF l nas.length ats j x) (fun i=>[(8,.int .i64 (i:Int))]) (fun _=>[.blk b1 (zg (⟨l,nas,NA,nc,gns,GA,gc,total,gap,down,every,seats,pace,ats,AA,ac,p1,p2,p3⟩:TrM))]) (fun i=>ats.length - i) 0 ⟨Nat.zero_le _,fun j x hj=>absurd hj (Nat.not_lt_zero _)⟩ (by (repeat first|exact lK1|refine zT rfl ?_)) (by (try unfold zg);(repeat constructor)) ?_
 rintro i ⟨hi,hall⟩
 simp only [zAk,zg,List.cons_append,List.nil_append]
 by_cases hlt:i<ats.length
 ·obtain ⟨x,hx⟩:∃ x,ats[i]?=some x:=⟨_,List.getElem?_eq_getElem hlt⟩
  have:zAT ats i x:=⟨hx⟩
  obtain ⟨bA,oA,hAe,hAl,hAc⟩:=h4.at_ hlt
  subst hAe
  have:InS w bA oA zB1 4 ats:=⟨h4⟩
  have hxm:=List.mem_of_getElem? hx
  have h5x:=h5 x hxm
  have k5x:=k5 x hxm
  have hF1:=fun (hF:TnF (⟨l,nas,NA,nc,gns,GA,gc,total,gap,down,every,seats,pace,ats,some ⟨bA,oA,none⟩,ac,p1,p2,p3⟩:TrM))=>hF.at_ i x hx
  have hy1:=fun (hN:AtF l nas.length ats i x) (j:Nat) y (hj:j<i+1) (hy:ats[j]?=some y)=>(show AtF l nas.length ats j y from by
   rcases Nat.lt_succ_iff_lt_or_eq.1 hj with h9|rfl
   ·exact hall j y h9 hy
   ·rw [hx] at hy;cases hy;exact hN)
  obtain ⟨id,na,ag,RA,rides,rc⟩:=x
  simp only at h5x k5x
  simp only [AtF] at hF1
  rcases Nat.eq_zero_or_pos i with rfl|hi0
  ·(repeat' (first|((with_reducible refine zG ?_);first|refine zD rfl rfl rfl ?_|(refine zJ rfl rfl rfl ?_;refine ⟨_,rfl,?_⟩)|refine zL rfl rfl rfl ?_|(refine zS rfl rfl rfl rfl rfl (fun h=>?_) (fun h=>?_)<;>(dsimp only [cmpP] at h;(try (exfalso;omega))))|refine zo (I:=0) rfl rfl rfl rfl rfl (by omega) ?_|refine zn rfl rfl rfl ?_|(refine zX rfl rfl rfl rfl rfl ?_;refine ⟨rfl,by first|decide|exact Nat.le_of_ble_eq_true rfl|(simp;omega),_,rfl,?_⟩)|(refine zb rfl rfl (fun b=>?_)))|(with_reducible first|refine zI ?_|refine zB ?_|refine zE ?_|refine zA ?_|refine zR ?_|refine zQ ?_)|((with_reducible refine zH ?_ ?_);(· exact rfl))))
   obtain ⟨b9,hb9⟩:∃ y,y=b:=⟨_,rfl⟩
   subst hb9
   (refine zAD (by kernel_rfl) (by kernel_rfl) (by kernel_rfl) ?_)
   (repeat' (first|((with_reducible refine zAP ?_);first|refine zM (zl rfl rfl) rfl ?_|refine zM (zW rfl rfl (by exact rfl)) rfl ?_|refine zM (zY rfl rfl) rfl ?_|refine zM (zAh rfl rfl rfl) rfl ?_|refine zAJ rfl rfl rfl ?_|(refine zAu rfl rfl rfl rfl rfl (fun h=>?_) (fun h=>?_)<;>(dsimp only [cmpP] at h;(try (exfalso;omega))))|(refine zCb rfl rfl rfl rfl (fun _ _ q=>zAW _ _ _ _) (fun h=>?_) (fun h=>?_)<;>(simp only [zAA,zBO] at h)<;>(try (exfalso;omega)))|refine zM (zDt rfl rfl) rfl ?_|refine zM (zBW rfl rfl rfl (IntWalk.i64_in _ (by omega))) rfl ?_|refine zM (zEu rfl rfl) rfl ?_)|(with_reducible refine zAe ?_)))
   all_goals (repeat' (first|((with_reducible refine zG ?_);first|refine zC rfl rfl rfl ?_)|(with_reducible first|refine zI ?_|refine zB ?_|refine zE ?_|refine zA ?_|refine zV ?_|refine zR ?_|refine zU ?_|refine zQ ?_|refine zAV ?_)|((with_reducible refine zH ?_ ?_);(· exact rfl))|((with_reducible refine zF ?_ ?_);(· exact rfl))))
   all_goals first|(refine zP (by exact rTm rfl) () trivial ?_ (fun _ h=>h.sub (by (repeat constructor)));refine congrArg Value.bool (hno fun hF=>?_);have h8:=hF1 hF;omega)|skip
   have hfin:(∀ (k:Nat) y,rides[k]?=some y→zAt l y.r=0)→AtF l nas.length ats 0 ⟨id,na,ag,RA,rides,rc⟩:=fun h9=>⟨⟨by simp only;omega,by simp only;omega,fun y h0=>absurd h0 (Nat.lt_irrefl _)⟩,⟨by simp only;omega,by simp only;omega⟩,⟨by simp only;omega,by simp only;omega⟩,by simp only;omega,h9⟩
   refine zAB (ι:=Nat) [1,3,8,9] rfl (fun k=>k≤rides.length∧∀ (j:Nat) y,j<k→rides[j]?=some y→zAt l y.r=0) (fun k=>[(10,.int .i64 (k:Int))]) (fun _=>[.blk b9 (zB1 ⟨id,na,ag,RA,rides,rc⟩),.blk b1 (zg (⟨l,nas,NA,nc,gns,GA,gc,total,gap,down,every,seats,pace,ats,some ⟨bA,oA,none⟩,ac,p1,p2,p3⟩:TrM))]) (fun k=>rides.length - k) 0 ⟨Nat.zero_le _,fun j x hj=>absurd hj (Nat.not_lt_zero _)⟩ (by (repeat first|exact lK1|refine zT rfl ?_)) (by unfold zg;(repeat constructor)) ?_
   rintro k ⟨hk,hal⟩
   simp only [zAk,zg,List.cons_append,List.nil_append]
   by_cases hkl:k<rides.length
   ·obtain ⟨y,hy⟩:∃ y,rides[k]?=some y:=⟨_,List.getElem?_eq_getElem hkl⟩
    have:zAT rides k y:=⟨hy⟩
    obtain ⟨bR,oR,hRe,hRl,hRc⟩:=h5x.at_ hkl
    subst hRe
    have:InS w bR oR zAN 3 rides:=⟨h5x⟩
    have hym:=List.mem_of_getElem? hy
    have hWh:=fun W (hW:Below w.heap.size w W)=>zFM l y W (h1.below hW) k1 ((h6 _ hxm y hym).below hW) (by have:=k6 _ hxm y hym;omega)
    unfold vLn vRd at hWh
    have hF2:=fun (hF:TnF (⟨l,nas,NA,nc,gns,GA,gc,total,gap,down,every,seats,pace,ats,some ⟨bA,oA,none⟩,ac,p1,p2,p3⟩:TrM))=>(hF1 hF).2.2.2.2 k y hy
    have hal2:=fun (hN:zAt l y.r=0) (j:Nat) z (hj:j<k+1) (hz:rides[j]?=some z)=>(show zAt l z.r=0 from by
     rcases Nat.lt_succ_iff_lt_or_eq.1 hj with h9|rfl
     ·exact hal j z h9 hz
     ·rw [hy] at hz;cases hz;exact hN)
    generalize zFg l y.r=nu at *
    generalize zAt l y.r=er at *
    by_cases h0:er=0
    ·subst h0
     (repeat' (first|((with_reducible refine zG ?_);first|refine zD rfl rfl rfl ?_|(refine zJ rfl rfl rfl ?_;refine ⟨_,rfl,?_⟩)|refine zL rfl rfl rfl ?_|(refine zS rfl rfl rfl rfl rfl (fun h=>?_) (fun h=>?_)<;>(dsimp only [cmpP] at h;(try (exfalso;omega))))|refine zn rfl rfl rfl ?_)|(with_reducible first|refine zI ?_|refine zB ?_|refine zE ?_|refine zA ?_|refine zR ?_|refine zQ ?_)|((with_reducible refine zH ?_ ?_);(· exact rfl))))
     (refine z9 [] [] [] rfl (show ([]:List Nat).Nodup by decide) (fun _ h=>h) (by kernel_rfl) [[],[Z],[Y,Y],[Z,Y,Y],[Y,Y,Y,Y],[Z,Z,Z,Y,Y],[Z,Z,Z,Z,Y,Y],[Z,Z,Z,Z,Z,Z,Z],[Z,Z,Z,Z,Z,Z,Z,Z],[Z,Z,Z,Z,Z,Z,Z,Z,Z],[Y,Z,Z,Z,Z,Z,Z,Z,Z,Z],[Y,Z,Z,Z,Z,Z,Z,Z,Z,Z,Z],[Z,Z,Z,Z,Z,Z,Z,Z,Z,Z,Z,Z]] (by kernel_rfl) (by kernel_rfl) (by kernel_rfl) (by kernel_rfl) (by kernel_rfl) ?_)
     (repeat' (first|(((with_reducible refine zA0 ?_ ?_);(· exact rfl);refine ⟨_,fun G=>(by (try simp (decide:=true) only [vis,see,fltT,zq,Nat.reduceAdd,Nat.reduceSub,if_true,if_false,List.set_cons_zero,List.set_cons_succ,List.set_nil,List.nil_append,List.cons_append]);rfl),?_⟩);first|refine zN _ (fun _=>zl rfl rfl) (fun _=>rfl) rfl (by intro G G' h;simp (decide:=true) only [h]) ?_|refine zN _ (fun _=>zW rfl rfl (by exact rfl)) (fun _=>rfl) rfl (by intro G G' h;simp (decide:=true) only [h]) ?_|(refine zm rfl ?_;refine zN _ (fun _=>zY rfl rfl) (fun _=>rfl) rfl (by intro G G' h;simp (decide:=true) only [h]) ?_)|refine zN _ (fun _=>zt rfl rfl) (fun _=>rfl) rfl (by intro G G' h;simp (decide:=true) only [h]) ?_|(refine zAj rfl ?_;refine zN _ (fun _=>zw (I:=k) rfl rfl rfl rfl (by omega)) (fun _=>rfl) rfl (by exact fun _ _ _=>rfl) ?_)|(refine zAM rfl ?_;refine zGr rfl (fun _=>rfl) rfl (fun _=>rfl) (fun _=>rfl) (fun _ _ _ q=>hWh _ q.below) ?_)|refine zN _ (fun _=>zAL rfl rfl rfl) (fun _=>rfl) rfl (by intro G G' h;simp (decide:=true) only [h]) ?_)|(with_reducible refine zAx ?_)))
     (intro G;simp only [regsT,zq,zAa,ini,List.nil_append,List.cons_append])
     (repeat' (first|((with_reducible refine zG ?_);first|refine zD rfl rfl rfl ?_|refine zC rfl rfl rfl ?_|(refine zS rfl rfl rfl rfl rfl (fun h=>?_) (fun h=>?_)<;>(dsimp only [cmpP] at h;(try (exfalso;omega))))|refine zu rfl rfl rfl rfl (by omega) ?_)|(with_reducible first|refine zI ?_|refine zB ?_|refine zE ?_|refine zA ?_|refine zR ?_|refine zj ?_)|((with_reducible refine zF ?_ ?_);(· exact rfl))))
     exact zd (ι:=Nat) (k+1) ⟨by omega,hal2 rfl⟩ (by omega) (by (repeat first|exact lK1|refine zT rfl ?_)) (by (repeat constructor))
    ·(repeat' (first|((with_reducible refine zG ?_);first|refine zD rfl rfl rfl ?_|(refine zJ rfl rfl rfl ?_;refine ⟨_,rfl,?_⟩)|refine zL rfl rfl rfl ?_|(refine zS rfl rfl rfl rfl rfl (fun h=>?_) (fun h=>?_)<;>(dsimp only [cmpP] at h;(try (exfalso;omega))))|refine zn rfl rfl rfl ?_)|(with_reducible first|refine zI ?_|refine zB ?_|refine zE ?_|refine zA ?_|refine zR ?_|refine zQ ?_)|((with_reducible refine zH ?_ ?_);(· exact rfl))))
     (refine z9 [] [] [] rfl (show ([]:List Nat).Nodup by decide) (fun _ h=>h) (by kernel_rfl) [[],[Z],[Y,Y],[Z,Y,Y],[Y,Y,Y,Y],[Z,Z,Z,Y,Y],[Z,Z,Z,Z,Y,Y],[Z,Z,Z,Z,Z,Z,Z],[Z,Z,Z,Z,Z,Z,Z,Z],[Z,Z,Z,Z,Z,Z,Z,Z,Z],[Y,Z,Z,Z,Z,Z,Z,Z,Z,Z],[Y,Z,Z,Z,Z,Z,Z,Z,Z,Z,Z],[Z,Z,Z,Z,Z,Z,Z,Z,Z,Z,Z,Z]] (by kernel_rfl) (by kernel_rfl) (by kernel_rfl) (by kernel_rfl) (by kernel_rfl) ?_)
     (repeat' (first|(((with_reducible refine zA0 ?_ ?_);(· exact rfl);refine ⟨_,fun G=>(by (try simp (decide:=true) only [vis,see,fltT,zq,Nat.reduceAdd,Nat.reduceSub,if_true,if_false,List.set_cons_zero,List.set_cons_succ,List.set_nil,List.nil_append,List.cons_append]);rfl),?_⟩);first|refine zN _ (fun _=>zl rfl rfl) (fun _=>rfl) rfl (by intro G G' h;simp (decide:=true) only [h]) ?_|refine zN _ (fun _=>zW rfl rfl (by exact rfl)) (fun _=>rfl) rfl (by intro G G' h;simp (decide:=true) only [h]) ?_|(refine zm rfl ?_;refine zN _ (fun _=>zY rfl rfl) (fun _=>rfl) rfl (by intro G G' h;simp (decide:=true) only [h]) ?_)|refine zN _ (fun _=>zt rfl rfl) (fun _=>rfl) rfl (by intro G G' h;simp (decide:=true) only [h]) ?_|(refine zAj rfl ?_;refine zN _ (fun _=>zw (I:=k) rfl rfl rfl rfl (by omega)) (fun _=>rfl) rfl (by exact fun _ _ _=>rfl) ?_)|(refine zAM rfl ?_;refine zGr rfl (fun _=>rfl) rfl (fun _=>rfl) (fun _=>rfl) (fun _ _ _ q=>hWh _ q.below) ?_)|refine zN _ (fun _=>zAL rfl rfl rfl) (fun _=>rfl) rfl (by intro G G' h;simp (decide:=true) only [h]) ?_)|(with_reducible refine zAx ?_)))
     (intro G;simp only [regsT,zq,zAa,ini,List.nil_append,List.cons_append])
     (repeat' (first|((with_reducible refine zG ?_);first|refine zD rfl rfl rfl ?_|refine zC rfl rfl rfl ?_|(refine zS rfl rfl rfl rfl rfl (fun h=>?_) (fun h=>?_)<;>(dsimp only [cmpP] at h;(try (exfalso;omega)))))|(with_reducible first|refine zI ?_|refine zB ?_|refine zE ?_|refine zA ?_|refine zV ?_|refine zU ?_|refine zAV ?_)|((with_reducible refine zH ?_ ?_);(· exact rfl))))
     refine zP (by exact rTm rfl) () trivial ?_ (fun _ h=>h.sub (by (repeat constructor)))
     exact congrArg Value.bool (hno fun hF=>h0 (hF2 hF))
   obtain rfl:k=rides.length:=by omega
   (repeat' (first|((with_reducible refine zG ?_);first|refine zD rfl rfl rfl ?_|refine zC rfl rfl rfl ?_|(refine zJ rfl rfl rfl ?_;refine ⟨_,rfl,?_⟩)|refine zL rfl rfl rfl ?_|(refine zS rfl rfl rfl rfl rfl (fun h=>?_) (fun h=>?_)<;>(dsimp only [cmpP] at h;(try (exfalso;omega))))|refine zu rfl rfl rfl rfl (by omega) ?_|refine zn rfl rfl rfl ?_)|(with_reducible first|refine zI ?_|refine zB ?_|refine zE ?_|refine zA ?_|refine zz ?_|refine zj ?_|refine zZ ?_|refine ze ?_)|((with_reducible refine zF ?_ ?_);(· exact rfl))))
   exact zd (ι:=Nat) (0+1) ⟨by omega,hy1 (hfin fun j y hj=>hal j y (List.getElem?_eq_some_iff.1 hj).1 hj)⟩ (by omega) (by (repeat first|exact lK1|refine zT rfl ?_)) (by (repeat constructor))
  ·obtain ⟨y0,hy0⟩:∃ y,ats[i - 1]?=some y:=⟨_,List.getElem?_eq_getElem (by omega)⟩
   have:zAT ats (i - 1) y0:=⟨hy0⟩
   (repeat' (first|((with_reducible refine zG ?_);first|refine zD rfl rfl rfl ?_|(refine zJ rfl rfl rfl ?_;refine ⟨_,rfl,?_⟩)|refine zL rfl rfl rfl ?_|(refine zS rfl rfl rfl rfl rfl (fun h=>?_) (fun h=>?_)<;>(dsimp only [cmpP] at h;(try (exfalso;omega))))|refine zo (I:=i) rfl rfl rfl rfl rfl (by omega) ?_|refine zn rfl rfl rfl ?_|(refine zX rfl rfl rfl rfl rfl ?_;refine ⟨rfl,by first|decide|exact Nat.le_of_ble_eq_true rfl|(simp;omega),_,rfl,?_⟩)|(refine zb rfl rfl (fun b=>?_)))|(with_reducible first|refine zI ?_|refine zB ?_|refine zE ?_|refine zA ?_|refine zR ?_|refine zQ ?_)|((with_reducible refine zH ?_ ?_);(· exact rfl))))
   obtain ⟨b9,hb9⟩:∃ y,y=b:=⟨_,rfl⟩
   subst hb9
   (refine zAD (by kernel_rfl) (by kernel_rfl) (by kernel_rfl) ?_)
   (repeat' (first|((with_reducible refine zAP ?_);first|refine zM (zl rfl rfl) rfl ?_|refine zM (zW rfl rfl (by exact rfl)) rfl ?_|refine zM (zY rfl rfl) rfl ?_|refine zM (zAh rfl rfl rfl) rfl ?_|refine zAJ rfl rfl rfl ?_|(refine zAu rfl rfl rfl rfl rfl (fun h=>?_) (fun h=>?_)<;>(dsimp only [cmpP] at h;(try (exfalso;omega))))|refine zM (zw (I:=(i - 1)) rfl rfl rfl (by omega) (by first|omega|(dsimp only;omega))) rfl ?_|(refine zCb rfl rfl rfl rfl (fun _ _ q=>zAW _ _ _ _) (fun h=>?_) (fun h=>?_)<;>(simp only [zAA,zBO] at h)<;>(try (exfalso;omega)))|refine zM (zDt rfl rfl) rfl ?_|refine zM (zBW rfl rfl rfl (IntWalk.i64_in _ (by omega))) rfl ?_|refine zM (zEu rfl rfl) rfl ?_)|(with_reducible refine zAe ?_)))
   all_goals (repeat' (first|((with_reducible refine zG ?_);first|refine zC rfl rfl rfl ?_)|(with_reducible first|refine zI ?_|refine zB ?_|refine zE ?_|refine zA ?_|refine zV ?_|refine zR ?_|refine zU ?_|refine zQ ?_|refine zAV ?_)|((with_reducible refine zH ?_ ?_);(· exact rfl))|((with_reducible refine zF ?_ ?_);(· exact rfl))))
   all_goals first|(refine zP (by exact rTm rfl) () trivial ?_ (fun _ h=>h.sub (by (repeat constructor)));refine congrArg Value.bool (hno fun hF=>?_);have h8:=hF1 hF;have h7:=h8.1.2.2 y0 hi0 hy0;omega)|skip
   have hfin:(∀ (k:Nat) y,rides[k]?=some y→zAt l y.r=0)→AtF l nas.length ats i ⟨id,na,ag,RA,rides,rc⟩:=fun h9=>⟨⟨by simp only;omega,by simp only;omega,fun z _ hz=>by rw [hy0] at hz;cases hz;simp only;omega⟩,⟨by simp only;omega,by simp only;omega⟩,⟨by simp only;omega,by simp only;omega⟩,by simp only;omega,h9⟩
   refine zAB (ι:=Nat) [1,3,8,9] rfl (fun k=>k≤rides.length∧∀ (j:Nat) y,j<k→rides[j]?=some y→zAt l y.r=0) (fun k=>[(10,.int .i64 (k:Int))]) (fun _=>[.blk b9 (zB1 ⟨id,na,ag,RA,rides,rc⟩),.blk b1 (zg (⟨l,nas,NA,nc,gns,GA,gc,total,gap,down,every,seats,pace,ats,some ⟨bA,oA,none⟩,ac,p1,p2,p3⟩:TrM))]) (fun k=>rides.length - k) 0 ⟨Nat.zero_le _,fun j x hj=>absurd hj (Nat.not_lt_zero _)⟩ (by (repeat first|exact lK1|refine zT rfl ?_)) (by unfold zg;(repeat constructor)) ?_
   rintro k ⟨hk,hal⟩
   simp only [zAk,zg,List.cons_append,List.nil_append]
   by_cases hkl:k<rides.length
   ·obtain ⟨y,hy⟩:∃ y,rides[k]?=some y:=⟨_,List.getElem?_eq_getElem hkl⟩
    have:zAT rides k y:=⟨hy⟩
    obtain ⟨bR,oR,hRe,hRl,hRc⟩:=h5x.at_ hkl
    subst hRe
    have:InS w bR oR zAN 3 rides:=⟨h5x⟩
    have hym:=List.mem_of_getElem? hy
    have hWh:=fun W (hW:Below w.heap.size w W)=>zFM l y W (h1.below hW) k1 ((h6 _ hxm y hym).below hW) (by have:=k6 _ hxm y hym;omega)
    unfold vLn vRd at hWh
    have hF2:=fun (hF:TnF (⟨l,nas,NA,nc,gns,GA,gc,total,gap,down,every,seats,pace,ats,some ⟨bA,oA,none⟩,ac,p1,p2,p3⟩:TrM))=>(hF1 hF).2.2.2.2 k y hy
    have hal2:=fun (hN:zAt l y.r=0) (j:Nat) z (hj:j<k+1) (hz:rides[j]?=some z)=>(show zAt l z.r=0 from by
     rcases Nat.lt_succ_iff_lt_or_eq.1 hj with h9|rfl
     ·exact hal j z h9 hz
     ·rw [hy] at hz;cases hz;exact hN)
    generalize zFg l y.r=nu at *
    generalize zAt l y.r=er at *
    by_cases h0:er=0
    ·subst h0
     (repeat' (first|((with_reducible refine zG ?_);first|refine zD rfl rfl rfl ?_|(refine zJ rfl rfl rfl ?_;refine ⟨_,rfl,?_⟩)|refine zL rfl rfl rfl ?_|(refine zS rfl rfl rfl rfl rfl (fun h=>?_) (fun h=>?_)<;>(dsimp only [cmpP] at h;(try (exfalso;omega))))|refine zn rfl rfl rfl ?_)|(with_reducible first|refine zI ?_|refine zB ?_|refine zE ?_|refine zA ?_|refine zR ?_|refine zQ ?_)|((with_reducible refine zH ?_ ?_);(· exact rfl))))
     (refine z9 [] [] [] rfl (show ([]:List Nat).Nodup by decide) (fun _ h=>h) (by kernel_rfl) [[],[Z],[Y,Y],[Z,Y,Y],[Y,Y,Y,Y],[Z,Z,Z,Y,Y],[Z,Z,Z,Z,Y,Y],[Z,Z,Z,Z,Z,Z,Z],[Z,Z,Z,Z,Z,Z,Z,Z],[Z,Z,Z,Z,Z,Z,Z,Z,Z],[Y,Z,Z,Z,Z,Z,Z,Z,Z,Z],[Y,Z,Z,Z,Z,Z,Z,Z,Z,Z,Z],[Z,Z,Z,Z,Z,Z,Z,Z,Z,Z,Z,Z]] (by kernel_rfl) (by kernel_rfl) (by kernel_rfl) (by kernel_rfl) (by kernel_rfl) ?_)
     (repeat' (first|(((with_reducible refine zA0 ?_ ?_);(· exact rfl);refine ⟨_,fun G=>(by (try simp (decide:=true) only [vis,see,fltT,zq,Nat.reduceAdd,Nat.reduceSub,if_true,if_false,List.set_cons_zero,List.set_cons_succ,List.set_nil,List.nil_append,List.cons_append]);rfl),?_⟩);first|refine zN _ (fun _=>zl rfl rfl) (fun _=>rfl) rfl (by intro G G' h;simp (decide:=true) only [h]) ?_|refine zN _ (fun _=>zW rfl rfl (by exact rfl)) (fun _=>rfl) rfl (by intro G G' h;simp (decide:=true) only [h]) ?_|(refine zm rfl ?_;refine zN _ (fun _=>zY rfl rfl) (fun _=>rfl) rfl (by intro G G' h;simp (decide:=true) only [h]) ?_)|refine zN _ (fun _=>zt rfl rfl) (fun _=>rfl) rfl (by intro G G' h;simp (decide:=true) only [h]) ?_|(refine zAj rfl ?_;refine zN _ (fun _=>zw (I:=k) rfl rfl rfl rfl (by omega)) (fun _=>rfl) rfl (by exact fun _ _ _=>rfl) ?_)|(refine zAM rfl ?_;refine zGr rfl (fun _=>rfl) rfl (fun _=>rfl) (fun _=>rfl) (fun _ _ _ q=>hWh _ q.below) ?_)|refine zN _ (fun _=>zAL rfl rfl rfl) (fun _=>rfl) rfl (by intro G G' h;simp (decide:=true) only [h]) ?_)|(with_reducible refine zAx ?_)))
     (intro G;simp only [regsT,zq,zAa,ini,List.nil_append,List.cons_append])
     (repeat' (first|((with_reducible refine zG ?_);first|refine zD rfl rfl rfl ?_|refine zC rfl rfl rfl ?_|(refine zS rfl rfl rfl rfl rfl (fun h=>?_) (fun h=>?_)<;>(dsimp only [cmpP] at h;(try (exfalso;omega))))|refine zu rfl rfl rfl rfl (by omega) ?_)|(with_reducible first|refine zI ?_|refine zB ?_|refine zE ?_|refine zA ?_|refine zR ?_|refine zj ?_)|((with_reducible refine zF ?_ ?_);(· exact rfl))))
     exact zd (ι:=Nat) (k+1) ⟨by omega,hal2 rfl⟩ (by omega) (by (repeat first|exact lK1|refine zT rfl ?_)) (by (repeat constructor))
    ·(repeat' (first|((with_reducible refine zG ?_);first|refine zD rfl rfl rfl ?_|(refine zJ rfl rfl rfl ?_;refine ⟨_,rfl,?_⟩)|refine zL rfl rfl rfl ?_|(refine zS rfl rfl rfl rfl rfl (fun h=>?_) (fun h=>?_)<;>(dsimp only [cmpP] at h;(try (exfalso;omega))))|refine zn rfl rfl rfl ?_)|(with_reducible first|refine zI ?_|refine zB ?_|refine zE ?_|refine zA ?_|refine zR ?_|refine zQ ?_)|((with_reducible refine zH ?_ ?_);(· exact rfl))))
     (refine z9 [] [] [] rfl (show ([]:List Nat).Nodup by decide) (fun _ h=>h) (by kernel_rfl) [[],[Z],[Y,Y],[Z,Y,Y],[Y,Y,Y,Y],[Z,Z,Z,Y,Y],[Z,Z,Z,Z,Y,Y],[Z,Z,Z,Z,Z,Z,Z],[Z,Z,Z,Z,Z,Z,Z,Z],[Z,Z,Z,Z,Z,Z,Z,Z,Z],[Y,Z,Z,Z,Z,Z,Z,Z,Z,Z],[Y,Z,Z,Z,Z,Z,Z,Z,Z,Z,Z],[Z,Z,Z,Z,Z,Z,Z,Z,Z,Z,Z,Z]] (by kernel_rfl) (by kernel_rfl) (by kernel_rfl) (by kernel_rfl) (by kernel_rfl) ?_)
     (repeat' (first|(((with_reducible refine zA0 ?_ ?_);(· exact rfl);refine ⟨_,fun G=>(by (try simp (decide:=true) only [vis,see,fltT,zq,Nat.reduceAdd,Nat.reduceSub,if_true,if_false,List.set_cons_zero,List.set_cons_succ,List.set_nil,List.nil_append,List.cons_append]);rfl),?_⟩);first|refine zN _ (fun _=>zl rfl rfl) (fun _=>rfl) rfl (by intro G G' h;simp (decide:=true) only [h]) ?_|refine zN _ (fun _=>zW rfl rfl (by exact rfl)) (fun _=>rfl) rfl (by intro G G' h;simp (decide:=true) only [h]) ?_|(refine zm rfl ?_;refine zN _ (fun _=>zY rfl rfl) (fun _=>rfl) rfl (by intro G G' h;simp (decide:=true) only [h]) ?_)|refine zN _ (fun _=>zt rfl rfl) (fun _=>rfl) rfl (by intro G G' h;simp (decide:=true) only [h]) ?_|(refine zAj rfl ?_;refine zN _ (fun _=>zw (I:=k) rfl rfl rfl rfl (by omega)) (fun _=>rfl) rfl (by exact fun _ _ _=>rfl) ?_)|(refine zAM rfl ?_;refine zGr rfl (fun _=>rfl) rfl (fun _=>rfl) (fun _=>rfl) (fun _ _ _ q=>hWh _ q.below) ?_)|refine zN _ (fun _=>zAL rfl rfl rfl) (fun _=>rfl) rfl (by intro G G' h;simp (decide:=true) only [h]) ?_)|(with_reducible refine zAx ?_)))
     (intro G;simp only [regsT,zq,zAa,ini,List.nil_append,List.cons_append])
     (repeat' (first|((with_reducible refine zG ?_);first|refine zD rfl rfl rfl ?_|refine zC rfl rfl rfl ?_|(refine zS rfl rfl rfl rfl rfl (fun h=>?_) (fun h=>?_)<;>(dsimp only [cmpP] at h;(try (exfalso;omega)))))|(with_reducible first|refine zI ?_|refine zB ?_|refine zE ?_|refine zA ?_|refine zV ?_|refine zU ?_|refine zAV ?_)|((with_reducible refine zH ?_ ?_);(· exact rfl))))
     refine zP (by exact rTm rfl) () trivial ?_ (fun _ h=>h.sub (by (repeat constructor)))
     exact congrArg Value.bool (hno fun hF=>h0 (hF2 hF))
   obtain rfl:k=rides.length:=by omega
   (repeat' (first|((with_reducible refine zG ?_);first|refine zD rfl rfl rfl ?_|refine zC rfl rfl rfl ?_|(refine zJ rfl rfl rfl ?_;refine ⟨_,rfl,?_⟩)|refine zL rfl rfl rfl ?_|(refine zS rfl rfl rfl rfl rfl (fun h=>?_) (fun h=>?_)<;>(dsimp only [cmpP] at h;(try (exfalso;omega))))|refine zu rfl rfl rfl rfl (by omega) ?_|refine zn rfl rfl rfl ?_)|(with_reducible first|refine zI ?_|refine zB ?_|refine zE ?_|refine zA ?_|refine zz ?_|refine zj ?_|refine zZ ?_|refine ze ?_)|((with_reducible refine zF ?_ ?_);(· exact rfl))))
   exact zd (ι:=Nat) (i+1) ⟨by omega,hy1 (hfin fun j y hj=>hal j y (List.getElem?_eq_some_iff.1 hj).1 hj)⟩ (by omega) (by (repeat first|exact lK1|refine zT rfl ?_)) (by (repeat constructor))
 obtain rfl:i=ats.length:=by omega
 have hat:∀ (j:Nat) x,ats[j]?=some x→AtF l nas.length ats j x:=fun j x hj=>hall j x (List.getElem?_eq_some_iff.1 hj).1 hj
 (repeat' (first|((with_reducible refine zG ?_);first|refine zD rfl rfl rfl ?_|refine zC rfl rfl rfl ?_|(refine zJ rfl rfl rfl ?_;refine ⟨_,rfl,?_⟩)|refine zL rfl rfl rfl ?_|(refine zS rfl rfl rfl rfl rfl (fun h=>?_) (fun h=>?_)<;>(dsimp only [cmpP] at h;(try (exfalso;omega))))|refine zn rfl rfl rfl ?_)|(with_reducible first|refine zI ?_|refine zB ?_|refine zE ?_|refine zA ?_|refine zQ ?_|refine zz ?_|refine zZ ?_|refine ze ?_)|((with_reducible refine zF ?_ ?_);(· exact rfl))))
 refine zAB (ι:=Nat) [1] rfl (fun i=>i≤3∧(1≤i→PmF p1)∧(2≤i→PmF p2)∧(3≤i→PmF p3)) (fun i=>[(13,.int .i64 (i:Int))]) (fun _=>[.blk b1 (zg (⟨l,nas,NA,nc,gns,GA,gc,total,gap,down,every,seats,pace,ats,AA,ac,p1,p2,p3⟩:TrM))]) (fun i=>3 - i) 0 ⟨Nat.zero_le _,by omega,by omega,by omega⟩ (by (repeat first|exact lK1|refine zT rfl ?_)) (by (try unfold zg);(repeat constructor)) ?_
 rintro i ⟨hi,g1,g2,g3⟩
 simp only [zAk,zg,List.cons_append,List.nil_append]
 by_cases hlt:i<3
 ·obtain ⟨pa,pr,pt⟩:=p1
  obtain ⟨qa,qr,qt⟩:=p2
  obtain ⟨ra,rr,rt⟩:=p3
  simp only [PmF] at g1 g2 g3
  obtain rfl|rfl|rfl:i=0∨i=1∨i=2:=by omega
  ·have hF1:=fun (hF:TnF ⟨l,nas,NA,nc,gns,GA,gc,total,gap,down,every,seats,pace,ats,AA,ac,⟨pa,pr,pt⟩,⟨qa,qr,qt⟩,⟨ra,rr,rt⟩⟩)=>hF.p1
   simp only [PmF] at hF1
   (repeat' (first|((with_reducible refine zG ?_);first|refine zD rfl rfl rfl ?_|refine zC rfl rfl rfl ?_|(refine zJ rfl rfl rfl ?_;refine ⟨_,rfl,?_⟩)|refine zL rfl rfl rfl ?_|refine z7 rfl rfl rfl rfl ?_|refine zf rfl rfl rfl ?_|(refine zS rfl rfl rfl rfl rfl (fun h=>?_) (fun h=>?_)<;>(dsimp only [cmpP] at h;(try (exfalso;omega))))|refine zBc (I:=0) rfl rfl rfl rfl rfl (by decide) ?_|(refine zAf rfl rfl rfl rfl (fun _ _ q=>zAW _ _ _ _) (fun h=>?_) (fun h=>?_)<;>(simp only [zAA,zBO] at h)<;>(try (exfalso;omega)))|refine zAI rfl rfl rfl ?_|refine zu rfl rfl rfl rfl (by omega) ?_|(refine zX rfl rfl rfl rfl rfl ?_;refine ⟨rfl,by first|decide|exact Nat.le_of_ble_eq_true rfl|(simp;omega),_,rfl,?_⟩)|(refine zb rfl rfl (fun b=>?_)))|(with_reducible first|refine zI ?_|refine zB ?_|refine zE ?_|refine zA ?_|refine zV ?_|refine zR ?_|refine zU ?_|refine zQ ?_|refine zj ?_|refine zAV ?_)|((with_reducible refine zH ?_ ?_);(· exact rfl))|((with_reducible refine zF ?_ ?_);(· exact rfl))))
   all_goals first|(refine zP (by exact rTm rfl) () trivial ?_ (fun _ h=>h.sub (by (repeat constructor)));refine congrArg Value.bool (hno fun hF=>?_);have h8:=hF1 hF;omega)|skip
   exact zd (ι:=Nat) (0+1) ⟨by omega,fun _=>(by simp only [PmF];omega),fun _=>(by simp only [PmF];omega),fun _=>(by simp only [PmF];omega)⟩ (by omega) (by (repeat first|exact lK1|refine zT rfl ?_)) (by (repeat constructor))
  ·have hF1:=fun (hF:TnF ⟨l,nas,NA,nc,gns,GA,gc,total,gap,down,every,seats,pace,ats,AA,ac,⟨pa,pr,pt⟩,⟨qa,qr,qt⟩,⟨ra,rr,rt⟩⟩)=>hF.p2
   simp only [PmF] at hF1
   (repeat' (first|((with_reducible refine zG ?_);first|refine zD rfl rfl rfl ?_|refine zC rfl rfl rfl ?_|(refine zJ rfl rfl rfl ?_;refine ⟨_,rfl,?_⟩)|refine zL rfl rfl rfl ?_|refine z7 rfl rfl rfl rfl ?_|refine zf rfl rfl rfl ?_|(refine zS rfl rfl rfl rfl rfl (fun h=>?_) (fun h=>?_)<;>(dsimp only [cmpP] at h;(try (exfalso;omega))))|refine zBc (I:=1) rfl rfl rfl rfl rfl (by decide) ?_|(refine zAf rfl rfl rfl rfl (fun _ _ q=>zAW _ _ _ _) (fun h=>?_) (fun h=>?_)<;>(simp only [zAA,zBO] at h)<;>(try (exfalso;omega)))|refine zAI rfl rfl rfl ?_|refine zu rfl rfl rfl rfl (by omega) ?_|(refine zX rfl rfl rfl rfl rfl ?_;refine ⟨rfl,by first|decide|exact Nat.le_of_ble_eq_true rfl|(simp;omega),_,rfl,?_⟩)|(refine zb rfl rfl (fun b=>?_)))|(with_reducible first|refine zI ?_|refine zB ?_|refine zE ?_|refine zA ?_|refine zV ?_|refine zR ?_|refine zU ?_|refine zQ ?_|refine zj ?_|refine zAV ?_)|((with_reducible refine zH ?_ ?_);(· exact rfl))|((with_reducible refine zF ?_ ?_);(· exact rfl))))
   all_goals first|(refine zP (by exact rTm rfl) () trivial ?_ (fun _ h=>h.sub (by (repeat constructor)));refine congrArg Value.bool (hno fun hF=>?_);have h8:=hF1 hF;omega)|skip
   exact zd (ι:=Nat) (1+1) ⟨by omega,fun _=>(by simp only [PmF];omega),fun _=>(by simp only [PmF];omega),fun _=>(by simp only [PmF];omega)⟩ (by omega) (by (repeat first|exact lK1|refine zT rfl ?_)) (by (repeat constructor))
  ·have hF1:=fun (hF:TnF ⟨l,nas,NA,nc,gns,GA,gc,total,gap,down,every,seats,pace,ats,AA,ac,⟨pa,pr,pt⟩,⟨qa,qr,qt⟩,⟨ra,rr,rt⟩⟩)=>hF.p3
   simp only [PmF] at hF1
   (repeat' (first|((with_reducible refine zG ?_);first|refine zD rfl rfl rfl ?_|refine zC rfl rfl rfl ?_|(refine zJ rfl rfl rfl ?_;refine ⟨_,rfl,?_⟩)|refine zL rfl rfl rfl ?_|refine z7 rfl rfl rfl rfl ?_|refine zf rfl rfl rfl ?_|(refine zS rfl rfl rfl rfl rfl (fun h=>?_) (fun h=>?_)<;>(dsimp only [cmpP] at h;(try (exfalso;omega))))|refine zBc (I:=2) rfl rfl rfl rfl rfl (by decide) ?_|(refine zAf rfl rfl rfl rfl (fun _ _ q=>zAW _ _ _ _) (fun h=>?_) (fun h=>?_)<;>(simp only [zAA,zBO] at h)<;>(try (exfalso;omega)))|refine zAI rfl rfl rfl ?_|refine zu rfl rfl rfl rfl (by omega) ?_|(refine zX rfl rfl rfl rfl rfl ?_;refine ⟨rfl,by first|decide|exact Nat.le_of_ble_eq_true rfl|(simp;omega),_,rfl,?_⟩)|(refine zb rfl rfl (fun b=>?_)))|(with_reducible first|refine zI ?_|refine zB ?_|refine zE ?_|refine zA ?_|refine zV ?_|refine zR ?_|refine zU ?_|refine zQ ?_|refine zj ?_|refine zAV ?_)|((with_reducible refine zH ?_ ?_);(· exact rfl))|((with_reducible refine zF ?_ ?_);(· exact rfl))))
   all_goals first|(refine zP (by exact rTm rfl) () trivial ?_ (fun _ h=>h.sub (by (repeat constructor)));refine congrArg Value.bool (hno fun hF=>?_);have h8:=hF1 hF;omega)|skip
   exact zd (ι:=Nat) (2+1) ⟨by omega,fun _=>(by simp only [PmF];omega),fun _=>(by simp only [PmF];omega),fun _=>(by simp only [PmF];omega)⟩ (by omega) (by (repeat first|exact lK1|refine zT rfl ?_)) (by (repeat constructor))
 obtain rfl:i=3:=by omega
 rw [hyes ⟨hone,hna,hgn,hat,g1 (by omega),g2 (by omega),g3 (by omega)⟩]
 (repeat' (first|((with_reducible refine zG ?_);first|refine zD rfl rfl rfl ?_|refine zC rfl rfl rfl ?_|(refine zS rfl rfl rfl rfl rfl (fun h=>?_) (fun h=>?_)<;>(dsimp only [cmpP] at h;(try (exfalso;omega)))))|(with_reducible first|refine zI ?_|refine zB ?_|refine zE ?_|refine zA ?_|refine zV ?_|refine zz ?_|refine zZ ?_|refine ze ?_)|((with_reducible refine zF ?_ ?_);(· exact rfl))))
 exact zP (by exact rTm rfl) () trivial rfl (fun _ h=>h.sub (by (repeat constructor)))
end Go.Proofs.YtfiekidciiighaaGreat.Two
