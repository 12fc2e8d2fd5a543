/- ZQ12 -/
import Derived.Test.YtcpdjamlhhfbhaaGreatZQ11
set_option linter.unusedSimpArgs false
set_option linter.unusedVariables false
namespace Go.Proofs.YtcpdjamlhhfbhaaGreat
variable {ro : Option Nat}
open Go.RowKit
set_option maxRecDepth 20000
structure ScF (s:ScM):Prop where
 id:0≤s.id∧s.id≤9999
 step:1≤s.step∧s.step≤500
 gain:-10≤s.gain.lo∧s.gain.lo≤s.gain.hi∧s.gain.hi≤10
 off:-100≤s.off.lo∧s.off.lo≤s.off.hi∧s.off.hi≤100
 len:s.tr.length≤6
 tr:∀ t∈s.tr,trB s.step t=true
theorem zCd {s:ScM}:scB s=true↔ScF s:=by
 unfold scB
 simp only [Bool.and_eq_true,decide_eq_true_eq,List.all_eq_true,zAu,zAa]
 constructor
 ·rintro ⟨⟨⟨⟨⟨h1,h2⟩,h3⟩,h4⟩,h5⟩,h6⟩
  exact ⟨h1,h2,h3,h4,h5,h6⟩
 ·rintro ⟨h1,h2,h3,h4,h5,h6⟩
  exact ⟨⟨⟨⟨⟨h1,h2⟩,h3⟩,h4⟩,h5⟩,h6⟩
set_option maxHeartbeats 2000000 in
theorem zG4 (s:ScM) (w:World) (ht:zAB zBz 2 w s.tA s.tr) (hl:s.tr.length≤1000000):Gv Tryz.prog 66 [vSc s] w (.bool (scB s)):=by
 obtain ⟨B,hB⟩:∃ B,B=scB s:=⟨_,rfl⟩
 have hno:(ScF s→False)→B=false:=fun h=>by rw [hB];exact Bool.eq_false_iff.2 (fun h9=>h (zCd.1 h9))
 have hyes:ScF s→B=true:=fun h=>by rw [hB];exact zCd.2 h
 rw [← hB]
 clear hB
 obtain ⟨id,step,gain,off,A,tr,c⟩:=s
 simp only at ht hl
 unfold Gv vSc
 simp only
 (refine ze (n:=59) Tryz.func66 rfl rfl rfl ?_)
 (repeat' (first|((with_reducible refine zV ?_);first|refine zO rfl rfl rfl ?_|refine zD rfl rfl rfl ?_|(refine zQ rfl rfl rfl ?_;refine ⟨_,rfl,?_⟩)|refine zS rfl rfl rfl ?_|refine zr rfl rfl rfl rfl ?_|refine zN rfl rfl rfl ?_|refine zM rfl rfl ?_|(refine zd rfl rfl rfl rfl rfl (fun h=>?_) (fun h=>?_)<;>(dsimp only [cmpP] at h;(try (exfalso;omega))))|(refine zBN rfl rfl rfl rfl (fun _ _ q=>zAD _ _ _ _) (fun h=>?_) (fun h=>?_)<;>(simp only [zAu,zEN] at h)<;>(try (exfalso;omega)))|(refine zBN rfl rfl rfl rfl (fun _ _ q=>zHl _ _ _ _) (fun h=>?_) (fun h=>?_)<;>(simp only [zAa,zBn] at h)<;>(try (exfalso;omega)))|refine zt rfl rfl rfl ?_|refine zb rfl rfl rfl rfl (by omega) ?_|refine zm rfl rfl rfl rfl (IntWalk.i64_in _ (by omega)) ?_|refine zK rfl rfl rfl rfl rfl (by omega) ?_|refine zL rfl rfl rfl rfl rfl (by first|decide|omega) ?_|refine zj rfl rfl rfl ?_|(refine zl rfl rfl rfl rfl (fun b=>?_)))|(with_reducible first|refine zW ?_|refine zC ?_|refine zU ?_|refine zB ?_|refine zX ?_|refine zT ?_|refine zF ?_|refine zf ?_|refine zP ?_|refine zZ ?_|refine zY ?_|refine za ?_|refine zG ?_|refine zJ ?_)|((with_reducible refine zE ?_ ?_);(· exact rfl))|((with_reducible refine zI ?_ ?_);(· exact rfl))|((with_reducible refine zH ?_ ?_);(· exact rfl))))
 all_goals first|(refine zk (by exact rTm rfl) () trivial ?_ (fun _ h=>h.sub (by (repeat constructor)));refine congrArg Value.bool (hno fun hF=>?_);have h1:=hF.id;have h2:=hF.step;have h3:=hF.gain;have h4:=hF.off;have h5:=hF.len;simp only at h1 h2 h3 h4 h5;omega)|skip
 have hsh:=fun n W=>zEa n step W (by omega)
 refine zAC (ι:=Nat) [1] rfl (fun i=>i≤tr.length∧∀ (j:Nat) x,j<i→tr[j]?=some x→trB step x=true) (fun i=>[(3,.int .i64 (i:Int))]) (fun _=>[.blk b [.int .i64 id,.int .i64 step,.int .i64 gain.lo,.int .i64 gain.hi,.int .i64 off.lo,.int .i64 off.hi,.slice A tr.length c]]) (fun i=>tr.length - i) 0 ⟨Nat.zero_le _,by omega⟩ (by (repeat first|exact lK1|refine zp rfl ?_)) (by (repeat constructor)) ?_
 rintro i ⟨hi,hall⟩
 simp only [zAm,List.cons_append,List.nil_append]
 by_cases hlt:i<tr.length
 ·obtain ⟨x,hx⟩:∃ x,tr[i]?=some x:=⟨_,List.getElem?_eq_getElem hlt⟩
  have:zAZ tr i x:=⟨hx⟩
  obtain ⟨bA,oA,hAe,hAl,hAc⟩:=ht.at_ hlt
  subst hAe
  have:InS w bA oA zBz 2 tr:=⟨ht⟩
  have hF1:=fun (hF:ScF ⟨id,step,gain,off,some ⟨bA,oA,none⟩,tr,c⟩)=>hF.tr x (List.mem_of_getElem? hx)
  have hy1:=fun (hN:trB step x=true) (j:Nat) y (hj:j<i+1) (hy:tr[j]?=some y)=>(show trB step y=true from by
   rcases Nat.lt_succ_iff_lt_or_eq.1 hj with h9|rfl
   ·exact hall j y h9 hy
   ·rw [hx] at hy;cases hy;exact hN)
  simp only at hF1
  obtain ⟨xw,xs⟩:=x
  simp only [trB] at hF1 hy1
  cases hw:inB 0 1000000 xw
  ·(repeat' (first|((with_reducible refine zV ?_);first|refine zO rfl rfl rfl ?_|refine zD rfl rfl rfl ?_|(refine zQ rfl rfl rfl ?_;refine ⟨_,rfl,?_⟩)|refine zS rfl rfl rfl ?_|refine zr rfl rfl rfl rfl ?_|refine zN rfl rfl rfl ?_|refine zM rfl rfl ?_|(refine zd rfl rfl rfl rfl rfl (fun h=>?_) (fun h=>?_)<;>(dsimp only [cmpP] at h;(try (exfalso;omega))))|refine zt rfl rfl rfl ?_|refine zb rfl rfl rfl rfl (by omega) ?_|refine zm rfl rfl rfl rfl (IntWalk.i64_in _ (by omega)) ?_|refine zK rfl rfl rfl rfl rfl (by omega) ?_|refine zL rfl rfl rfl rfl rfl (by first|decide|omega) ?_|refine zj rfl rfl rfl ?_|(refine zl rfl rfl rfl rfl (fun b=>?_)))|(with_reducible first|refine zW ?_|refine zC ?_|refine zU ?_|refine zB ?_|refine zX ?_|refine zT ?_|refine zF ?_|refine zf ?_|refine zP ?_|refine zZ ?_|refine zY ?_|refine za ?_|refine zG ?_|refine zJ ?_)|((with_reducible refine zE ?_ ?_);(· exact rfl))|((with_reducible refine zI ?_ ?_);(· exact rfl))|((with_reducible refine zH ?_ ?_);(· exact rfl))))
   (refine zAY (by kernel_rfl) (by kernel_rfl) (by kernel_rfl) ?_)
   (repeat' (first|((with_reducible refine zAq ?_);first|refine zA (zAT rfl rfl) rfl ?_|refine zA (zAF rfl rfl (by exact rfl)) rfl ?_|refine zA (zAQ rfl rfl) rfl ?_|refine zA (zAz rfl rfl rfl) rfl ?_|refine zA (zAS rfl rfl) rfl ?_|refine zAA rfl rfl rfl ?_|(refine zBP rfl rfl rfl rfl rfl (fun h=>?_) (fun h=>?_)<;>(dsimp only [cmpP] at h;(try (exfalso;omega))))|refine zA (zu (I:=i) rfl rfl rfl (by omega) (by first|omega|(dsimp only;omega))) rfl ?_|refine zAk rfl rfl rfl rfl (fun _ _ q=>(hw ▸ zAD xw 0 1000000 _)) ?_|refine zA (zAM rfl rfl rfl) rfl ?_|refine zA (zBU rfl rfl) rfl ?_|refine zA (zAl rfl rfl rfl (by omega)) rfl ?_|refine zA (zA8 rfl rfl rfl (IntWalk.i64_in _ (by omega))) rfl ?_|refine zA (zBB rfl rfl rfl (IntWalk.i64_in _ (by omega))) rfl ?_|refine zA (zA6 rfl rfl rfl (IntWalk.i64_in _ (by omega))) rfl ?_|refine zA (zu rfl rfl rfl rfl (by omega)) rfl ?_|refine zA (zAJ rfl rfl rfl rfl (by first|decide|omega)) rfl ?_|refine zA (zBM rfl rfl) rfl ?_|refine zA (zBV rfl rfl) rfl ?_|refine zA (zAE rfl rfl) rfl ?_|refine zA (zAR rfl rfl (IntWalk.i64_in _ (by omega))) rfl ?_|refine zA (zBE rfl rfl rfl (by omega) (by omega) (IntWalk.i64_in _ (by omega))) rfl ?_|refine zA (zBT rfl rfl rfl (by omega) (by omega)) rfl ?_|refine zA (zBF rfl rfl rfl) rfl ?_|refine zA (zA7 rfl rfl rfl) rfl ?_|refine zA (zAN rfl rfl (by exact rfl)) rfl ?_|refine zA (zAI rfl rfl rfl) rfl ?_)|(with_reducible refine zBI ?_)))
   all_goals (repeat' (first|((with_reducible refine zV ?_);first|refine zO rfl rfl rfl ?_|refine zD rfl rfl rfl ?_|(refine zQ rfl rfl rfl ?_;refine ⟨_,rfl,?_⟩)|refine zS rfl rfl rfl ?_|refine zr rfl rfl rfl rfl ?_|refine zN rfl rfl rfl ?_|refine zM rfl rfl ?_|(refine zd rfl rfl rfl rfl rfl (fun h=>?_) (fun h=>?_)<;>(dsimp only [cmpP] at h;(try (exfalso;omega))))|refine zt rfl rfl rfl ?_|refine zb rfl rfl rfl rfl (by omega) ?_|refine zm rfl rfl rfl rfl (IntWalk.i64_in _ (by omega)) ?_|refine zK rfl rfl rfl rfl rfl (by omega) ?_|refine zL rfl rfl rfl rfl rfl (by first|decide|omega) ?_|refine zj rfl rfl rfl ?_|(refine zl rfl rfl rfl rfl (fun b=>?_)))|(with_reducible first|refine zW ?_|refine zC ?_|refine zU ?_|refine zB ?_|refine zX ?_|refine zT ?_|refine zF ?_|refine zf ?_|refine zP ?_|refine zZ ?_|refine zY ?_|refine za ?_|refine zG ?_|refine zJ ?_)|((with_reducible refine zE ?_ ?_);(· exact rfl))|((with_reducible refine zI ?_ ?_);(· exact rfl))|((with_reducible refine zH ?_ ?_);(· exact rfl))))
   all_goals (refine zk (by exact rTm rfl) () trivial ?_ (fun _ h=>h.sub (by (repeat constructor)));exact congrArg Value.bool (hno fun hF=>by have:=hF1 hF;rw [hw] at this;simp at this))
  cases hs:zBb xs step
  ·(repeat' (first|((with_reducible refine zV ?_);first|refine zO rfl rfl rfl ?_|refine zD rfl rfl rfl ?_|(refine zQ rfl rfl rfl ?_;refine ⟨_,rfl,?_⟩)|refine zS rfl rfl rfl ?_|refine zr rfl rfl rfl rfl ?_|refine zN rfl rfl rfl ?_|refine zM rfl rfl ?_|(refine zd rfl rfl rfl rfl rfl (fun h=>?_) (fun h=>?_)<;>(dsimp only [cmpP] at h;(try (exfalso;omega))))|refine zt rfl rfl rfl ?_|refine zb rfl rfl rfl rfl (by omega) ?_|refine zm rfl rfl rfl rfl (IntWalk.i64_in _ (by omega)) ?_|refine zK rfl rfl rfl rfl rfl (by omega) ?_|refine zL rfl rfl rfl rfl rfl (by first|decide|omega) ?_|refine zj rfl rfl rfl ?_|(refine zl rfl rfl rfl rfl (fun b=>?_)))|(with_reducible first|refine zW ?_|refine zC ?_|refine zU ?_|refine zB ?_|refine zX ?_|refine zT ?_|refine zF ?_|refine zf ?_|refine zP ?_|refine zZ ?_|refine zY ?_|refine za ?_|refine zG ?_|refine zJ ?_)|((with_reducible refine zE ?_ ?_);(· exact rfl))|((with_reducible refine zI ?_ ?_);(· exact rfl))|((with_reducible refine zH ?_ ?_);(· exact rfl))))
   (refine zAY (by kernel_rfl) (by kernel_rfl) (by kernel_rfl) ?_)
   (repeat' (first|((with_reducible refine zAq ?_);first|refine zA (zAT rfl rfl) rfl ?_|refine zA (zAF rfl rfl (by exact rfl)) rfl ?_|refine zA (zAQ rfl rfl) rfl ?_|refine zA (zAz rfl rfl rfl) rfl ?_|refine zA (zAS rfl rfl) rfl ?_|refine zAA rfl rfl rfl ?_|(refine zBP rfl rfl rfl rfl rfl (fun h=>?_) (fun h=>?_)<;>(dsimp only [cmpP] at h;(try (exfalso;omega))))|refine zA (zu (I:=i) rfl rfl rfl (by omega) (by first|omega|(dsimp only;omega))) rfl ?_|refine zAk rfl rfl rfl rfl (fun _ _ q=>(hw ▸ zAD xw 0 1000000 _)) ?_|refine zAk rfl rfl rfl rfl (fun _ _ q=>(hs ▸ hsh xs _)) ?_|refine zA (zAM rfl rfl rfl) rfl ?_|refine zA (zBU rfl rfl) rfl ?_|refine zA (zAl rfl rfl rfl (by omega)) rfl ?_|refine zA (zA8 rfl rfl rfl (IntWalk.i64_in _ (by omega))) rfl ?_|refine zA (zBB rfl rfl rfl (IntWalk.i64_in _ (by omega))) rfl ?_|refine zA (zA6 rfl rfl rfl (IntWalk.i64_in _ (by omega))) rfl ?_|refine zA (zu rfl rfl rfl rfl (by omega)) rfl ?_|refine zA (zAJ rfl rfl rfl rfl (by first|decide|omega)) rfl ?_|refine zA (zBM rfl rfl) rfl ?_|refine zA (zBV rfl rfl) rfl ?_|refine zA (zAE rfl rfl) rfl ?_|refine zA (zAR rfl rfl (IntWalk.i64_in _ (by omega))) rfl ?_|refine zA (zBE rfl rfl rfl (by omega) (by omega) (IntWalk.i64_in _ (by omega))) rfl ?_|refine zA (zBT rfl rfl rfl (by omega) (by omega)) rfl ?_|refine zA (zBF rfl rfl rfl) rfl ?_|refine zA (zA7 rfl rfl rfl) rfl ?_|refine zA (zAN rfl rfl (by exact rfl)) rfl ?_|refine zA (zAI rfl rfl rfl) rfl ?_)|(with_reducible refine zBI ?_)))
   all_goals (repeat' (first|((with_reducible refine zV ?_);first|refine zO rfl rfl rfl ?_|refine zD rfl rfl rfl ?_|(refine zQ rfl rfl rfl ?_;refine ⟨_,rfl,?_⟩)|refine zS rfl rfl rfl ?_|refine zr rfl rfl rfl rfl ?_|refine zN rfl rfl rfl ?_|refine zM rfl rfl ?_|(refine zd rfl rfl rfl rfl rfl (fun h=>?_) (fun h=>?_)<;>(dsimp only [cmpP] at h;(try (exfalso;omega))))|refine zt rfl rfl rfl ?_|refine zb rfl rfl rfl rfl (by omega) ?_|refine zm rfl rfl rfl rfl (IntWalk.i64_in _ (by omega)) ?_|refine zK rfl rfl rfl rfl rfl (by omega) ?_|refine zL rfl rfl rfl rfl rfl (by first|decide|omega) ?_|refine zj rfl rfl rfl ?_|(refine zl rfl rfl rfl rfl (fun b=>?_)))|(with_reducible first|refine zW ?_|refine zC ?_|refine zU ?_|refine zB ?_|refine zX ?_|refine zT ?_|refine zF ?_|refine zf ?_|refine zP ?_|refine zZ ?_|refine zY ?_|refine za ?_|refine zG ?_|refine zJ ?_)|((with_reducible refine zE ?_ ?_);(· exact rfl))|((with_reducible refine zI ?_ ?_);(· exact rfl))|((with_reducible refine zH ?_ ?_);(· exact rfl))))
   all_goals (refine zk (by exact rTm rfl) () trivial ?_ (fun _ h=>h.sub (by (repeat constructor)));exact congrArg Value.bool (hno fun hF=>by have:=hF1 hF;rw [hs] at this;simp at this))
  (repeat' (first|((with_reducible refine zV ?_);first|refine zO rfl rfl rfl ?_|refine zD rfl rfl rfl ?_|(refine zQ rfl rfl rfl ?_;refine ⟨_,rfl,?_⟩)|refine zS rfl rfl rfl ?_|refine zr rfl rfl rfl rfl ?_|refine zN rfl rfl rfl ?_|refine zM rfl rfl ?_|(refine zd rfl rfl rfl rfl rfl (fun h=>?_) (fun h=>?_)<;>(dsimp only [cmpP] at h;(try (exfalso;omega))))|refine zt rfl rfl rfl ?_|refine zb rfl rfl rfl rfl (by omega) ?_|refine zm rfl rfl rfl rfl (IntWalk.i64_in _ (by omega)) ?_|refine zK rfl rfl rfl rfl rfl (by omega) ?_|refine zL rfl rfl rfl rfl rfl (by first|decide|omega) ?_|refine zj rfl rfl rfl ?_|(refine zl rfl rfl rfl rfl (fun b=>?_)))|(with_reducible first|refine zW ?_|refine zC ?_|refine zU ?_|refine zB ?_|refine zX ?_|refine zT ?_|refine zF ?_|refine zf ?_|refine zP ?_|refine zZ ?_|refine zY ?_|refine za ?_|refine zG ?_|refine zJ ?_)|((with_reducible refine zE ?_ ?_);(· exact rfl))|((with_reducible refine zI ?_ ?_);(· exact rfl))|((with_reducible refine zH ?_ ?_);(· exact rfl))))
  (refine zAY (by kernel_rfl) (by kernel_rfl) (by kernel_rfl) ?_)
  (repeat' (first|((with_reducible refine zAq ?_);first|refine zA (zAT rfl rfl) rfl ?_|refine zA (zAF rfl rfl (by exact rfl)) rfl ?_|refine zA (zAQ rfl rfl) rfl ?_|refine zA (zAz rfl rfl rfl) rfl ?_|refine zA (zAS rfl rfl) rfl ?_|refine zAA rfl rfl rfl ?_|(refine zBP rfl rfl rfl rfl rfl (fun h=>?_) (fun h=>?_)<;>(dsimp only [cmpP] at h;(try (exfalso;omega))))|refine zA (zu (I:=i) rfl rfl rfl (by omega) (by first|omega|(dsimp only;omega))) rfl ?_|refine zAk rfl rfl rfl rfl (fun _ _ q=>(hw ▸ zAD xw 0 1000000 _)) ?_|refine zAk rfl rfl rfl rfl (fun _ _ q=>(hs ▸ hsh xs _)) ?_|refine zA (zAM rfl rfl rfl) rfl ?_|refine zA (zBU rfl rfl) rfl ?_|refine zA (zAl rfl rfl rfl (by omega)) rfl ?_|refine zA (zA8 rfl rfl rfl (IntWalk.i64_in _ (by omega))) rfl ?_|refine zA (zBB rfl rfl rfl (IntWalk.i64_in _ (by omega))) rfl ?_|refine zA (zA6 rfl rfl rfl (IntWalk.i64_in _ (by omega))) rfl ?_|refine zA (zu rfl rfl rfl rfl (by omega)) rfl ?_|refine zA (zAJ rfl rfl rfl rfl (by first|decide|omega)) rfl ?_|refine zA (zBM rfl rfl) rfl ?_|refine zA (zBV rfl rfl) rfl ?_|refine zA (zAE rfl rfl) rfl ?_|refine zA (zAR rfl rfl (IntWalk.i64_in _ (by omega))) rfl ?_|refine zA (zBE rfl rfl rfl (by omega) (by omega) (IntWalk.i64_in _ (by omega))) rfl ?_|refine zA (zBT rfl rfl rfl (by omega) (by omega)) rfl ?_|refine zA (zBF rfl rfl rfl) rfl ?_|refine zA (zA7 rfl rfl rfl) rfl ?_|refine zA (zAN rfl rfl (by exact rfl)) rfl ?_|refine zA (zAI rfl rfl rfl) rfl ?_)|(with_reducible refine zBI ?_)))
  all_goals (repeat' (first|((with_reducible refine zV ?_);first|refine zO rfl rfl rfl ?_|refine zD rfl rfl rfl ?_|(refine zQ rfl rfl rfl ?_;refine ⟨_,rfl,?_⟩)|refine zS rfl rfl rfl ?_|refine zr rfl rfl rfl rfl ?_|refine zN rfl rfl rfl ?_|refine zM rfl rfl ?_|(refine zd rfl rfl rfl rfl rfl (fun h=>?_) (fun h=>?_)<;>(dsimp only [cmpP] at h;(try (exfalso;omega))))|refine zt rfl rfl rfl ?_|refine zb rfl rfl rfl rfl (by omega) ?_|refine zm rfl rfl rfl rfl (IntWalk.i64_in _ (by omega)) ?_|refine zK rfl rfl rfl rfl rfl (by omega) ?_|refine zL rfl rfl rfl rfl rfl (by first|decide|omega) ?_|refine zj rfl rfl rfl ?_|(refine zl rfl rfl rfl rfl (fun b=>?_)))|(with_reducible first|refine zW ?_|refine zC ?_|refine zU ?_|refine zB ?_|refine zX ?_|refine zT ?_|refine zF ?_|refine zf ?_|refine zP ?_|refine zZ ?_|refine zY ?_|refine za ?_|refine zG ?_|refine zJ ?_)|((with_reducible refine zE ?_ ?_);(· exact rfl))|((with_reducible refine zI ?_ ?_);(· exact rfl))|((with_reducible refine zH ?_ ?_);(· exact rfl))))
  exact z6 (ι:=Nat) (i+1) ⟨by omega,hy1 (by rw [hw,hs];rfl)⟩ (by omega) (by (repeat first|exact lK1|refine zp rfl ?_)) (by (repeat constructor))
 ·obtain rfl:i=tr.length:=by omega
  (repeat' (first|((with_reducible refine zV ?_);first|refine zO rfl rfl rfl ?_|refine zD rfl rfl rfl ?_|(refine zQ rfl rfl rfl ?_;refine ⟨_,rfl,?_⟩)|refine zS rfl rfl rfl ?_|refine zr rfl rfl rfl rfl ?_|refine zN rfl rfl rfl ?_|refine zM rfl rfl ?_|(refine zd rfl rfl rfl rfl rfl (fun h=>?_) (fun h=>?_)<;>(dsimp only [cmpP] at h;(try (exfalso;omega))))|refine zt rfl rfl rfl ?_|refine zb rfl rfl rfl rfl (by omega) ?_|refine zm rfl rfl rfl rfl (IntWalk.i64_in _ (by omega)) ?_|refine zK rfl rfl rfl rfl rfl (by omega) ?_|refine zL rfl rfl rfl rfl rfl (by first|decide|omega) ?_|refine zj rfl rfl rfl ?_|(refine zl rfl rfl rfl rfl (fun b=>?_)))|(with_reducible first|refine zW ?_|refine zC ?_|refine zU ?_|refine zB ?_|refine zX ?_|refine zT ?_|refine zF ?_|refine zf ?_|refine zP ?_|refine zZ ?_|refine zY ?_|refine za ?_|refine zG ?_|refine zJ ?_)|((with_reducible refine zE ?_ ?_);(· exact rfl))|((with_reducible refine zI ?_ ?_);(· exact rfl))|((with_reducible refine zH ?_ ?_);(· exact rfl))))
  refine zk (by exact rTm rfl) () trivial ?_ (fun _ h=>h.sub (by (repeat constructor)))
  exact congrArg Value.bool (hyes ⟨by simp only;omega,by simp only;omega,by simp only;omega,by simp only;omega,by simp only;omega,fun t ht=>by
   obtain ⟨j,hj⟩:=List.mem_iff_getElem?.1 ht
   exact hall j t (List.getElem?_eq_some_iff.1 hj).1 hj⟩)
theorem at_none {scs:List ScM} {id:Int} (h:∀ s∈scs,s.id≠id):atI scs id=none:=by
 unfold atI
 rw [List.findIdx?_eq_none_iff]
 intro s hs
 simpa using h s hs
theorem at_some {scs:List ScM} {id:Int} {i:Nat} {s:ScM} (h1:scs[i]?=some s) (h2:s.id=id) (h3:∀ j t,j<i→scs[j]?=some t→t.id≠id):atI scs id=some i:=by
 obtain ⟨hlt,he⟩:=List.getElem?_eq_some_iff.1 h1
 unfold atI
 rw [List.findIdx?_eq_some_iff_getElem]
 refine ⟨hlt,by rw [he];simpa using h2,fun j hj=>?_⟩
 have:=h3 j _ hj (List.getElem?_eq_getElem (by omega))
 simpa using this
set_option maxHeartbeats 1000000 in
theorem rat4_any (scs:List ScM) (A:Option Addr) (c:Nat) (id:Int) (w:World) (h:zAB zAW 7 w A scs) (hl:scs.length≤1000000):Gv Tryz.prog 67 [.agg #[.slice A scs.length c],.int .i64 id] w (.int .i64 (match atI scs id with|some i=>(i:Int)|none=>-1)):=by
 have hsome:=fun i s h1 h2 h3=>at_some (scs:=scs) (id:=id) (i:=i) (s:=s) h1 h2 h3
 have hnone:=at_none (scs:=scs) (id:=id)
 generalize atI scs id=r at *
 unfold Gv
 (refine ze (n:=22) Tryz.func67 rfl rfl rfl ?_)
 (repeat' (first|((with_reducible refine zV ?_);first|refine zO rfl rfl rfl ?_|refine zD rfl rfl rfl ?_|(refine zQ rfl rfl rfl ?_;refine ⟨_,rfl,?_⟩)|refine zS rfl rfl rfl ?_|(refine zd rfl rfl rfl rfl rfl (fun h=>?_) (fun h=>?_)<;>(dsimp only [cmpP] at h;(try (exfalso;omega))))|refine zb rfl rfl rfl rfl (by omega) ?_|refine zm rfl rfl rfl rfl (IntWalk.i64_in _ (by omega)) ?_|refine zK rfl rfl rfl rfl rfl (by omega) ?_|refine zL rfl rfl rfl rfl rfl (by first|decide|omega) ?_|refine zj rfl rfl rfl ?_|(refine zl rfl rfl rfl rfl (fun b=>?_)))|(with_reducible first|refine zW ?_|refine zC ?_|refine zU ?_|refine zB ?_|refine zX ?_|refine zT ?_|refine zF ?_|refine zf ?_|refine zP ?_|refine zZ ?_|refine zY ?_|refine za ?_|refine zG ?_|refine zJ ?_)|((with_reducible refine zE ?_ ?_);(· exact rfl))|((with_reducible refine zI ?_ ?_);(· exact rfl))|((with_reducible refine zH ?_ ?_);(· exact rfl))))
 refine zAC (ι:=Nat) [1,2] rfl (fun i=>i≤scs.length∧∀ (j:Nat) x,j<i→scs[j]?=some x→x.id≠id) (fun i=>[(5,.int .i64 (i:Int))]) (fun _=>[.blk b [.slice A scs.length c]]) (fun i=>scs.length - i) 0 ⟨Nat.zero_le _,by omega⟩ (by (repeat first|exact lK1|refine zp rfl ?_)) (by (repeat constructor)) ?_
 rintro i ⟨hi,hall⟩
 simp only [zAm,List.cons_append,List.nil_append]
 by_cases hlt:i<scs.length
 ·obtain ⟨x,hx⟩:∃ x,scs[i]?=some x:=⟨_,List.getElem?_eq_getElem hlt⟩
  have:zAZ scs i x:=⟨hx⟩
  obtain ⟨bA,oA,hAe,hAl,hAc⟩:=h.at_ hlt
  subst hAe
  have:InS w bA oA zAW 7 scs:=⟨h⟩
  have hs:=hsome i x hx
  have hy1:=fun (hN:x.id≠id) (j:Nat) y (hj:j<i+1) (hy:scs[j]?=some y)=>(show y.id≠id from by
   rcases Nat.lt_succ_iff_lt_or_eq.1 hj with h9|rfl
   ·exact hall j y h9 hy
   ·rw [hx] at hy;cases hy;exact hN)
  obtain ⟨xi,xst,xg,xo,xA,xt,xc⟩:=x
  simp only at hs hy1
  (repeat' (first|((with_reducible refine zV ?_);first|refine zO rfl rfl rfl ?_|refine zD rfl rfl rfl ?_|(refine zQ rfl rfl rfl ?_;refine ⟨_,rfl,?_⟩)|refine zS rfl rfl rfl ?_|(refine zd rfl rfl rfl rfl rfl (fun h=>?_) (fun h=>?_)<;>(dsimp only [cmpP] at h;(try (exfalso;omega))))|refine zK (I:=i) rfl rfl rfl rfl rfl (by omega) ?_|refine zb rfl rfl rfl rfl (by omega) ?_|refine zm rfl rfl rfl rfl (IntWalk.i64_in _ (by omega)) ?_|refine zK rfl rfl rfl rfl rfl (by omega) ?_|refine zL rfl rfl rfl rfl rfl (by first|decide|omega) ?_|refine zj rfl rfl rfl ?_|(refine zl rfl rfl rfl rfl (fun b=>?_)))|(with_reducible first|refine zW ?_|refine zC ?_|refine zU ?_|refine zB ?_|refine zX ?_|refine zT ?_|refine zF ?_|refine zf ?_|refine zP ?_|refine zZ ?_|refine zY ?_|refine za ?_|refine zG ?_|refine zJ ?_)|((with_reducible refine zE ?_ ?_);(· exact rfl))|((with_reducible refine zI ?_ ?_);(· exact rfl))|((with_reducible refine zH ?_ ?_);(· exact rfl))))
  ·obtain rfl:=hs (by assumption) hall
   exact zk (by exact rTm rfl) () trivial rfl (fun _ h=>h.sub (by (repeat constructor)))
  ·exact z6 (ι:=Nat) (i+1) ⟨by omega,hy1 (by assumption)⟩ (by omega) (by (repeat first|exact lK1|refine zp rfl ?_)) (by (repeat constructor))
 ·obtain rfl:i=scs.length:=by omega
  obtain rfl:=hnone (fun s hs=>by
   obtain ⟨j,hj⟩:=List.mem_iff_getElem?.1 hs
   exact hall j s (List.getElem?_eq_some_iff.1 hj).1 hj)
  (repeat' (first|((with_reducible refine zV ?_);first|refine zO rfl rfl rfl ?_|refine zD rfl rfl rfl ?_|(refine zQ rfl rfl rfl ?_;refine ⟨_,rfl,?_⟩)|refine zS rfl rfl rfl ?_|(refine zd rfl rfl rfl rfl rfl (fun h=>?_) (fun h=>?_)<;>(dsimp only [cmpP] at h;(try (exfalso;omega))))|refine zb rfl rfl rfl rfl (by omega) ?_|refine zm rfl rfl rfl rfl (IntWalk.i64_in _ (by omega)) ?_|refine zK rfl rfl rfl rfl rfl (by omega) ?_|refine zL rfl rfl rfl rfl rfl (by first|decide|omega) ?_|refine zj rfl rfl rfl ?_|(refine zl rfl rfl rfl rfl (fun b=>?_)))|(with_reducible first|refine zW ?_|refine zC ?_|refine zU ?_|refine zB ?_|refine zX ?_|refine zT ?_|refine zF ?_|refine zf ?_|refine zP ?_|refine zZ ?_|refine zY ?_|refine za ?_|refine zG ?_|refine zJ ?_)|((with_reducible refine zE ?_ ?_);(· exact rfl))|((with_reducible refine zI ?_ ?_);(· exact rfl))|((with_reducible refine zH ?_ ?_);(· exact rfl))))
  exact zk (by exact rTm rfl) () trivial rfl (fun _ h=>h.sub (by (repeat constructor)))
end Go.Proofs.YtcpdjamlhhfbhaaGreat
