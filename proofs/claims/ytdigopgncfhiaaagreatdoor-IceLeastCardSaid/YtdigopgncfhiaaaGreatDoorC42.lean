/- C42 -/
import Derived.Test.YtdigopgncfhiaaaGreatDoorC41
import Derived.Test.YtdigopgncfhiaaaGreatDoorC31
import Derived.Test.YtdigopgncfhiaaaGreatDoorC33
import Derived.Test.YtdigopgncfhiaaaGreatDoorC29
set_option linter.unusedSimpArgs false
set_option linter.unusedVariables false
namespace Go.Proofs.YtdigopgncfhiaaaGreatDoor
open Go.RowKit
open Flow (sumL)
set_option maxRecDepth 20000
theorem zOX (c:Cov) (A:Option Addr) (ca:Nat) (B:Option Addr) (cb:Nat) (C:Option Addr) (cc:Nat) (ch:List Int) (D:Option Addr) (cd f:Nat) (w:World) (hc:zAU w c A B C) (hs:Small c) (hD:zAB zHE 1 w D ch) (hf:zJB ch) (hff:f≤1000) :
  Ret Tryz.prog 17 [zAI c A ca B cb C cc,.slice D ch.length cd,.int .i64 (f:Int)] w (fun p:(Option Addr × Nat) × List Sli=>.slice p.1.1 p.2.length p.1.2) (fun p=>[.sl zAC 1 p.1.1 p.2,.rows p.2]) (fun p=>p.2.map Sli.xs=zZ c ch f):=by
 refine (zHf c A ca B cb C cc ch D cd f w hc hs hD hf hff).conv fun p hp=>⟨((some ⟨p.1,0,none⟩,c.hours.length),p.2.map zAN.sli),by simp only;rw [zKA];exact hp,?_,fun w'=>zGR⟩
 have:p.2.length=c.hours.length:=by have:=congrArg List.length hp;rw [zBQ] at this;simpa using this
 simp only [List.length_map,this]
def sumD (ml nl:List Int) (k:Nat):Int:=sumL (List.range k) fun i=>ml.getD i 0 - nl.getD i 0
theorem zRC {ml nl:List Int} {k:Nat} {x y:Int} (hx:ml[k]?=some x) (hy:nl[k]?=some y):sumD ml nl (k+1)=sumD ml nl k+(x - y):=by
 unfold sumD
 rw [Flow.zAE]
 simp [hx,hy]
theorem zQQ {ml nl:List Int} {n:Nat} (h:∀ i,i<n→nl.getD i 0≤ml.getD i 0∧0≤nl.getD i 0∧ml.getD i 0≤1000):∀ k,k≤n→0≤sumD ml nl k∧sumD ml nl k≤1000 * (k:Int)
 | 0,_=>by simp [sumD,sumL]
 | k+1,hk=>by
  have ih:=zQQ h k (by omega)
  have:=h k (by omega)
  unfold sumD at ih ⊢
  rw [Flow.zAE];omega
theorem zRB {ml nl:List Int} {n:Nat} (h:∀ i,i<n→nl.getD i 0≤ml.getD i 0) (h0:sumD ml nl n≤0):∀ i,i<n→ml.getD i 0=nl.getD i 0:=fun i hi=>by
 have h1:=Flow.zD7 (l:=List.range n) (f:=fun i=>ml.getD i 0 - nl.getD i 0) (a:=i) (fun j hj=>by have:=h j (List.mem_range.1 hj);omega) (List.mem_range.2 hi)
 have:=h i hi
 unfold sumD at h0
 omega
set_option maxHeartbeats 8000000 in
theorem zNE (c:Cov) (A:Option Addr) (ca:Nat) (B:Option Addr) (cb:Nat) (C:Option Addr) (cc:Nat) (ch:List Int) (D:Option Addr) (cd:Nat) (w:World) (hc:zAU w c A B C) (hfit:zE0 c.t) (hD:zAB zHE 1 w D ch) (hfu:zJB ch) (hG:InC w 0 0 zB7) :
  Gv Tryz.prog 4 [zAI c A ca B cb C cc,.slice D ch.length cd] w (.bool true):=by
 have hAl:=fun W (hW:Below w.heap.size w W)=>zCu W (hG.below hW)
 have hR:=fun W (hW:Below w.heap.size w W)=>zCt c A ca B cb C cc W (hc.below hW) hfit
 cases hr:zDK c
 ·rw [hr] at hR
  unfold zAI zH at hR ⊢
  unfold Gv
  (refine zM (n:=206) Tryz.func4 rfl rfl rfl ?_)
  (repeat' (first|((with_reducible refine zG ?_);first|refine zE rfl rfl rfl rfl rfl ?_|refine zC rfl rfl rfl rfl rfl ?_|(refine zK rfl rfl rfl rfl rfl ?_;refine ⟨_,rfl,?_⟩)|refine zS rfl rfl rfl rfl rfl rfl (fun _ _ q=>hAl _ q.below) ?_|refine zS rfl rfl rfl rfl rfl rfl (fun _ _ q=>hR _ q.below) ?_|refine zAh rfl rfl rfl rfl rfl ?_|(refine zAM rfl rfl rfl rfl rfl rfl (fun b=>?_)))|(with_reducible first|refine zI ?_|refine zB ?_|refine zD ?_|refine zA ?_|refine zb ?_|refine zP ?_|refine zd ?_)|((with_reducible refine zJ ?_ ?_);(· exact rfl))|((with_reducible refine zF ?_ ?_);(· exact rfl))))
  all_goals exact zT (by (exact zO.cons (by exact zq.tmp rfl) zO.nil)) () trivial rfl (fun _ _=>Own.nil _ _)
 rw [hr] at hR
 have hs:=zCU hr hfit
 have h0:=(zCV.1 hr).2
 have hf:=zA1 h0
 have h4:=hs.b;have h5:=hs.h
 have hh1:=hf.hours
 rw [zAA] at hh1
 have hyo:=zGh (ch:=ch) (f:=0) hf
 have hN:=fun W (hW:Below w.heap.size w W)=>zEY c A ca B cb C cc W (hc.below hW) hs (hG.below hW)
 have hP:=fun W (hW:Below w.heap.size w W)=>zEX c A ca B cb C cc W (hc.below hW) hs (hG.below hW)
 have hDr:=fun W (hW:Below w.heap.size w W)=>zOX c A ca B cb C cc ch D cd 0 W (hc.below hW) hs (hD.below hW) hfu (by omega)
 have hyl:(zZ c ch 0).length=c.hours.length:=zBQ
 have hyr:∀ r∈zZ c ch 0,r.length≤20:=fun r hr=>Nat.le_trans (zEv r hr) h4
 have hS2:=fun W (hW:Below w.heap.size w W) P cp hp=>zFJ c A ca B cb C cc (zZ c ch 0) P cp W (hc.below hW) hs hp (by omega) hyr (hG.below hW)
 have hW2:=fun W (hW:Below w.heap.size w W) P cp hp=>zNF c A ca B cb C cc (zZ c ch 0) P cp W (hc.below hW) hs hp (by omega) hyr
 have hNe:zDm c=(c.beds.map fun z=>(needG c z c.hours.length).2,0):=by
  unfold zDm
  rw [if_pos h0]
  unfold zA2
  rw [List.map_map]
  congr 1
  obtain ⟨m,hm⟩:∃ m,c.hours.length=m+1:=⟨c.hours.length - 1,by omega⟩
  rw [hm]
  exact List.map_congr_left fun z _=>by simp only [Function.comp_apply,zJO]
 rw [hNe] at hN
 have hnl:(c.beds.map fun z=>(needG c z c.hours.length).2).length=c.beds.length:=by simp
 have hna:∀ i,i<c.beds.length→(c.beds.map fun z=>(needG c z c.hours.length).2)[i]?=some (needG c (c.beds.getD i default) c.hours.length).2:=fun i hi=>by
  rw [List.getElem?_map,List.getElem?_eq_getElem hi,Flow.zt hi];rfl
 have hni:∀ i,i<c.beds.length→0≤(needG c (c.beds.getD i default) c.hours.length).2:=fun i hi=>(zH6 hf (z:=c.beds.getD i default) (by rw [Flow.zt hi];exact List.getElem_mem _) _ (Nat.le_refl _)).2.2.1
 have hyk:=zC7 h0 hyo
 rw [hyk] at hS2 hW2
 generalize hys:zZ c ch 0=yss at *
 have hysafe:zBR c (zm yss)=2→∀ i,i<c.beds.length→∀ j,j<c.hours.length→(needG c (c.beds.getD i default) (j+1)).2≤zBe yss i j:=fun h=>(zHx hf).1 (safe_two h)
 cases hcan:zDG (zA2 c) (zC6 c) (zAp c)
 ·rw [zF4 h0 hcan] at hP
  have hne:zBR c (zm yss)≠2:=fun h=>by
   have:=safe_can h0 hs hyo (hysafe h)
   rw [hcan] at this;cases this
  clear hysafe hW2
  rw [hyl] at hS2
  generalize (c.beds.map fun z=>(needG c z c.hours.length).2)=nl at *
  generalize zBR c (zm yss)=sf at *
  unfold zAI zH at hR hN hP hDr hS2 ⊢
  unfold Gv
  (refine zM (n:=206) Tryz.func4 rfl rfl rfl ?_)
  (repeat' (first|((with_reducible refine zG ?_);first|refine zE rfl rfl rfl rfl rfl ?_|refine zC rfl rfl rfl rfl rfl ?_|(refine zK rfl rfl rfl rfl rfl ?_;refine ⟨_,rfl,?_⟩)|refine zS rfl rfl rfl rfl rfl rfl (fun _ _ q=>hAl _ q.below) ?_|refine zS rfl rfl rfl rfl rfl rfl (fun _ _ q=>hR _ q.below) ?_|(refine zCE rfl rfl rfl rfl rfl rfl (fun _ _ q=>hN _ q.below) (fun N1 nc1=>?_))|(refine zAG rfl rfl rfl rfl rfl rfl (fun _ _ q=>hP _ q.below) ?_;rintro ⟨⟨P1,pc1⟩,pl1⟩ hx1;dsimp only [List.cons_append,List.nil_append])|(refine zAG rfl rfl rfl rfl rfl rfl (fun _ _ q=>hDr _ q.below) ?_;rintro ⟨⟨P2,pc2⟩,pl2⟩ hx2;dsimp only [List.cons_append,List.nil_append])|refine zg rfl rfl rfl rfl rfl rfl ?_|refine zAh rfl rfl rfl rfl rfl ?_|(refine zAM rfl rfl rfl rfl rfl rfl (fun b=>?_)))|(with_reducible first|refine zI ?_|refine zB ?_|refine zD ?_|refine zA ?_|refine zP ?_)|((with_reducible refine zF ?_ ?_);(· exact rfl))))
  obtain rfl:pl1=[]:=List.map_eq_nil_iff.1 hx1
  simp only at hx2
  have hl2:pl2.length=c.hours.length:=by have:=congrArg List.length hx2;rw [List.length_map,hyl] at this;exact this
  rw [hl2]
  simp only [List.length_nil]
  (repeat' (first|((with_reducible refine zG ?_);first|refine zE rfl rfl rfl rfl rfl ?_|refine zC rfl rfl rfl rfl rfl ?_|(refine zK rfl rfl rfl rfl rfl ?_;refine ⟨_,rfl,?_⟩)|refine ze rfl rfl rfl rfl rfl ?_|refine zAf rfl rfl rfl rfl rfl rfl ?_|(refine zQ rfl rfl rfl rfl rfl rfl rfl (fun h=>?_) (fun h=>?_)<;>(dsimp only [cmpP] at h;(try (exfalso;omega))))|refine zS rfl rfl rfl rfl rfl rfl (fun _ _ q=>hS2 _ q.below _ _ ⟨_,hx2.trans (zCi _).symm,zCK q.own (by (repeat (first|exact tK1 _ _|apply tK2))) (by (repeat (first|exact tK1 _ _|apply tK2)))⟩) ?_|refine zg rfl rfl rfl rfl rfl rfl ?_|refine zr rfl rfl rfl rfl rfl ?_)|(with_reducible first|refine zI ?_|refine zB ?_|refine zD ?_|refine zA ?_|refine zb ?_|refine zP ?_|refine zd ?_)|((with_reducible refine zJ ?_ ?_);(· exact rfl))|((with_reducible refine zF ?_ ?_);(· exact rfl))))
  all_goals exact zT (by (exact zO.cons (by exact zq.tmp rfl) zO.nil)) () trivial (by simp_all [resV]) (fun _ h=>h.sub (by (repeat (first|exact oK1 _|(refine oK2 (by (repeat (first|exact tK1 _ _|apply tK2))) ?_)))))
 ·obtain ⟨x1,x2,x3⟩:=zET h0 hs hcan
  have hxs:=zPR h0 hs hcan
  have hpe:(zAy c).2=0:=by rw [zD9 h0 hcan]
  have hxl:(zAy c).1.length=c.hours.length:=by have:=(zAc.1 x1).1;simpa [zm] using this
  have hxr:=(zL0 hs).2
  have hxk:=zC7 h0 x1
  have hfirst:=fun (hsf:zBR c (zm yss)=2) (hct:∀ i,i<c.beds.length→zBe yss i c.hours.length=(needG c (c.beds.getD i default) c.hours.length).2) h i hh hi=>zN8 h0 hs hcan hyo (hysafe hsf) hct (h:=h) (i:=i) hh hi
  have hS1:=fun W (hW:Below w.heap.size w W) P cp hp=>zFJ c A ca B cb C cc (zAy c).1 P cp W (hc.below hW) hs hp (by omega) hxr (hG.below hW)
  have hW1:=fun W (hW:Below w.heap.size w W) P cp hp=>zNF c A ca B cb C cc (zAy c).1 P cp W (hc.below hW) hs hp (by omega) hxr
  have hwl:=fun (h:∀ j,j<c.beds.length→(needG c (c.beds.getD j default) c.hours.length).2≤zBe yss j c.hours.length)=>water_le (c:=c) (xss:=(zAy c).1) (yss:=yss) h0 x1 hyo fun j hj=>by rw [x3 j hj];exact h j hj
  have hcx:zGj (zAy c).1 c.beds.length c.hours.length 0=c.beds.map fun z=>(needG c z c.hours.length).2:=by
   apply List.ext_getElem?
   intro i
   by_cases hi:i<c.beds.length
   ·rw [zHB hi,hna i hi,zIN (fun k=>(x2 k).1),x3 i hi]
   ·rw [List.getElem?_eq_none (by rw [zFq];omega),List.getElem?_eq_none (by simp;omega)]
  have hypw:∀ k,(yss.getD k []).Pairwise (· < ·):=fun k=>by
   by_cases hk:k<c.hours.length
   ·exact (zE7 hf hyo k hk).1
   ·rw [List.getD_eq_getElem?_getD,List.getElem?_eq_none (by omega)];exact List.Pairwise.nil
  have hyin:∀ r∈yss,∀ x∈r,∃ j:Nat,x=(j:Int)∧j<c.beds.length:=fun r hr x hx=>by
   obtain ⟨k,hk⟩:=List.getElem?_of_mem hr
   have hkl:=(List.getElem?_eq_some_iff.1 hk).1
   have:=(zE7 hf hyo k (by omega)).2.1
   rw [List.getD_eq_getElem?_getD,hk] at this
   exact this x hx
  have hxin:∀ r∈(zAy c).1,∀ x∈r,∃ j:Nat,x=(j:Int)∧j<c.beds.length:=fun r hr x hx=>by
   obtain ⟨k,hk⟩:=List.getElem?_of_mem hr
   have:=(x2 k).2
   rw [List.getD_eq_getElem?_getD,hk] at this
   exact this x hx
  have hma:∀ i,i<c.beds.length→(zGj yss c.beds.length c.hours.length 0)[i]?=some (zBe yss i c.hours.length):=fun i hi=>by rw [zHB hi,zIN hypw]
  have hmi:∀ i,i<c.beds.length→zBe yss i c.hours.length≤1000:=fun i hi=>by
   have:=zNU (xss:=yss) (r:=c.hours.length) (m:=0) (j:=i) hyr
   rw [zIN hypw] at this;omega
  have hyn:∀ i,i<c.beds.length→0≤zBe yss i c.hours.length:=fun i hi=>by
   have:=zNU (xss:=yss) (r:=c.hours.length) (m:=0) (j:=i) hyr
   rw [zIN hypw] at this;omega
  have hml:(zGj yss c.beds.length c.hours.length 0).length=c.beds.length:=zFq
  have hC1:=fun W (hW:Below w.heap.size w W) pl P cp (hx:pl.map Sli.xs=(zAy c).1) hp=>zKl c A ca B cb C cc pl P cp W h4 hp (by have:=congrArg List.length hx;rw [List.length_map] at this;omega) (fun s hs=>hxr _ (by rw [← hx];exact List.mem_map_of_mem hs)) (fun s hs=>hxin _ (by rw [← hx];exact List.mem_map_of_mem hs))
  have hC2:=fun W (hW:Below w.heap.size w W) pl P cp (hx:pl.map Sli.xs=yss) hp=>zKl c A ca B cb C cc pl P cp W h4 hp (by have:=congrArg List.length hx;rw [List.length_map] at this;omega) (fun s hs=>hyr _ (by rw [← hx];exact List.mem_map_of_mem hs)) (fun s hs=>hyin _ (by rw [← hx];exact List.mem_map_of_mem hs))
  have hV:=fun W (hW:Below w.heap.size w W) pl P cp (hx:pl.map Sli.xs=(zAy c).1) hp=>zNw c A ca B cb C cc pl P cp W (hc.below hW) hp hs (by have:=congrArg List.length hx;rw [List.length_map] at this;omega) (fun s hs=>hxr _ (by rw [← hx];exact List.mem_map_of_mem hs))
  have hVt:∀ pl:List Sli,pl.map Sli.xs=(zAy c).1→zAz c pl=true:=fun pl hx=>by rw [zH2 (hx.trans (zCi _).symm)];exact x1
  rw [hpe] at hP
  rw [hxs,hxk,hxl] at hS1
  rw [hxk,hxl] at hW1
  rw [hyl] at hS2 hW2
  clear x2 x3 hxin hyin
  generalize (zAy c).1=xss at *
  generalize (c.beds.map fun z=>(needG c z c.hours.length).2)=nl at *
  generalize hmls:zGj yss c.beds.length c.hours.length 0=ml at *
  generalize zBR c (zm yss)=sf at *
  generalize zDI c (zm xss)=wx at *
  generalize zDI c (zm yss)=wy at *
  unfold vSp at hW1 hW2
  unfold zAI zH at hR hN hP hDr hS1 hS2 hW1 hW2 hV hC1 hC2 ⊢
  unfold Gv
  (refine zM (n:=206) Tryz.func4 rfl rfl rfl ?_)
  (repeat' (first|((with_reducible refine zG ?_);first|refine zE rfl rfl rfl rfl rfl ?_|refine zC rfl rfl rfl rfl rfl ?_|(refine zK rfl rfl rfl rfl rfl ?_;refine ⟨_,rfl,?_⟩)|refine zS rfl rfl rfl rfl rfl rfl (fun _ _ q=>hAl _ q.below) ?_|refine zS rfl rfl rfl rfl rfl rfl (fun _ _ q=>hR _ q.below) ?_|(refine zCE rfl rfl rfl rfl rfl rfl (fun _ _ q=>hN _ q.below) (fun N1 nc1=>?_))|(refine zAG rfl rfl rfl rfl rfl rfl (fun _ _ q=>hP _ q.below) ?_;rintro ⟨⟨P1,pc1⟩,pl1⟩ hx1;dsimp only [List.cons_append,List.nil_append])|(refine zAG rfl rfl rfl rfl rfl rfl (fun _ _ q=>hDr _ q.below) ?_;rintro ⟨⟨P2,pc2⟩,pl2⟩ hx2;dsimp only [List.cons_append,List.nil_append])|refine zg rfl rfl rfl rfl rfl rfl ?_|refine zAh rfl rfl rfl rfl rfl ?_|(refine zAM rfl rfl rfl rfl rfl rfl (fun b=>?_)))|(with_reducible first|refine zI ?_|refine zB ?_|refine zD ?_|refine zA ?_|refine zP ?_)|((with_reducible refine zF ?_ ?_);(· exact rfl))))
  simp only at hx1 hx2
  have hl1:pl1.length=c.hours.length:=by have:=congrArg List.length hx1;rw [List.length_map,hxl] at this;exact this
  have hl2:pl2.length=c.hours.length:=by have:=congrArg List.length hx2;rw [List.length_map,hyl] at this;exact this
  have hC1:=fun W hW P cp hp=>hC1 W hW pl1 P cp hx1 hp
  have hC2:=fun W hW P cp hp=>hC2 W hW pl2 P cp hx2 hp
  have hV:=fun W hW P cp hp=>hV W hW pl1 P cp hx1 hp
  rw [hVt pl1 hx1] at hV
  simp only [hx1,hl1,hcx] at hC1
  simp only [hx2,hl2,hmls] at hC2
  simp only [hl1] at hV
  rw [hl2,hl1]
  obtain ⟨b2,hb2⟩:∃ x,x=b:=⟨_,rfl⟩
  subst hb2
  clear hP hDr hR hAl
  (repeat' (first|((with_reducible refine zG ?_);first|refine zE rfl rfl rfl rfl rfl ?_|refine zC rfl rfl rfl rfl rfl ?_|(refine zK rfl rfl rfl rfl rfl ?_;refine ⟨_,rfl,?_⟩)|refine ze rfl rfl rfl rfl rfl ?_|refine zAf rfl rfl rfl rfl rfl rfl ?_|(refine zQ rfl rfl rfl rfl rfl rfl rfl (fun h=>?_) (fun h=>?_)<;>(dsimp only [cmpP] at h;(try (exfalso;omega))))|refine zS rfl rfl rfl rfl rfl rfl (fun _ _ q=>hS2 _ q.below _ _ ⟨_,hx2.trans (zCi _).symm,zCK q.own (by (repeat (first|exact tK1 _ _|apply tK2))) (by (repeat (first|exact tK1 _ _|apply tK2)))⟩) ?_|refine zS rfl rfl rfl rfl rfl rfl (fun _ _ q=>hS1 _ q.below _ _ ⟨_,hx1.trans (zCi _).symm,zCK q.own (by (repeat (first|exact tK1 _ _|apply tK2))) (by (repeat (first|exact tK1 _ _|apply tK2)))⟩) ?_|refine zS rfl rfl rfl rfl rfl rfl (fun _ _ q=>hV _ q.below _ _ (zCK q.own (by (repeat (first|exact tK1 _ _|apply tK2))) (by (repeat (first|exact tK1 _ _|apply tK2))))) ?_|(refine zCE rfl rfl rfl rfl rfl rfl (fun _ _ q=>hC1 _ q.below _ _ (zCK q.own (by (repeat (first|exact tK1 _ _|apply tK2))) (by (repeat (first|exact tK1 _ _|apply tK2))))) (fun M1 mc1=>?_))|refine zS rfl rfl rfl rfl rfl rfl (fun _ _ q=>zM1 nl _ _ _ _ _ (zAL q.own (Below.refl _ _)) (zAL q.own (Below.refl _ _)) (by omega)) ?_|refine zS rfl rfl rfl rfl rfl rfl (fun _ _ q=>hW1 _ q.below _ _ ⟨_,hx1.trans (zCi _).symm,zCK q.own (by (repeat (first|exact tK1 _ _|apply tK2))) (by (repeat (first|exact tK1 _ _|apply tK2)))⟩) ?_|refine zg rfl rfl rfl rfl rfl rfl ?_|refine zAh rfl rfl rfl rfl rfl ?_|refine zr rfl rfl rfl rfl rfl ?_|(refine zf rfl rfl rfl rfl rfl ?_;refine And.intro rfl (And.intro (by first|decide|exact Nat.le_of_ble_eq_true rfl|(simp;omega)) ⟨_,rfl,?_⟩))|(refine zo rfl rfl rfl rfl (fun b=>?_)))|(with_reducible first|refine zI ?_|refine zB ?_|refine zD ?_|refine zA ?_|refine zP ?_)|((with_reducible refine zF ?_ ?_);(· exact rfl))))
  obtain ⟨b15,hb15⟩:∃ x,x=b:=⟨_,rfl⟩
  subst hb15
  (repeat' (first|((with_reducible refine zG ?_);first|refine zE rfl rfl rfl rfl rfl ?_|refine zC rfl rfl rfl rfl rfl ?_|(refine zK rfl rfl rfl rfl rfl ?_;refine ⟨_,rfl,?_⟩)|refine zAf rfl rfl rfl rfl rfl rfl ?_|(refine zQ rfl rfl rfl rfl rfl rfl rfl (fun h=>?_) (fun h=>?_)<;>(dsimp only [cmpP] at h;(try (exfalso;omega))))|refine zS rfl rfl rfl rfl rfl rfl (fun _ _ q=>hW2 _ q.below _ _ ⟨_,hx2.trans (zCi _).symm,zCK q.own (by (repeat (first|exact tK1 _ _|apply tK2))) (by (repeat (first|exact tK1 _ _|apply tK2)))⟩) ?_|(refine zCE rfl rfl rfl rfl rfl rfl (fun _ _ q=>hC2 _ q.below _ _ (zCK q.own (by (repeat (first|exact tK1 _ _|apply tK2))) (by (repeat (first|exact tK1 _ _|apply tK2))))) (fun M2 mc2=>?_))|refine zg rfl rfl rfl rfl rfl rfl ?_|refine zr rfl rfl rfl rfl rfl ?_|(refine zf rfl rfl rfl rfl rfl ?_;refine And.intro rfl (And.intro (by first|decide|exact Nat.le_of_ble_eq_true rfl|(simp;omega)) ⟨_,rfl,?_⟩))|(refine zo rfl rfl rfl rfl (fun b=>?_)))|(with_reducible first|refine zI ?_|refine zB ?_|refine zD ?_|refine zA ?_|refine zb ?_|refine zP ?_|refine zd ?_|refine zN ?_)|((with_reducible refine zJ ?_ ?_);(· exact rfl))|((with_reducible refine zF ?_ ?_);(· exact rfl))))
  ·exact zT (by (exact zO.cons (by exact zq.tmp rfl) zO.nil)) () trivial rfl (fun _ _=>Own.nil _ _)
  obtain ⟨b17,hb17⟩:∃ x,x=b:=⟨_,rfl⟩
  subst hb17
  have hsf:sf=2:=by omega
  have hle:∀ j,j<c.beds.length→(needG c (c.beds.getD j default) c.hours.length).2≤zBe yss j c.hours.length:=fun j hj=>by
   have h1:=hysafe hsf j hj (c.hours.length - 1) (by omega)
   have h2:=zFp (xss:=yss) (i:=j) (k:=c.hours.length - 1) 1
   rw [show c.hours.length - 1+1=c.hours.length by omega] at h1 h2
   omega
  obtain ⟨hw1,hw2⟩:=hwl hle
  have hsi:=fun k hk=>zQQ (ml:=ml) (nl:=nl) (n:=c.beds.length) (fun i hi=>by
   rw [List.getD_eq_getElem?_getD,List.getD_eq_getElem?_getD,hna i hi,hma i hi]
   exact ⟨hle i hi,hni i hi,hmi i hi⟩) k hk
  have hsz:=zRB (ml:=ml) (nl:=nl) (n:=c.beds.length) (fun i hi=>by
   rw [List.getD_eq_getElem?_getD,List.getD_eq_getElem?_getD,hna i hi,hma i hi]
   exact hle i hi)
  refine zu (ι:=Nat) [2,5,6,8,10,15,17,19,133] rfl (fun i=>i≤c.beds.length) (fun i=>[(134,.int .i64 (i:Int)),(20,.int .i64 (sumD ml nl i))]) (fun i=>[.sl encI 1 N1 nl,.sl encI 1 M2 ml,.sl zAC 1 P1 pl1,.rows pl1,.sl zAC 1 P2 pl2,.rows pl2,.blk b2 [.slice A c.t.length ca,.slice B c.beds.length cb,.slice C c.hours.length cc,.int .i64 c.wear.lo,.int .i64 c.wear.hi,.int .i64 c.layer.lo,.int .i64 c.layer.hi,.int .i64 c.rate,.int .i64 c.limit,.int .i64 c.base],.blk b15 [.int .i64 wx.lo,.int .i64 wx.hi],.blk b17 [.int .i64 wy.lo,.int .i64 wy.hi]]) (fun i=>c.beds.length - i) 0 (Nat.zero_le _) (by (first|exact lK1|(repeat (first|exact lK1|(refine zL rfl ?_))))) (by (repeat (first|exact oK1 _|(refine oK2 (by (repeat (first|exact tK1 _ _|apply tK2))) ?_)))) ?_
  rintro i hi
  simp only [zAq,List.cons_append,List.nil_append]
  by_cases hil:i<c.beds.length
  ·have hx:=hna i hil
   have hy:=hma i hil
   have hxy:=hle i hil
   have hx0:=hni i hil
   have hy0:=hmi i hil
   have hs1:=hsi i hi
   have hsu:=zRC (ml:=ml) (nl:=nl) hy hx
   generalize (needG c (c.beds.getD i default) c.hours.length).2=x at hx hxy hx0 hsu
   generalize zBe yss i c.hours.length=y at hy hxy hy0 hsu
   have:zAR nl i x:=⟨hx⟩
   have:zAR ml i y:=⟨hy⟩
   refine zEb (enc:=encI) (A:=N1) (xs:=nl) (by (repeat (first|exact tK1 _ _|apply tK2))) (by omega) ?_
   rintro bn on rfl
   refine zEb (enc:=encI) (A:=M2) (xs:=ml) (by (repeat (first|exact tK1 _ _|apply tK2))) (by omega) ?_
   rintro bm om rfl
   (repeat' (first|((with_reducible refine zG ?_);first|refine zE rfl rfl rfl rfl rfl ?_|refine zC rfl rfl rfl rfl rfl ?_|(refine zQ rfl rfl rfl rfl rfl rfl rfl (fun h=>?_) (fun h=>?_)<;>(dsimp only [cmpP] at h;(try (exfalso;omega)))))|(with_reducible first|refine zI ?_|refine zB ?_|refine zD ?_|refine zA ?_|refine zP ?_|refine zN ?_)|((with_reducible refine zJ ?_ ?_);(· exact rfl))))
   (refine zAv (by kernel_rfl) (by kernel_rfl) (by kernel_rfl) ?_)
   (repeat' (first|((with_reducible refine zBH ?_);first|refine zW (zAK rfl rfl) rfl rfl rfl ?_|refine zW (zy rfl rfl (by exact rfl)) rfl rfl rfl ?_|(refine zCj rfl rfl rfl rfl rfl rfl rfl (fun h=>?_) (fun h=>?_)<;>(dsimp only [cmpP] at h;(try (exfalso;omega))))|refine zW (zAS (I:=i) rfl rfl rfl (by omega) (by first|omega|(dsimp only;omega))) rfl rfl rfl ?_)|(with_reducible refine zBs ?_)))
   (repeat' (first|(with_reducible first|refine zA ?_|refine zP ?_)|((with_reducible refine zF ?_ ?_);(· exact rfl))))
   (refine zAv (by kernel_rfl) (by kernel_rfl) (by kernel_rfl) ?_)
   (repeat' (first|((with_reducible refine zBH ?_);first|refine zW (zAK rfl rfl) rfl rfl rfl ?_|refine zW (zy rfl rfl (by exact rfl)) rfl rfl rfl ?_|refine zW (zBK rfl rfl) rfl rfl rfl ?_|refine zW (zAS (I:=i) rfl rfl rfl (by omega) (by first|omega|(dsimp only;omega))) rfl rfl rfl ?_|refine zW (zDg rfl rfl rfl (IntWalk.i64_in _ (by omega))) rfl rfl rfl ?_|refine zW (zEt rfl rfl rfl (IntWalk.i64_in _ (by omega))) rfl rfl rfl ?_)|(with_reducible refine zBs ?_)))
   (repeat' (first|((with_reducible refine zG ?_);first|refine zE rfl rfl rfl rfl rfl ?_|refine zj rfl rfl rfl rfl rfl rfl (by omega) ?_)|(with_reducible first|refine zB ?_|refine zD ?_|refine zA ?_|refine zk ?_)))
   rw [← hsu]
   exact zc (ι:=Nat) (i+1) (by omega) (by omega) (by (first|exact lK1|(repeat (first|exact lK1|(refine zL rfl ?_))))) (by (repeat (first|exact oK1 _|(refine oK2 (by (repeat (first|exact tK1 _ _|apply tK2))) ?_))))
  obtain rfl:i=c.beds.length:=by omega
  have hs1:=hsi c.beds.length (Nat.le_refl _)
  (repeat' (first|((with_reducible refine zG ?_);first|refine zE rfl rfl rfl rfl rfl ?_|refine zC rfl rfl rfl rfl rfl ?_|(refine zK rfl rfl rfl rfl rfl ?_;refine ⟨_,rfl,?_⟩)|refine ze rfl rfl rfl rfl rfl ?_|refine zAf rfl rfl rfl rfl rfl rfl ?_|(refine zQ rfl rfl rfl rfl rfl rfl rfl (fun h=>?_) (fun h=>?_)<;>(dsimp only [cmpP] at h;(try (exfalso;omega))))|refine zr rfl rfl rfl rfl rfl ?_)|(with_reducible first|refine zI ?_|refine zB ?_|refine zD ?_|refine zA ?_|refine zb ?_|refine zP ?_|refine zd ?_|refine zN ?_|refine zn ?_|refine zR ?_|refine zY ?_)|((with_reducible refine zJ ?_ ?_);(· exact rfl))|((with_reducible refine zF ?_ ?_);(· exact rfl))))
  ·exact zT (by (exact zO.cons (by exact zq.tmp rfl) zO.nil)) () trivial rfl (fun _ _=>Own.nil _ _)
  have hct:∀ i,i<c.beds.length→zBe yss i c.hours.length=(needG c (c.beds.getD i default) c.hours.length).2:=fun i hi=>by
   have h9:=hsz (by omega) i hi
   rw [List.getD_eq_getElem?_getD,List.getD_eq_getElem?_getD,hna i hi,hma i hi] at h9
   exact h9
  have hfi:=hfirst hsf hct
  have ha1:∀ i s,pl1[i]?=some s→xss.getD i []=s.xs:=fun i s h=>by
   rw [← hx1,List.getD_eq_getElem?_getD,List.getElem?_map,h];rfl
  have ha2:∀ i s,pl2[i]?=some s→yss.getD i []=s.xs:=fun i s h=>by
   rw [← hx2,List.getD_eq_getElem?_getD,List.getElem?_map,h];rfl
  have hr1:∀ s∈pl1,s.xs.length≤20:=fun s hs=>hxr _ (by rw [← hx1];exact List.mem_map_of_mem hs)
  have hr2:∀ s∈pl2,s.xs.length≤20:=fun s hs=>hyr _ (by rw [← hx2];exact List.mem_map_of_mem hs)
  clear hfirst hysafe hsz hsi hle hct hma hna hni hmi hyn hwl
  refine zu (ι:=Nat) [2,5,8,10,174] rfl (fun y=>y≤c.hours.length∧∀ k j,k<y→j<c.beds.length→zBB xss k j=zBB yss k j) (fun y=>[(175,.int .i64 (y:Int))]) (fun y=>[.sl zAC 1 P1 pl1,.rows pl1,.sl zAC 1 P2 pl2,.rows pl2,.blk b2 [.slice A c.t.length ca,.slice B c.beds.length cb,.slice C c.hours.length cc,.int .i64 c.wear.lo,.int .i64 c.wear.hi,.int .i64 c.layer.lo,.int .i64 c.layer.hi,.int .i64 c.rate,.int .i64 c.limit,.int .i64 c.base]]) (fun y=>c.hours.length - y) 0 ⟨Nat.zero_le _,fun k j hk=>by omega⟩ (by (first|exact lK1|(repeat (first|exact lK1|(refine zL rfl ?_))))) (by (repeat (first|exact oK1 _|(refine oK2 (by (repeat (first|exact tK1 _ _|apply tK2))) ?_)))) ?_
  rintro y ⟨hy,hag⟩
  simp only [zAq,List.cons_append,List.nil_append]
  by_cases hyl:y<c.hours.length
  ·obtain ⟨s1,hs1⟩:∃ s,pl1[y]?=some s:=⟨_,List.getElem?_eq_getElem (by omega)⟩
   obtain ⟨s2,hs2⟩:∃ s,pl2[y]?=some s:=⟨_,List.getElem?_eq_getElem (by omega)⟩
   have e1:=ha1 y s1 hs1
   have e2:=ha2 y s2 hs2
   have l1:=hr1 s1 (List.mem_of_getElem? hs1)
   have l2:=hr2 s2 (List.mem_of_getElem? hs2)
   have hm1:=List.mem_of_getElem? hs1
   have hm2:=List.mem_of_getElem? hs2
   have hh1:=fun i=>zKH s1.xs i s1.A s1.c
   have hh2:=fun i=>zKH s2.xs i s2.A s2.c
   have hp1:∀ i:Nat,s1.xs.contains (i:Int)=zBB xss y i:=fun i=>by unfold zBB;rw [e1]
   have hp2:∀ i:Nat,s2.xs.contains (i:Int)=zBB yss y i:=fun i=>by unfold zBB;rw [e2]
   have:zAR pl1 y s1:=⟨hs1⟩
   have:zAR pl2 y s2:=⟨hs2⟩
   refine zEb (enc:=zAC) (A:=P1) (xs:=pl1) (by (repeat (first|exact tK1 _ _|apply tK2))) (by omega) ?_
   rintro bp op rfl
   refine zEb (enc:=zAC) (A:=P2) (xs:=pl2) (by (repeat (first|exact tK1 _ _|apply tK2))) (by omega) ?_
   rintro bq oq rfl
   (repeat' (first|((with_reducible refine zG ?_);first|refine zE rfl rfl rfl rfl rfl ?_|refine zC rfl rfl rfl rfl rfl ?_|(refine zK rfl rfl rfl rfl rfl ?_;refine ⟨_,rfl,?_⟩)|refine ze rfl rfl rfl rfl rfl ?_|(refine zQ rfl rfl rfl rfl rfl rfl rfl (fun h=>?_) (fun h=>?_)<;>(dsimp only [cmpP] at h;(try (exfalso;omega))))|refine zr rfl rfl rfl rfl rfl ?_)|(with_reducible first|refine zI ?_|refine zB ?_|refine zD ?_|refine zA ?_|refine zP ?_|refine zN ?_)|((with_reducible refine zJ ?_ ?_);(· exact rfl))))
   refine zu (ι:=Nat) [2,5,8,10,174,175,22,180] rfl (fun i=>i≤c.beds.length∧∀ j,j<i→zBB xss y j=zBB yss y j) (fun i=>[(181,.int .i64 (i:Int))]) (fun i=>[.sl zAC 1 (some ⟨bp,op,none⟩) pl1,.rows pl1,.sl zAC 1 (some ⟨bq,oq,none⟩) pl2,.rows pl2,.blk b2 [.slice A c.t.length ca,.slice B c.beds.length cb,.slice C c.hours.length cc,.int .i64 c.wear.lo,.int .i64 c.wear.hi,.int .i64 c.layer.lo,.int .i64 c.layer.hi,.int .i64 c.rate,.int .i64 c.limit,.int .i64 c.base]]) (fun i=>c.beds.length - i) 0 ⟨Nat.zero_le _,fun j hj=>by omega⟩ (by (first|exact lK1|(repeat (first|exact lK1|(refine zL rfl ?_))))) (by (repeat (first|exact oK1 _|(refine oK2 (by (repeat (first|exact tK1 _ _|apply tK2))) ?_)))) ?_
   rintro i ⟨hi,hag2⟩
   simp only [zAq,List.cons_append,List.nil_append]
   by_cases hil:i<c.beds.length
   ·have hx:=hfi y i hyl hil fun k j hk hj hb=>by
     rcases hb with hb | ⟨rfl,hb⟩
     ·exact hag k j hb hj
     ·exact hag2 j hb
    have q1:=fun W hW=>hh1 (i:Int) W hW (by omega)
    have q2:=fun W hW=>hh2 (i:Int) W hW (by omega)
    rw [hp1] at q1
    rw [hp2] at q2
    have hnx:zBB xss y i=zBB yss y i→∀ j,j<i+1→zBB xss y j=zBB yss y j:=fun e j hj=>by
     by_cases e3:j=i
     ·rw [e3];exact e
     ·exact hag2 j (by omega)
    (repeat' (first|((with_reducible refine zG ?_);first|refine zE rfl rfl rfl rfl rfl ?_|refine zC rfl rfl rfl rfl rfl ?_|(refine zQ rfl rfl rfl rfl rfl rfl rfl (fun h=>?_) (fun h=>?_)<;>(dsimp only [cmpP] at h;(try (exfalso;omega)))))|(with_reducible first|refine zI ?_|refine zB ?_|refine zD ?_|refine zA ?_|refine zP ?_|refine zN ?_)|((with_reducible refine zJ ?_ ?_);(· exact rfl))))
    (refine zAv (by kernel_rfl) (by kernel_rfl) (by kernel_rfl) ?_)
    (repeat' (first|((with_reducible refine zBH ?_);first|refine zW (zAK rfl rfl) rfl rfl rfl ?_|refine zW (zy rfl rfl (by exact rfl)) rfl rfl rfl ?_|refine zW (zBK rfl rfl) rfl rfl rfl ?_|refine zW (zAS (I:=y) rfl rfl rfl (by omega) (by first|omega|(dsimp only;omega))) rfl rfl rfl ?_|refine zC4 rfl rfl rfl rfl rfl rfl (fun _ _ q=>q1 _ (zN1 q.own (by (repeat (first|exact tK1 _ _|apply tK2))) hm1)) ?_|refine zC4 rfl rfl rfl rfl rfl rfl (fun _ _ q=>q2 _ (zN1 q.own (by (repeat (first|exact tK1 _ _|apply tK2))) hm2)) ?_)|(with_reducible refine zBs ?_)))
    generalize zBB xss y i=x1 at *
    generalize zBB yss y i=x2 at *
    cases x1<;>cases x2
    ·(repeat' (first|((with_reducible refine zG ?_);first|refine zE rfl rfl rfl rfl rfl ?_|refine zAe rfl rfl rfl (zOv rfl rfl rfl) ?_|refine zj rfl rfl rfl rfl rfl rfl (by omega) ?_)|(with_reducible first|refine zI ?_|refine zB ?_|refine zD ?_|refine zA ?_|refine zP ?_|refine zk ?_)|((with_reducible refine zF ?_ ?_);(· exact rfl))))
     exact zc (ι:=Nat) (i+1) (by exact ⟨by omega,hnx rfl⟩) (by omega) (by (first|exact lK1|(repeat (first|exact lK1|(refine zL rfl ?_))))) (by (repeat (first|exact oK1 _|(refine oK2 (by (repeat (first|exact tK1 _ _|apply tK2))) ?_))))
    ·cases hx rfl
    ·(repeat' (first|((with_reducible refine zG ?_);first|refine zE rfl rfl rfl rfl rfl ?_|refine zC rfl rfl rfl rfl rfl ?_|refine zAf rfl rfl rfl rfl rfl rfl ?_|refine zAe rfl rfl rfl (zOv rfl rfl rfl) ?_)|(with_reducible first|refine zI ?_|refine zB ?_|refine zD ?_|refine zA ?_|refine zb ?_|refine zd ?_|refine zA3 ?_)|((with_reducible refine zJ ?_ ?_);(· exact rfl))))
     exact zT (by (exact zO.cons (by exact zq.tmp rfl) zO.nil)) () trivial rfl (fun _ _=>Own.nil _ _)
    ·(repeat' (first|((with_reducible refine zG ?_);first|refine zE rfl rfl rfl rfl rfl ?_|refine zAe rfl rfl rfl (zOv rfl rfl rfl) ?_|refine zj rfl rfl rfl rfl rfl rfl (by omega) ?_)|(with_reducible first|refine zI ?_|refine zB ?_|refine zD ?_|refine zA ?_|refine zP ?_|refine zk ?_)|((with_reducible refine zF ?_ ?_);(· exact rfl))))
     exact zc (ι:=Nat) (i+1) (by exact ⟨by omega,hnx rfl⟩) (by omega) (by (first|exact lK1|(repeat (first|exact lK1|(refine zL rfl ?_))))) (by (repeat (first|exact oK1 _|(refine oK2 (by (repeat (first|exact tK1 _ _|apply tK2))) ?_))))
   ·obtain rfl:i=c.beds.length:=by omega
    (repeat' (first|((with_reducible refine zG ?_);first|refine zE rfl rfl rfl rfl rfl ?_|(refine zQ rfl rfl rfl rfl rfl rfl rfl (fun h=>?_) (fun h=>?_)<;>(dsimp only [cmpP] at h;(try (exfalso;omega))))|refine zj rfl rfl rfl rfl rfl rfl (by omega) ?_)|(with_reducible first|refine zI ?_|refine zB ?_|refine zD ?_|refine zA ?_|refine zn ?_|refine zk ?_|refine zR ?_|refine zY ?_)|((with_reducible refine zF ?_ ?_);(· exact rfl))))
    have hh9:∀ k j,k<y+1→j<c.beds.length→zBB xss k j=zBB yss k j:=fun k j hk hj=>by
     by_cases e3:k=y
     ·rw [e3];exact hag2 j hj
     ·exact hag k j (by omega) hj
    exact zc (ι:=Nat) (y+1) (by exact ⟨by omega,hh9⟩) (by omega) (by (first|exact lK1|(repeat (first|exact lK1|(refine zL rfl ?_))))) (by (repeat (first|exact oK1 _|(refine oK2 (by (repeat (first|exact tK1 _ _|apply tK2))) ?_))))
  ·obtain rfl:y=c.hours.length:=by omega
   (repeat' (first|((with_reducible refine zG ?_);first|refine zE rfl rfl rfl rfl rfl ?_|refine zC rfl rfl rfl rfl rfl ?_|(refine zQ rfl rfl rfl rfl rfl rfl rfl (fun h=>?_) (fun h=>?_)<;>(dsimp only [cmpP] at h;(try (exfalso;omega)))))|(with_reducible first|refine zI ?_|refine zB ?_|refine zD ?_|refine zA ?_|refine zb ?_|refine zn ?_|refine zR ?_|refine zY ?_)|((with_reducible refine zF ?_ ?_);(· exact rfl))))
   exact zT (by (exact zO.cons (by exact zq.tmp rfl) zO.nil)) () trivial rfl (fun _ _=>Own.nil _ _)
end Go.Proofs.YtdigopgncfhiaaaGreatDoor
