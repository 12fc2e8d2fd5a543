/- F19 -/
import Derived.Test.YtdigopgncfhiaaaGreatDoorF18
set_option linter.unusedSimpArgs false
set_option linter.unusedVariables false
namespace Go.Proofs.YtdigopgncfhiaaaGreatDoor
open Go.RowKit
open Flow (Nd nE)
set_option maxRecDepth 20000
theorem zJ0 {e:Nd} {nx:Nd→List Nd} {V:List Nd} (hV:∀ u v,v∈nx u→v∈V):∀ (f:Nat) (u:Nd) (st:Flow.St) (M:Int),Flow.cnt V (Flow.upd st.un u false)<f→(∀ x y,-M≤Flow.rg st.rm x y∧Flow.rg st.rm x y≤M)→∀ x y,-(M+f)≤Flow.rg (Flow.push e nx f u st).2.rm x y∧Flow.rg (Flow.push e nx f u st).2.rm x y≤M+f
 | 0,u,st,M,h,_=>by omega
 | f+1,u,st,M,hc,hM=>by
  have key:∀ (l:List Nd) (s:Flow.St),(∀ v∈l,v∈V)→Flow.cnt V s.un≤f→(∀ x y,-M≤Flow.rg s.rm x y∧Flow.rg s.rm x y≤M)→∀ x y,-(M+f+1)≤Flow.rg (Flow.scan (Flow.push e nx f) u l s).2.rm x y∧Flow.rg (Flow.scan (Flow.push e nx f) u l s).2.rm x y≤M+f+1:=by
   intro l
   induction l with
   | nil=>intro s _ _ hs x y;have:=hs x y;simp only [Flow.scan];omega
   | cons v r ih =>
    intro s hl hcs hs x y
    simp only [Flow.scan]
    by_cases h0:Flow.rg s.rm u v=0∨s.un v=false
    ·rw [if_pos h0];exact ih s (fun z hz=>hl z (List.mem_cons_of_mem _ hz)) hcs hs x y
    ·rw [if_neg h0]
     have hun:s.un v=true:=by
      cases h9:s.un v with
      | true=>rfl
      | false=>exact absurd (.inr h9) h0
     cases hp:(Flow.push e nx f v s).1 with
     | true =>
      simp only [if_true]
      have h1:=zJ0 (e:=e) hV f v s M (Nat.lt_of_lt_of_le (Flow.zGM (hl v (by simp)) hun) hcs) hs x y
      rw [Flow.zF5]
      split<;>split<;>omega
     | false =>
      simp only [Bool.false_eq_true,if_false]
      have h3:=Flow.zIO hV (hl v (by simp)) hun hcs (s2:=(Flow.push e nx f v s).2) (by rw [← hp])
      exact ih _ (fun z hz=>hl z (List.mem_cons_of_mem _ hz)) (Nat.le_trans (Flow.zIR h3.un) hcs) (by rw [h3.rm];exact hs) x y
  intro x y
  simp only [Flow.push]
  by_cases hu:u=e
  ·rw [if_pos hu];have:=hM x y;simp only;omega
  ·rw [if_neg hu]
   have:=key (nx u) { st with un:=Flow.upd st.un u false } (hV u) (by simp only;omega) hM x y
   omega
def zt (be bu bn br bp:Nat):Value:=.func (.func 110) #[] #[.pointer (some ⟨be,0,none⟩),.pointer (some ⟨bu,0,none⟩),.pointer (some ⟨bn,0,none⟩),.pointer (some ⟨br,0,none⟩),.pointer (some ⟨bp,0,none⟩)]
def zEH (be bu bn br bp mu mr mn:Nat) (un:Nd→Bool) (rm:Nd × Nd→Option Int) (N:zBq):List Ent:=[.blk be (zO nE),.blk bu [.map (some mu)],.blk bn [.map (some mn)],.blk br [.map (some mr)],.blk bp [zt be bu bn br bp],.fm mu vNd vB (fuM un),.fm mr vNN vI rm,.net mn N]
set_option maxHeartbeats 8000000 in
theorem push_any (be bu bn br bp mu mr mn:Nat) (N:zBq) (V:List Nd) (hV:∀ u v,v∈nxN N u→v∈V) (hN:zFY N) (hlen:∀ k,(nxN N k).length≤100000) (f:Nat):∀ (u:Nd) (un:Nd→Bool) (rm:Nd × Nd→Option Int) (M:Int) (lo:Nat) (w:World),Flow.cnt V (Flow.upd un u false)<f→(∀ x y,-M≤Flow.rg rm x y∧Flow.rg rm x y≤M)→M+f≤1000000000→0≤M→lo≤w.heap.size→Own lo w (zEH be bu bn br bp mu mr mn un rm N) →
  zFN Tryz.prog 110 [vNd u,.pointer (some ⟨be,0,none⟩),.pointer (some ⟨bu,0,none⟩),.pointer (some ⟨bn,0,none⟩),.pointer (some ⟨br,0,none⟩),.pointer (some ⟨bp,0,none⟩)] w (zEH be bu bn br bp mu mr mn un rm N) (fun _:Unit=>.bool (Flow.push nE (nxN N) f u ⟨rm,un⟩).1)
   (fun _=>zEH be bu bn br bp mu mr mn (Flow.push nE (nxN N) f u ⟨rm,un⟩).2.un (Flow.push nE (nxN N) f u ⟨rm,un⟩).2.rm N) (fun _=>True):=by
 induction f with
 | zero=>intro u un rm M lo w h;omega
 | succ f ih =>
  intro u un rm M lo w hc hM hMf hM0 hlo hO
  have epush:Flow.push nE (nxN N) (f+1) u ⟨rm,un⟩=if u=nE then (true,⟨rm,un⟩) else Flow.scan (Flow.push nE (nxN N) f) u (nxN N u) ⟨rm,Flow.upd un u false⟩:=rfl
  have hO':=hO
  unfold zEH at hO' ⊢
  have hvn:∀ z:Nd,vNd z = .agg #[.int .i64 (z.k:Int),.int .i64 (z.a:Int),.int .i64 (z.b:Int)]:=fun _=>rfl
  rw [hvn u]
  refine zHz (n:=58) lo hlo hO' Tryz.func110 rfl rfl rfl ?_
  simp only [List.cons_append,List.nil_append]
  (repeat' (first|((with_reducible refine zF ?_);first|refine zC rfl rfl rfl ?_|(refine zK rfl rfl rfl ?_;refine ⟨_,rfl,?_⟩)|refine u_eqnd u nE rfl rfl rfl rfl (fun h=>?_) (fun h=>?_)|(refine zu rfl rfl rfl rfl (fun b=>?_)))|(with_reducible first|refine zH ?_|refine zB ?_|refine zD ?_|refine zA ?_|refine zX ?_|refine zT ?_|refine zZ ?_)|((with_reducible refine zI ?_ ?_);(· exact rfl))|((with_reducible refine zG ?_ ?_);(· exact rfl))))
  ·rw [epush,if_pos (by assumption)]
   exact zFx (by exact rTm rfl) () trivial rfl hlo (fun _ h=>h.sub (by (repeat constructor)))
  ·rw [epush,if_neg (by assumption)]
   (repeat' (first|((with_reducible refine zF ?_);first|(refine zK rfl rfl rfl ?_;refine ⟨_,rfl,?_⟩)|refine u_fmDel (kv:=vNd) (vv:=vB) u rfl zDG rfl rfl rfl rfl (by (repeat constructor)) ?_)|(with_reducible first|refine zH ?_|refine zB ?_|refine zD ?_|refine zA ?_)))
   rw [fuM_del]
   obtain ⟨b6,hb6⟩:∃ x,x=b:=⟨_,rfl⟩
   subst hb6
   obtain ⟨s,hs⟩:∃ s,(lookN N u).getD zAs=s:=⟨_,rfl⟩
   have hnx:nxN N u=s.xs:=by unfold nxN;rw [hs]
   have hll:=hlen u
   rw [hnx] at hll ⊢
   obtain ⟨sA,l,sc⟩:=s
   simp only at hll hnx
   (repeat' (first|((with_reducible refine zF ?_);first|refine zE rfl rfl rfl ?_|refine zAL rfl (zBc (kv:=vNd) (vv:=vSl) (f:=lookN N) u ⟨sA,l,sc⟩ rfl zDG zFu rfl rfl hs) ?_|refine zo rfl rfl rfl ?_)|(with_reducible first|refine zD ?_|refine zA ?_|refine zP ?_)))
   simp only [vSl]
   refine zw (ι:=Nat × (Nd→Bool)) [6,1,2,3,4,5,17,18] rfl (fun q=>q.1≤l.length∧Flow.scan (Flow.push nE (nxN N) f) u (l.drop q.1) ⟨rm,q.2⟩=Flow.scan (Flow.push nE (nxN N) f) u l ⟨rm,Flow.upd un u false⟩∧Flow.cnt V q.2≤f) (fun q=>[(19,.int .i64 (q.1:Int))])
    (fun q=>[.fm mu vNd vB (fuM q.2),.blk b6 (zO u),.blk be (zO nE),.blk bu [.map (some mu)],.blk bn [.map (some mn)],.blk br [.map (some mr)],.blk bp [zt be bu bn br bp],.fm mr vNN vI rm,.net mn N,.oldx w lo (feet [.blk be (zO nE),.blk bu [.map (some mu)],.blk bn [.map (some mn)],.blk br [.map (some mr)],.blk bp [zt be bu bn br bp],.fm mu vNd vB (fuM un),.fm mr vNN vI rm,.net mn N])]) (fun q=>l.length - q.1) (0,Flow.upd un u false) ⟨Nat.zero_le _,rfl,by simp only;omega⟩ (by (repeat first|exact lK1|refine zL rfl ?_)) (by (repeat constructor)) ?_
   rintro ⟨j,unj⟩ ⟨hj,hsc,hcj⟩
   simp only at hj hsc hcj
   simp only [zAt,List.cons_append,List.nil_append]
   by_cases hlt:j<l.length
   ·have hl:lookN N u=some ⟨sA,l,sc⟩:=by
     cases h9:lookN N u with
     | none=>rw [h9] at hs;cases hs;simp at hlt
     | some s=>rw [h9] at hs;simpa using hs
    obtain ⟨v,hv⟩:∃ v,l[j]?=some v:=⟨_,List.getElem?_eq_getElem hlt⟩
    have hvV:v∈V:=hV u v (by rw [hnx];exact List.mem_of_getElem? hv)
    refine zNG (by (repeat constructor)) hl (by simp only;omega) (fun g hA=>?_)
    obtain rfl:sA=some ⟨g,0,none⟩:=hA
    have:RowIn N g l:=⟨(u,⟨some ⟨g,0,none⟩,l,sc⟩),zGp hl,rfl,rfl⟩
    have:zAT l j v:=⟨hv⟩
    rw [show l.drop j=v::l.drop (j+1) by rw [List.drop_eq_getElem_cons hlt];rw [List.getElem?_eq_getElem hlt] at hv;cases hv;rfl] at hsc
    simp only [Flow.scan] at hsc
    have hri:=hM u v
    by_cases hr:Flow.rg rm u v=0
    ·rw [if_pos (.inl hr)] at hsc
     (repeat' (first|((with_reducible refine zF ?_);first|refine zE rfl rfl rfl ?_|(refine zK rfl rfl rfl ?_;refine ⟨_,rfl,?_⟩)|refine zAB rfl rfl rfl rfl ?_|refine zd rfl rfl rfl ?_|(refine zQ rfl rfl rfl rfl rfl (fun h=>?_) (fun h=>?_)<;>(dsimp only [cmpP] at h;(try (exfalso;omega))))|(refine zBp rfl rfl rfl ?_;refine ⟨_,rfl,?_⟩)|refine zAL rfl (zBc (kv:=vNN) (vv:=vI) (f:=rm) (u,v) 0 rfl zBe zA3 rfl rfl hr) ?_|refine zh rfl rfl rfl rfl (by omega) ?_|refine zl rfl rfl rfl rfl rfl (by omega) ?_|(refine zb rfl rfl rfl rfl rfl ?_;refine ⟨rfl,by first|decide|exact Nat.le_of_ble_eq_true rfl|(simp;omega),_,rfl,?_⟩)|(refine zj rfl rfl (fun b=>?_)))|(with_reducible first|refine zH ?_|refine zB ?_|refine zD ?_|refine zA ?_|refine zT ?_|refine zP ?_|refine zk ?_|refine zR ?_|refine zW ?_)|((with_reducible refine zI ?_ ?_);(· exact rfl))))
     exact zf (ι:=Nat × (Nd→Bool)) (j+1,unj) (by exact ⟨by omega,hsc,by omega⟩) (by simp only;omega) (by (repeat first|exact lK1|refine zL rfl ?_)) (by (repeat constructor))
    ·cases hun:unj v with
     | false =>
      rw [if_pos (.inr hun)] at hsc
      (repeat' (first|((with_reducible refine zF ?_);first|refine zE rfl rfl rfl ?_|(refine zK rfl rfl rfl ?_;refine ⟨_,rfl,?_⟩)|refine zAB rfl rfl rfl rfl ?_|refine zd rfl rfl rfl ?_|(refine zQ rfl rfl rfl rfl rfl (fun h=>?_) (fun h=>?_)<;>(dsimp only [cmpP] at h;(try (exfalso;omega))))|(refine zBp rfl rfl rfl ?_;refine ⟨_,rfl,?_⟩)|refine zAL rfl (zBc (kv:=vNN) (vv:=vI) (f:=rm) (u,v) (Flow.rg rm u v) rfl zBe zA3 rfl rfl rfl) ?_|refine zAL rfl (zBc (kv:=vNd) (vv:=vB) (f:=fuM unj) v false rfl zDG zGU rfl rfl (by rw [zKC,hun])) ?_|refine zAN rfl rfl rfl ?_|refine zh rfl rfl rfl rfl (by omega) ?_|refine zl rfl rfl rfl rfl rfl (by omega) ?_|(refine zb rfl rfl rfl rfl rfl ?_;refine ⟨rfl,by first|decide|exact Nat.le_of_ble_eq_true rfl|(simp;omega),_,rfl,?_⟩)|(refine zj rfl rfl (fun b=>?_)))|(with_reducible first|refine zH ?_|refine zB ?_|refine zD ?_|refine zA ?_|refine zT ?_|refine zP ?_|refine zk ?_|refine zR ?_|refine zW ?_)|((with_reducible refine zI ?_ ?_);(· exact rfl))))
      exact zf (ι:=Nat × (Nd→Bool)) (j+1,unj) (by exact ⟨by omega,hsc,by omega⟩) (by simp only;omega) (by (repeat first|exact lK1|refine zL rfl ?_)) (by (repeat constructor))
     | true =>
      rw [if_neg (by rintro (h1|h1);exact hr h1;rw [hun] at h1;cases h1)] at hsc
      have hcn:=Flow.zGM hvV hun
      have hcall:=fun W lo (hl:lo≤W.heap.size) ho=>ih v unj rm M lo W (by omega) hM (by omega) hM0 hl ho
      have hbd:=zJ0 (e:=nE) hV f v ⟨rm,unj⟩ M (by simp only;omega) hM
      cases hp:Flow.push nE (nxN N) f v ⟨rm,unj⟩ with
      | mk bb st =>
      obtain ⟨rm',un'⟩:=st
      simp only [hp] at hcall hbd hsc
      cases bb with
      | true =>
       simp only [if_true] at hsc
       have hbuv:=hbd u v
       rw [← hsc]
       (repeat' (first|((with_reducible refine zF ?_);first|refine zE rfl rfl rfl ?_|(refine zK rfl rfl rfl ?_;refine ⟨_,rfl,?_⟩)|refine zAB rfl rfl rfl rfl ?_|(refine zQ rfl rfl rfl rfl rfl (fun h=>?_) (fun h=>?_)<;>(dsimp only [cmpP] at h;(try (exfalso;omega))))|(refine zBp rfl rfl rfl ?_;refine ⟨_,rfl,?_⟩)|refine zAL rfl (zBc (kv:=vNN) (vv:=vI) (f:=rm) (u,v) (Flow.rg rm u v) rfl zBe zA3 rfl rfl rfl) ?_|refine zAL rfl (zBc (kv:=vNd) (vv:=vB) (f:=fuM unj) v true rfl zDG zGU rfl rfl (by rw [zKC,hun])) ?_|refine zAN rfl rfl rfl ?_|refine zl rfl rfl rfl rfl rfl (by omega) ?_|(refine zb rfl rfl rfl rfl rfl ?_;refine ⟨rfl,by first|decide|exact Nat.le_of_ble_eq_true rfl|(simp;omega),_,rfl,?_⟩)|(refine zj rfl rfl (fun b=>?_)))|(with_reducible first|refine zH ?_|refine zB ?_|refine zD ?_|refine zA ?_|refine zT ?_|refine zP ?_)|((with_reducible refine zI ?_ ?_);(· exact rfl))))
       refine zEM (zEH be bu bn br bp mu mr mn unj rm N) [.blk b6 (zO u),.blk b (zO v),.oldx w lo (feet [.blk be (zO nE),.blk bu [.map (some mu)],.blk bn [.map (some mn)],.blk br [.map (some mr)],.blk bp [zt be bu bn br bp],.fm mu vNd vB (fuM un),.fm mr vNN vI rm,.net mn N])] rfl rfl rfl rfl (by unfold zEH;(repeat constructor)) (fun a W q=>hcall W _ q.base (Own.append.1 q.own).1) (fun _ _=>?_)
       unfold zEH
       simp only [List.cons_append,List.nil_append]
       (repeat' (first|((with_reducible refine zF ?_);first|refine zAB rfl rfl rfl rfl ?_|refine zAN rfl rfl rfl ?_)|(with_reducible first|refine zH ?_|refine zD ?_|refine zA ?_|refine zT ?_)|((with_reducible refine zG ?_ ?_);(· exact rfl))))
       obtain ⟨b9,hb9⟩:∃ x,x=b:=⟨_,rfl⟩
       subst hb9
       refine u_viaN [(4,.pointer (some ⟨br,0,none⟩)),(6,.pointer (some ⟨b6,0,none⟩)),(9,.pointer (some ⟨b9,0,none⟩))] ([.fm mr vNN vI (zAM (rm') (u,v) (some (Flow.rg (rm') u v - 1))),.fm mu vNd vB (fuM un'),.blk b6 (zO u),.blk b9 (zO v),.blk br [.map (some mr)],.oldx w lo (feet [.blk be (zO nE),.blk bu [.map (some mu)],.blk bn [.map (some mn)],.blk br [.map (some mr)],.blk bp [zt be bu bn br bp],.fm mu vNd vB (fuM un),.fm mr vNN vI rm,.net mn N]),.blk be (zO nE),.blk bu [.map (some mu)],.blk bn [.map (some mn)],.blk bp [zt be bu bn br bp],.net mn N]) (fun K hK=>?_) ?_
       ·refine zIu 9 rfl (by kernel_rfl) (fun ops hops=>?_)
        have s511:∀ (g:Nat) (z:Value),U (zBR w lo) 58 [] [(48,.int .i64 (g:Int)),(47,.tuple #[z,.int .i64 (g:Int)]),(46,vI (Flow.rg (rm') u v - 1)),(45,vI (Flow.rg (rm') u v)),(44,vNN (u,v)),(43,vNd v),(42,vNd u),(41,.map (some mr)),(4,.pointer (some ⟨br,0,none⟩)),(6,.pointer (some ⟨b6,0,none⟩)),(9,.pointer (some ⟨b9,0,none⟩))] [.fm mr vNN vI (zAM (rm') (u,v) (some (Flow.rg (rm') u v - 1))),.fm mu vNd vB (fuM un'),.blk b6 (zO u),.blk b9 (zO v),.blk br [.map (some mr)],.oldx w lo (feet [.blk be (zO nE),.blk bu [.map (some mu)],.blk bn [.map (some mn)],.blk br [.map (some mr)],.blk bp [zt be bu bn br bp],.fm mu vNd vB (fuM un),.fm mr vNN vI rm,.net mn N]),.blk be (zO nE),.blk bu [.map (some mu)],.blk bn [.map (some mn)],.blk bp [zt be bu bn br bp],.net mn N] (wpA none Tryz.prog ops (qk K) 0 #[true,true,true,true,true,true,true,true,true]):=fun g z=>a_nil (by rw [hops];kernel_rfl) (zAy (hK.sub (by (repeat first|exact lK1|refine zL rfl ?_)) (by (repeat constructor))))
        have s255:∀ (g:Nat) (z:Value),U (zBR w lo) 58 [] [(48,.int .i64 (g:Int)),(47,.tuple #[z,.int .i64 (g:Int)]),(46,vI (Flow.rg (rm') u v - 1)),(45,vI (Flow.rg (rm') u v)),(44,vNN (u,v)),(43,vNd v),(42,vNd u),(41,.map (some mr)),(4,.pointer (some ⟨br,0,none⟩)),(6,.pointer (some ⟨b6,0,none⟩)),(9,.pointer (some ⟨b9,0,none⟩))] [.fms mr vNN vI (zAM (rm') (u,v) (some (((rm') (u,v)).getD 0))) (u,v) g,.fm mu vNd vB (fuM un'),.blk b6 (zO u),.blk b9 (zO v),.blk br [.map (some mr)],.oldx w lo (feet [.blk be (zO nE),.blk bu [.map (some mu)],.blk bn [.map (some mn)],.blk br [.map (some mr)],.blk bp [zt be bu bn br bp],.fm mu vNd vB (fuM un),.fm mr vNN vI rm,.net mn N]),.blk be (zO nE),.blk bu [.map (some mu)],.blk bn [.map (some mn)],.blk bp [zt be bu bn br bp],.net mn N] (wpA none Tryz.prog ops (qk K) 1 #[true,true,true,true,true,true,true,true,false]):=by
         intro g z
         refine zAf 8 [] (by rw [hops];kernel_rfl) ?_
         refine zz #[true,true,true,true,true,true,true,true,true] (by kernel_rfl) (by rw [hops];exact rfl) ?_ ?_
         ·refine zMl (Flow.rg (rm') u v - 1) rfl rfl rfl rfl rfl rfl (by (repeat constructor)) ?_
          rw [zFb]
          exact zD (zAy ((s511 g z).sub (by (repeat first|exact lK1|refine zL rfl ?_)) (by (repeat constructor))))
         exact zBV.nil
        have s223:∀ (g:Nat) (z:Value),U (zBR w lo) 58 [] [(48,.int .i64 (g:Int)),(47,.tuple #[z,.int .i64 (g:Int)]),(45,vI (Flow.rg (rm') u v)),(44,vNN (u,v)),(43,vNd v),(42,vNd u),(41,.map (some mr)),(4,.pointer (some ⟨br,0,none⟩)),(6,.pointer (some ⟨b6,0,none⟩)),(9,.pointer (some ⟨b9,0,none⟩))] [.fms mr vNN vI (zAM (rm') (u,v) (some (((rm') (u,v)).getD 0))) (u,v) g,.fm mu vNd vB (fuM un'),.blk b6 (zO u),.blk b9 (zO v),.blk br [.map (some mr)],.oldx w lo (feet [.blk be (zO nE),.blk bu [.map (some mu)],.blk bn [.map (some mn)],.blk br [.map (some mr)],.blk bp [zt be bu bn br bp],.fm mu vNd vB (fuM un),.fm mr vNN vI rm,.net mn N]),.blk be (zO nE),.blk bu [.map (some mu)],.blk bn [.map (some mn)],.blk bp [zt be bu bn br bp],.net mn N] (wpA none Tryz.prog ops (qk K) 2 #[true,true,true,true,true,false,true,true,false]):=by
         intro g z
         refine zAf 5 [] (by rw [hops];kernel_rfl) ?_
         refine zz #[true,true,true,true,true,true,true,true,false] (by kernel_rfl) (by rw [hops];exact rfl) ?_ ?_
         ·refine zCC rfl rfl rfl rfl (IntWalk.i64_in _ (by omega)) ?_
          exact zD (zAy ((s255 g z).sub (by (repeat first|exact lK1|refine zL rfl ?_)) (by (repeat constructor))))
         exact zBV.nil
        have s127:∀ (g:Nat) (z:Value),U (zBR w lo) 58 [] [(47,.tuple #[z,.int .i64 (g:Int)]),(46,vI (Flow.rg (rm') u v - 1)),(45,vI (Flow.rg (rm') u v)),(44,vNN (u,v)),(43,vNd v),(42,vNd u),(41,.map (some mr)),(4,.pointer (some ⟨br,0,none⟩)),(6,.pointer (some ⟨b6,0,none⟩)),(9,.pointer (some ⟨b9,0,none⟩))] [.fms mr vNN vI (zAM (rm') (u,v) (some (((rm') (u,v)).getD 0))) (u,v) g,.fm mu vNd vB (fuM un'),.blk b6 (zO u),.blk b9 (zO v),.blk br [.map (some mr)],.oldx w lo (feet [.blk be (zO nE),.blk bu [.map (some mu)],.blk bn [.map (some mn)],.blk br [.map (some mr)],.blk bp [zt be bu bn br bp],.fm mu vNd vB (fuM un),.fm mr vNN vI rm,.net mn N]),.blk be (zO nE),.blk bu [.map (some mu)],.blk bn [.map (some mn)],.blk bp [zt be bu bn br bp],.net mn N] (wpA none Tryz.prog ops (qk K) 2 #[true,true,true,true,true,true,true,false,false]):=by
         intro g z
         refine zAf 7 [] (by rw [hops];kernel_rfl) ?_
         refine zz #[true,true,true,true,true,true,true,true,false] (by kernel_rfl) (by rw [hops];exact rfl) ?_ ?_
         ·refine zc rfl rfl rfl rfl ?_
          exact zD (zAy ((s255 g z).sub (by (repeat first|exact lK1|refine zL rfl ?_)) (by (repeat constructor))))
         exact zBV.nil
        have s207:∀ (g:Nat) (z:Value),U (zBR w lo) 58 [] [(48,.int .i64 (g:Int)),(47,.tuple #[z,.int .i64 (g:Int)]),(44,vNN (u,v)),(43,vNd v),(42,vNd u),(41,.map (some mr)),(4,.pointer (some ⟨br,0,none⟩)),(6,.pointer (some ⟨b6,0,none⟩)),(9,.pointer (some ⟨b9,0,none⟩))] [.fms mr vNN vI (zAM (rm') (u,v) (some (((rm') (u,v)).getD 0))) (u,v) g,.fm mu vNd vB (fuM un'),.blk b6 (zO u),.blk b9 (zO v),.blk br [.map (some mr)],.oldx w lo (feet [.blk be (zO nE),.blk bu [.map (some mu)],.blk bn [.map (some mn)],.blk br [.map (some mr)],.blk bp [zt be bu bn br bp],.fm mu vNd vB (fuM un),.fm mr vNN vI rm,.net mn N]),.blk be (zO nE),.blk bu [.map (some mu)],.blk bn [.map (some mn)],.blk bp [zt be bu bn br bp],.net mn N] (wpA none Tryz.prog ops (qk K) 3 #[true,true,true,true,false,false,true,true,false]):=by
         intro g z
         refine zAf 4 [] (by rw [hops];kernel_rfl) ?_
         refine zz #[true,true,true,true,true,false,true,true,false] (by kernel_rfl) (by rw [hops];exact rfl) ?_ ?_
         ·refine zAL rfl (zBc (kv:=vNN) (vv:=vI) (u,v) (Flow.rg (rm') u v) rfl zBe zA3 rfl rfl (by first|rfl|simp [zAM,Flow.rg])) ?_
          exact zD (zAy ((s223 g z).sub (by (repeat first|exact lK1|refine zL rfl ?_)) (by (repeat constructor))))
         exact zBV.nil
        have s95:∀ (g:Nat) (z:Value),U (zBR w lo) 58 [] [(47,.tuple #[z,.int .i64 (g:Int)]),(45,vI (Flow.rg (rm') u v)),(44,vNN (u,v)),(43,vNd v),(42,vNd u),(41,.map (some mr)),(4,.pointer (some ⟨br,0,none⟩)),(6,.pointer (some ⟨b6,0,none⟩)),(9,.pointer (some ⟨b9,0,none⟩))] [.fms mr vNN vI (zAM (rm') (u,v) (some (((rm') (u,v)).getD 0))) (u,v) g,.fm mu vNd vB (fuM un'),.blk b6 (zO u),.blk b9 (zO v),.blk br [.map (some mr)],.oldx w lo (feet [.blk be (zO nE),.blk bu [.map (some mu)],.blk bn [.map (some mn)],.blk br [.map (some mr)],.blk bp [zt be bu bn br bp],.fm mu vNd vB (fuM un),.fm mr vNN vI rm,.net mn N]),.blk be (zO nE),.blk bu [.map (some mu)],.blk bn [.map (some mn)],.blk bp [zt be bu bn br bp],.net mn N] (wpA none Tryz.prog ops (qk K) 3 #[true,true,true,true,true,false,true,false,false]):=by
         intro g z
         refine zAf 5 [7] (by rw [hops];kernel_rfl) ?_
         refine zz #[true,true,true,true,true,true,true,false,false] (by kernel_rfl) (by rw [hops];exact rfl) ?_ ?_
         ·refine zCC rfl rfl rfl rfl (IntWalk.i64_in _ (by omega)) ?_
          exact zD (zAy ((s127 g z).sub (by (repeat first|exact lK1|refine zL rfl ?_)) (by (repeat constructor))))
         refine zz #[true,true,true,true,true,false,true,true,false] (by kernel_rfl) (by rw [hops];exact rfl) ?_ ?_
         ·refine zc rfl rfl rfl rfl ?_
          exact zD (zAy ((s223 g z).sub (by (repeat first|exact lK1|refine zL rfl ?_)) (by (repeat constructor))))
         exact zBV.nil
        have s63:U (zBR w lo) 58 [] [(46,vI (Flow.rg (rm') u v - 1)),(45,vI (Flow.rg (rm') u v)),(44,vNN (u,v)),(43,vNd v),(42,vNd u),(41,.map (some mr)),(4,.pointer (some ⟨br,0,none⟩)),(6,.pointer (some ⟨b6,0,none⟩)),(9,.pointer (some ⟨b9,0,none⟩))] [.fm mr vNN vI (rm'),.fm mu vNd vB (fuM un'),.blk b6 (zO u),.blk b9 (zO v),.blk br [.map (some mr)],.oldx w lo (feet [.blk be (zO nE),.blk bu [.map (some mu)],.blk bn [.map (some mn)],.blk br [.map (some mr)],.blk bp [zt be bu bn br bp],.fm mu vNd vB (fuM un),.fm mr vNN vI rm,.net mn N]),.blk be (zO nE),.blk bu [.map (some mu)],.blk bn [.map (some mn)],.blk bp [zt be bu bn br bp],.net mn N] (wpA none Tryz.prog ops (qk K) 3 #[true,true,true,true,true,true,false,false,false]):=by
         refine zAf 6 [] (by rw [hops];kernel_rfl) ?_
         refine zz #[true,true,true,true,true,true,true,false,false] (by kernel_rfl) (by rw [hops];exact rfl) ?_ ?_
         ·refine zE2 (kv:=vNN) (vv:=vI) (u,v) rfl zBe zA3 rfl rfl rfl (by (repeat constructor)) (fun g z=>?_)
          exact zD (zAy ((s127 g z).sub (by (repeat first|exact lK1|refine zL rfl ?_)) (by (repeat constructor))))
         exact zBV.nil
        have s79:∀ (g:Nat) (z:Value),U (zBR w lo) 58 [] [(47,.tuple #[z,.int .i64 (g:Int)]),(44,vNN (u,v)),(43,vNd v),(42,vNd u),(41,.map (some mr)),(4,.pointer (some ⟨br,0,none⟩)),(6,.pointer (some ⟨b6,0,none⟩)),(9,.pointer (some ⟨b9,0,none⟩))] [.fms mr vNN vI (zAM (rm') (u,v) (some (((rm') (u,v)).getD 0))) (u,v) g,.fm mu vNd vB (fuM un'),.blk b6 (zO u),.blk b9 (zO v),.blk br [.map (some mr)],.oldx w lo (feet [.blk be (zO nE),.blk bu [.map (some mu)],.blk bn [.map (some mn)],.blk br [.map (some mr)],.blk bp [zt be bu bn br bp],.fm mu vNd vB (fuM un),.fm mr vNN vI rm,.net mn N]),.blk be (zO nE),.blk bu [.map (some mu)],.blk bn [.map (some mn)],.blk bp [zt be bu bn br bp],.net mn N] (wpA none Tryz.prog ops (qk K) 4 #[true,true,true,true,false,false,true,false,false]):=by
         intro g z
         refine zAf 4 [7] (by rw [hops];kernel_rfl) ?_
         refine zz #[true,true,true,true,true,false,true,false,false] (by kernel_rfl) (by rw [hops];exact rfl) ?_ ?_
         ·refine zAL rfl (zBc (kv:=vNN) (vv:=vI) (u,v) (Flow.rg (rm') u v) rfl zBe zA3 rfl rfl (by first|rfl|simp [zAM,Flow.rg])) ?_
          exact zD (zAy ((s95 g z).sub (by (repeat first|exact lK1|refine zL rfl ?_)) (by (repeat constructor))))
         refine zz #[true,true,true,true,false,false,true,true,false] (by kernel_rfl) (by rw [hops];exact rfl) ?_ ?_
         ·refine zc rfl rfl rfl rfl ?_
          exact zD (zAy ((s207 g z).sub (by (repeat first|exact lK1|refine zL rfl ?_)) (by (repeat constructor))))
         exact zBV.nil
        have s31:U (zBR w lo) 58 [] [(45,vI (Flow.rg (rm') u v)),(44,vNN (u,v)),(43,vNd v),(42,vNd u),(41,.map (some mr)),(4,.pointer (some ⟨br,0,none⟩)),(6,.pointer (some ⟨b6,0,none⟩)),(9,.pointer (some ⟨b9,0,none⟩))] [.fm mr vNN vI (rm'),.fm mu vNd vB (fuM un'),.blk b6 (zO u),.blk b9 (zO v),.blk br [.map (some mr)],.oldx w lo (feet [.blk be (zO nE),.blk bu [.map (some mu)],.blk bn [.map (some mn)],.blk br [.map (some mr)],.blk bp [zt be bu bn br bp],.fm mu vNd vB (fuM un),.fm mr vNN vI rm,.net mn N]),.blk be (zO nE),.blk bu [.map (some mu)],.blk bn [.map (some mn)],.blk bp [zt be bu bn br bp],.net mn N] (wpA none Tryz.prog ops (qk K) 4 #[true,true,true,true,true,false,false,false,false]):=by
         refine zAf 5 [6] (by rw [hops];kernel_rfl) ?_
         refine zz #[true,true,true,true,true,true,false,false,false] (by kernel_rfl) (by rw [hops];exact rfl) ?_ ?_
         ·refine zCC rfl rfl rfl rfl (IntWalk.i64_in _ (by omega)) ?_
          exact zD (zAy ((s63).sub (by (repeat first|exact lK1|refine zL rfl ?_)) (by (repeat constructor))))
         refine zz #[true,true,true,true,true,false,true,false,false] (by kernel_rfl) (by rw [hops];exact rfl) ?_ ?_
         ·refine zE2 (kv:=vNN) (vv:=vI) (u,v) rfl zBe zA3 rfl rfl rfl (by (repeat constructor)) (fun g z=>?_)
          exact zD (zAy ((s95 g z).sub (by (repeat first|exact lK1|refine zL rfl ?_)) (by (repeat constructor))))
         exact zBV.nil
        have s15:U (zBR w lo) 58 [] [(44,vNN (u,v)),(43,vNd v),(42,vNd u),(41,.map (some mr)),(4,.pointer (some ⟨br,0,none⟩)),(6,.pointer (some ⟨b6,0,none⟩)),(9,.pointer (some ⟨b9,0,none⟩))] [.fm mr vNN vI (rm'),.fm mu vNd vB (fuM un'),.blk b6 (zO u),.blk b9 (zO v),.blk br [.map (some mr)],.oldx w lo (feet [.blk be (zO nE),.blk bu [.map (some mu)],.blk bn [.map (some mn)],.blk br [.map (some mr)],.blk bp [zt be bu bn br bp],.fm mu vNd vB (fuM un),.fm mr vNN vI rm,.net mn N]),.blk be (zO nE),.blk bu [.map (some mu)],.blk bn [.map (some mn)],.blk bp [zt be bu bn br bp],.net mn N] (wpA none Tryz.prog ops (qk K) 5 #[true,true,true,true,false,false,false,false,false]):=by
         refine zAf 4 [6] (by rw [hops];kernel_rfl) ?_
         refine zz #[true,true,true,true,true,false,false,false,false] (by kernel_rfl) (by rw [hops];exact rfl) ?_ ?_
         ·refine zAL rfl (zBc (kv:=vNN) (vv:=vI) (u,v) (Flow.rg (rm') u v) rfl zBe zA3 rfl rfl (by first|rfl|simp [zAM,Flow.rg])) ?_
          exact zD (zAy ((s31).sub (by (repeat first|exact lK1|refine zL rfl ?_)) (by (repeat constructor))))
         refine zz #[true,true,true,true,false,false,true,false,false] (by kernel_rfl) (by rw [hops];exact rfl) ?_ ?_
         ·refine zE2 (kv:=vNN) (vv:=vI) (u,v) rfl zBe zA3 rfl rfl rfl (by (repeat constructor)) (fun g z=>?_)
          exact zD (zAy ((s79 g z).sub (by (repeat first|exact lK1|refine zL rfl ?_)) (by (repeat constructor))))
         exact zBV.nil
        have s14:U (zBR w lo) 58 [] [(44,vNN (u,v)),(43,vNd v),(42,vNd u),(4,.pointer (some ⟨br,0,none⟩)),(6,.pointer (some ⟨b6,0,none⟩)),(9,.pointer (some ⟨b9,0,none⟩))] [.fm mr vNN vI (rm'),.fm mu vNd vB (fuM un'),.blk b6 (zO u),.blk b9 (zO v),.blk br [.map (some mr)],.oldx w lo (feet [.blk be (zO nE),.blk bu [.map (some mu)],.blk bn [.map (some mn)],.blk br [.map (some mr)],.blk bp [zt be bu bn br bp],.fm mu vNd vB (fuM un),.fm mr vNN vI rm,.net mn N]),.blk be (zO nE),.blk bu [.map (some mu)],.blk bn [.map (some mn)],.blk bp [zt be bu bn br bp],.net mn N] (wpA none Tryz.prog ops (qk K) 6 #[false,true,true,true,false,false,false,false,false]):=by
         refine zAf 0 [] (by rw [hops];kernel_rfl) ?_
         refine zz #[true,true,true,true,false,false,false,false,false] (by kernel_rfl) (by rw [hops];exact rfl) ?_ ?_
         ·(refine zK rfl rfl rfl ?_;refine ⟨_,rfl,?_⟩)
          exact zD (zAy ((s15).sub (by (repeat first|exact lK1|refine zL rfl ?_)) (by (repeat constructor))))
         exact zBV.nil
        have s7:U (zBR w lo) 58 [] [(43,vNd v),(42,vNd u),(41,.map (some mr)),(4,.pointer (some ⟨br,0,none⟩)),(6,.pointer (some ⟨b6,0,none⟩)),(9,.pointer (some ⟨b9,0,none⟩))] [.fm mr vNN vI (rm'),.fm mu vNd vB (fuM un'),.blk b6 (zO u),.blk b9 (zO v),.blk br [.map (some mr)],.oldx w lo (feet [.blk be (zO nE),.blk bu [.map (some mu)],.blk bn [.map (some mn)],.blk br [.map (some mr)],.blk bp [zt be bu bn br bp],.fm mu vNd vB (fuM un),.fm mr vNN vI rm,.net mn N]),.blk be (zO nE),.blk bu [.map (some mu)],.blk bn [.map (some mn)],.blk bp [zt be bu bn br bp],.net mn N] (wpA none Tryz.prog ops (qk K) 6 #[true,true,true,false,false,false,false,false,false]):=by
         refine zAf 3 [] (by rw [hops];kernel_rfl) ?_
         refine zz #[true,true,true,true,false,false,false,false,false] (by kernel_rfl) (by rw [hops];exact rfl) ?_ ?_
         ·(refine zBp rfl rfl rfl ?_;refine ⟨_,rfl,?_⟩)
          exact zD (zAy ((s15).sub (by (repeat first|exact lK1|refine zL rfl ?_)) (by (repeat constructor))))
         exact zBV.nil
        have s6:U (zBR w lo) 58 [] [(43,vNd v),(42,vNd u),(4,.pointer (some ⟨br,0,none⟩)),(6,.pointer (some ⟨b6,0,none⟩)),(9,.pointer (some ⟨b9,0,none⟩))] [.fm mr vNN vI (rm'),.fm mu vNd vB (fuM un'),.blk b6 (zO u),.blk b9 (zO v),.blk br [.map (some mr)],.oldx w lo (feet [.blk be (zO nE),.blk bu [.map (some mu)],.blk bn [.map (some mn)],.blk br [.map (some mr)],.blk bp [zt be bu bn br bp],.fm mu vNd vB (fuM un),.fm mr vNN vI rm,.net mn N]),.blk be (zO nE),.blk bu [.map (some mu)],.blk bn [.map (some mn)],.blk bp [zt be bu bn br bp],.net mn N] (wpA none Tryz.prog ops (qk K) 7 #[false,true,true,false,false,false,false,false,false]):=by
         refine zAf 0 [3] (by rw [hops];kernel_rfl) ?_
         refine zz #[true,true,true,false,false,false,false,false,false] (by kernel_rfl) (by rw [hops];exact rfl) ?_ ?_
         ·(refine zK rfl rfl rfl ?_;refine ⟨_,rfl,?_⟩)
          exact zD (zAy ((s7).sub (by (repeat first|exact lK1|refine zL rfl ?_)) (by (repeat constructor))))
         refine zz #[false,true,true,true,false,false,false,false,false] (by kernel_rfl) (by rw [hops];exact rfl) ?_ ?_
         ·(refine zBp rfl rfl rfl ?_;refine ⟨_,rfl,?_⟩)
          exact zD (zAy ((s14).sub (by (repeat first|exact lK1|refine zL rfl ?_)) (by (repeat constructor))))
         exact zBV.nil
        have s5:U (zBR w lo) 58 [] [(43,vNd v),(41,.map (some mr)),(4,.pointer (some ⟨br,0,none⟩)),(6,.pointer (some ⟨b6,0,none⟩)),(9,.pointer (some ⟨b9,0,none⟩))] [.fm mr vNN vI (rm'),.fm mu vNd vB (fuM un'),.blk b6 (zO u),.blk b9 (zO v),.blk br [.map (some mr)],.oldx w lo (feet [.blk be (zO nE),.blk bu [.map (some mu)],.blk bn [.map (some mn)],.blk br [.map (some mr)],.blk bp [zt be bu bn br bp],.fm mu vNd vB (fuM un),.fm mr vNN vI rm,.net mn N]),.blk be (zO nE),.blk bu [.map (some mu)],.blk bn [.map (some mn)],.blk bp [zt be bu bn br bp],.net mn N] (wpA none Tryz.prog ops (qk K) 7 #[true,false,true,false,false,false,false,false,false]):=by
         refine zAf 1 [] (by rw [hops];kernel_rfl) ?_
         refine zz #[true,true,true,false,false,false,false,false,false] (by kernel_rfl) (by rw [hops];exact rfl) ?_ ?_
         ·(refine zK rfl rfl rfl ?_;refine ⟨_,rfl,?_⟩)
          exact zD (zAy ((s7).sub (by (repeat first|exact lK1|refine zL rfl ?_)) (by (repeat constructor))))
         exact zBV.nil
        have s3:U (zBR w lo) 58 [] [(42,vNd u),(41,.map (some mr)),(4,.pointer (some ⟨br,0,none⟩)),(6,.pointer (some ⟨b6,0,none⟩)),(9,.pointer (some ⟨b9,0,none⟩))] [.fm mr vNN vI (rm'),.fm mu vNd vB (fuM un'),.blk b6 (zO u),.blk b9 (zO v),.blk br [.map (some mr)],.oldx w lo (feet [.blk be (zO nE),.blk bu [.map (some mu)],.blk bn [.map (some mn)],.blk br [.map (some mr)],.blk bp [zt be bu bn br bp],.fm mu vNd vB (fuM un),.fm mr vNN vI rm,.net mn N]),.blk be (zO nE),.blk bu [.map (some mu)],.blk bn [.map (some mn)],.blk bp [zt be bu bn br bp],.net mn N] (wpA none Tryz.prog ops (qk K) 7 #[true,true,false,false,false,false,false,false,false]):=by
         refine zAf 2 [] (by rw [hops];kernel_rfl) ?_
         refine zz #[true,true,true,false,false,false,false,false,false] (by kernel_rfl) (by rw [hops];exact rfl) ?_ ?_
         ·(refine zK rfl rfl rfl ?_;refine ⟨_,rfl,?_⟩)
          exact zD (zAy ((s7).sub (by (repeat first|exact lK1|refine zL rfl ?_)) (by (repeat constructor))))
         exact zBV.nil
        have s4:U (zBR w lo) 58 [] [(43,vNd v),(4,.pointer (some ⟨br,0,none⟩)),(6,.pointer (some ⟨b6,0,none⟩)),(9,.pointer (some ⟨b9,0,none⟩))] [.fm mr vNN vI (rm'),.fm mu vNd vB (fuM un'),.blk b6 (zO u),.blk b9 (zO v),.blk br [.map (some mr)],.oldx w lo (feet [.blk be (zO nE),.blk bu [.map (some mu)],.blk bn [.map (some mn)],.blk br [.map (some mr)],.blk bp [zt be bu bn br bp],.fm mu vNd vB (fuM un),.fm mr vNN vI rm,.net mn N]),.blk be (zO nE),.blk bu [.map (some mu)],.blk bn [.map (some mn)],.blk bp [zt be bu bn br bp],.net mn N] (wpA none Tryz.prog ops (qk K) 8 #[false,false,true,false,false,false,false,false,false]):=by
         refine zAf 0 [1] (by rw [hops];kernel_rfl) ?_
         refine zz #[true,false,true,false,false,false,false,false,false] (by kernel_rfl) (by rw [hops];exact rfl) ?_ ?_
         ·(refine zK rfl rfl rfl ?_;refine ⟨_,rfl,?_⟩)
          exact zD (zAy ((s5).sub (by (repeat first|exact lK1|refine zL rfl ?_)) (by (repeat constructor))))
         refine zz #[false,true,true,false,false,false,false,false,false] (by kernel_rfl) (by rw [hops];exact rfl) ?_ ?_
         ·(refine zK rfl rfl rfl ?_;refine ⟨_,rfl,?_⟩)
          exact zD (zAy ((s6).sub (by (repeat first|exact lK1|refine zL rfl ?_)) (by (repeat constructor))))
         exact zBV.nil
        have s2:U (zBR w lo) 58 [] [(42,vNd u),(4,.pointer (some ⟨br,0,none⟩)),(6,.pointer (some ⟨b6,0,none⟩)),(9,.pointer (some ⟨b9,0,none⟩))] [.fm mr vNN vI (rm'),.fm mu vNd vB (fuM un'),.blk b6 (zO u),.blk b9 (zO v),.blk br [.map (some mr)],.oldx w lo (feet [.blk be (zO nE),.blk bu [.map (some mu)],.blk bn [.map (some mn)],.blk br [.map (some mr)],.blk bp [zt be bu bn br bp],.fm mu vNd vB (fuM un),.fm mr vNN vI rm,.net mn N]),.blk be (zO nE),.blk bu [.map (some mu)],.blk bn [.map (some mn)],.blk bp [zt be bu bn br bp],.net mn N] (wpA none Tryz.prog ops (qk K) 8 #[false,true,false,false,false,false,false,false,false]):=by
         refine zAf 0 [2] (by rw [hops];kernel_rfl) ?_
         refine zz #[true,true,false,false,false,false,false,false,false] (by kernel_rfl) (by rw [hops];exact rfl) ?_ ?_
         ·(refine zK rfl rfl rfl ?_;refine ⟨_,rfl,?_⟩)
          exact zD (zAy ((s3).sub (by (repeat first|exact lK1|refine zL rfl ?_)) (by (repeat constructor))))
         refine zz #[false,true,true,false,false,false,false,false,false] (by kernel_rfl) (by rw [hops];exact rfl) ?_ ?_
         ·(refine zK rfl rfl rfl ?_;refine ⟨_,rfl,?_⟩)
          exact zD (zAy ((s6).sub (by (repeat first|exact lK1|refine zL rfl ?_)) (by (repeat constructor))))
         exact zBV.nil
        have s1:U (zBR w lo) 58 [] [(41,.map (some mr)),(4,.pointer (some ⟨br,0,none⟩)),(6,.pointer (some ⟨b6,0,none⟩)),(9,.pointer (some ⟨b9,0,none⟩))] [.fm mr vNN vI (rm'),.fm mu vNd vB (fuM un'),.blk b6 (zO u),.blk b9 (zO v),.blk br [.map (some mr)],.oldx w lo (feet [.blk be (zO nE),.blk bu [.map (some mu)],.blk bn [.map (some mn)],.blk br [.map (some mr)],.blk bp [zt be bu bn br bp],.fm mu vNd vB (fuM un),.fm mr vNN vI rm,.net mn N]),.blk be (zO nE),.blk bu [.map (some mu)],.blk bn [.map (some mn)],.blk bp [zt be bu bn br bp],.net mn N] (wpA none Tryz.prog ops (qk K) 8 #[true,false,false,false,false,false,false,false,false]):=by
         refine zAf 1 [2] (by rw [hops];kernel_rfl) ?_
         refine zz #[true,true,false,false,false,false,false,false,false] (by kernel_rfl) (by rw [hops];exact rfl) ?_ ?_
         ·(refine zK rfl rfl rfl ?_;refine ⟨_,rfl,?_⟩)
          exact zD (zAy ((s3).sub (by (repeat first|exact lK1|refine zL rfl ?_)) (by (repeat constructor))))
         refine zz #[true,false,true,false,false,false,false,false,false] (by kernel_rfl) (by rw [hops];exact rfl) ?_ ?_
         ·(refine zK rfl rfl rfl ?_;refine ⟨_,rfl,?_⟩)
          exact zD (zAy ((s5).sub (by (repeat first|exact lK1|refine zL rfl ?_)) (by (repeat constructor))))
         exact zBV.nil
        have s0:U (zBR w lo) 58 [] [(4,.pointer (some ⟨br,0,none⟩)),(6,.pointer (some ⟨b6,0,none⟩)),(9,.pointer (some ⟨b9,0,none⟩))] [.fm mr vNN vI (rm'),.fm mu vNd vB (fuM un'),.blk b6 (zO u),.blk b9 (zO v),.blk br [.map (some mr)],.oldx w lo (feet [.blk be (zO nE),.blk bu [.map (some mu)],.blk bn [.map (some mn)],.blk br [.map (some mr)],.blk bp [zt be bu bn br bp],.fm mu vNd vB (fuM un),.fm mr vNN vI rm,.net mn N]),.blk be (zO nE),.blk bu [.map (some mu)],.blk bn [.map (some mn)],.blk bp [zt be bu bn br bp],.net mn N] (wpA none Tryz.prog ops (qk K) 9 #[false,false,false,false,false,false,false,false,false]):=by
         refine zAf 0 [1,2] (by rw [hops];kernel_rfl) ?_
         refine zz #[true,false,false,false,false,false,false,false,false] (by kernel_rfl) (by rw [hops];exact rfl) ?_ ?_
         ·(refine zK rfl rfl rfl ?_;refine ⟨_,rfl,?_⟩)
          exact zD (zAy ((s1).sub (by (repeat first|exact lK1|refine zL rfl ?_)) (by (repeat constructor))))
         refine zz #[false,true,false,false,false,false,false,false,false] (by kernel_rfl) (by rw [hops];exact rfl) ?_ ?_
         ·(refine zK rfl rfl rfl ?_;refine ⟨_,rfl,?_⟩)
          exact zD (zAy ((s2).sub (by (repeat first|exact lK1|refine zL rfl ?_)) (by (repeat constructor))))
         refine zz #[false,false,true,false,false,false,false,false,false] (by kernel_rfl) (by rw [hops];exact rfl) ?_ ?_
         ·(refine zK rfl rfl rfl ?_;refine ⟨_,rfl,?_⟩)
          exact zD (zAy ((s4).sub (by (repeat first|exact lK1|refine zL rfl ?_)) (by (repeat constructor))))
         exact zBV.nil
        exact s0.sub (by (repeat first|exact lK1|refine zL rfl ?_)) (by (repeat constructor))
       have hbd2:∀ x y,-(M+f+1)≤Flow.rg (Flow.dec rm' u v) x y∧Flow.rg (Flow.dec rm' u v) x y≤M+f+1:=fun x y=>by have:=hbd x y;rw [Flow.rg_dec];split<;>omega
       have hbv:=hbd2 v u
       rw [show zAM rm' (u,v) (some (Flow.rg rm' u v - 1))=Flow.dec rm' u v from rfl]
       (repeat' (first|(with_reducible first|refine zH ?_|refine zA ?_)))
       refine u_viaN [(4,.pointer (some ⟨br,0,none⟩)),(6,.pointer (some ⟨b6,0,none⟩)),(9,.pointer (some ⟨b9,0,none⟩))] ([.fm mr vNN vI (zAM (Flow.dec rm' u v) (v,u) (some (Flow.rg (Flow.dec rm' u v) v u+1))),.fm mu vNd vB (fuM un'),.blk b6 (zO u),.blk b9 (zO v),.blk br [.map (some mr)],.oldx w lo (feet [.blk be (zO nE),.blk bu [.map (some mu)],.blk bn [.map (some mn)],.blk br [.map (some mr)],.blk bp [zt be bu bn br bp],.fm mu vNd vB (fuM un),.fm mr vNN vI rm,.net mn N]),.blk be (zO nE),.blk bu [.map (some mu)],.blk bn [.map (some mn)],.blk bp [zt be bu bn br bp],.net mn N]) (fun K hK=>?_) ?_
       ·refine zIu 9 rfl (by kernel_rfl) (fun ops hops=>?_)
        have s511:∀ (g:Nat) (z:Value),U (zBR w lo) 58 [] [(56,.int .i64 (g:Int)),(55,.tuple #[z,.int .i64 (g:Int)]),(54,vI (Flow.rg (Flow.dec rm' u v) v u+1)),(53,vI (Flow.rg (Flow.dec rm' u v) v u)),(52,vNN (v,u)),(51,vNd u),(50,vNd v),(49,.map (some mr)),(4,.pointer (some ⟨br,0,none⟩)),(6,.pointer (some ⟨b6,0,none⟩)),(9,.pointer (some ⟨b9,0,none⟩))] [.fm mr vNN vI (zAM (Flow.dec rm' u v) (v,u) (some (Flow.rg (Flow.dec rm' u v) v u+1))),.fm mu vNd vB (fuM un'),.blk b6 (zO u),.blk b9 (zO v),.blk br [.map (some mr)],.oldx w lo (feet [.blk be (zO nE),.blk bu [.map (some mu)],.blk bn [.map (some mn)],.blk br [.map (some mr)],.blk bp [zt be bu bn br bp],.fm mu vNd vB (fuM un),.fm mr vNN vI rm,.net mn N]),.blk be (zO nE),.blk bu [.map (some mu)],.blk bn [.map (some mn)],.blk bp [zt be bu bn br bp],.net mn N] (wpA none Tryz.prog ops (qk K) 0 #[true,true,true,true,true,true,true,true,true]):=fun g z=>a_nil (by rw [hops];kernel_rfl) (zAy (hK.sub (by (repeat first|exact lK1|refine zL rfl ?_)) (by (repeat constructor))))
        have s255:∀ (g:Nat) (z:Value),U (zBR w lo) 58 [] [(56,.int .i64 (g:Int)),(55,.tuple #[z,.int .i64 (g:Int)]),(54,vI (Flow.rg (Flow.dec rm' u v) v u+1)),(53,vI (Flow.rg (Flow.dec rm' u v) v u)),(52,vNN (v,u)),(51,vNd u),(50,vNd v),(49,.map (some mr)),(4,.pointer (some ⟨br,0,none⟩)),(6,.pointer (some ⟨b6,0,none⟩)),(9,.pointer (some ⟨b9,0,none⟩))] [.fms mr vNN vI (zAM (Flow.dec rm' u v) (v,u) (some (((Flow.dec rm' u v) (v,u)).getD 0))) (v,u) g,.fm mu vNd vB (fuM un'),.blk b6 (zO u),.blk b9 (zO v),.blk br [.map (some mr)],.oldx w lo (feet [.blk be (zO nE),.blk bu [.map (some mu)],.blk bn [.map (some mn)],.blk br [.map (some mr)],.blk bp [zt be bu bn br bp],.fm mu vNd vB (fuM un),.fm mr vNN vI rm,.net mn N]),.blk be (zO nE),.blk bu [.map (some mu)],.blk bn [.map (some mn)],.blk bp [zt be bu bn br bp],.net mn N] (wpA none Tryz.prog ops (qk K) 1 #[true,true,true,true,true,true,true,true,false]):=by
         intro g z
         refine zAf 8 [] (by rw [hops];kernel_rfl) ?_
         refine zz #[true,true,true,true,true,true,true,true,true] (by kernel_rfl) (by rw [hops];exact rfl) ?_ ?_
         ·refine zMl (Flow.rg (Flow.dec rm' u v) v u+1) rfl rfl rfl rfl rfl rfl (by (repeat constructor)) ?_
          rw [zFb]
          exact zD (zAy ((s511 g z).sub (by (repeat first|exact lK1|refine zL rfl ?_)) (by (repeat constructor))))
         exact zBV.nil
        have s223:∀ (g:Nat) (z:Value),U (zBR w lo) 58 [] [(56,.int .i64 (g:Int)),(55,.tuple #[z,.int .i64 (g:Int)]),(53,vI (Flow.rg (Flow.dec rm' u v) v u)),(52,vNN (v,u)),(51,vNd u),(50,vNd v),(49,.map (some mr)),(4,.pointer (some ⟨br,0,none⟩)),(6,.pointer (some ⟨b6,0,none⟩)),(9,.pointer (some ⟨b9,0,none⟩))] [.fms mr vNN vI (zAM (Flow.dec rm' u v) (v,u) (some (((Flow.dec rm' u v) (v,u)).getD 0))) (v,u) g,.fm mu vNd vB (fuM un'),.blk b6 (zO u),.blk b9 (zO v),.blk br [.map (some mr)],.oldx w lo (feet [.blk be (zO nE),.blk bu [.map (some mu)],.blk bn [.map (some mn)],.blk br [.map (some mr)],.blk bp [zt be bu bn br bp],.fm mu vNd vB (fuM un),.fm mr vNN vI rm,.net mn N]),.blk be (zO nE),.blk bu [.map (some mu)],.blk bn [.map (some mn)],.blk bp [zt be bu bn br bp],.net mn N] (wpA none Tryz.prog ops (qk K) 2 #[true,true,true,true,true,false,true,true,false]):=by
         intro g z
         refine zAf 5 [] (by rw [hops];kernel_rfl) ?_
         refine zz #[true,true,true,true,true,true,true,true,false] (by kernel_rfl) (by rw [hops];exact rfl) ?_ ?_
         ·refine zBd rfl rfl rfl rfl (IntWalk.i64_in _ (by omega)) ?_
          exact zD (zAy ((s255 g z).sub (by (repeat first|exact lK1|refine zL rfl ?_)) (by (repeat constructor))))
         exact zBV.nil
        have s127:∀ (g:Nat) (z:Value),U (zBR w lo) 58 [] [(55,.tuple #[z,.int .i64 (g:Int)]),(54,vI (Flow.rg (Flow.dec rm' u v) v u+1)),(53,vI (Flow.rg (Flow.dec rm' u v) v u)),(52,vNN (v,u)),(51,vNd u),(50,vNd v),(49,.map (some mr)),(4,.pointer (some ⟨br,0,none⟩)),(6,.pointer (some ⟨b6,0,none⟩)),(9,.pointer (some ⟨b9,0,none⟩))] [.fms mr vNN vI (zAM (Flow.dec rm' u v) (v,u) (some (((Flow.dec rm' u v) (v,u)).getD 0))) (v,u) g,.fm mu vNd vB (fuM un'),.blk b6 (zO u),.blk b9 (zO v),.blk br [.map (some mr)],.oldx w lo (feet [.blk be (zO nE),.blk bu [.map (some mu)],.blk bn [.map (some mn)],.blk br [.map (some mr)],.blk bp [zt be bu bn br bp],.fm mu vNd vB (fuM un),.fm mr vNN vI rm,.net mn N]),.blk be (zO nE),.blk bu [.map (some mu)],.blk bn [.map (some mn)],.blk bp [zt be bu bn br bp],.net mn N] (wpA none Tryz.prog ops (qk K) 2 #[true,true,true,true,true,true,true,false,false]):=by
         intro g z
         refine zAf 7 [] (by rw [hops];kernel_rfl) ?_
         refine zz #[true,true,true,true,true,true,true,true,false] (by kernel_rfl) (by rw [hops];exact rfl) ?_ ?_
         ·refine zc rfl rfl rfl rfl ?_
          exact zD (zAy ((s255 g z).sub (by (repeat first|exact lK1|refine zL rfl ?_)) (by (repeat constructor))))
         exact zBV.nil
        have s207:∀ (g:Nat) (z:Value),U (zBR w lo) 58 [] [(56,.int .i64 (g:Int)),(55,.tuple #[z,.int .i64 (g:Int)]),(52,vNN (v,u)),(51,vNd u),(50,vNd v),(49,.map (some mr)),(4,.pointer (some ⟨br,0,none⟩)),(6,.pointer (some ⟨b6,0,none⟩)),(9,.pointer (some ⟨b9,0,none⟩))] [.fms mr vNN vI (zAM (Flow.dec rm' u v) (v,u) (some (((Flow.dec rm' u v) (v,u)).getD 0))) (v,u) g,.fm mu vNd vB (fuM un'),.blk b6 (zO u),.blk b9 (zO v),.blk br [.map (some mr)],.oldx w lo (feet [.blk be (zO nE),.blk bu [.map (some mu)],.blk bn [.map (some mn)],.blk br [.map (some mr)],.blk bp [zt be bu bn br bp],.fm mu vNd vB (fuM un),.fm mr vNN vI rm,.net mn N]),.blk be (zO nE),.blk bu [.map (some mu)],.blk bn [.map (some mn)],.blk bp [zt be bu bn br bp],.net mn N] (wpA none Tryz.prog ops (qk K) 3 #[true,true,true,true,false,false,true,true,false]):=by
         intro g z
         refine zAf 4 [] (by rw [hops];kernel_rfl) ?_
         refine zz #[true,true,true,true,true,false,true,true,false] (by kernel_rfl) (by rw [hops];exact rfl) ?_ ?_
         ·refine zAL rfl (zBc (kv:=vNN) (vv:=vI) (v,u) (Flow.rg (Flow.dec rm' u v) v u) rfl zBe zA3 rfl rfl (by first|rfl|simp [zAM,Flow.rg])) ?_
          exact zD (zAy ((s223 g z).sub (by (repeat first|exact lK1|refine zL rfl ?_)) (by (repeat constructor))))
         exact zBV.nil
        have s95:∀ (g:Nat) (z:Value),U (zBR w lo) 58 [] [(55,.tuple #[z,.int .i64 (g:Int)]),(53,vI (Flow.rg (Flow.dec rm' u v) v u)),(52,vNN (v,u)),(51,vNd u),(50,vNd v),(49,.map (some mr)),(4,.pointer (some ⟨br,0,none⟩)),(6,.pointer (some ⟨b6,0,none⟩)),(9,.pointer (some ⟨b9,0,none⟩))] [.fms mr vNN vI (zAM (Flow.dec rm' u v) (v,u) (some (((Flow.dec rm' u v) (v,u)).getD 0))) (v,u) g,.fm mu vNd vB (fuM un'),.blk b6 (zO u),.blk b9 (zO v),.blk br [.map (some mr)],.oldx w lo (feet [.blk be (zO nE),.blk bu [.map (some mu)],.blk bn [.map (some mn)],.blk br [.map (some mr)],.blk bp [zt be bu bn br bp],.fm mu vNd vB (fuM un),.fm mr vNN vI rm,.net mn N]),.blk be (zO nE),.blk bu [.map (some mu)],.blk bn [.map (some mn)],.blk bp [zt be bu bn br bp],.net mn N] (wpA none Tryz.prog ops (qk K) 3 #[true,true,true,true,true,false,true,false,false]):=by
         intro g z
         refine zAf 5 [7] (by rw [hops];kernel_rfl) ?_
         refine zz #[true,true,true,true,true,true,true,false,false] (by kernel_rfl) (by rw [hops];exact rfl) ?_ ?_
         ·refine zBd rfl rfl rfl rfl (IntWalk.i64_in _ (by omega)) ?_
          exact zD (zAy ((s127 g z).sub (by (repeat first|exact lK1|refine zL rfl ?_)) (by (repeat constructor))))
         refine zz #[true,true,true,true,true,false,true,true,false] (by kernel_rfl) (by rw [hops];exact rfl) ?_ ?_
         ·refine zc rfl rfl rfl rfl ?_
          exact zD (zAy ((s223 g z).sub (by (repeat first|exact lK1|refine zL rfl ?_)) (by (repeat constructor))))
         exact zBV.nil
        have s63:U (zBR w lo) 58 [] [(54,vI (Flow.rg (Flow.dec rm' u v) v u+1)),(53,vI (Flow.rg (Flow.dec rm' u v) v u)),(52,vNN (v,u)),(51,vNd u),(50,vNd v),(49,.map (some mr)),(4,.pointer (some ⟨br,0,none⟩)),(6,.pointer (some ⟨b6,0,none⟩)),(9,.pointer (some ⟨b9,0,none⟩))] [.fm mr vNN vI (Flow.dec rm' u v),.fm mu vNd vB (fuM un'),.blk b6 (zO u),.blk b9 (zO v),.blk br [.map (some mr)],.oldx w lo (feet [.blk be (zO nE),.blk bu [.map (some mu)],.blk bn [.map (some mn)],.blk br [.map (some mr)],.blk bp [zt be bu bn br bp],.fm mu vNd vB (fuM un),.fm mr vNN vI rm,.net mn N]),.blk be (zO nE),.blk bu [.map (some mu)],.blk bn [.map (some mn)],.blk bp [zt be bu bn br bp],.net mn N] (wpA none Tryz.prog ops (qk K) 3 #[true,true,true,true,true,true,false,false,false]):=by
         refine zAf 6 [] (by rw [hops];kernel_rfl) ?_
         refine zz #[true,true,true,true,true,true,true,false,false] (by kernel_rfl) (by rw [hops];exact rfl) ?_ ?_
         ·refine zE2 (kv:=vNN) (vv:=vI) (v,u) rfl zBe zA3 rfl rfl rfl (by (repeat constructor)) (fun g z=>?_)
          exact zD (zAy ((s127 g z).sub (by (repeat first|exact lK1|refine zL rfl ?_)) (by (repeat constructor))))
         exact zBV.nil
        have s79:∀ (g:Nat) (z:Value),U (zBR w lo) 58 [] [(55,.tuple #[z,.int .i64 (g:Int)]),(52,vNN (v,u)),(51,vNd u),(50,vNd v),(49,.map (some mr)),(4,.pointer (some ⟨br,0,none⟩)),(6,.pointer (some ⟨b6,0,none⟩)),(9,.pointer (some ⟨b9,0,none⟩))] [.fms mr vNN vI (zAM (Flow.dec rm' u v) (v,u) (some (((Flow.dec rm' u v) (v,u)).getD 0))) (v,u) g,.fm mu vNd vB (fuM un'),.blk b6 (zO u),.blk b9 (zO v),.blk br [.map (some mr)],.oldx w lo (feet [.blk be (zO nE),.blk bu [.map (some mu)],.blk bn [.map (some mn)],.blk br [.map (some mr)],.blk bp [zt be bu bn br bp],.fm mu vNd vB (fuM un),.fm mr vNN vI rm,.net mn N]),.blk be (zO nE),.blk bu [.map (some mu)],.blk bn [.map (some mn)],.blk bp [zt be bu bn br bp],.net mn N] (wpA none Tryz.prog ops (qk K) 4 #[true,true,true,true,false,false,true,false,false]):=by
         intro g z
         refine zAf 4 [7] (by rw [hops];kernel_rfl) ?_
         refine zz #[true,true,true,true,true,false,true,false,false] (by kernel_rfl) (by rw [hops];exact rfl) ?_ ?_
         ·refine zAL rfl (zBc (kv:=vNN) (vv:=vI) (v,u) (Flow.rg (Flow.dec rm' u v) v u) rfl zBe zA3 rfl rfl (by first|rfl|simp [zAM,Flow.rg])) ?_
          exact zD (zAy ((s95 g z).sub (by (repeat first|exact lK1|refine zL rfl ?_)) (by (repeat constructor))))
         refine zz #[true,true,true,true,false,false,true,true,false] (by kernel_rfl) (by rw [hops];exact rfl) ?_ ?_
         ·refine zc rfl rfl rfl rfl ?_
          exact zD (zAy ((s207 g z).sub (by (repeat first|exact lK1|refine zL rfl ?_)) (by (repeat constructor))))
         exact zBV.nil
        have s31:U (zBR w lo) 58 [] [(53,vI (Flow.rg (Flow.dec rm' u v) v u)),(52,vNN (v,u)),(51,vNd u),(50,vNd v),(49,.map (some mr)),(4,.pointer (some ⟨br,0,none⟩)),(6,.pointer (some ⟨b6,0,none⟩)),(9,.pointer (some ⟨b9,0,none⟩))] [.fm mr vNN vI (Flow.dec rm' u v),.fm mu vNd vB (fuM un'),.blk b6 (zO u),.blk b9 (zO v),.blk br [.map (some mr)],.oldx w lo (feet [.blk be (zO nE),.blk bu [.map (some mu)],.blk bn [.map (some mn)],.blk br [.map (some mr)],.blk bp [zt be bu bn br bp],.fm mu vNd vB (fuM un),.fm mr vNN vI rm,.net mn N]),.blk be (zO nE),.blk bu [.map (some mu)],.blk bn [.map (some mn)],.blk bp [zt be bu bn br bp],.net mn N] (wpA none Tryz.prog ops (qk K) 4 #[true,true,true,true,true,false,false,false,false]):=by
         refine zAf 5 [6] (by rw [hops];kernel_rfl) ?_
         refine zz #[true,true,true,true,true,true,false,false,false] (by kernel_rfl) (by rw [hops];exact rfl) ?_ ?_
         ·refine zBd rfl rfl rfl rfl (IntWalk.i64_in _ (by omega)) ?_
          exact zD (zAy ((s63).sub (by (repeat first|exact lK1|refine zL rfl ?_)) (by (repeat constructor))))
         refine zz #[true,true,true,true,true,false,true,false,false] (by kernel_rfl) (by rw [hops];exact rfl) ?_ ?_
         ·refine zE2 (kv:=vNN) (vv:=vI) (v,u) rfl zBe zA3 rfl rfl rfl (by (repeat constructor)) (fun g z=>?_)
          exact zD (zAy ((s95 g z).sub (by (repeat first|exact lK1|refine zL rfl ?_)) (by (repeat constructor))))
         exact zBV.nil
        have s15:U (zBR w lo) 58 [] [(52,vNN (v,u)),(51,vNd u),(50,vNd v),(49,.map (some mr)),(4,.pointer (some ⟨br,0,none⟩)),(6,.pointer (some ⟨b6,0,none⟩)),(9,.pointer (some ⟨b9,0,none⟩))] [.fm mr vNN vI (Flow.dec rm' u v),.fm mu vNd vB (fuM un'),.blk b6 (zO u),.blk b9 (zO v),.blk br [.map (some mr)],.oldx w lo (feet [.blk be (zO nE),.blk bu [.map (some mu)],.blk bn [.map (some mn)],.blk br [.map (some mr)],.blk bp [zt be bu bn br bp],.fm mu vNd vB (fuM un),.fm mr vNN vI rm,.net mn N]),.blk be (zO nE),.blk bu [.map (some mu)],.blk bn [.map (some mn)],.blk bp [zt be bu bn br bp],.net mn N] (wpA none Tryz.prog ops (qk K) 5 #[true,true,true,true,false,false,false,false,false]):=by
         refine zAf 4 [6] (by rw [hops];kernel_rfl) ?_
         refine zz #[true,true,true,true,true,false,false,false,false] (by kernel_rfl) (by rw [hops];exact rfl) ?_ ?_
         ·refine zAL rfl (zBc (kv:=vNN) (vv:=vI) (v,u) (Flow.rg (Flow.dec rm' u v) v u) rfl zBe zA3 rfl rfl (by first|rfl|simp [zAM,Flow.rg])) ?_
          exact zD (zAy ((s31).sub (by (repeat first|exact lK1|refine zL rfl ?_)) (by (repeat constructor))))
         refine zz #[true,true,true,true,false,false,true,false,false] (by kernel_rfl) (by rw [hops];exact rfl) ?_ ?_
         ·refine zE2 (kv:=vNN) (vv:=vI) (v,u) rfl zBe zA3 rfl rfl rfl (by (repeat constructor)) (fun g z=>?_)
          exact zD (zAy ((s79 g z).sub (by (repeat first|exact lK1|refine zL rfl ?_)) (by (repeat constructor))))
         exact zBV.nil
        have s14:U (zBR w lo) 58 [] [(52,vNN (v,u)),(51,vNd u),(50,vNd v),(4,.pointer (some ⟨br,0,none⟩)),(6,.pointer (some ⟨b6,0,none⟩)),(9,.pointer (some ⟨b9,0,none⟩))] [.fm mr vNN vI (Flow.dec rm' u v),.fm mu vNd vB (fuM un'),.blk b6 (zO u),.blk b9 (zO v),.blk br [.map (some mr)],.oldx w lo (feet [.blk be (zO nE),.blk bu [.map (some mu)],.blk bn [.map (some mn)],.blk br [.map (some mr)],.blk bp [zt be bu bn br bp],.fm mu vNd vB (fuM un),.fm mr vNN vI rm,.net mn N]),.blk be (zO nE),.blk bu [.map (some mu)],.blk bn [.map (some mn)],.blk bp [zt be bu bn br bp],.net mn N] (wpA none Tryz.prog ops (qk K) 6 #[false,true,true,true,false,false,false,false,false]):=by
         refine zAf 0 [] (by rw [hops];kernel_rfl) ?_
         refine zz #[true,true,true,true,false,false,false,false,false] (by kernel_rfl) (by rw [hops];exact rfl) ?_ ?_
         ·(refine zK rfl rfl rfl ?_;refine ⟨_,rfl,?_⟩)
          exact zD (zAy ((s15).sub (by (repeat first|exact lK1|refine zL rfl ?_)) (by (repeat constructor))))
         exact zBV.nil
        have s7:U (zBR w lo) 58 [] [(51,vNd u),(50,vNd v),(49,.map (some mr)),(4,.pointer (some ⟨br,0,none⟩)),(6,.pointer (some ⟨b6,0,none⟩)),(9,.pointer (some ⟨b9,0,none⟩))] [.fm mr vNN vI (Flow.dec rm' u v),.fm mu vNd vB (fuM un'),.blk b6 (zO u),.blk b9 (zO v),.blk br [.map (some mr)],.oldx w lo (feet [.blk be (zO nE),.blk bu [.map (some mu)],.blk bn [.map (some mn)],.blk br [.map (some mr)],.blk bp [zt be bu bn br bp],.fm mu vNd vB (fuM un),.fm mr vNN vI rm,.net mn N]),.blk be (zO nE),.blk bu [.map (some mu)],.blk bn [.map (some mn)],.blk bp [zt be bu bn br bp],.net mn N] (wpA none Tryz.prog ops (qk K) 6 #[true,true,true,false,false,false,false,false,false]):=by
         refine zAf 3 [] (by rw [hops];kernel_rfl) ?_
         refine zz #[true,true,true,true,false,false,false,false,false] (by kernel_rfl) (by rw [hops];exact rfl) ?_ ?_
         ·(refine zBp rfl rfl rfl ?_;refine ⟨_,rfl,?_⟩)
          exact zD (zAy ((s15).sub (by (repeat first|exact lK1|refine zL rfl ?_)) (by (repeat constructor))))
         exact zBV.nil
        have s6:U (zBR w lo) 58 [] [(51,vNd u),(50,vNd v),(4,.pointer (some ⟨br,0,none⟩)),(6,.pointer (some ⟨b6,0,none⟩)),(9,.pointer (some ⟨b9,0,none⟩))] [.fm mr vNN vI (Flow.dec rm' u v),.fm mu vNd vB (fuM un'),.blk b6 (zO u),.blk b9 (zO v),.blk br [.map (some mr)],.oldx w lo (feet [.blk be (zO nE),.blk bu [.map (some mu)],.blk bn [.map (some mn)],.blk br [.map (some mr)],.blk bp [zt be bu bn br bp],.fm mu vNd vB (fuM un),.fm mr vNN vI rm,.net mn N]),.blk be (zO nE),.blk bu [.map (some mu)],.blk bn [.map (some mn)],.blk bp [zt be bu bn br bp],.net mn N] (wpA none Tryz.prog ops (qk K) 7 #[false,true,true,false,false,false,false,false,false]):=by
         refine zAf 0 [3] (by rw [hops];kernel_rfl) ?_
         refine zz #[true,true,true,false,false,false,false,false,false] (by kernel_rfl) (by rw [hops];exact rfl) ?_ ?_
         ·(refine zK rfl rfl rfl ?_;refine ⟨_,rfl,?_⟩)
          exact zD (zAy ((s7).sub (by (repeat first|exact lK1|refine zL rfl ?_)) (by (repeat constructor))))
         refine zz #[false,true,true,true,false,false,false,false,false] (by kernel_rfl) (by rw [hops];exact rfl) ?_ ?_
         ·(refine zBp rfl rfl rfl ?_;refine ⟨_,rfl,?_⟩)
          exact zD (zAy ((s14).sub (by (repeat first|exact lK1|refine zL rfl ?_)) (by (repeat constructor))))
         exact zBV.nil
        have s5:U (zBR w lo) 58 [] [(51,vNd u),(49,.map (some mr)),(4,.pointer (some ⟨br,0,none⟩)),(6,.pointer (some ⟨b6,0,none⟩)),(9,.pointer (some ⟨b9,0,none⟩))] [.fm mr vNN vI (Flow.dec rm' u v),.fm mu vNd vB (fuM un'),.blk b6 (zO u),.blk b9 (zO v),.blk br [.map (some mr)],.oldx w lo (feet [.blk be (zO nE),.blk bu [.map (some mu)],.blk bn [.map (some mn)],.blk br [.map (some mr)],.blk bp [zt be bu bn br bp],.fm mu vNd vB (fuM un),.fm mr vNN vI rm,.net mn N]),.blk be (zO nE),.blk bu [.map (some mu)],.blk bn [.map (some mn)],.blk bp [zt be bu bn br bp],.net mn N] (wpA none Tryz.prog ops (qk K) 7 #[true,false,true,false,false,false,false,false,false]):=by
         refine zAf 1 [] (by rw [hops];kernel_rfl) ?_
         refine zz #[true,true,true,false,false,false,false,false,false] (by kernel_rfl) (by rw [hops];exact rfl) ?_ ?_
         ·(refine zK rfl rfl rfl ?_;refine ⟨_,rfl,?_⟩)
          exact zD (zAy ((s7).sub (by (repeat first|exact lK1|refine zL rfl ?_)) (by (repeat constructor))))
         exact zBV.nil
        have s3:U (zBR w lo) 58 [] [(50,vNd v),(49,.map (some mr)),(4,.pointer (some ⟨br,0,none⟩)),(6,.pointer (some ⟨b6,0,none⟩)),(9,.pointer (some ⟨b9,0,none⟩))] [.fm mr vNN vI (Flow.dec rm' u v),.fm mu vNd vB (fuM un'),.blk b6 (zO u),.blk b9 (zO v),.blk br [.map (some mr)],.oldx w lo (feet [.blk be (zO nE),.blk bu [.map (some mu)],.blk bn [.map (some mn)],.blk br [.map (some mr)],.blk bp [zt be bu bn br bp],.fm mu vNd vB (fuM un),.fm mr vNN vI rm,.net mn N]),.blk be (zO nE),.blk bu [.map (some mu)],.blk bn [.map (some mn)],.blk bp [zt be bu bn br bp],.net mn N] (wpA none Tryz.prog ops (qk K) 7 #[true,true,false,false,false,false,false,false,false]):=by
         refine zAf 2 [] (by rw [hops];kernel_rfl) ?_
         refine zz #[true,true,true,false,false,false,false,false,false] (by kernel_rfl) (by rw [hops];exact rfl) ?_ ?_
         ·(refine zK rfl rfl rfl ?_;refine ⟨_,rfl,?_⟩)
          exact zD (zAy ((s7).sub (by (repeat first|exact lK1|refine zL rfl ?_)) (by (repeat constructor))))
         exact zBV.nil
        have s4:U (zBR w lo) 58 [] [(51,vNd u),(4,.pointer (some ⟨br,0,none⟩)),(6,.pointer (some ⟨b6,0,none⟩)),(9,.pointer (some ⟨b9,0,none⟩))] [.fm mr vNN vI (Flow.dec rm' u v),.fm mu vNd vB (fuM un'),.blk b6 (zO u),.blk b9 (zO v),.blk br [.map (some mr)],.oldx w lo (feet [.blk be (zO nE),.blk bu [.map (some mu)],.blk bn [.map (some mn)],.blk br [.map (some mr)],.blk bp [zt be bu bn br bp],.fm mu vNd vB (fuM un),.fm mr vNN vI rm,.net mn N]),.blk be (zO nE),.blk bu [.map (some mu)],.blk bn [.map (some mn)],.blk bp [zt be bu bn br bp],.net mn N] (wpA none Tryz.prog ops (qk K) 8 #[false,false,true,false,false,false,false,false,false]):=by
         refine zAf 0 [1] (by rw [hops];kernel_rfl) ?_
         refine zz #[true,false,true,false,false,false,false,false,false] (by kernel_rfl) (by rw [hops];exact rfl) ?_ ?_
         ·(refine zK rfl rfl rfl ?_;refine ⟨_,rfl,?_⟩)
          exact zD (zAy ((s5).sub (by (repeat first|exact lK1|refine zL rfl ?_)) (by (repeat constructor))))
         refine zz #[false,true,true,false,false,false,false,false,false] (by kernel_rfl) (by rw [hops];exact rfl) ?_ ?_
         ·(refine zK rfl rfl rfl ?_;refine ⟨_,rfl,?_⟩)
          exact zD (zAy ((s6).sub (by (repeat first|exact lK1|refine zL rfl ?_)) (by (repeat constructor))))
         exact zBV.nil
        have s2:U (zBR w lo) 58 [] [(50,vNd v),(4,.pointer (some ⟨br,0,none⟩)),(6,.pointer (some ⟨b6,0,none⟩)),(9,.pointer (some ⟨b9,0,none⟩))] [.fm mr vNN vI (Flow.dec rm' u v),.fm mu vNd vB (fuM un'),.blk b6 (zO u),.blk b9 (zO v),.blk br [.map (some mr)],.oldx w lo (feet [.blk be (zO nE),.blk bu [.map (some mu)],.blk bn [.map (some mn)],.blk br [.map (some mr)],.blk bp [zt be bu bn br bp],.fm mu vNd vB (fuM un),.fm mr vNN vI rm,.net mn N]),.blk be (zO nE),.blk bu [.map (some mu)],.blk bn [.map (some mn)],.blk bp [zt be bu bn br bp],.net mn N] (wpA none Tryz.prog ops (qk K) 8 #[false,true,false,false,false,false,false,false,false]):=by
         refine zAf 0 [2] (by rw [hops];kernel_rfl) ?_
         refine zz #[true,true,false,false,false,false,false,false,false] (by kernel_rfl) (by rw [hops];exact rfl) ?_ ?_
         ·(refine zK rfl rfl rfl ?_;refine ⟨_,rfl,?_⟩)
          exact zD (zAy ((s3).sub (by (repeat first|exact lK1|refine zL rfl ?_)) (by (repeat constructor))))
         refine zz #[false,true,true,false,false,false,false,false,false] (by kernel_rfl) (by rw [hops];exact rfl) ?_ ?_
         ·(refine zK rfl rfl rfl ?_;refine ⟨_,rfl,?_⟩)
          exact zD (zAy ((s6).sub (by (repeat first|exact lK1|refine zL rfl ?_)) (by (repeat constructor))))
         exact zBV.nil
        have s1:U (zBR w lo) 58 [] [(49,.map (some mr)),(4,.pointer (some ⟨br,0,none⟩)),(6,.pointer (some ⟨b6,0,none⟩)),(9,.pointer (some ⟨b9,0,none⟩))] [.fm mr vNN vI (Flow.dec rm' u v),.fm mu vNd vB (fuM un'),.blk b6 (zO u),.blk b9 (zO v),.blk br [.map (some mr)],.oldx w lo (feet [.blk be (zO nE),.blk bu [.map (some mu)],.blk bn [.map (some mn)],.blk br [.map (some mr)],.blk bp [zt be bu bn br bp],.fm mu vNd vB (fuM un),.fm mr vNN vI rm,.net mn N]),.blk be (zO nE),.blk bu [.map (some mu)],.blk bn [.map (some mn)],.blk bp [zt be bu bn br bp],.net mn N] (wpA none Tryz.prog ops (qk K) 8 #[true,false,false,false,false,false,false,false,false]):=by
         refine zAf 1 [2] (by rw [hops];kernel_rfl) ?_
         refine zz #[true,true,false,false,false,false,false,false,false] (by kernel_rfl) (by rw [hops];exact rfl) ?_ ?_
         ·(refine zK rfl rfl rfl ?_;refine ⟨_,rfl,?_⟩)
          exact zD (zAy ((s3).sub (by (repeat first|exact lK1|refine zL rfl ?_)) (by (repeat constructor))))
         refine zz #[true,false,true,false,false,false,false,false,false] (by kernel_rfl) (by rw [hops];exact rfl) ?_ ?_
         ·(refine zK rfl rfl rfl ?_;refine ⟨_,rfl,?_⟩)
          exact zD (zAy ((s5).sub (by (repeat first|exact lK1|refine zL rfl ?_)) (by (repeat constructor))))
         exact zBV.nil
        have s0:U (zBR w lo) 58 [] [(4,.pointer (some ⟨br,0,none⟩)),(6,.pointer (some ⟨b6,0,none⟩)),(9,.pointer (some ⟨b9,0,none⟩))] [.fm mr vNN vI (Flow.dec rm' u v),.fm mu vNd vB (fuM un'),.blk b6 (zO u),.blk b9 (zO v),.blk br [.map (some mr)],.oldx w lo (feet [.blk be (zO nE),.blk bu [.map (some mu)],.blk bn [.map (some mn)],.blk br [.map (some mr)],.blk bp [zt be bu bn br bp],.fm mu vNd vB (fuM un),.fm mr vNN vI rm,.net mn N]),.blk be (zO nE),.blk bu [.map (some mu)],.blk bn [.map (some mn)],.blk bp [zt be bu bn br bp],.net mn N] (wpA none Tryz.prog ops (qk K) 9 #[false,false,false,false,false,false,false,false,false]):=by
         refine zAf 0 [1,2] (by rw [hops];kernel_rfl) ?_
         refine zz #[true,false,false,false,false,false,false,false,false] (by kernel_rfl) (by rw [hops];exact rfl) ?_ ?_
         ·(refine zK rfl rfl rfl ?_;refine ⟨_,rfl,?_⟩)
          exact zD (zAy ((s1).sub (by (repeat first|exact lK1|refine zL rfl ?_)) (by (repeat constructor))))
         refine zz #[false,true,false,false,false,false,false,false,false] (by kernel_rfl) (by rw [hops];exact rfl) ?_ ?_
         ·(refine zK rfl rfl rfl ?_;refine ⟨_,rfl,?_⟩)
          exact zD (zAy ((s2).sub (by (repeat first|exact lK1|refine zL rfl ?_)) (by (repeat constructor))))
         refine zz #[false,false,true,false,false,false,false,false,false] (by kernel_rfl) (by rw [hops];exact rfl) ?_ ?_
         ·(refine zK rfl rfl rfl ?_;refine ⟨_,rfl,?_⟩)
          exact zD (zAy ((s4).sub (by (repeat first|exact lK1|refine zL rfl ?_)) (by (repeat constructor))))
         exact zBV.nil
        exact s0.sub (by (repeat first|exact lK1|refine zL rfl ?_)) (by (repeat constructor))
       (repeat' (first|((with_reducible refine zF ?_);first|refine zC rfl rfl rfl ?_)|(with_reducible first|refine zH ?_|refine zB ?_|refine zD ?_|refine zA ?_|refine zX ?_|refine zZ ?_|refine zAP ?_)))
       exact zFx (by exact rTm rfl) () trivial rfl hlo (fun _ h=>h.sub (by (repeat constructor)))
      | false =>
       simp only [Bool.false_eq_true,if_false] at hsc
       have h3:=Flow.zIO hV hvV hun hcj hp
       have h3rm:rm'=rm:=h3.rm
       have h3un:=Flow.zIR (V:=V) h3.un
       subst h3rm
       simp only at h3un
       (repeat' (first|((with_reducible refine zF ?_);first|refine zE rfl rfl rfl ?_|(refine zK rfl rfl rfl ?_;refine ⟨_,rfl,?_⟩)|refine zAB rfl rfl rfl rfl ?_|(refine zQ rfl rfl rfl rfl rfl (fun h=>?_) (fun h=>?_)<;>(dsimp only [cmpP] at h;(try (exfalso;omega))))|(refine zBp rfl rfl rfl ?_;refine ⟨_,rfl,?_⟩)|refine zAL rfl (zBc (kv:=vNN) (vv:=vI) (f:=rm') (u,v) (Flow.rg rm' u v) rfl zBe zA3 rfl rfl rfl) ?_|refine zAL rfl (zBc (kv:=vNd) (vv:=vB) (f:=fuM unj) v true rfl zDG zGU rfl rfl (by rw [zKC,hun])) ?_|refine zAN rfl rfl rfl ?_|refine zl rfl rfl rfl rfl rfl (by omega) ?_|(refine zb rfl rfl rfl rfl rfl ?_;refine ⟨rfl,by first|decide|exact Nat.le_of_ble_eq_true rfl|(simp;omega),_,rfl,?_⟩)|(refine zj rfl rfl (fun b=>?_)))|(with_reducible first|refine zH ?_|refine zB ?_|refine zD ?_|refine zA ?_|refine zT ?_|refine zP ?_)|((with_reducible refine zI ?_ ?_);(· exact rfl))))
       refine zEM (zEH be bu bn br bp mu mr mn unj rm' N) [.blk b6 (zO u),.blk b (zO v),.oldx w lo (feet [.blk be (zO nE),.blk bu [.map (some mu)],.blk bn [.map (some mn)],.blk br [.map (some mr)],.blk bp [zt be bu bn br bp],.fm mu vNd vB (fuM un),.fm mr vNN vI rm',.net mn N])] rfl rfl rfl rfl (by unfold zEH;(repeat constructor)) (fun a W q=>hcall W _ q.base (Own.append.1 q.own).1) (fun _ _=>?_)
       unfold zEH
       simp only [List.cons_append,List.nil_append]
       (repeat' (first|((with_reducible refine zF ?_);first|refine zE rfl rfl rfl ?_|refine zAB rfl rfl rfl rfl ?_|refine zAN rfl rfl rfl ?_|refine zh rfl rfl rfl rfl (by omega) ?_)|(with_reducible first|refine zB ?_|refine zD ?_|refine zA ?_|refine zk ?_|refine zR ?_|refine zW ?_)|((with_reducible refine zI ?_ ?_);(· exact rfl))))
       exact zf (ι:=Nat × (Nd→Bool)) (j+1,un') (by exact ⟨by omega,hsc,Nat.le_trans h3un hcj⟩) (by simp only;omega) (by (repeat first|exact lK1|refine zL rfl ?_)) (by (repeat constructor))
   ·obtain rfl:j=l.length:=by omega
    rw [List.drop_length] at hsc
    simp only [Flow.scan] at hsc
    rw [← hsc]
    (repeat' (first|((with_reducible refine zF ?_);first|refine zC rfl rfl rfl ?_|(refine zQ rfl rfl rfl rfl rfl (fun h=>?_) (fun h=>?_)<;>(dsimp only [cmpP] at h;(try (exfalso;omega)))))|(with_reducible first|refine zH ?_|refine zB ?_|refine zD ?_|refine zA ?_|refine zX ?_|refine zk ?_|refine zR ?_|refine zW ?_)|((with_reducible refine zG ?_ ?_);(· exact rfl))))
    exact zFx (by exact rTm rfl) () trivial rfl hlo (fun _ h=>h.sub (by (repeat constructor)))
end Go.Proofs.YtdigopgncfhiaaaGreatDoor
