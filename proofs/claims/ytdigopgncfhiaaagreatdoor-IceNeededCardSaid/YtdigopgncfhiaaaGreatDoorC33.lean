/- C33 -/
import Derived.Test.YtdigopgncfhiaaaGreatDoorC26
set_option linter.unusedSimpArgs false
set_option linter.unusedVariables false
namespace Go.Proofs.YtdigopgncfhiaaaGreatDoor
open Go.RowKit
set_option maxRecDepth 20000
set_option maxHeartbeats 2000000 in
theorem zMu (pl:List Sli) (P:Option Addr) (cp:Nat) (w:World) (hp:zAu w P pl) (h0:0<pl.length) (hl:pl.length≤12) (hrl:∀ s∈pl,s.xs.length≤20) :
  Ret Tryz.prog 31 [.slice P pl.length cp] w (fun p:(Nat × Nat) × List Sli=>.slice (some ⟨p.1.1,0,none⟩) pl.length p.1.2) (fun p=>[.arr zAC 1 p.1.1 p.2,.rows p.2]) (fun p=>p.2.map Sli.xs=pl.map Sli.xs):=by
 have hpp:=hp.p
 (refine zM (n:=24) Tryz.func31 rfl rfl rfl ?_)
 (repeat' (first|((with_reducible refine zG ?_);first|refine zE rfl rfl rfl rfl rfl ?_|refine zC rfl rfl rfl rfl rfl ?_|(refine zCH zAC rfl rfl rfl rfl (fun b=>?_))|(refine zAx (enc:=zAC) pl rfl rfl rfl rfl rfl (by (repeat (first|exact tK1 _ _|apply tK2))) rfl rfl (zFH hpp) (by refine ⟨?_,by decide⟩;(try simp only [List.length_append,List.length_cons,List.length_nil]);omega) (fun A' c'=>?_)))|(with_reducible first|refine zI ?_|refine zB ?_|refine zD ?_|refine zA ?_|refine zN ?_)))
 simp only [List.nil_append]
 refine zER (by (repeat (first|exact tK1 _ _|apply tK2))) (by omega) ?_
 rintro g rfl
 refine zB5 (fun _ h=>Own.zKF h) ?_
 refine zu (ι:=Nat × List Sli) [3] rfl (fun q=>q.1≤pl.length∧q.2.map Sli.xs=(pl.take q.1).map Sli.xs) (fun q=>[(4,.int .i64 (q.1:Int))]) (fun q=>[.rows q.2,.arr zAC 1 g (q.2++pl.drop q.1)]) (fun q=>pl.length - q.1) (0,[]) ⟨Nat.zero_le _,rfl⟩ (by (first|exact lK1|(repeat (first|exact lK1|(refine zL rfl ?_))))) (by (repeat (first|exact oK1 _|(refine oK2 (by (repeat (first|exact tK1 _ _|apply tK2))) ?_)))) ?_
 rintro ⟨i,done⟩ ⟨hi,hx⟩
 simp only at hi hx
 simp only [zAq,List.cons_append,List.nil_append]
 have hdl:done.length=i:=by have:=congrArg List.length hx;simp at this;omega
 by_cases hlt:i<pl.length
 ·obtain ⟨s,hsi⟩:∃ s,pl[i]?=some s:=⟨_,List.getElem?_eq_getElem hlt⟩
  have hsm:=List.mem_of_getElem? hsi
  have hrow:=hp.rows s hsm
  have hsl:=hrl s hsm
  have hg:(done++pl.drop i)[i]?=some s:=by rw [List.getElem?_append_right (by omega),List.getElem?_drop,hdl,show i+(i - i)=i by omega];exact hsi
  have hset:∀ z,(done++pl.drop i).set i z=(done++[z])++pl.drop (i+1):=fun z=>by
   rw [List.set_append_right _ _ (by omega),hdl,Nat.sub_self,List.drop_eq_getElem_cons hlt,List.set_cons_zero,List.append_assoc];rfl
  have htk:(pl.take (i+1)).map Sli.xs=(pl.take i).map Sli.xs++[s.xs]:=by
   rw [List.take_add_one,hsi];simp
  have:zAR (done++pl.drop i) i s:=⟨hg⟩
  obtain ⟨sA,xs,sc⟩:=s
  simp only at hrow hsl htk
  (repeat' (first|((with_reducible refine zG ?_);first|refine zE rfl rfl rfl rfl rfl ?_|refine zC rfl rfl rfl rfl rfl ?_|(refine zK rfl rfl rfl rfl rfl ?_;refine ⟨_,rfl,?_⟩)|(refine zQ rfl rfl rfl rfl rfl rfl rfl (fun h=>?_) (fun h=>?_)<;>(dsimp only [cmpP] at h;(try (exfalso;omega))))|(refine zCH encI (e:=3) rfl rfl rfl rfl (fun b=>?_))|(refine zAx (enc:=encI) xs rfl rfl rfl rfl rfl (by (repeat (first|exact tK1 _ _|apply tK2))) rfl rfl (zFH hrow) (by refine ⟨?_,by decide⟩;(try simp only [List.length_append,List.length_cons,List.length_nil]);omega) (fun A' c'=>?_))|refine zi (I:=i) rfl rfl rfl rfl rfl rfl rfl (by omega) ?_|refine zBw (enc:=zAC) (j:=0) (z:=⟨sA,xs,sc⟩) ⟨A',xs,c'⟩ rfl rfl rfl rfl rfl rfl rfl rfl (by decide) ?_|refine zj rfl rfl rfl rfl rfl rfl (by omega) ?_|refine zr rfl rfl rfl rfl rfl ?_)|(with_reducible first|refine zI ?_|refine zB ?_|refine zD ?_|refine zA ?_|refine zP ?_|refine zN ?_|refine zk ?_)|((with_reducible refine zJ ?_ ?_);(· exact rfl))))
  refine zB5 (H':=.rows (done++[⟨A',xs,c'⟩])::[.arr zAC 1 g ((done++pl.drop i).set i ⟨A',xs,c'⟩)]) (fun W9 h=>Own.zEg ((h.zCT (enc:=encI) (by (repeat (first|exact tK1 _ _|apply tK2)))).sub (by (repeat (first|exact oK1 _|(refine oK2 (by (repeat (first|exact tK1 _ _|apply tK2))) ?_)))))) ?_
  rw [hset]
  exact zc (i+1,done++[⟨A',xs,c'⟩]) ⟨by simp only;omega,by simp only [List.map_append,List.map_cons,List.map_nil];rw [htk,hx]⟩ (by simp only;omega) (by (first|exact lK1|(repeat (first|exact lK1|(refine zL rfl ?_))))) (by (repeat (first|exact oK1 _|(refine oK2 (by (repeat (first|exact tK1 _ _|apply tK2))) ?_))))
 ·obtain rfl:i=pl.length:=by omega
  rw [List.drop_length,List.append_nil]
  rw [List.take_length] at hx
  (repeat' (first|((with_reducible refine zG ?_);first|refine zE rfl rfl rfl rfl rfl ?_|refine zC rfl rfl rfl rfl rfl ?_|(refine zQ rfl rfl rfl rfl rfl rfl rfl (fun h=>?_) (fun h=>?_)<;>(dsimp only [cmpP] at h;(try (exfalso;omega))))|refine zr rfl rfl rfl rfl rfl ?_)|(with_reducible first|refine zI ?_|refine zB ?_|refine zD ?_|refine zA ?_|refine zb ?_|refine zn ?_|refine zR ?_|refine zY ?_)|((with_reducible refine zF ?_ ?_);(· exact rfl))))
  exact zT (by (exact zO.cons (by exact zq.tmp rfl) zO.nil)) ((g,c'),done) hx rfl (fun _ h=>h.sub (by (repeat (first|exact oK1 _|(refine oK2 (by (repeat (first|exact tK1 _ _|apply tK2))) ?_)))))
theorem zRR {g e base:Nat} {L:List (zAN Int)} {w:World} {H:List Ent} (h:Own base w (.zBb zAH (rowOf encI 1 e) g L::H)):Own base w (.sl zAC 1 (some ⟨g,0,none⟩) (L.map zAN.sli) :: .rows (L.map zAN.sli)::H):=by
 have h1:Own base w ((.arr zAH 1 g L::L.map (rowOf encI 1 e))++H):=zBt.2 h
 have h2:=zGR h
 obtain ⟨_,_,hx⟩:=List.pairwise_append.1 h1.apart
 have hrow:∀ b,(Ent.rows (L.map zAN.sli)).S b→∃ z∈L,(rowOf encI 1 e z).S b:=fun b hb=>by
  obtain ⟨s,hs,o,ho⟩:=hb
  obtain ⟨z,hz,rfl⟩:=List.mem_map.1 hs
  exact ⟨z,hz,show (Value.slice z.A z.xs.length z.c).ownBlock=some b by rw [show z.A=some ⟨b,o,none⟩ from ho];rfl⟩
 have hsl:∀ b,(Ent.sl zAC 1 (some ⟨g,0,none⟩) (L.map zAN.sli)).S b→b=g:=fun b hb=>by obtain ⟨o,ho⟩:=hb;cases ho;rfl
 have hp:=List.pairwise_cons.1 h2.apart
 refine ⟨fun f hf=>?_,fun f hf b hb=>?_,List.Pairwise.cons (fun f hf b hb hb'=>?_) (List.Pairwise.cons (fun f hf b hb hb'=>?_) ?_)⟩
 ·rcases List.mem_cons.1 hf with rfl|hf
  ·exact h2.here _ (by simp)
  ·rcases List.mem_cons.1 hf with rfl|hf
   ·exact h2.here _ (by simp)
   ·exact h1.here f (List.mem_append.2 (.inr hf))
 ·rcases List.mem_cons.1 hf with rfl|hf
  ·exact h2.foot _ (by simp) b hb
  ·rcases List.mem_cons.1 hf with rfl|hf
   ·exact h2.foot _ (by simp) b hb
   ·exact h1.foot f (List.mem_append.2 (.inr hf)) b hb
 ·rcases List.mem_cons.1 hf with rfl|hf
  ·exact hp.1 _ (by simp) b hb hb'
  ·obtain rfl:=hsl b hb
   exact hx (.arr zAH 1 b L) (by simp) f hf b rfl hb'
 ·obtain ⟨z,hz,hzb⟩:=hrow b hb
  exact hx _ (List.mem_cons_of_mem _ (List.mem_map_of_mem hz)) f hf b hzb hb'
 ·exact (List.pairwise_append.1 h1.apart).2.1
theorem zCK {base:Nat} {w:World} {H H1 H2:List Ent} {P:Option Addr} {pl:List Sli} (h:Own base w H) (ht:Take H (.sl zAC 1 P pl) H1) (ht2:Take H (.rows pl) H2):zAu w P pl:=⟨h.here _ ht.mem,h.here _ ht2.mem⟩
theorem plan_arr {base g:Nat} {w:World} {H H1 H2:List Ent} {pl l:List Sli} (h:Own base w H) (ht:Take H (.arr zAC 1 g pl) H1) (ht2:Take H (.rows l) H2) (hs:∀ s∈pl,s∈l):zAu w (some ⟨g,0,none⟩) pl :=
 ⟨(Own.zNZ ht h).here _ List.mem_cons_self,fun s hm=>(h.here _ ht2.mem:∀ s∈l,zAB encI 1 w s.A s.xs) s (hs s hm)⟩
end Go.Proofs.YtdigopgncfhiaaaGreatDoor
