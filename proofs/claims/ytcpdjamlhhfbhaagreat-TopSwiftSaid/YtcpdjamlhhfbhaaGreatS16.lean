/- S16 -/
import Derived.Test.YtcpdjamlhhfbhaaGreatS15
import Derived.Test.YtcpdjamlhhfbhaaGreatS10
import Derived.Test.YtcpdjamlhhfbhaaGreatS11
import Derived.Test.YtcpdjamlhhfbhaaGreatS13
set_option linter.unusedSimpArgs false
set_option linter.unusedVariables false
namespace Go.Proofs.YtcpdjamlhhfbhaaGreat
variable {ro : Option Nat}
open Go.RowKit
set_option maxRecDepth 20000
def zFA (p:Nat × Int):List Value:=[.int .i64 (p.1:Int),.int .i64 p.2]
def zCa (r:RiM) (g:Nat):List Ent:=[.blk g (zCu r)]
def hpT (h:Nat→Int) (i:Nat):List (Nat × Int):=(List.range i).map fun k=>(k,h k)
theorem hpT_succ {h:Nat→Int} {i:Nat}:hpT h (i+1)=hpT h i++[(i,h i)]:=by unfold hpT;rw [List.range_succ,List.map_append];rfl
theorem zGs {h:Nat→Int} {i:Nat}:(hpT h i).length=i:=by simp [hpT]
def hdN (r:RiM) (ys:List (Nat × Int)) (x:Nat × Int):Prop:=∃ i,i≤r.t.length∧ys=hpT (zt r.b r.s r.t) i∧x=(i,zt r.b r.s r.t i)
def hdE (r:RiM) (ys:List (Nat × Int)):Prop:=ys=hpT (zt r.b r.s r.t) (r.t.length+1)
def nxI (a b c:Int):Nat→Int
 | 0=>a
 | 1=>a - b
 | _=>a - b - c
set_option maxHeartbeats 8000000 in
theorem zE6 (r:RiM) (g:Nat) (wb:World) (ht:zg zq 9 wb r.A r.t) (hs:zCO r.s) (hv:∀ x∈r.t,StF x) (hl:r.t.length≤20) :
  SeqG Tryz.prog 83 [.pointer (some ⟨g,0,none⟩)] (fun _=>zCa r g) zFA (hdN r) (hdE r) wb:=by
 intro ι l I Cx s0 w hwb hI0 hO hround
 have hO1:=fun s f W=>zEK r s f W
 have hAir:=fun h lo W h1 h2=>sair_any r h lo W hs h1 h2
 have hIce:=fun h lo W h2=>sice_any r h lo W hs h2
 have hin:=zB1 (b:=r.b) hs hv
 have hsu:=fun i x (hx:r.t[i]?=some x)=>zEX (b:=r.b) (s:=r.s) hx
 have h0e:zt r.b r.s r.t 0=zBN r.b r.s.start true:=rfl
 unfold hdN hdE at *
 generalize zt r.b r.s r.t=hd at *
 have hround:=fun i s W (hi:i≤r.t.length)=>hround (hpT hd i) (i,hd i) s W ⟨i,hi,rfl,rfl⟩
 simp only [← hpT_succ] at hround
 obtain ⟨s,t,A,c,b9⟩:=r
 simp only at ht hs hv hl hO1 hAir hIce hin hsu h0e hround ⊢
 unfold zCa zFA at *
 unfold vRi at *
 unfold zCu at *
 simp only at *
 refine zC5 (n:=64) hwb hO Tryz.func83 rfl rfl rfl ?_
 refine zBk (fun _ h=>zCS.1 h) ?_
 simp only [List.cons_append,List.nil_append]
 (repeat' (first|((with_reducible refine zH ?_);first|refine zF rfl rfl rfl ?_|refine zC rfl rfl rfl ?_|(refine zM rfl rfl rfl ?_;refine ⟨_,rfl,?_⟩)|refine zP rfl rfl rfl ?_|refine zE rfl rfl rfl rfl (fun _ _ q=>zFm _) ?_|refine zE rfl rfl rfl rfl (fun _ _ q=>hO1 s.start true _) ?_|refine zz rfl rfl rfl ?_|(refine zV rfl rfl rfl rfl rfl ?_;refine ⟨rfl,by first|decide|exact Nat.le_of_ble_eq_true rfl|(simp;omega),_,rfl,?_⟩)|(refine zX rfl rfl (fun b=>?_)))|(with_reducible first|refine zK ?_|refine zB ?_|refine zG ?_|refine zA ?_|refine zT ?_)))
 obtain ⟨bF,hbF⟩:∃ y,y=b:=⟨_,rfl⟩
 subst hbF
 rw [← h0e]
 refine z9 (ι:=Nat × ι) [0,1,3,19,20] rfl (fun q=>q.1≤t.length∧I (hpT hd q.1) q.2) (fun q=>[(21,.int .i64 (q.1:Int)),(4,.int .i64 (hd q.1))]) (fun q=>[.blk bF [.func (.func 122) #[] #[],.func (.func 123) #[] #[]],.blk g [.int .u8 s.cls,.int .i64 s.start.lo,.int .i64 s.start.hi,.int .i64 s.rub.lo,.int .i64 s.rub.hi,.int .i64 s.drag.lo,.int .i64 s.drag.hi,.int .i64 s.weight.lo,.int .i64 s.weight.hi,.int .i64 s.steer.lo,.int .i64 s.steer.hi,.slice A t.length c,.bool b9],.all (Cx q.2),.oldx w wb.heap.size (feet (zCa ⟨s,t,A,c,b9⟩ g++Cx s0))]) (fun q=>t.length - q.1) (0,s0) ⟨Nat.zero_le _,hI0⟩ (by (repeat first|exact lK1|refine za rfl ?_)) (by unfold zCa zCu;(repeat constructor)) ?_
 rintro ⟨i,s'⟩ ⟨hi,hIi⟩
 simp only at hi hIi
 simp only [zAu,List.cons_append,List.nil_append]
 have hii:=hin i
 by_cases hlt:i<t.length
 rotate_left
 ·obtain rfl:i=t.length:=by omega
  (repeat' (first|((with_reducible refine zH ?_);first|refine zF rfl rfl rfl ?_|(refine zM rfl rfl rfl ?_;refine ⟨_,rfl,?_⟩)|refine zP rfl rfl rfl ?_|(refine zS rfl rfl rfl rfl rfl (fun h=>?_) (fun h=>?_)<;>(dsimp only [cmpP] at h;(try (exfalso;omega))))|(refine zGh (D:=[.blk g [.int .u8 s.cls,.int .i64 s.start.lo,.int .i64 s.start.hi,.int .i64 s.rub.lo,.int .i64 s.rub.hi,.int .i64 s.drag.lo,.int .i64 s.drag.hi,.int .i64 s.weight.lo,.int .i64 s.weight.hi,.int .i64 s.steer.lo,.int .i64 s.steer.hi,.slice A t.length c,.bool b9]]) (L:=Cx s') (C:=Cx) (p:=I (hpT hd (t.length+1))) (go:=true) rfl rfl rfl rfl [.blk bF _,.oldx w wb.heap.size (feet (zCa ⟨s,t,A,c,b9⟩ g++Cx s0))] (by (repeat constructor)) (fun _ W q=>hround t.length s' W (by omega) hIi q.below (Own.append.1 (zCS.2 q.own)).1) ?_;rintro s2 hs2;simp only [List.cons_append,List.nil_append])|refine zz rfl rfl rfl ?_)|(with_reducible first|refine zK ?_|refine zB ?_|refine zG ?_|refine zA ?_|refine zr ?_|refine zZ ?_|refine ze ?_)|((with_reducible refine zI ?_ ?_);(· exact rfl))))
  refine u_endG ?_
  exact zFI (vs:=[]) zi.nil (hpT hd (t.length+1),s2) ⟨rfl,hs2⟩ rfl hwb (fun W9 h=>zCS.2 (show Own wb.heap.size W9 ([.blk g [.int .u8 s.cls,.int .i64 s.start.lo,.int .i64 s.start.hi,.int .i64 s.rub.lo,.int .i64 s.rub.hi,.int .i64 s.drag.lo,.int .i64 s.drag.hi,.int .i64 s.weight.lo,.int .i64 s.weight.hi,.int .i64 s.steer.lo,.int .i64 s.steer.hi,.slice A t.length c,.bool b9]] ++ .all (Cx s2)::[.oldx w wb.heap.size (feet (zCa ⟨s,t,A,c,b9⟩ g++Cx s0))]) from h.sub (by (repeat constructor))))
 obtain ⟨x,hx⟩:∃ x,t[i]?=some x:=⟨_,List.getElem?_eq_getElem hlt⟩
 have hxf:=hv x (List.mem_of_getElem? hx)
 have h1:=hsu i x hx
 unfold zE4 at h1
 have a1:=zBM (b:=b9) (f:=true) hxf.fall.1 hxf.fall.2.1 hxf.fall.2.2
 have a2:=zBM (b:=b9) (f:=false) hxf.long.1 hxf.long.2.1 hxf.long.2.2
 have a3:=air_in (b:=b9) (long:=zBN b9 x.long false) hs hii.1 (by omega)
 have a4:=ice_in (b:=b9) (long:=zBN b9 x.long false) hs (by omega) a2.2
 have hAi:=fun W=>hAir (hd i) (zBN b9 x.long false) W ⟨hii.1,by omega⟩ ⟨by omega,a2.2⟩
 have hIc:=fun W=>hIce (hd i) (zBN b9 x.long false) W ⟨by omega,a2.2⟩
 have hOl:=fun W=>hO1 x.long false W
 have hOf:=fun W=>hO1 x.fall true W
 generalize airI b9 s (hd i) (zBN b9 x.long false)=ai at *
 generalize iceI b9 s (zBN b9 x.long false)=ic at *
 generalize zBN b9 x.long false=lo at *
 generalize zBN b9 x.fall true=fa at *
 have:zA5 t i x:=⟨hx⟩
 obtain ⟨bA,oA,hAe,hAl,hAc⟩:=ht.at_ hlt
 subst hAe
 have:InS wb bA oA zq 9 t:=⟨ht⟩
 obtain ⟨xi,⟨xl1,xl2⟩,⟨xf1,xf2⟩,xr,xs,xw⟩:=x
 simp only at hOl hOf
 (repeat' (first|((with_reducible refine zH ?_);first|refine zF rfl rfl rfl ?_|refine zC rfl rfl rfl ?_|(refine zM rfl rfl rfl ?_;refine ⟨_,rfl,?_⟩)|(refine zS rfl rfl rfl rfl rfl (fun h=>?_) (fun h=>?_)<;>(dsimp only [cmpP] at h;(try (exfalso;omega))))|refine zAN (I:=i) rfl rfl rfl rfl rfl (by omega) ?_|(refine zV rfl rfl rfl rfl rfl ?_;refine ⟨rfl,by first|decide|exact Nat.le_of_ble_eq_true rfl|(simp;omega),_,rfl,?_⟩)|(refine zX rfl rfl (fun b=>?_)))|(with_reducible first|refine zK ?_|refine zB ?_|refine zG ?_|refine zA ?_|refine zU ?_|refine zT ?_)|((with_reducible refine zO ?_ ?_);(· exact rfl))))
 obtain ⟨bS,hbS⟩:∃ y,y=b:=⟨_,rfl⟩
 subst hbS
 (repeat' (first|((with_reducible refine zH ?_);first|(refine zGh (D:=[.blk g [.int .u8 s.cls,.int .i64 s.start.lo,.int .i64 s.start.hi,.int .i64 s.rub.lo,.int .i64 s.rub.hi,.int .i64 s.drag.lo,.int .i64 s.drag.hi,.int .i64 s.weight.lo,.int .i64 s.weight.hi,.int .i64 s.steer.lo,.int .i64 s.steer.hi,.slice (some ⟨bA,oA,none⟩) t.length c,.bool b9]]) (L:=Cx s') (C:=Cx) (p:=I (hpT hd (i+1))) (go:=true) rfl rfl rfl rfl [.blk bS (zq ⟨xi,⟨xl1,xl2⟩,⟨xf1,xf2⟩,xr,xs,xw⟩),.blk bF _,.oldx w wb.heap.size (feet (zCa ⟨s,t,some ⟨bA,oA,none⟩,c,b9⟩ g++Cx s0))] (by (repeat constructor)) (fun _ W q=>hround i s' W (by omega) hIi q.below (Own.append.1 (zCS.2 q.own)).1) ?_;rintro s2 hs2;simp only [List.cons_append,List.nil_append])|refine zAB rfl rfl rfl ?_)|(with_reducible first|refine zK ?_|refine zG ?_|refine zA ?_|refine zU ?_)|((with_reducible refine zI ?_ ?_);(· exact rfl))))
 unfold zq
 simp only
 (refine zBv (by kernel_rfl) (by kernel_rfl) (by kernel_rfl) ?_)
 (repeat' (first|((with_reducible refine zCj ?_);first|refine zp (zAi rfl rfl) rfl ?_|refine zp (zAC rfl rfl (by exact rfl)) rfl ?_|refine zp (zAd rfl rfl) rfl ?_|refine zp (zAa rfl rfl) rfl ?_|refine zBy rfl rfl rfl rfl (fun _ _ q=>hOl _) ?_|refine zBy rfl rfl rfl rfl (fun _ _ q=>hOf _) ?_|refine zp (e_add rfl rfl rfl (IntWalk.i64_in _ (by omega))) rfl ?_)|(with_reducible refine zDt ?_)))
 all_goals (repeat' (first|((with_reducible refine zH ?_);first|refine zF rfl rfl rfl ?_|(refine zM rfl rfl rfl ?_;refine ⟨_,rfl,?_⟩))|(with_reducible first|refine zK ?_|refine zB ?_|refine zG ?_|refine zA ?_|refine zT ?_)))
 refine z9 (ι:=Nat) [0,1,3,4,7,19,20,21,41] rfl (fun k=>k≤2) (fun k=>[(42,.int .i64 (k:Int)),(8,.int .i64 (nxI (hd i+fa) ai ic k))]) (fun _=>[.blk bF [.func (.func 122) #[] #[],.func (.func 123) #[] #[]],.blk g [.int .u8 s.cls,.int .i64 s.start.lo,.int .i64 s.start.hi,.int .i64 s.rub.lo,.int .i64 s.rub.hi,.int .i64 s.drag.lo,.int .i64 s.drag.hi,.int .i64 s.weight.lo,.int .i64 s.weight.hi,.int .i64 s.steer.lo,.int .i64 s.steer.hi,.slice (some ⟨bA,oA,none⟩) t.length c,.bool b9],.all (Cx s2),.oldx w wb.heap.size (feet (zCa ⟨s,t,some ⟨bA,oA,none⟩,c,b9⟩ g++Cx s0))]) (fun k=>2 - k) 0 (Nat.zero_le _) (by (repeat first|exact lK1|refine za rfl ?_)) (by (repeat constructor)) ?_
 rintro k hk2
 simp only [zAu,List.cons_append,List.nil_append]
 by_cases hk:k<2
 ·obtain rfl|rfl:k=0∨k=1:=by omega
  ·(repeat' (first|((with_reducible refine zH ?_);first|refine zF rfl rfl rfl ?_|refine zC rfl rfl rfl ?_|(refine zM rfl rfl rfl ?_;refine ⟨_,rfl,?_⟩)|refine zP rfl rfl rfl ?_|(refine zS rfl rfl rfl rfl rfl (fun h=>?_) (fun h=>?_)<;>(dsimp only [cmpP] at h;(try (exfalso;omega))))|refine zAI rfl (zCI (I:=0) rfl rfl rfl rfl (by decide) rfl) ?_|refine zE rfl rfl rfl rfl (fun _ _ q=>hAi _) ?_|(refine zBu rfl rfl rfl rfl (IntWalk.i64_in _ (by simp only [nxI];omega)) ?_)|refine zAD rfl rfl rfl rfl (by omega) ?_|(refine zV rfl rfl rfl rfl rfl ?_;refine ⟨rfl,by first|decide|exact Nat.le_of_ble_eq_true rfl|(simp;omega),_,rfl,?_⟩)|(refine zX rfl rfl (fun b=>?_)))|(with_reducible first|refine zK ?_|refine zB ?_|refine zG ?_|refine zA ?_|refine zU ?_|refine zT ?_|refine zu ?_)|((with_reducible refine zO ?_ ?_);(· exact rfl))))
   exact zl (ι:=Nat) 1 (by omega) (by omega) (by (repeat first|exact lK1|refine za rfl ?_)) (by (repeat constructor))
  ·(repeat' (first|((with_reducible refine zH ?_);first|refine zF rfl rfl rfl ?_|refine zC rfl rfl rfl ?_|(refine zM rfl rfl rfl ?_;refine ⟨_,rfl,?_⟩)|refine zP rfl rfl rfl ?_|(refine zS rfl rfl rfl rfl rfl (fun h=>?_) (fun h=>?_)<;>(dsimp only [cmpP] at h;(try (exfalso;omega))))|refine zAI rfl (zCI (I:=1) rfl rfl rfl rfl (by decide) rfl) ?_|refine zE rfl rfl rfl rfl (fun _ _ q=>hIc _) ?_|(refine zBu rfl rfl rfl rfl (IntWalk.i64_in _ (by simp only [nxI];omega)) ?_)|refine zAD rfl rfl rfl rfl (by omega) ?_|(refine zV rfl rfl rfl rfl rfl ?_;refine ⟨rfl,by first|decide|exact Nat.le_of_ble_eq_true rfl|(simp;omega),_,rfl,?_⟩)|(refine zX rfl rfl (fun b=>?_)))|(with_reducible first|refine zK ?_|refine zB ?_|refine zG ?_|refine zA ?_|refine zU ?_|refine zT ?_|refine zu ?_)|((with_reducible refine zO ?_ ?_);(· exact rfl))))
   exact zl (ι:=Nat) 2 (by omega) (by omega) (by (repeat first|exact lK1|refine za rfl ?_)) (by (repeat constructor))
 ·obtain rfl:k=2:=by omega
  have h9:hd (i+1)=max 0 (nxI (hd i+fa) ai ic 2):=by rw [h1];rfl
  (repeat' (first|((with_reducible refine zH ?_);first|refine zF rfl rfl rfl ?_|refine zC rfl rfl rfl ?_|(refine zS rfl rfl rfl rfl rfl (fun h=>?_) (fun h=>?_)<;>(dsimp only [cmpP] at h;(try (exfalso;omega))))|refine zAD rfl rfl rfl rfl (by omega) ?_|refine zFb rfl rfl rfl rfl ?_)|(with_reducible first|refine zK ?_|refine zB ?_|refine zG ?_|refine zA ?_|refine zr ?_|refine zu ?_|refine zZ ?_|refine ze ?_)|((with_reducible refine zI ?_ ?_);(· exact rfl))))
  exact zl (ι:=Nat × ι) (i+1,s2) ⟨by simp only;omega,hs2⟩ (by simp only;omega) (by rw [h9];(repeat first|exact lK1|refine za rfl ?_)) (by (repeat constructor))
end Go.Proofs.YtcpdjamlhhfbhaaGreat
namespace Go.Proofs.YtcpdjamlhhfbhaaGreat
variable {ro : Option Nat}
open Go.RowKit
set_option maxRecDepth 20000
theorem hpT_snd {b:Bool} {s:SlM} {t:List St} {i:Nat}:(hpT (zt b s t) i).map (·.2)=zBe b s t i:=by
 unfold hpT zBe;rw [List.map_map];rfl
theorem zEL (r:RiM) (w:World):Ret Tryz.prog 53 [vRi r] w (fun g:Nat=>.func (.func 83) #[] #[.pointer (some ⟨g,0,none⟩)]) (fun g=>zCa r g) (fun _=>True):=by
 unfold zCa zCu vRi
 (refine zD (n:=4) Tryz.func53 rfl rfl rfl ?_)
 (repeat' (first|((with_reducible refine zH ?_);first|refine zC rfl rfl rfl ?_|(refine zf rfl rfl rfl rfl (fun b=>?_))|refine zAq rfl rfl rfl rfl ?_)|(with_reducible first|refine zK ?_|refine zB ?_|refine zG ?_|refine zA ?_|refine zR ?_)))
 exact zN (by exact rTm rfl) b trivial rfl (fun _ h=>h.sub (by (repeat constructor)))
set_option maxHeartbeats 4000000 in
theorem zEv (r:RiM) (w:World) (ht:zg zq 9 w r.A r.t) (hs:zCO r.s) (hv:∀ x∈r.t,StF x) (hl:r.t.length≤20):zB6 encI 1 (zBe r.b r.s r.t (r.t.length+1)) (fun v=>v) Tryz.prog 34 [vRi r] w:=by
 have hH:=fun W=>zEL r W
 have hseq:=fun g=>zE6 r g w ht hs hv hl
 unfold zB6
 rw [← hpT_snd]
 unfold hdN hdE at hseq
 generalize zt r.b r.s r.t=hd at *
 generalize hhr:r.t.length=n at *
 unfold zCa at hH hseq
 generalize zCu r=cs at *
 unfold vRi at *
 rw [hhr] at *
 (refine zD (n:=15) Tryz.func34 rfl rfl rfl ?_)
 (repeat' (first|((with_reducible refine zH ?_);first|refine zC rfl rfl rfl ?_|(refine zM rfl rfl rfl ?_;refine ⟨_,rfl,?_⟩)|(refine zX rfl rfl (fun b=>?_))|(refine zf rfl rfl rfl rfl (fun b=>?_)))|(with_reducible first|refine zK ?_|refine zB ?_|refine zG ?_|refine zA ?_)))
 rename_i b1
 obtain ⟨b3,hb3⟩:∃ y,y=b:=⟨_,rfl⟩
 subst hb3
 (repeat' (first|((with_reducible refine zH ?_);first|(refine zB8 rfl rfl rfl rfl (fun _ _ q=>hH _) ?_;rintro gH -;dsimp only [List.cons_append,List.nil_append]))|(with_reducible first|refine zG ?_|refine zA ?_|refine zT ?_)))
 refine zBh encI 1 3 ?_
 refine u_dfr0 ?_
 refine U.sub (R':=[(7,.func (.func 83) #[] #[.pointer (some ⟨gH,0,none⟩)]),(1,.pointer (some ⟨b1,0,none⟩)),(3,.pointer (some ⟨b3,0,none⟩))]) (by (repeat first|exact lK1|refine za rfl ?_)) (Out.all _) ?_
 refine zFa (ι:=Value × List Int) (α:=Nat × Int) (gf:=83) (lb:=[.pointer (some ⟨gH,0,none⟩)]) (bs:=[]) (fun _=>[.blk gH cs]) zFA (fun ys x=>∃ i,i≤n∧ys=hpT hd i∧x=(i,hd i)) (fun ys=>ys=hpT hd (n+1)) (fun ys st=>st.2=ys.map (·.2)) (fun st=>[.row encI 1 3 st.1 st.2,.blk b3 [st.1]]) (.slice none 0 0,[]) rfl (by (repeat constructor)) rfl (fun _=>rfl) (by decide) (hseq gH) ?_ ?_
 rotate_left
 ·rintro bd ys ⟨v,xs⟩ hE hI
  simp only at hE hI
  subst hE hI
  simp only [List.cons_append,List.nil_append]
  (repeat' (first|((with_reducible refine zH ?_);first|refine zC rfl rfl rfl ?_|(refine zM rfl rfl rfl ?_;refine ⟨_,rfl,?_⟩))|(with_reducible first|refine zK ?_|refine zB ?_|refine zG ?_|refine zA ?_|refine zR ?_|refine zu ?_)))
  refine zBS (xs:=(hpT hd (n+1)).map (·.2)) (enc:=encI) (by (repeat constructor)) ?_
  rintro A9 c9 rfl
  exact zGk (by (repeat constructor)) (by exact rTm rfl) (A9,c9) trivial rfl (fun _ h=>(h.zDe (xs:=(hpT hd (n+1)).map (·.2)) (enc:=encI) (by (repeat constructor))).sub (by (repeat constructor)))
 rintro ly ys x ⟨v,xs⟩ ⟨r1,r2,rfn,rtm,rps,ras,rbo,rde⟩ W HH hN hI hr hrp hW
 obtain ⟨i,hi,rfl,rfl⟩:=hN
 simp only at hr hrp hI
 subst hr hrp hI
 have hxl:((hpT hd i).map (·.2)).length=i:=by rw [List.length_map,zGs]
 simp only [zFA,parR,List.cons_append,List.nil_append]
 (repeat' (first|((with_reducible refine zH ?_);first|refine zC rfl rfl rfl ?_)|(with_reducible first|refine zB ?_|refine zG ?_)))
 refine zGm (by (repeat constructor)) rfl ?_
 (repeat' (first|((with_reducible refine zH ?_);first|refine zF rfl rfl rfl ?_|(refine zM rfl rfl rfl ?_;refine ⟨_,rfl,?_⟩)|(refine zCC (enc:=encI) [_] rfl rfl rfl (by (repeat constructor)) rfl rfl (zo (by exact rfl)) (by refine ⟨?_,by decide⟩;(try simp only [List.length_append,List.length_cons,List.length_nil]);omega) (fun A' c'=>?_))|(refine zV rfl rfl rfl rfl rfl ?_;refine ⟨rfl,by first|decide|exact Nat.le_of_ble_eq_true rfl|(simp;omega),_,rfl,?_⟩)|(refine zc rfl rfl rfl ?_;refine ⟨rfl,_,rfl,fun b=>?_⟩))|(with_reducible first|refine zB ?_|refine zG ?_|refine zT ?_|refine zu ?_)))
 exact zFc none (.inl ⟨rfl,rfl⟩) rfl (by (repeat constructor)) (.slice A' ((hpT hd i).map (·.2)++[hd i]).length c',(hpT hd i).map (·.2)++[hd i]) (by rw [List.map_append];rfl) hW (fun _ h=>h.sub (by (repeat constructor)))
end Go.Proofs.YtcpdjamlhhfbhaaGreat
namespace Go.Proofs.YtcpdjamlhhfbhaaGreat
variable {ro : Option Nat}
open Go.RowKit
set_option maxRecDepth 20000
set_option maxHeartbeats 2000000 in
theorem zEM (p:Int→Bool) (f:Nat) (lo hi:Int) (kf:FuncId) [zJ Tryz.prog kf] (cs:Array Value) (w:World) (h1:lo≤hi) (h2:hi - lo<2 ^ f) (h3:-1000000000≤lo) (h4:hi≤1000000000)
  (hp:∀ m W,lo≤m→m<hi→Below w.heap.size w W→Gv Tryz.prog kf ([.int .i64 m]++cs.toList) W (.bool (p m))) :
  Gv Tryz.prog 55 [.int .i64 lo,.int .i64 hi,.func (.func kf) #[] cs] w (.int .i64 (bsF p f lo hi)):=by
 unfold Gv
 (refine zD (n:=24) Tryz.func55 rfl rfl rfl ?_)
 (repeat' (first|((with_reducible refine zH ?_);first|refine zC rfl rfl rfl ?_)|(with_reducible first|refine zK ?_|refine zB ?_|refine zG ?_|refine zA ?_|refine zT ?_)))
 refine z9 (ι:=Nat × Int × Int) [2] rfl (fun z=>lo≤z.2.1∧z.2.1≤z.2.2∧z.2.2≤hi∧z.2.2 - z.2.1<2 ^ z.1∧bsF p z.1 z.2.1 z.2.2=bsF p f lo hi) (fun z=>[(0,.int .i64 z.2.1),(1,.int .i64 z.2.2)]) (fun _=>[]) (fun z=>z.1) (f,lo,hi) ⟨Int.le_refl _,h1,Int.le_refl _,h2,rfl⟩ (by (repeat first|exact lK1|refine za rfl ?_)) (by (repeat constructor)) ?_
 rintro ⟨g,a,b⟩ ⟨a1,a2,a3,a4,a5⟩
 simp only at a1 a2 a3 a4 a5
 simp only [zAu,List.cons_append,List.nil_append]
 by_cases hlt:a<b
 ·obtain ⟨g,rfl⟩:∃ g',g=g'+1:=by
   cases g with
   | zero=>simp only [Int.pow_zero] at a4;omega
   | succ g=>exact ⟨g,rfl⟩
  rw [Int.pow_succ] at a4
  rw [bsF_step hlt] at a5
  have hq:=fun W (hW:Below w.heap.size w W)=>hp (a+(b - a) / 2) W (by omega) (by omega) hW
  cases hpm:p (a+(b - a) / 2)
  ·rw [hpm] at hq a5
   simp only [Bool.false_eq_true,if_false] at a5
   (repeat' (first|((with_reducible refine zH ?_);first|refine zF rfl rfl rfl ?_|refine zC rfl rfl rfl ?_|(refine zS rfl rfl rfl rfl rfl (fun h=>?_) (fun h=>?_)<;>(dsimp only [cmpP] at h;(try (exfalso;omega))))|refine zE rfl rfl rfl rfl (fun _ _ q=>hq _ q.below) ?_|refine zCx rfl rfl rfl rfl (IntWalk.i64_in _ (by omega)) ?_|refine zBu rfl rfl rfl rfl (IntWalk.i64_in _ (by omega)) ?_|refine zED rfl rfl rfl rfl (by omega) (by omega) (IntWalk.i64_in _ (by omega)) ?_)|(with_reducible first|refine zK ?_|refine zB ?_|refine zG ?_|refine zA ?_|refine zU ?_|refine zT ?_|refine zu ?_)|((with_reducible refine zO ?_ ?_);(· exact rfl))|((with_reducible refine zI ?_ ?_);(· exact rfl))))
   exact zl (ι:=Nat × Int × Int) (g,a+(b - a) / 2+1,b) ⟨by simp only;omega,by simp only;omega,by simp only;omega,by simp only;omega,a5⟩ (by simp only;omega) (by (repeat first|exact lK1|refine za rfl ?_)) (by (repeat constructor))
  ·rw [hpm] at hq a5
   simp only [if_true] at a5
   (repeat' (first|((with_reducible refine zH ?_);first|refine zF rfl rfl rfl ?_|refine zC rfl rfl rfl ?_|(refine zS rfl rfl rfl rfl rfl (fun h=>?_) (fun h=>?_)<;>(dsimp only [cmpP] at h;(try (exfalso;omega))))|refine zE rfl rfl rfl rfl (fun _ _ q=>hq _ q.below) ?_|refine zCx rfl rfl rfl rfl (IntWalk.i64_in _ (by omega)) ?_|refine zBu rfl rfl rfl rfl (IntWalk.i64_in _ (by omega)) ?_|refine zED rfl rfl rfl rfl (by omega) (by omega) (IntWalk.i64_in _ (by omega)) ?_)|(with_reducible first|refine zK ?_|refine zB ?_|refine zG ?_|refine zA ?_|refine zU ?_|refine zT ?_|refine zu ?_)|((with_reducible refine zO ?_ ?_);(· exact rfl))))
   exact zl (ι:=Nat × Int × Int) (g,a,a+(b - a) / 2) ⟨by simp only;omega,by simp only;omega,by simp only;omega,by simp only;omega,a5⟩ (by simp only;omega) (by (repeat first|exact lK1|refine za rfl ?_)) (by (repeat constructor))
 ·obtain rfl:a=b:=by omega
  rw [bsF_done] at a5
  subst a5
  (repeat' (first|((with_reducible refine zH ?_);first|refine zF rfl rfl rfl ?_|refine zC rfl rfl rfl ?_|(refine zS rfl rfl rfl rfl rfl (fun h=>?_) (fun h=>?_)<;>(dsimp only [cmpP] at h;(try (exfalso;omega)))))|(with_reducible first|refine zK ?_|refine zB ?_|refine zG ?_|refine zA ?_|refine zR ?_|refine zr ?_|refine zZ ?_|refine ze ?_)|((with_reducible refine zI ?_ ?_);(· exact rfl))))
  exact zN (by exact rTm rfl) () trivial rfl (fun _ h=>h.sub (by (repeat constructor)))
theorem zG7 (h m:Int) (g:Nat) (w:World) (hg:InC w g 0 [.int .i64 h]) (h1:0≤h∧h≤400000) (h2:0≤m∧m≤10000):Gv Tryz.prog 56 ([.int .i64 m] ++ #[.pointer (some ⟨g,0,none⟩)].toList) w (.bool (zEt h m)):=by
 have a1:=zDh (a:=10 * m) (b:=m) (A:=100000) (B:=10000) (by omega) (by omega) h2.1 h2.2
 unfold Gv zEt
 (refine zD (n:=11) Tryz.func56 rfl rfl rfl ?_)
 (repeat' (first|((with_reducible refine zH ?_);first|refine zF rfl rfl rfl ?_|refine zC rfl rfl rfl ?_|(refine zM rfl rfl rfl ?_;refine ⟨_,rfl,?_⟩)|(refine zS rfl rfl rfl rfl rfl (fun h=>?_) (fun h=>?_)<;>(dsimp only [cmpP] at h;(try (exfalso;omega))))|refine zDC rfl rfl rfl rfl (IntWalk.i64_in _ (by omega)) ?_)|(with_reducible first|refine zK ?_|refine zB ?_|refine zG ?_|refine zA ?_|refine zR ?_)))
 all_goals exact zN (by exact rTm rfl) () trivial (by simp [resV];omega) (fun _ h=>h.sub (by (repeat constructor)))
theorem zHL (h m:Int) (g:Nat) (w:World) (hg:InC w g 0 [.int .i64 h]) (h1:0≤h∧h≤400000) (h2:0≤m∧m≤10000):Gv Tryz.prog 57 ([.int .i64 m] ++ #[.pointer (some ⟨g,0,none⟩)].toList) w (.bool (zCc h m)):=by
 have a1:=zDh (a:=10 * m) (b:=m) (A:=100000) (B:=10000) (by omega) (by omega) h2.1 h2.2
 unfold Gv zCc
 (refine zD (n:=11) Tryz.func57 rfl rfl rfl ?_)
 (repeat' (first|((with_reducible refine zH ?_);first|refine zF rfl rfl rfl ?_|refine zC rfl rfl rfl ?_|(refine zM rfl rfl rfl ?_;refine ⟨_,rfl,?_⟩)|(refine zS rfl rfl rfl rfl rfl (fun h=>?_) (fun h=>?_)<;>(dsimp only [cmpP] at h;(try (exfalso;omega))))|refine zDC rfl rfl rfl rfl (IntWalk.i64_in _ (by omega)) ?_)|(with_reducible first|refine zK ?_|refine zB ?_|refine zG ?_|refine zA ?_|refine zR ?_)))
 all_goals exact zN (by exact rTm rfl) () trivial (by simp [resV];omega) (fun _ h=>h.sub (by (repeat constructor)))
theorem zG6 (h:Int) (w:World) (h1:0≤h∧h≤400000):Gv Tryz.prog 26 [.int .i64 h] w (.int .i64 (zEu h)):=by
 have hF:=fun W g (hg:InC W g 0 [.int .i64 h])=>zEM (zEt h) 14 0 10000 56 #[.pointer (some ⟨g,0,none⟩)] W (by decide) (by decide) (by decide) (by decide) (fun m W' q1 q2 q3=>zG7 h m g W' (hg.below q3) h1 ⟨q1,by omega⟩)
 have hin:=zC9 (zEt h) 14 0 10000 (by omega)
 unfold zEu
 generalize bsF (zEt h) 14 0 10000=v at *
 unfold Gv
 (refine zD (n:=6) Tryz.func26 rfl rfl rfl ?_)
 (repeat' (first|((with_reducible refine zH ?_);first|refine zC rfl rfl rfl ?_|refine zE rfl rfl rfl rfl (fun _ _ q=>hF _ _ (zBp q.own (Below.refl _ _) rfl)) ?_|refine zBu rfl rfl rfl rfl (IntWalk.i64_in _ (by omega)) ?_|(refine zf rfl rfl rfl rfl (fun b=>?_))|refine zAq rfl rfl rfl rfl ?_)|(with_reducible first|refine zK ?_|refine zB ?_|refine zG ?_|refine zA ?_|refine zR ?_)))
 exact zN (by exact rTm rfl) () trivial rfl (fun _ h=>h.sub (by (repeat constructor)))
theorem zEx (h:Int) (w:World) (h1:0≤h∧h≤400000):Gv Tryz.prog 27 [.int .i64 h] w (.int .i64 (zBE h)):=by
 have hF:=fun W g (hg:InC W g 0 [.int .i64 h])=>zEM (zCc h) 14 0 10000 57 #[.pointer (some ⟨g,0,none⟩)] W (by decide) (by decide) (by decide) (by decide) (fun m W' q1 q2 q3=>zHL h m g W' (hg.below q3) h1 ⟨q1,by omega⟩)
 have hin:=zC9 (zCc h) 14 0 10000 (by omega)
 unfold zBE
 generalize bsF (zCc h) 14 0 10000=v at *
 unfold Gv
 (refine zD (n:=5) Tryz.func27 rfl rfl rfl ?_)
 (repeat' (first|((with_reducible refine zH ?_);first|refine zC rfl rfl rfl ?_|refine zE rfl rfl rfl rfl (fun _ _ q=>hF _ _ (zBp q.own (Below.refl _ _) rfl)) ?_|(refine zf rfl rfl rfl rfl (fun b=>?_))|refine zAq rfl rfl rfl rfl ?_)|(with_reducible first|refine zK ?_|refine zB ?_|refine zG ?_|refine zA ?_|refine zR ?_)))
 exact zN (by exact rTm rfl) () trivial rfl (fun _ h=>h.sub (by (repeat constructor)))
namespace Two
set_option maxHeartbeats 4000000 in
theorem zEs (s:SlM) (t:List St) (A:Option Addr) (c:Nat) (w:World) (ht:zg zq 9 w A t) (hf:zBs t) (hl:t.length≤1000) (hv:valid t=true) (hs:zCg s=true):Gv Tryz.prog 33 [.agg #[.slice A t.length c],vSl s] w (.tuple #[vRi ⟨s,t,A,c,false⟩,vRi ⟨s,t,A,c,true⟩,.int .i64 0]):=by
 have hT:=fun W (hW:Below w.heap.size w W)=>zGw t A c W (ht.below hW) hf (by omega)
 have hC:=fun W=>zGH s W
 have e1:zDL t=0:=by unfold zDL;rw [hv];rfl
 rw [e1] at hT
 rw [hs,if_pos rfl] at hC
 unfold Gv
 unfold vSl vRi at *
 simp only at *
 (refine zD (n:=23) Tryz.func33 rfl rfl rfl ?_)
 (repeat' (first|((with_reducible refine zH ?_);first|refine zF rfl rfl rfl ?_|refine zC rfl rfl rfl ?_|(refine zM rfl rfl rfl ?_;refine ⟨_,rfl,?_⟩)|(refine zS rfl rfl rfl rfl rfl (fun h=>?_) (fun h=>?_)<;>(dsimp only [cmpP] at h;(try (exfalso;omega))))|refine zE rfl rfl rfl rfl (fun _ _ q=>hT _ q.below) ?_|(refine zX rfl rfl (fun b=>?_))|(refine zf rfl rfl rfl rfl (fun b=>?_)))|(with_reducible first|refine zK ?_|refine zB ?_|refine zG ?_|refine zA ?_|refine zU ?_)|((with_reducible refine zI ?_ ?_);(· exact rfl))))
 rename_i b2 b3 b4
 obtain ⟨b5,hb5⟩:∃ y,y=b:=⟨_,rfl⟩
 subst hb5
 (refine zAP [] [(8,0,0,[.blk b4 [.int .u8 0,.int .i64 0,.int .i64 0,.int .i64 0,.int .i64 0,.int .i64 0,.int .i64 0,.int .i64 0,.int .i64 0,.int .i64 0,.int .i64 0,.slice none 0 0,.bool false]])] [(8,0,0)] rfl (show ([8]:List Nat).Nodup by decide) (H0:=[.blk b5 [.int .u8 0,.int .i64 0,.int .i64 0,.int .i64 0,.int .i64 0,.int .i64 0,.int .i64 0,.int .i64 0,.int .i64 0,.int .i64 0,.int .i64 0,.slice none 0 0,.bool false],.blk b3 [.int .u8 s.cls,.int .i64 s.start.lo,.int .i64 s.start.hi,.int .i64 s.rub.lo,.int .i64 s.rub.hi,.int .i64 s.drag.lo,.int .i64 s.drag.hi,.int .i64 s.weight.lo,.int .i64 s.weight.hi,.int .i64 s.steer.lo,.int .i64 s.steer.hi],.blk b2 [.slice A t.length c]]) (fun _ h=>h.sub (by (repeat constructor))) (by kernel_rfl) [[],[Y],[Z,Z],[Y,Y,Y],[Y,Y,Y,Y],[Z,Z,Y,Y,Y],[Y,Y,Y,Y,Y,Y],[Z,Y,Y,Y,Y,Y,Y],[Z,Z,Y,Y,Y,Z,Z,Z],[Z,Z,Z,Z,Z,Z,Z,Z,Z],[Z,Z,Z,Z,Z,Z,Z,Z,Z,Z]] (by kernel_rfl) (by kernel_rfl) (by kernel_rfl) (by kernel_rfl) (by kernel_rfl) ?_)
 (repeat' (first|(((with_reducible refine zCL ?_ ?_);(· exact rfl);refine ⟨_,fun G=>(by (try simp (decide:=true) only [vis,see,fltT,z8,Nat.reduceAdd,Nat.reduceSub,if_true,if_false,List.set_cons_zero,List.set_cons_succ,List.set_nil,List.nil_append,List.cons_append]);rfl),?_⟩);first|refine zW _ (fun _=>zAC rfl rfl (by exact rfl)) (fun _=>rfl) rfl (by intro G G' h;simp (decide:=true) only [h]) ?_|refine zAR _ rfl (fun _=>rfl) rfl (fun _=>rfl) (fun _=>rfl) (fun _ _ _ q=>hC _) (by intro G G' h;simp (decide:=true) only [h]) ?_|refine zW (fun _=>.agg [.int .u8 s.cls,.int .i64 s.start.lo,.int .i64 s.start.hi,.int .i64 s.rub.lo,.int .i64 s.rub.hi,.int .i64 s.drag.lo,.int .i64 s.drag.hi,.int .i64 s.weight.lo,.int .i64 s.weight.hi,.int .i64 s.steer.lo,.int .i64 s.steer.hi,.slice A t.length c,.bool false].toArray) (fun _=>zCK (ps:=#[(0,.tmp 15),(1,.tmp 16),(2,.const (.bool false))]) (cs:=[.int .u8 s.cls,.int .i64 s.start.lo,.int .i64 s.start.hi,.int .i64 s.rub.lo,.int .i64 s.rub.hi,.int .i64 s.drag.lo,.int .i64 s.drag.hi,.int .i64 s.weight.lo,.int .i64 s.weight.hi,.int .i64 s.steer.lo,.int .i64 s.steer.hi,.slice A t.length c,.bool false]) rfl rfl (by kernel_rfl)) (fun _=>rfl) rfl (fun _ _ _=>rfl) ?_|refine zW (fun _=>.agg [.int .u8 s.cls,.int .i64 s.start.lo,.int .i64 s.start.hi,.int .i64 s.rub.lo,.int .i64 s.rub.hi,.int .i64 s.drag.lo,.int .i64 s.drag.hi,.int .i64 s.weight.lo,.int .i64 s.weight.hi,.int .i64 s.steer.lo,.int .i64 s.steer.hi,.slice A t.length c,.bool true].toArray) (fun _=>zCK (ps:=#[(0,.tmp 18),(1,.tmp 19),(2,.const (.bool true))]) (cs:=[.int .u8 s.cls,.int .i64 s.start.lo,.int .i64 s.start.hi,.int .i64 s.rub.lo,.int .i64 s.rub.hi,.int .i64 s.drag.lo,.int .i64 s.drag.hi,.int .i64 s.weight.lo,.int .i64 s.weight.hi,.int .i64 s.steer.lo,.int .i64 s.steer.hi,.slice A t.length c,.bool true]) rfl rfl (by kernel_rfl)) (fun _=>rfl) rfl (fun _ _ _=>rfl) ?_)|(refine zDM (cs:=[.int .u8 0,.int .i64 0,.int .i64 0,.int .i64 0,.int .i64 0,.int .i64 0,.int .i64 0,.int .i64 0,.int .i64 0,.int .i64 0,.int .i64 0,.slice none 0 0,.bool false]) (cs':=fun _=>[.int .u8 s.cls,.int .i64 s.start.lo,.int .i64 s.start.hi,.int .i64 s.rub.lo,.int .i64 s.rub.hi,.int .i64 s.drag.lo,.int .i64 s.drag.hi,.int .i64 s.weight.lo,.int .i64 s.weight.hi,.int .i64 s.steer.lo,.int .i64 s.steer.hi,.slice A t.length c,.bool false]) List.mem_cons_self rfl rfl (fun _=>rfl) rfl (fun _=>rfl) (fun _=>rfl) (fun _=>rfl) (fun _=>rfl) rfl (fun _=>rfl) (fun _ _ _=>rfl) ?_)|((with_reducible refine zDl ?_ ?_);(· exact rfl))))
 intro G
 simp only [regsT,List.nil_append,List.cons_append]
 refine zBk (H':=[.blk b4 [.int .u8 s.cls,.int .i64 s.start.lo,.int .i64 s.start.hi,.int .i64 s.rub.lo,.int .i64 s.rub.hi,.int .i64 s.drag.lo,.int .i64 s.drag.hi,.int .i64 s.weight.lo,.int .i64 s.weight.hi,.int .i64 s.steer.lo,.int .i64 s.steer.hi,.slice A t.length c,.bool false],.blk b5 [.int .u8 0,.int .i64 0,.int .i64 0,.int .i64 0,.int .i64 0,.int .i64 0,.int .i64 0,.int .i64 0,.int .i64 0,.int .i64 0,.int .i64 0,.slice none 0 0,.bool false],.blk b3 [.int .u8 s.cls,.int .i64 s.start.lo,.int .i64 s.start.hi,.int .i64 s.rub.lo,.int .i64 s.rub.hi,.int .i64 s.drag.lo,.int .i64 s.drag.hi,.int .i64 s.weight.lo,.int .i64 s.weight.hi,.int .i64 s.steer.lo,.int .i64 s.steer.hi],.blk b2 [.slice A t.length c]]) (fun _ h=>h) ?_
 (repeat' (first|((with_reducible refine zH ?_);first|refine zC rfl rfl rfl ?_|(refine zV rfl rfl rfl rfl rfl ?_;refine ⟨rfl,by first|decide|exact Nat.le_of_ble_eq_true rfl|(simp;omega),_,rfl,?_⟩))|(with_reducible first|refine zG ?_|refine zA ?_|refine zR ?_)))
 exact zN (by (exact zi.cons (by exact res1c rfl (by exact rfl)) (zi.cons (by exact res1c rfl (by exact rfl)) (zi.cons (by exact zAo.tmp rfl) zi.nil)))) () trivial rfl (fun _ h=>h.sub (by (repeat constructor)))
end Two
end Go.Proofs.YtcpdjamlhhfbhaaGreat
namespace Go.Proofs.YtcpdjamlhhfbhaaGreat.Two
variable {ro : Option Nat}
open Go.RowKit
set_option maxRecDepth 20000
def zBc (s:SlM) (t:List St) (i:Nat):List Sp:=(List.range i).map fun k=>⟨zt false s t k,zt true s t k⟩
theorem zFp {s:SlM} {t:List St} {i:Nat}:(zBc s t i).length=i:=by simp [zBc]
theorem zGG {s:SlM} {t:List St} {i k:Nat} (h:k<i):(zBc s t i)[k]?=some ⟨zt false s t k,zt true s t k⟩:=by
 unfold zBc;rw [List.getElem?_map,List.getElem?_range h];rfl
theorem zFo {s:SlM} {t:List St} {i:Nat}:(hpT (zt false s t) i).map (fun p=>(⟨p.2,zt true s t p.1⟩:Sp))=zBc s t i:=by
 unfold hpT zBc;rw [List.map_map];rfl
set_option maxHeartbeats 4000000 in
theorem zEO (s:SlM) (t:List St) (A:Option Addr) (c:Nat) (w:World) (ht:zg zq 9 w A t) (hf:zBs t) (hl:t.length≤20) (hv:valid t=true) (hs:zCg s=true):zB6 zAM 2 (zBc s t (t.length+1)) (fun v=>.tuple #[v,.int .i64 0]) Tryz.prog 20 [.agg #[.slice A t.length c],vSl s] w:=by
 have hO:=fun W (hW:Below w.heap.size w W)=>zEs s t A c W (ht.below hW) hf (by omega) hv hs
 have hsf:=zBm.1 hs
 have hst:=zDB hv
 have hL:=fun W (hW:Below w.heap.size w W)=>zEv ⟨s,t,A,c,true⟩ W (ht.below hW) hsf hst hl
 have hH:=fun W=>zEL ⟨s,t,A,c,false⟩ W
 have hseq:=fun g=>zE6 ⟨s,t,A,c,false⟩ g w ht hsf hst hl
 have hta:=fun k (hk:k<t.length+1)=>zC6 (b:=true) (s:=s) (t:=t) hk
 have htl:=zDx (b:=true) (s:=s) (t:=t) (i:=t.length+1)
 have hin:=zB1 (b:=false) hsf hst
 have hin2:=zB1 (b:=true) hsf hst
 unfold zB6
 rw [← zFo]
 unfold hdN hdE at hseq
 simp only at hL hH hseq
 generalize zBe true s t (t.length+1)=more at *
 generalize zt false s t=hd at *
 generalize zt true s t=hd2 at *
 unfold zCa at hH hseq
 generalize zCu ⟨s,t,A,c,false⟩=cs at *
 unfold vRi vSl at *
 simp only at *
 generalize hn:t.length=n at *
 (refine zD (n:=39) Tryz.func20 rfl rfl rfl ?_)
 (repeat' (first|((with_reducible refine zH ?_);first|refine zF rfl rfl rfl ?_|refine zC rfl rfl rfl ?_|(refine zM rfl rfl rfl ?_;refine ⟨_,rfl,?_⟩)|(refine zS rfl rfl rfl rfl rfl (fun h=>?_) (fun h=>?_)<;>(dsimp only [cmpP] at h;(try (exfalso;omega))))|refine zE rfl rfl rfl rfl (fun _ _ q=>hO _ q.below) ?_|refine zh rfl rfl rfl rfl ?_|(refine zV rfl rfl rfl rfl rfl ?_;refine ⟨rfl,by first|decide|exact Nat.le_of_ble_eq_true rfl|(simp;omega),_,rfl,?_⟩)|(refine zX rfl rfl (fun b=>?_))|(refine zf rfl rfl rfl rfl (fun b=>?_)))|(with_reducible first|refine zK ?_|refine zB ?_|refine zG ?_|refine zA ?_|refine zU ?_)|((with_reducible refine zI ?_ ?_);(· exact rfl))))
 rename_i b2 b3 b6 b7
 obtain ⟨b9,hb9⟩:∃ y,y=b:=⟨_,rfl⟩
 subst hb9
 (repeat' (first|((with_reducible refine zH ?_);first|(refine zM rfl rfl rfl ?_;refine ⟨_,rfl,?_⟩)|refine zD5 rfl rfl rfl rfl (fun _ _ q=>hL _ q.below) (fun A' c'=>?_)|(refine zB8 rfl rfl rfl rfl (fun _ _ q=>hH _) ?_;rintro gH -;dsimp only [List.cons_append,List.nil_append])|(refine zV rfl rfl rfl rfl rfl ?_;refine ⟨rfl,by first|decide|exact Nat.le_of_ble_eq_true rfl|(simp;omega),_,rfl,?_⟩)|(refine zX rfl rfl (fun b=>?_)))|(with_reducible first|refine zK ?_|refine zB ?_|refine zG ?_|refine zA ?_|refine zT ?_)))
 obtain ⟨b10,hb10⟩:∃ y,y=b:=⟨_,rfl⟩
 subst hb10
 refine zCn (enc:=encI) (xs:=more) (by (repeat constructor)) (by rw [htl];omega) (fun bl ol hLA=>?_)
 subst hLA
 obtain ⟨c10,hc10⟩:∃ y,y=c':=⟨_,rfl⟩
 subst hc10
 refine zBh zAM 2 26 ?_
 refine u_dfr0 ?_
 refine U.sub (R':=[(26,.func (.func 83) #[] #[.pointer (some ⟨gH,0,none⟩)]),(9,.pointer (some ⟨b9,0,none⟩)),(10,.pointer (some ⟨b10,0,none⟩))]) (by (repeat first|exact lK1|refine za rfl ?_)) (Out.all _) ?_
 refine zFa (ι:=Value × List Sp) (α:=Nat × Int) (gf:=83) (lb:=[.pointer (some ⟨gH,0,none⟩)]) (bs:=[]) (fun _=>[.blk gH cs]) zFA (fun ys x=>∃ i,i≤n∧ys=hpT hd i∧x=(i,hd i)) (fun ys=>ys=hpT hd (n+1)) (fun ys st=>st.2=ys.map (fun p:Nat × Int=>(⟨p.2,hd2 p.1⟩:Sp))) (fun st=>[.row zAM 2 26 st.1 st.2,.blk b9 [st.1],.blk b10 [.slice (some ⟨bl,ol,none⟩) more.length c10],.sl encI 1 (some ⟨bl,ol,none⟩) more]) (.slice none 0 0,[]) rfl (by (repeat constructor)) rfl (fun _=>rfl) (by decide) (hseq gH) ?_ ?_
 rotate_left
 ·rintro bd ys ⟨v,xs⟩ hE hI
  simp only at hE hI
  subst hE hI
  simp only [List.cons_append,List.nil_append]
  (repeat' (first|((with_reducible refine zH ?_);first|refine zC rfl rfl rfl ?_|(refine zM rfl rfl rfl ?_;refine ⟨_,rfl,?_⟩))|(with_reducible first|refine zK ?_|refine zB ?_|refine zG ?_|refine zA ?_|refine zR ?_|refine zu ?_)))
  refine zBS (xs:=(hpT hd (n+1)).map (fun p:Nat × Int=>(⟨p.2,hd2 p.1⟩:Sp))) (enc:=zAM) (by (repeat constructor)) ?_
  rintro A9 c9 rfl
  exact zGk (by (repeat constructor)) (by (exact zi.cons (by exact zAo.tmp rfl) (zi.cons (by exact zAo.tmp rfl) zi.nil))) (A9,c9) trivial rfl (fun _ h=>(h.zDe (xs:=(hpT hd (n+1)).map (fun p:Nat × Int=>(⟨p.2,hd2 p.1⟩:Sp))) (enc:=zAM) (by (repeat constructor))).sub (by (repeat constructor)))
 rintro ly ys x ⟨v,xs⟩ ⟨r1,r2,rfn,rtm,rps,ras,rbo,rde⟩ W HH hN hI hr hrp hW
 obtain ⟨i,hi,rfl,rfl⟩:=hN
 simp only at hr hrp hI
 subst hr hrp hI
 have hxl:((hpT hd i).map (fun p:Nat × Int=>(⟨p.2,hd2 p.1⟩:Sp))).length=i:=by rw [List.length_map,zGs]
 have:zA5 more i (hd2 i):=⟨hta i (by omega)⟩
 simp only [zFA,parR,List.cons_append,List.nil_append]
 (repeat' (first|((with_reducible refine zH ?_);first|refine zC rfl rfl rfl ?_)|(with_reducible first|refine zK ?_|refine zB ?_|refine zG ?_|refine zA ?_)))
 refine zGm (by (repeat constructor)) rfl ?_
 (repeat' (first|(with_reducible first|refine zT ?_)))
 (refine zAP [] [] [] rfl (show ([]:List Nat).Nodup by decide) (fun _ h=>h) (by kernel_rfl) [[],[Y],[Y,Y],[Y,Y,Y],[Z,Z,Y,Y],[Z,Z,Z,Y,Y],[Z,Z,Z,Z,Z,Y],[Z,Z,Z,Z,Z,Z,Y],[Z,Z,Z,Z,Z,Z,Z,Z],[Z,Z,Z,Z,Z,Z,Z,Z,Z]] (by kernel_rfl) (by kernel_rfl) (by kernel_rfl) (by kernel_rfl) (by kernel_rfl) ?_)
 (repeat' (first|(((with_reducible refine zCL ?_ ?_);(· exact rfl);refine ⟨_,fun G=>(by (try simp (decide:=true) only [vis,see,fltT,z8,Nat.reduceAdd,Nat.reduceSub,if_true,if_false,List.set_cons_zero,List.set_cons_succ,List.set_nil,List.nil_append,List.cons_append]);rfl),?_⟩);first|refine zW _ (fun _=>zAi rfl rfl) (fun _=>rfl) rfl (by intro G G' h;simp (decide:=true) only [h]) ?_|refine zW _ (fun _=>zAC rfl rfl (by exact rfl)) (fun _=>rfl) rfl (by intro G G' h;simp (decide:=true) only [h]) ?_|refine zW _ (fun _=>zAV (I:=i) rfl rfl rfl rfl (by omega)) (fun _=>rfl) rfl (by exact fun _ _ _=>rfl) ?_|refine zW _ (fun _=>zCK rfl rfl (by exact rfl)) (fun _=>rfl) rfl (by intro G G' h;simp (decide:=true) only [h]) ?_|refine zBO rfl (fun _=>rfl) rfl (fun _=>rfl) (by exact rfl) (by exact fun _=>rfl) (by intro G G' h;simp (decide:=true) only [h]) ?_)|((with_reducible refine zDl ?_ ?_);(· exact rfl))))
 (intro G;simp only [regsT,z8,zA7,ini,List.nil_append,List.cons_append])
 (repeat' (first|((with_reducible refine zH ?_);first|(refine zCC (enc:=zAM) [⟨hd i,hd2 i⟩] rfl rfl rfl (by (repeat constructor)) rfl rfl (zo (enc:=zAM) (by exact rfl)) (by refine ⟨?_,by decide⟩;(try simp only [List.length_append,List.length_cons,List.length_nil]);omega) (fun A' c'=>?_))|(refine zV rfl rfl rfl rfl rfl ?_;refine ⟨rfl,by first|decide|exact Nat.le_of_ble_eq_true rfl|(simp;omega),_,rfl,?_⟩))|(with_reducible first|refine zG ?_|refine zu ?_)))
 exact zFc none (.inl ⟨rfl,rfl⟩) rfl (by (repeat constructor)) (.slice A' ((hpT hd i).map (fun p:Nat × Int=>(⟨p.2,hd2 p.1⟩:Sp))++[(⟨hd i,hd2 i⟩:Sp)]).length c',(hpT hd i).map (fun p:Nat × Int=>(⟨p.2,hd2 p.1⟩:Sp))++[(⟨hd i,hd2 i⟩:Sp)]) (by rw [List.map_append];rfl) hW (fun _ h=>h.sub (by (repeat constructor)))
end Go.Proofs.YtcpdjamlhhfbhaaGreat.Two
namespace Go.Proofs.YtcpdjamlhhfbhaaGreat.Two
variable {ro : Option Nat}
open Go.RowKit
set_option maxRecDepth 20000
set_option maxHeartbeats 2000000 in
theorem zEN (s:SlM) (t:List St) (A:Option Addr) (c k:Nat) (w:World) (ht:zg zq 9 w A t) (hf:zBs t) (hl:t.length≤20) (hv:valid t=true) (hs:zCg s=true) (hk:k≤t.length):Gv Tryz.prog 9 [.agg #[.slice A t.length c],vSl s,.int .i64 (k:Int)] w (.tuple #[.agg #[.int .i64 (zEu (zt false s t k)),.int .i64 (zBE (zt true s t k))],.int .i64 0]):=by
 have hH:=fun W (hW:Below w.heap.size w W)=>zEO s t A c W (ht.below hW) hf hl hv hs
 have hsf:=zBm.1 hs
 have hst:=zDB hv
 have hin:=zB1 (b:=false) hsf hst k
 have hin2:=zB1 (b:=true) hsf hst k
 have hat:=zGG (s:=s) (t:=t) (i:=t.length+1) (k:=k) (by omega)
 have hle:=zFp (s:=s) (t:=t) (i:=t.length+1)
 have hS:=fun W=>zG6 (zt false s t k) W (by omega)
 have hF:=fun W=>zEx (zt true s t k) W (by omega)
 generalize zBc s t (t.length+1)=sp at *
 generalize zEu (zt false s t k)=v1 at *
 generalize zBE (zt true s t k)=v2 at *
 generalize zt false s t k=a1 at *
 generalize zt true s t k=a2 at *
 unfold Gv
 unfold vSl at *
 have:zA5 sp k ⟨a1,a2⟩:=⟨hat⟩
 (refine zD (n:=42) Tryz.func9 rfl rfl rfl ?_)
 (repeat' (first|((with_reducible refine zH ?_);first|refine zF rfl rfl rfl ?_|refine zC rfl rfl rfl ?_|(refine zM rfl rfl rfl ?_;refine ⟨_,rfl,?_⟩)|refine zn rfl rfl rfl rfl ?_|(refine zS rfl rfl rfl rfl rfl (fun h=>?_) (fun h=>?_)<;>(dsimp only [cmpP] at h;(try (exfalso;omega))))|refine zD5 rfl rfl rfl rfl (fun _ _ q=>hH _ q.below) (fun A' c'=>?_)|refine zh rfl rfl rfl rfl ?_|refine zz rfl rfl rfl ?_|(refine zX rfl rfl (fun b=>?_))|(refine zf rfl rfl rfl rfl (fun b=>?_)))|(with_reducible first|refine zK ?_|refine zB ?_|refine zG ?_|refine zA ?_|refine zU ?_)|((with_reducible refine zI ?_ ?_);(· exact rfl))))
 refine zCn (enc:=zAM) (xs:=sp) (by (repeat constructor)) (by omega) (fun bl ol hLA=>?_)
 subst hLA
 (refine zAP [] [] [] rfl (show ([]:List Nat).Nodup by decide) (fun _ h=>h) (by kernel_rfl) [[],[Y],[Z,Z],[Z,Z,Z],[Z,Z,Z,Z],[Z,Z,Z,Z,Z],[Y,Y,Y,Y,Y,Y],[Y,Y,Y,Y,Y,Y,Y],[Z,Z,Y,Y,Y,Y,Y,Y],[Z,Z,Z,Y,Y,Y,Y,Y,Y],[Z,Z,Z,Z,Y,Y,Y,Y,Y,Y],[Z,Z,Z,Z,Z,Z,Z,Z,Z,Z,Z],[Z,Z,Z,Z,Z,Z,Z,Z,Z,Z,Z,Z],[Z,Z,Z,Z,Z,Z,Z,Z,Z,Z,Z,Z,Z],[Z,Z,Z,Z,Z,Z,Z,Z,Z,Z,Z,Z,Z,Z]] (by kernel_rfl) (by kernel_rfl) (by kernel_rfl) (by kernel_rfl) (by kernel_rfl) ?_)
 (repeat' (first|(((with_reducible refine zCL ?_ ?_);(· exact rfl);refine ⟨_,fun G=>(by (try simp (decide:=true) only [vis,see,fltT,z8,Nat.reduceAdd,Nat.reduceSub,if_true,if_false,List.set_cons_zero,List.set_cons_succ,List.set_nil,List.nil_append,List.cons_append]);rfl),?_⟩);first|refine zW _ (fun _=>zAi rfl rfl) (fun _=>rfl) rfl (by intro G G' h;simp (decide:=true) only [h]) ?_|refine zW _ (fun _=>zAC rfl rfl (by exact rfl)) (fun _=>rfl) rfl (by intro G G' h;simp (decide:=true) only [h]) ?_|(refine zAj rfl ?_;refine zW _ (fun _=>zAd rfl rfl) (fun _=>rfl) rfl (by intro G G' h;simp (decide:=true) only [h]) ?_)|refine zW _ (fun _=>zAV (I:=k) rfl rfl rfl rfl (by omega)) (fun _=>rfl) rfl (by exact fun _ _ _=>rfl) ?_|refine zAR _ rfl (fun _=>rfl) rfl (fun _=>rfl) (fun _=>rfl) (fun _ _ _ q=>hS _) (by intro G G' h;simp (decide:=true) only [h]) ?_|refine zAR _ rfl (fun _=>rfl) rfl (fun _=>rfl) (fun _=>rfl) (fun _ _ _ q=>hF _) (by intro G G' h;simp (decide:=true) only [h]) ?_|refine zW _ (fun _=>zCK rfl rfl (by exact rfl)) (fun _=>rfl) rfl (by intro G G' h;simp (decide:=true) only [h]) ?_)|((with_reducible refine zDl ?_ ?_);(· exact rfl))))
 (intro G;simp only [regsT,z8,zA7,ini,List.nil_append,List.cons_append])
 (repeat' (first|((with_reducible refine zH ?_);first|refine zC rfl rfl rfl ?_|(refine zV rfl rfl rfl rfl rfl ?_;refine ⟨rfl,by first|decide|exact Nat.le_of_ble_eq_true rfl|(simp;omega),_,rfl,?_⟩))|(with_reducible first|refine zG ?_|refine zA ?_|refine zR ?_)))
 exact zN (by (exact zi.cons (by exact res1c rfl (by exact rfl)) (zi.cons (by exact zAo.tmp rfl) zi.nil))) () trivial rfl (fun _ h=>h.sub (by (repeat constructor)))
set_option maxHeartbeats 4000000 in
theorem zGJ (s:SlM) (t:List St) (A:Option Addr) (c i:Nat) (x:St) (w:World) (ht:zg zq 9 w A t) (hf:zBs t) (hl:t.length≤20) (hv:valid t=true) (hs:zCg s=true) (hx:t[i]?=some x):Gv Tryz.prog 12 [.agg #[.slice A t.length c],vSl s,.int .i64 (i:Int)] w (.tuple #[.int .i64 (if zBE (max (zt true s t i) (zt true s t (i+1)))=0 then 0 else zFU x.long.lo (zBE (max (zt true s t i) (zt true s t (i+1))))),.int .i64 (if zBE (max (zt true s t i) (zt true s t (i+1)))=0 then 6 else 0)]):=by
 have hO:=fun W (hW:Below w.heap.size w W)=>zEs s t A c W (ht.below hW) hf (by omega) hv hs
 have hsf:=zBm.1 hs
 have hst:=zDB hv
 have hxf:=hst x (List.mem_of_getElem? hx)
 have hlt:=(List.getElem?_eq_some_iff.1 hx).1
 have hL:=fun W (hW:Below w.heap.size w W)=>zEv ⟨s,t,A,c,true⟩ W (ht.below hW) hsf hst hl
 have h1:=zC6 (b:=true) (s:=s) (t:=t) (i:=t.length+1) (k:=i) (by omega)
 have h2:=zC6 (b:=true) (s:=s) (t:=t) (i:=t.length+1) (k:=i+1) (by omega)
 have hle:=zDx (b:=true) (s:=s) (t:=t) (i:=t.length+1)
 have hin:=zB1 (b:=true) hsf hst i
 have hin2:=zB1 (b:=true) hsf hst (i+1)
 have hF:=fun W=>zEx (max (zt true s t i) (zt true s t (i+1))) W (by omega)
 have hfi:=zEA (h:=max (zt true s t i) (zt true s t (i+1)))
 simp only at hL
 generalize zBe true s t (t.length+1)=hs9 at *
 generalize zBE (max (zt true s t i) (zt true s t (i+1)))=v at *
 generalize zt true s t i=a1 at *
 generalize zt true s t (i+1)=a2 at *
 obtain ⟨bA,oA,hAe,hAl,hAc⟩:=ht.at_ hlt
 subst hAe
 have:InS w bA oA zq 9 t:=⟨ht⟩
 have:zA5 t i x:=⟨hx⟩
 have:zA5 hs9 i a1:=⟨h1⟩
 have:zA5 hs9 (i+1) a2:=⟨h2⟩
 have hlong:=hxf.long
 clear hxf hst hsf h1 h2
 unfold Gv
 unfold vSl vRi at *
 simp only at *
 (refine zD (n:=66) Tryz.func12 rfl rfl rfl ?_)
 (repeat' (first|((with_reducible refine zH ?_);first|refine zF rfl rfl rfl ?_|refine zC rfl rfl rfl ?_|(refine zM rfl rfl rfl ?_;refine ⟨_,rfl,?_⟩)|refine zP rfl rfl rfl ?_|refine zn rfl rfl rfl rfl ?_|(refine zS rfl rfl rfl rfl rfl (fun h=>?_) (fun h=>?_)<;>(dsimp only [cmpP] at h;(try (exfalso;omega))))|refine zE rfl rfl rfl rfl (fun _ _ q=>hO _ q.below) ?_|refine zD5 rfl rfl rfl rfl (fun _ _ q=>hL _ q.below) (fun A' c'=>?_)|refine zh rfl rfl rfl rfl ?_|refine zz rfl rfl rfl ?_|(refine zV rfl rfl rfl rfl rfl ?_;refine ⟨rfl,by first|decide|exact Nat.le_of_ble_eq_true rfl|(simp;omega),_,rfl,?_⟩)|(refine zX rfl rfl (fun b=>?_))|(refine zf rfl rfl rfl rfl (fun b=>?_)))|(with_reducible first|refine zK ?_|refine zB ?_|refine zG ?_|refine zA ?_|refine zU ?_)|((with_reducible refine zI ?_ ?_);(· exact rfl))))
 refine zCn (enc:=encI) (xs:=hs9) (by (repeat constructor)) (by omega) (fun bl ol hLA=>?_)
 subst hLA
 (refine zAP [] [] [] rfl (show ([]:List Nat).Nodup by decide) (fun _ h=>h) (by kernel_rfl) [[],[Y],[Z,Z],[Z,Z,Z],[Y,Y,Y,Y],[Y,Y,Y,Y,Y],[Z,Y,Y,Y,Y,Y],[Z,Z,Z,Y,Y,Y,Y],[Z,Z,Z,Z,Y,Y,Y,Y],[Z,Z,Z,Z,Z,Z,Z,Z,Z],[Z,Z,Z,Z,Z,Z,Z,Z,Z,Z],[Z,Z,Z,Z,Z,Z,Z,Z,Z,Z,Z]] (by kernel_rfl) (by kernel_rfl) (by kernel_rfl) (by kernel_rfl) (by kernel_rfl) ?_)
 (repeat' (first|(((with_reducible refine zCL ?_ ?_);(· exact rfl);refine ⟨_,fun G=>(by (try simp (decide:=true) only [vis,see,fltT,z8,Nat.reduceAdd,Nat.reduceSub,if_true,if_false,List.set_cons_zero,List.set_cons_succ,List.set_nil,List.nil_append,List.cons_append]);rfl),?_⟩);first|refine zW _ (fun _=>zAi rfl rfl) (fun _=>rfl) rfl (by intro G G' h;simp (decide:=true) only [h]) ?_|refine zW _ (fun _=>zAC rfl rfl (by exact rfl)) (fun _=>rfl) rfl (by intro G G' h;simp (decide:=true) only [h]) ?_|refine zW _ (fun _=>zAa rfl rfl) (fun _=>rfl) rfl (by intro G G' h;simp (decide:=true) only [h]) ?_|refine zW _ (fun _=>zAV (I:=i) rfl rfl rfl rfl (by omega)) (fun _=>rfl) rfl (by exact fun _ _ _=>rfl) ?_|refine zW _ (fun _=>zAV (I:=i+1) rfl rfl rfl rfl (by omega)) (fun _=>rfl) rfl (by exact fun _ _ _=>rfl) ?_|refine zAR _ rfl (fun _=>rfl) rfl (fun _=>rfl) (fun _=>rfl) (fun _ _ _ q=>hF _) (by intro G G' h;simp (decide:=true) only [h]) ?_|refine zW _ (fun _=>zGb rfl rfl rfl (by omega)) (fun _=>rfl) rfl (by intro G G' h;simp (decide:=true) only [h]) ?_|refine zW _ (fun _=>e_max rfl rfl rfl) (fun _=>rfl) rfl (by intro G G' h;simp (decide:=true) only [h]) ?_)|(with_reducible refine zB2 ?_)))
 (intro G;simp only [regsT,z8,zA7,ini,List.nil_append,List.cons_append])
 by_cases hv0:v=0
 ·subst hv0
  (repeat' (first|((with_reducible refine zH ?_);first|refine zF rfl rfl rfl ?_|refine zC rfl rfl rfl ?_|(refine zS rfl rfl rfl rfl rfl (fun h=>?_) (fun h=>?_)<;>(dsimp only [cmpP] at h;(try (exfalso;omega)))))|(with_reducible first|refine zK ?_|refine zB ?_|refine zG ?_|refine zA ?_|refine zR ?_|refine zb ?_)|((with_reducible refine zO ?_ ?_);(· exact rfl))))
  exact zN (by (exact zi.cons (by exact zAo.tmp rfl) (zi.cons (by exact zAo.tmp rfl) zi.nil))) () trivial rfl (fun _ h=>h.sub (by (repeat constructor)))
 rw [if_neg hv0,if_neg hv0]
 have hvp:0<v:=by omega
 have q1:=Int.emod_nonneg (1000 * x.long.lo) (show v≠0 by omega)
 have q2:=Int.emod_lt_of_pos (1000 * x.long.lo) hvp
 have q3:=Int.ediv_nonneg (show 0≤1000 * x.long.lo by omega) (show 0≤v by omega)
 have q4:=Int.ediv_le_self v (show 0≤1000 * x.long.lo by omega)
 have q5:=Int.ediv_nonneg (show 0≤1000 * x.long.lo+v by omega) (show 0≤v by omega)
 have q6:=Int.ediv_le_self v (show 0≤1000 * x.long.lo+v by omega)
 unfold zFU
 by_cases hr:0<1000 * x.long.lo % v
 ·rw [if_pos hr]
  (repeat' (first|((with_reducible refine zH ?_);first|refine zF rfl rfl rfl ?_|refine zC rfl rfl rfl ?_|(refine zM rfl rfl rfl ?_;refine ⟨_,rfl,?_⟩)|refine zP rfl rfl rfl ?_|(refine zS rfl rfl rfl rfl rfl (fun h=>?_) (fun h=>?_)<;>(dsimp only [cmpP] at h;(try (exfalso;omega))))|refine zAN (I:=i) rfl rfl rfl rfl rfl (by omega) ?_|refine zCx rfl rfl rfl rfl (IntWalk.i64_in _ (by omega)) ?_|refine zDC rfl rfl rfl rfl (IntWalk.i64_in _ (by omega)) ?_|refine zED rfl rfl rfl rfl (by omega) (by omega) (IntWalk.i64_in _ (by omega)) ?_|refine u_rem rfl rfl rfl rfl (by omega) (by omega) ?_)|(with_reducible first|refine zK ?_|refine zB ?_|refine zG ?_|refine zA ?_|refine zR ?_|refine zU ?_)|((with_reducible refine zO ?_ ?_);(· exact rfl))|((with_reducible refine zI ?_ ?_);(· exact rfl))))
  exact zN (by (exact zi.cons (by exact zAo.tmp rfl) (zi.cons (by exact zAo.tmp rfl) zi.nil))) () trivial rfl (fun _ h=>h.sub (by (repeat constructor)))
 ·rw [if_neg hr]
  (repeat' (first|((with_reducible refine zH ?_);first|refine zF rfl rfl rfl ?_|refine zC rfl rfl rfl ?_|(refine zM rfl rfl rfl ?_;refine ⟨_,rfl,?_⟩)|refine zP rfl rfl rfl ?_|(refine zS rfl rfl rfl rfl rfl (fun h=>?_) (fun h=>?_)<;>(dsimp only [cmpP] at h;(try (exfalso;omega))))|refine zAN (I:=i) rfl rfl rfl rfl rfl (by omega) ?_|refine zDC rfl rfl rfl rfl (IntWalk.i64_in _ (by omega)) ?_|refine zED rfl rfl rfl rfl (by omega) (by omega) (IntWalk.i64_in _ (by omega)) ?_|refine u_rem rfl rfl rfl rfl (by omega) (by omega) ?_)|(with_reducible first|refine zK ?_|refine zB ?_|refine zG ?_|refine zA ?_|refine zR ?_|refine zU ?_)|((with_reducible refine zI ?_ ?_);(· exact rfl))))
  exact zN (by (exact zi.cons (by exact zAo.tmp rfl) (zi.cons (by exact zAo.tmp rfl) zi.nil))) () trivial rfl (fun _ h=>h.sub (by (repeat constructor)))
end Go.Proofs.YtcpdjamlhhfbhaaGreat.Two
namespace Go.Proofs.YtcpdjamlhhfbhaaGreat.Two
variable {ro : Option Nat}
open Go.RowKit
set_option maxRecDepth 20000
def zEV (l:LnM) (i:Nat):Int:=upI (1000 * zAv l i) l.fast
theorem apT_le {t:List St} {a b:Spot} (hv:valid t=true) (ha:zj t a=true) (hb:zj t b=true):(apT t a b).lo≤1000000:=by
 have hl:=zBR hv
 have ho:=zAy hv
 have a5:=zAm ha ho
 have b5:=zAm hb ho
 obtain ⟨I,hI,hlI⟩:=zAT ha
 obtain ⟨J,hJ,hlJ⟩:=zAT hb
 have e:apT t a b=if b.st<a.st then zBC (ap0 t b a) else ap0 t a b:=by unfold apT;rw [hv,ha,hb];rfl
 rw [e,hI,hJ]
 split
 ·have h:=zAb ho (show J≤I by omega) (by omega)
  unfold zBC ap0
  rw [hI,hJ,Int.toNat_natCast,Int.toNat_natCast]
  simp only;omega
 ·have h:=zAb ho (show I≤J by omega) (by omega)
  unfold ap0
  rw [hI,hJ,Int.toNat_natCast,Int.toNat_natCast]
  simp only;omega
theorem atT_le {t:List St} {a:Spot} (hv:valid t=true) (ha:zj t a=true):(atT t a).lo≤1000000:=by
 have hl:=zBR hv
 have ho:=zAy hv
 have a5:=zAm ha ho
 obtain ⟨I,hI,hlI⟩:=zAT ha
 have e:atT t a=zAG (mark t a.st.toNat) a.off:=by unfold atT;rw [hv,ha];rfl
 have h:=zAb ho (Nat.zero_le I) (by omega)
 rw [e,hI,Int.toNat_natCast]
 unfold zAG mark
 simp only;omega
theorem wayI_le {l:LnM} (hf:FineL l) {i:Nat} (hi:i<l.bms.length):1≤zAv l i∧zAv l i≤1000000:=by
 refine ⟨hf.way i hi,?_⟩
 have hb:∀ j,j<l.bms.length→zj l.t (bmOf l j).spot=true:=fun j hj=>by
  obtain ⟨b,hb⟩:∃ b,l.bms[j]?=some b:=⟨_,List.getElem?_eq_getElem hj⟩
  rw [zB3 hb];exact (hf.bm b (List.mem_of_getElem? hb)).1
 unfold zAv
 split
 ·exact atT_le hf.valid (hb 0 (by omega))
 ·exact apT_le hf.valid (hb _ (by omega)) (hb _ hi)
end Go.Proofs.YtcpdjamlhhfbhaaGreat.Two
