/- A18 -/
import Derived.Test.YtfiekidciiighaaGreatA17
import Derived.Test.YtfiekidciiighaaGreatA12
set_option linter.unusedSimpArgs false
set_option linter.unusedVariables false
namespace Go.Proofs.YtfiekidciiighaaGreat.Two
variable {ro : Option Nat}
open Go.RowKit
set_option maxRecDepth 20000
def zDk (b:Bool):List Value:=[.bool b]
instance encI_bl : zCZ zDk 1:=⟨fun _=>rfl,fun b v hv=>by simp [zDk] at hv;subst hv;rfl⟩
theorem elem_bo : Elem Tryz.prog 119 4 1 1 (.bool false) :=
 ⟨by rfl,by exact ⟨_,rfl,rfl,rfl,rfl⟩,by decide,by decide⟩
instance elI_bo : ElI Tryz.prog 119 4 1 1:=⟨⟨_,elem_bo⟩⟩
def zAK (l:LnM) (i:Nat):List Int:=(List.range i).map (zAY l)
def zBX (l:LnM) (r:Rid) (i:Nat):List Sp:=(r.sigs.take i).map (zAm l)
def zCu (l:LnM) (r:Rid) (i:Nat):List Bool:=(r.sigs.take i).map fun s=>decide ((zAm l s).lo≤(zAm l s).hi)
theorem zFj {l:LnM} {i:Nat}:zAK l (i+1)=zAK l i++[zAY l i]:=by unfold zAK;rw [List.range_succ,List.map_append];rfl
theorem zIj {l:LnM} {r:Rid} {i:Nat} {s:Sgn} (h:r.sigs[i]?=some s):zBX l r (i+1)=zBX l r i++[zAm l s]:=by unfold zBX;rw [List.take_add_one,h,List.map_append];rfl
theorem zJI {l:LnM} {r:Rid} {i:Nat} {s:Sgn} (h:r.sigs[i]?=some s):zCu l r (i+1)=zCu l r i++[decide ((zAm l s).lo≤(zAm l s).hi)]:=by unfold zCu;rw [List.take_add_one,h,List.map_append];rfl
theorem zCR {l:LnM} {i:Nat}:(zAK l i).length=i:=by simp [zAK]
theorem zEg {l:LnM} {r:Rid} {i:Nat} (h:i≤r.sigs.length):(zBX l r i).length=i:=by simp [zBX];omega
theorem zG7 {l:LnM} {r:Rid} {i:Nat} (h:i≤r.sigs.length):(zCu l r i).length=i:=by simp [zCu];omega
set_option maxHeartbeats 8000000 in
theorem tell_any (l:LnM) (x:RdM) (w:World) (h:zCY w l) (hs:zBA l) (hf:zDo l) (hS:zAC zAw 2 w x.A x.r.sigs) (hr:zCC l.bms.length x.r=true) :
  Ret Tryz.prog 56 [vLn l,vRd x] w (fun z:(Option Addr × Nat) × (Option Addr × Nat) × (Option Addr × Nat)=>.agg #[.slice z.1.1 l.bms.length z.1.2,.slice z.2.1.1 x.r.sigs.length z.2.1.2,.slice z.2.2.1 x.r.sigs.length z.2.2.2]) (fun z=>[.sl encI 1 z.1.1 (zAK l l.bms.length),.sl zAr 2 z.2.1.1 (zBX l x.r x.r.sigs.length),.sl zDk 1 z.2.2.1 (zCu l x.r x.r.sigs.length)]) (fun _=>True):=by
 have c1:=hf.bms
 obtain ⟨⟨r1,r2,r3⟩,r4⟩:=zBM.1 hr
 have hL:=fun W i (hW:Below w.heap.size w W) hi=>zKN l i W (h.below hW) hs hf hi
 have hWn:=fun W s (hW:Below w.heap.size w W) hb=>zLm l s W (h.below hW) hs hf hb
 have l1:=fun i=>zCR (l:=l) (i:=i)
 have l2:=fun i hi=>zEg (l:=l) (r:=x.r) (i:=i) hi
 have l3:=fun i hi=>zG7 (l:=l) (r:=x.r) (i:=i) hi
 unfold vRd
 unfold vLn at hL hWn ⊢
 (refine zK (n:=55) Tryz.func56 rfl rfl rfl ?_)
 (repeat' (first|((with_reducible refine zG ?_);first|refine zC rfl rfl rfl ?_|(refine zb rfl rfl (fun b=>?_))|(refine zp rfl rfl rfl rfl (fun b=>?_)))|(with_reducible first|refine zI ?_|refine zB ?_|refine zE ?_|refine zA ?_|refine zQ ?_)))
 obtain ⟨b5,hb5⟩:∃ x,x=b:=⟨_,rfl⟩
 subst hb5
 obtain ⟨b4,hb4⟩:∃ x,x=b:=⟨_,rfl⟩
 subst hb4
 obtain ⟨b3,hb3⟩:∃ x,x=b:=⟨_,rfl⟩
 subst hb3
 obtain ⟨b2,hb2⟩:∃ x,x=b:=⟨_,rfl⟩
 subst hb2
 refine zBa encI 1 3 ?_
 refine zBa zAr 2 85 ?_
 refine zBa zDk 1 4 ?_
 refine zAB (ι:=Nat × Value) [2,3,4,5] rfl (fun p=>p.1≤l.bms.length) (fun p=>[(6,.int .i64 (p.1:Int))]) (fun p=>[.row encI 1 3 p.2 (zAK l p.1),.row zAr 2 85 (.slice none 0 0) [],.row zDk 1 4 (.slice none 0 0) [],.blk b5 [p.2,.slice none 0 0,.slice none 0 0],.blk b4 [.slice none 0 0,.slice none 0 0,.slice none 0 0],.blk b3 (zAN x),.blk b2 (zAH l)]) (fun p=>l.bms.length - p.1) (0,.slice none 0 0) (Nat.zero_le _) (by (repeat first|exact lK1|refine zT rfl ?_)) (by unfold zAN zAH;(repeat constructor)) ?_
 rintro ⟨i,v⟩ hi
 simp only at hi
 simp only [zAk,zAN,zAH,List.cons_append,List.nil_append]
 by_cases hil:i<l.bms.length
 ·have hLi:=fun W hW=>hL W i hW hil
  have e1:=(zFj (l:=l) (i:=i)).symm
  have lI:=l1 i
  generalize zAY l i=u at *
  generalize zAK l i=LL at *
  (repeat' (first|((with_reducible refine zG ?_);first|refine zD rfl rfl rfl ?_|(refine zJ rfl rfl rfl ?_;refine ⟨_,rfl,?_⟩)|refine zL rfl rfl rfl ?_|(refine zS rfl rfl rfl rfl rfl (fun h=>?_) (fun h=>?_)<;>(dsimp only [cmpP] at h;(try (exfalso;omega))))|refine zn rfl rfl rfl ?_)|(with_reducible first|refine zI ?_|refine zB ?_|refine zE ?_|refine zA ?_|refine zR ?_|refine zQ ?_)|((with_reducible refine zH ?_ ?_);(· exact rfl))))
  (refine z9 [] [(6,0,0,[.row encI 1 3 v LL])] [(6,0,0)] rfl (show ([6]:List Nat).Nodup by decide) (H0:=[.row zAr 2 85 (.slice none 0 0) [],.row zDk 1 4 (.slice none 0 0) [],.blk b5 [v,.slice none 0 0,.slice none 0 0],.blk b4 [.slice none 0 0,.slice none 0 0,.slice none 0 0],.blk b3 (zAN x),.blk b2 (zAH l)]) (fun _ h=>h.sub (by (repeat constructor))) (by kernel_rfl) [[],[Z],[Y,Y],[Y,Y,Y],[Z,Z,Y,Y],[Z,Z,Z,Y,Y],[Z,Z,Z,Z,Z,Z],[Z,Z,Z,Z,Z,Z,Z],[Z,Z,Z,Z,Z,Z,Z,Z]] (by kernel_rfl) (by kernel_rfl) (by kernel_rfl) (by kernel_rfl) (by kernel_rfl) ?_)
  unfold zAN zAH
  (repeat' (first|(((with_reducible refine zA0 ?_ ?_);(· exact rfl);refine ⟨_,fun G=>(by (try simp (decide:=true) only [vis,see,fltT,zq,Nat.reduceAdd,Nat.reduceSub,if_true,if_false,List.set_cons_zero,List.set_cons_succ,List.set_nil,List.nil_append,List.cons_append]);rfl),?_⟩);first|refine zN _ (fun _=>zl rfl rfl) (fun _=>rfl) rfl (by intro G G' h;simp (decide:=true) only [h]) ?_|refine zN _ (fun _=>zW rfl rfl (by exact rfl)) (fun _=>rfl) rfl (by intro G G' h;simp (decide:=true) only [h]) ?_|(refine zm rfl ?_;refine zN _ (fun _=>zY rfl rfl) (fun _=>rfl) rfl (by intro G G' h;simp (decide:=true) only [h]) ?_)|refine zAR _ rfl (fun _=>rfl) rfl (fun _=>rfl) (fun _=>rfl) (fun _ _ _ q=>hLi _ q.below) (by intro G G' h;simp (decide:=true) only [h]) ?_|refine zB5 rfl (fun _=>rfl) rfl (fun _=>rfl) (by exact rfl) (by exact fun _=>rfl) (by intro G G' h;simp (decide:=true) only [h]) ?_)|(refine zIU (enc:=encI) (xs:=LL) (vx:=v) [u] List.mem_cons_self rfl rfl (fun _=>rfl) rfl (fun _=>rfl) (fun _=>rfl) rfl (fun G=>(by (try simp (decide:=true) only [vis,see,fltT,zq,Nat.reduceAdd,Nat.reduceSub,if_true,if_false,List.set_cons_zero,List.set_cons_succ,List.set_nil,List.nil_append,List.cons_append]);rfl)) (fun _ W hW h=>zAF (enc:=encI) (by exact rfl) W hW h) ⟨by simp;omega,by decide⟩ ?_)|((with_reducible refine zBi ?_ ?_);(· exact rfl))))
  intro G
  simp only [regsT,List.nil_append,List.cons_append]
  refine zBF (H':=[.row encI 1 3 (.slice (G 6).A (LL++[u]).length (G 6).m) (LL++[u]),.blk (G 5).g (encI u),.row zAr 2 85 (.slice none 0 0) [],.row zDk 1 4 (.slice none 0 0) [],.blk b5 [v,.slice none 0 0,.slice none 0 0],.blk b4 [.slice none 0 0,.slice none 0 0,.slice none 0 0],.blk b3 (zAN x),.blk b2 (zAH l)]) (fun _ h=>h) ?_
  unfold zAN zAH
  (repeat' (first|((with_reducible refine zG ?_);first|refine zD rfl rfl rfl ?_|refine zC rfl rfl rfl ?_|refine zu rfl rfl rfl rfl (by omega) ?_|(refine zX rfl rfl rfl rfl rfl ?_;refine ⟨rfl,by first|decide|exact Nat.le_of_ble_eq_true rfl|(simp;omega),_,rfl,?_⟩))|(with_reducible first|refine zB ?_|refine zE ?_|refine zA ?_|refine zj ?_)))
  refine zd (ι:=Nat × Value) (i+1,.slice (G 6).A (LL++[u]).length (G 6).m) (by simp only;omega) (by simp only;omega) (by (repeat first|exact lK1|refine zT rfl ?_)) ?_
  rw [e1]
  (repeat constructor)
 obtain rfl:i=l.bms.length:=by omega
 have lI:=l1 l.bms.length
 generalize zAK l l.bms.length=LL at *
 obtain ⟨v1,hv1⟩:∃ x,x=v:=⟨_,rfl⟩
 subst hv1
 (repeat' (first|((with_reducible refine zG ?_);first|refine zD rfl rfl rfl ?_|refine zC rfl rfl rfl ?_|(refine zJ rfl rfl rfl ?_;refine ⟨_,rfl,?_⟩)|refine zL rfl rfl rfl ?_|(refine zS rfl rfl rfl rfl rfl (fun h=>?_) (fun h=>?_)<;>(dsimp only [cmpP] at h;(try (exfalso;omega))))|refine zn rfl rfl rfl ?_)|(with_reducible first|refine zI ?_|refine zB ?_|refine zE ?_|refine zA ?_|refine zQ ?_|refine zz ?_|refine zZ ?_|refine ze ?_)|((with_reducible refine zF ?_ ?_);(· exact rfl))))
 refine zAB (ι:=Nat × Value × Value) [2,3,4,5] rfl (fun p=>p.1≤x.r.sigs.length) (fun p=>[(7,.int .i64 (p.1:Int))]) (fun p=>[.row zAr 2 85 p.2.1 (zBX l x.r p.1),.row zDk 1 4 p.2.2 (zCu l x.r p.1),.row encI 1 3 v1 LL,.blk b5 [v1,p.2.1,p.2.2],.blk b4 [.slice none 0 0,.slice none 0 0,.slice none 0 0],.blk b3 (zAN x),.blk b2 (zAH l)]) (fun p=>x.r.sigs.length - p.1) (0,.slice none 0 0,.slice none 0 0) (Nat.zero_le _) (by (repeat first|exact lK1|refine zT rfl ?_)) (by unfold zAN zAH;(repeat constructor)) ?_
 rintro ⟨i,v,u⟩ hi
 simp only at hi
 simp only [zAk,zAN,zAH,List.cons_append,List.nil_append]
 have m2:=l2 i hi
 have m3:=l3 i hi
 by_cases hil:i<x.r.sigs.length
 ·obtain ⟨s,hx⟩:∃ s,x.r.sigs[i]?=some s:=⟨_,List.getElem?_eq_getElem hil⟩
  have:zAT x.r.sigs i s:=⟨hx⟩
  obtain ⟨bb,o,hA,hblt,hc⟩:=hS.at_ hil
  rw [hA] at hS
  have:InS w bb o zAw 2 x.r.sigs:=⟨hS⟩
  have hsg:=r4 i hil
  rw [zIk hx] at hsg
  have hbm:=zAA.1 (zCl.1 hsg).1.1
  have hW:=fun W hW=>hWn W s hW ⟨hbm.1,by omega⟩
  have e2:=(zIj (l:=l) hx).symm
  have e3:=(zJI (l:=l) hx).symm
  unfold vSg vSp at hW
  generalize decide ((zAm l s).lo≤(zAm l s).hi)=g at *
  generalize zAm l s=t at *
  generalize zBX l x.r i=TL at *
  generalize zCu l x.r i=SL at *
  rw [hA]
  (repeat' (first|((with_reducible refine zG ?_);first|refine zD rfl rfl rfl ?_|(refine zJ rfl rfl rfl ?_;refine ⟨_,rfl,?_⟩)|refine zL rfl rfl rfl ?_|(refine zS rfl rfl rfl rfl rfl (fun h=>?_) (fun h=>?_)<;>(dsimp only [cmpP] at h;(try (exfalso;omega))))|refine zn rfl rfl rfl ?_)|(with_reducible first|refine zI ?_|refine zB ?_|refine zE ?_|refine zA ?_|refine zR ?_|refine zQ ?_)|((with_reducible refine zH ?_ ?_);(· exact rfl))))
  (refine z9 [(10,11)] [] [] rfl (by decide) (fun _ h=>h) (by kernel_rfl) [[],[Y],[Z,Y],[Y,Y,Y],[Z,Z,Z,Y],[Z,Z,Z,Z,Y],[Z,Z,Z,Z,Z,Z],[Z,Z,Z,Z,Z,Z,Z],[Z,Z,Z,Z,Z,Z,Z,Z],[Y,Z,Z,Z,Z,Z,Z,Z,Z],[Y,Y,Y,Y,Y,Y,Y,Y,Y,Y],[Z,Y,Z,Z,Z,Z,Z,Z,Z,Z,Z],[Z,Z,Z,Z,Z,Z,Z,Z,Z,Z,Z,Z]] (by kernel_rfl) (by kernel_rfl) (by kernel_rfl) (by kernel_rfl) (by kernel_rfl) ?_)
  (repeat' (first|(((with_reducible refine zA0 ?_ ?_);(· exact rfl);refine ⟨_,fun G=>(by (try simp (decide:=true) only [vis,see,fltT,zq,Nat.reduceAdd,Nat.reduceSub,if_true,if_false,List.set_cons_zero,List.set_cons_succ,List.set_nil,List.nil_append,List.cons_append]);rfl),?_⟩);first|refine zN _ (fun _=>zl rfl rfl) (fun _=>rfl) rfl (by intro G G' h;simp (decide:=true) only [h]) ?_|refine zN _ (fun _=>zW rfl rfl (by exact rfl)) (fun _=>rfl) rfl (by intro G G' h;simp (decide:=true) only [h]) ?_|(refine zm rfl ?_;refine zN _ (fun _=>zY rfl rfl) (fun _=>rfl) rfl (by intro G G' h;simp (decide:=true) only [h]) ?_)|refine zN _ (fun _=>zt rfl rfl) (fun _=>rfl) rfl (by intro G G' h;simp (decide:=true) only [h]) ?_|refine zAR _ rfl (fun _=>rfl) rfl (fun _=>rfl) (fun _=>rfl) (fun _ _ _ q=>hW _ q.below) (by intro G G' h;simp (decide:=true) only [h]) ?_|refine zN _ (fun _=>zw (I:=i) rfl rfl rfl rfl (by omega)) (fun _=>rfl) rfl (by exact fun _ _ _=>rfl) ?_|refine zN _ (fun _=>zAL rfl rfl rfl) (fun _=>rfl) rfl (by intro G G' h;simp (decide:=true) only [h]) ?_|refine zA1 rfl (fun _=>rfl) rfl ?_)|(refine zAo (gx:=fun G=>(G 10).g) (cs:=fun _=>[.int .i64 0,.int .i64 0]) (cs':=fun _=>zAr t) 10 (by decide) rfl rfl (fun _=>rfl) rfl (fun _=>rfl) (fun _=>rfl) (fun _=>rfl) (fun _=>rfl) (fun _=>rfl) (fun _=>rfl) (fun _=>rfl) (by intro G G' h;simp (decide:=true) only [h]) (by exact fun _ _ _=>rfl) ?_)|(with_reducible refine zAx ?_)))
  intro G
  simp only [regsT,List.nil_append,List.cons_append]
  refine zBF (H':=[.blk (G 10).g (zAr t),.row zAr 2 85 v TL,.row zDk 1 4 u SL,.row encI 1 3 v1 LL,.blk b5 [v1,v,u],.blk b4 [.slice none 0 0,.slice none 0 0,.slice none 0 0],.blk b3 [.int .i64 x.r.start,.int .i64 x.r.now,.slice (some ⟨bb,o,none⟩) x.r.sigs.length x.c],.blk b2 (zAH l)]) (fun _ h=>h) ?_
  unfold zAH
  (repeat' (first|((with_reducible refine zG ?_);first|refine zD rfl rfl rfl ?_|(refine zJ rfl rfl rfl ?_;refine ⟨_,rfl,?_⟩)|refine zL rfl rfl rfl ?_|(refine zB6 (enc:=zAr) [t] rfl rfl rfl (by (repeat constructor)) rfl rfl (zAF (enc:=zAr) (by exact rfl)) (by refine ⟨?_,by decide⟩;(try simp only [List.length_append,List.length_cons,List.length_nil]);omega) (fun A' c'=>?_))|(refine zX rfl rfl rfl rfl rfl ?_;refine ⟨rfl,by first|decide|exact Nat.le_of_ble_eq_true rfl|(simp;omega),_,rfl,?_⟩)|(refine zi rfl rfl rfl ?_;refine ⟨rfl,_,rfl,fun b=>?_⟩))|(with_reducible first|refine zI ?_|refine zB ?_|refine zE ?_|refine zA ?_)))
  obtain ⟨A1,hA1⟩:∃ y,y=A':=⟨_,rfl⟩
  subst hA1
  obtain ⟨k1,hk1⟩:∃ y,y=c':=⟨_,rfl⟩
  subst hk1
  (repeat' (first|((with_reducible refine zG ?_);first|refine zD rfl rfl rfl ?_|refine zC rfl rfl rfl ?_|refine zL rfl rfl rfl ?_|(refine zB6 (enc:=zDk) [g] rfl rfl rfl (by (repeat constructor)) rfl rfl (zAF (enc:=zDk) (by exact rfl)) (by refine ⟨?_,by decide⟩;(try simp only [List.length_append,List.length_cons,List.length_nil]);omega) (fun A' c'=>?_))|refine zu rfl rfl rfl rfl (by omega) ?_|(refine zX rfl rfl rfl rfl rfl ?_;refine ⟨rfl,by first|decide|exact Nat.le_of_ble_eq_true rfl|(simp;omega),_,rfl,?_⟩))|(with_reducible first|refine zB ?_|refine zE ?_|refine zA ?_|refine zj ?_)))
  refine zd (ι:=Nat × Value × Value) (i+1,.slice A1 (TL++[t]).length k1,.slice A' (SL++[g]).length c') (by simp only;omega) (by simp only;omega) (by (repeat first|exact lK1|refine zT rfl ?_)) ?_
  rw [e2,e3]
  (repeat constructor)
 obtain rfl:i=x.r.sigs.length:=by omega
 generalize zBX l x.r x.r.sigs.length=TL at *
 generalize zCu l x.r x.r.sigs.length=SL at *
 refine zBT (xs:=LL) (enc:=encI) (by (repeat constructor)) ?_
 rintro A1 k1 rfl
 refine zBT (xs:=TL) (enc:=zAr) (by (repeat constructor)) ?_
 rintro A2 k2 rfl
 refine zBT (xs:=SL) (enc:=zDk) (by (repeat constructor)) ?_
 rintro A3 k3 rfl
 (repeat' (first|((with_reducible refine zG ?_);first|refine zD rfl rfl rfl ?_|(refine zJ rfl rfl rfl ?_;refine ⟨_,rfl,?_⟩)|refine zL rfl rfl rfl ?_|(refine zS rfl rfl rfl rfl rfl (fun h=>?_) (fun h=>?_)<;>(dsimp only [cmpP] at h;(try (exfalso;omega))))|refine zn rfl rfl rfl ?_|(refine zX rfl rfl rfl rfl rfl ?_;refine ⟨rfl,by first|decide|exact Nat.le_of_ble_eq_true rfl|(simp;omega),_,rfl,?_⟩))|(with_reducible first|refine zI ?_|refine zB ?_|refine zE ?_|refine zA ?_|refine zV ?_|refine zz ?_|refine zZ ?_|refine ze ?_)|((with_reducible refine zF ?_ ?_);(· exact rfl))))
 exact zP (by (exact zh.cons (by exact res1c rfl (by exact rfl)) zh.nil)) ((A1,k1),(A2,k2),(A3,k3)) trivial (by simp only [lI,m2,m3];rfl) (fun _ h=>(((h.zCN (xs:=LL) (enc:=encI) (by (repeat constructor))).zCN (xs:=TL) (enc:=zAr) (by (repeat constructor))).zCN (xs:=SL) (enc:=zDk) (by (repeat constructor))).sub (by (repeat constructor)))
end Go.Proofs.YtfiekidciiighaaGreat.Two
namespace Go.Proofs.YtfiekidciiighaaGreat
variable {ro : Option Nat}
open Go.RowKit
set_option maxRecDepth 20000
section
variable {P : Program} {w0:World} {n:Nat} {d:List Deferred} {R:List (Nat × Value)} {H H':List Ent} {Q:Exit→Act→World→Prop} {ops:Array Oper} {rest:List Oper} {o:Oper} {t:Tmp} {x y:Operand} {v:Value} {X:Act→World→Prop}
theorem u_make1 {T1 e:TypeId} {i:TypeInfo} {z v:Value} {n0 s:Nat} {g:Bool} (hop:o.op = .makeSlice T1 x y) [i1:TyI P T1 (.slice e) s g] (hi:P.info? e=some i) (hz:i.zero=some z) (h1:i.size=1) (hcz:z.cells=#[v]) (hb:Nat.ble (i.bytes * 1000) 281474976710656=true) (hrd:rdy R ops n o=some t) (hx:evR R x=some (.int .i64 (n0:Int))) (hy:evR R y=some (.int .i64 (n0:Int))) (hn:n0≤1000)
  (h:∀ b,U w0 n d ((t,.slice (some ⟨b,0,none⟩) n0 n0)::R) (.blk b (List.replicate n0 v)::H) (wpL ro P ops Q rest)):U w0 n d R H (wpL ro P ops Q (o::rest)) :=
 zFY (rW hrd) fun a w q K hK=>by
  have hb':(i.bytes:Int) * (n0:Int)≤281474976710656:=by
   have h9:=Nat.le_of_ble_eq_true hb
   have h8:i.bytes * n0≤i.bytes * 1000:=Nat.mul_le_mul_left _ hn
   have h7:((i.bytes * n0:Nat):Int)≤281474976710656:=by omega
   rwa [Int.natCast_mul] at h7
  have hr:=run_make (P:=P) w T1 e i z i1.und hi hz .i64 .i64 n0 n0 (by omega) (Int.le_refl _) hb' (by omega)
  have hm:madeCells z.cells (n0 * i.size)=(List.replicate n0 v).toArray:=by
   apply Array.ext'
   simp [madeCells,h1,hcz]
   apply List.ext_getElem?
   intro j
   rw [List.getElem?_map,List.getElem?_replicate]
   by_cases hj:j<n0
   ·rw [List.getElem?_range hj,if_pos hj];simp [Nat.mod_one]
   ·rw [List.getElem?_eq_none (by simpa using hj),if_neg hj];rfl
  simp only [Int.toNat_natCast,hm] at hr
  unfold Oper.wp execOp;rw [hop]
  simp only [Sem.run_bind,q.ev hx,q.ev hy,hr,Result.andThen_ok,Sem.run_pure,Oper.upon_value,(rD hrd)]
  exact hK _ _ (h w.heap.size _ _ ((q.alloc _ e).put (rT hrd)))
end
def zAz (k:RdK):Nat→List Opn→List Int
 | _,[]=>[]
 | b,o::os=>min (zCi k (b+1) os) o.hi::zAz k (b+1) os
theorem zFP {k:RdK}:∀ (os:List Opn) (b:Nat),(zAz k b os).length=os.length
 | [],_=>rfl
 | o::os,b=>by simp [zAz,zFP os]
def zF9 (k:RdK) (os:List Opn) (j:Nat):List Int:=List.replicate j 0++zAz k j (os.drop j)
theorem outF_all {k:RdK} {os:List Opn}:zF9 k os os.length=List.replicate os.length 0:=by unfold zF9;rw [List.drop_length];simp [zAz]
theorem zLu {k:RdK} {os:List Opn}:zF9 k os 0=zAz k 0 os:=by simp [zF9]
theorem outF_len {k:RdK} {os:List Opn} {j:Nat} (h:j≤os.length):(zF9 k os j).length=os.length:=by simp [zF9,zFP];omega
theorem zLv {k:RdK} {os:List Opn} {j:Nat} {o:Opn} (h:os[j]?=some o):(zF9 k os (j+1)).set j (min (zCi k (j+1) (os.drop (j+1))) o.hi)=zF9 k os j:=by
 have hj:=(List.getElem?_eq_some_iff.1 h).1
 have e:os.drop j=o::os.drop (j+1):=by rw [← List.getElem_cons_drop hj,(List.getElem?_eq_some_iff.1 h).2]
 unfold zF9
 rw [e,zAz,List.replicate_succ',List.append_assoc]
 rw [List.set_append_right _ _ (by simp)]
 simp
theorem outF_at {k:RdK} {os:List Opn} {j:Nat}:(zF9 k os (j+1))[j]?=some 0:=by
 unfold zF9;rw [List.getElem?_append_left (by simp)];simp
theorem zJt : ∀ n:Nat,(List.replicate n (0:Int)).flatMap encI=List.replicate n (.int .i64 0)
 | 0=>rfl
 | n+1=>by rw [List.replicate_succ,List.flatMap_cons,zJt n,List.replicate_succ];rfl
theorem zIN {k:RdK} {os:List Opn} {j:Nat} {o:Opn} (h:os[j]?=some o):zCi k j (os.drop j)=min (zCi k (j+1) (os.drop (j+1))) o.hi - k.least j:=by
 have hj:=(List.getElem?_eq_some_iff.1 h).1
 have e:os.drop j=o::os.drop (j+1):=by rw [← List.getElem_cons_drop hj,(List.getElem?_eq_some_iff.1 h).2]
 rw [e,zCi]
end Go.Proofs.YtfiekidciiighaaGreat
namespace Go.Proofs.YtfiekidciiighaaGreat.Two
variable {ro : Option Nat}
open Go.RowKit
set_option maxRecDepth 20000
def krd (l:LnM) (r:Rid):RdK:=zJT (zBo l) l.fast (fun b=>(clkI l b).c) l.bms.length l.misses l.fakes r
theorem zIG {l:LnM} {r:Rid} {b:Nat}:(krd l r).least b=zAY l b:=rfl
def OpT (l:LnM) (r:Rid) (o:Opn):Prop:=(o.sig = -1∧o.lo=r.start∧o.hi=r.now)∨∃ (I:Nat) (s:Sgn),r.sigs[I]?=some s∧o.sig=(I:Int)∧o.lo=(zAm l s).lo∧o.hi=(zAm l s).hi
theorem zEc (l:LnM) (s:Sgn):0≤(zAm l s).lo∧(zAm l s).lo≤86400001∧-1≤(zAm l s).hi∧(zAm l s).hi≤86400000:=zF3 _ _
theorem zIy {l:LnM} {r:Rid} (hf:zDo l) (h0:0≤r.now∧r.now≤86400000) {os:List Opn} (ho:∀ o∈os,OpT l r o) (hl:os.length≤l.bms.length):∀ m j,m+j=os.length→-1 - 1000000000 * (m:Int)≤zCi (krd l r) j (os.drop j)∧zCi (krd l r) j (os.drop j)≤r.now:=by
  intro m
  induction m with
  | zero => intro j hj; obtain rfl : j = os.length := by omega
            rw [List.drop_length];simp only [zCi,krd,zJT];omega
  | succ m ih =>
    intro j hj
    obtain ⟨o,ho1⟩:∃ o,os[j]?=some o:=⟨_,List.getElem?_eq_getElem (by omega)⟩
    have h1:=ih (j+1) (by omega)
    have h2:=zCo hf (show j<l.bms.length by omega)
    have h3:-1≤o.hi:=by
      rcases ho o (List.mem_of_getElem? ho1) with ⟨_,_,h⟩ | ⟨I,s,_,_,_,h⟩
      · omega
      · have:=zEc l s;omega
    rw [zIN ho1,zIG]
    omega
set_option maxHeartbeats 4000000 in
theorem zLy (l:LnM) (x:RdM) (os:List Opn) (LA TA SA RA:Option Addr) (lc tc sc rc:Nat) (w:World) (hf:zDo l) (hL:zAC encI 1 w LA (zAK l l.bms.length)) (hT:zAC zAr 2 w TA (zBX l x.r x.r.sigs.length)) (hR:zAC encI 1 w RA (os.map (·.sig))) (hr:zCC l.bms.length x.r=true) (ho:∀ o∈os,OpT l x.r o) (hl:os.length≤l.bms.length) :
  zCe encI 1 (zAz (krd l x.r) 0 os) (fun v=>v) Tryz.prog 70 [vRd x,.agg #[.slice LA l.bms.length lc,.slice TA x.r.sigs.length tc,.slice SA x.r.sigs.length sc],.slice RA os.length rc] w:=by
 have c1:=hf.bms
 obtain ⟨⟨r1,r2,r3⟩,r4⟩:=zBM.1 hr
 rw [zAA] at r1 r2
 have hE:=zIy (r:=x.r) hf (by omega) ho hl
 have hll:=fun j=>zFP (k:=krd l x.r) os j
 have hol:=fun j h=>outF_len (k:=krd l x.r) (os:=os) (j:=j) h
 unfold zCe vRd
 (refine zK (n:=50) Tryz.func70 rfl rfl rfl ?_)
 (repeat' (first|((with_reducible refine zG ?_);first|refine zD rfl rfl rfl ?_|refine zC rfl rfl rfl ?_|(refine zJ rfl rfl rfl ?_;refine ⟨_,rfl,?_⟩)|refine zL rfl rfl rfl ?_|refine u_make1 rfl rfl rfl rfl rfl rfl rfl rfl rfl (by omega) (fun b=>?_)|refine zAc rfl rfl rfl rfl (IntWalk.i64_in _ (by omega)) ?_|refine zn rfl rfl rfl ?_|(refine zp rfl rfl rfl rfl (fun b=>?_)))|(with_reducible first|refine zI ?_|refine zB ?_|refine zE ?_|refine zA ?_|refine zQ ?_)))
 rename_i b3 b4
 refine zBF (H':=[.arr encI 1 b (List.replicate os.length (0:Int)),.blk b4 [.slice LA l.bms.length lc,.slice TA x.r.sigs.length tc,.slice SA x.r.sigs.length sc],.blk b3 (zAN x)]) (fun _ h=>h.recast (fun hB=>⟨[],by rw [zJt,List.append_nil];exact hB⟩) (fun b hb=>hb)) ?_
 unfold zAN
 have e8:zCi (krd l x.r) os.length (os.drop os.length)=x.r.now:=by rw [List.drop_length];rfl
 refine zAB (ι:=Nat) [2,3,4,6,7] rfl (fun j=>j≤os.length) (fun j=>[(9,.int .i64 ((j:Int) - 1)),(8,.int .i64 (zCi (krd l x.r) j (os.drop j)))]) (fun j=>[.arr encI 1 b (zF9 (krd l x.r) os j),.blk b4 [.slice LA l.bms.length lc,.slice TA x.r.sigs.length tc,.slice SA x.r.sigs.length sc],.blk b3 [.int .i64 x.r.start,.int .i64 x.r.now,.slice x.A x.r.sigs.length x.c]]) (fun j=>j) os.length (Nat.le_refl _) (by simp only [e8];(repeat first|exact lK1|refine zT rfl ?_)) (by rw [outF_all];(repeat constructor)) ?_
 rintro j hj
 simp only [zAk,List.cons_append,List.nil_append]
 cases j with
 | zero =>
  rw [zLu]
  (repeat' (first|((with_reducible refine zG ?_);first|refine zD rfl rfl rfl ?_|refine zC rfl rfl rfl ?_|(refine zS rfl rfl rfl rfl rfl (fun h=>?_) (fun h=>?_)<;>(dsimp only [cmpP] at h;(try (exfalso;omega)))))|(with_reducible first|refine zI ?_|refine zB ?_|refine zE ?_|refine zA ?_|refine zV ?_|refine zz ?_|refine zZ ?_|refine ze ?_)|((with_reducible refine zF ?_ ?_);(· exact rfl))))
  exact zP (by exact rTm rfl) (some ⟨b,0,none⟩,os.length) trivial (by simp only [hll];rfl) (fun _ h=>(Own.arr_sl (by (repeat constructor)) h).sub (by (repeat constructor)))
 | succ j =>
  obtain ⟨o,ho1⟩:∃ o,os[j]?=some o:=⟨_,List.getElem?_eq_getElem (by omega)⟩
  have hEj:=hE (os.length - (j+1)) (j+1) (by omega)
  have s1:=zLv (k:=krd l x.r) ho1
  have s2:=zIN (k:=krd l x.r) ho1
  have s3:=outF_at (k:=krd l x.r) (os:=os) (j:=j)
  have s4:=hol (j+1) hj
  have hle:=zCo hf (show j<l.bms.length by omega)
  rw [zIG] at s2
  have hgo:=ho o (List.mem_of_getElem? ho1)
  obtain ⟨bl,ol,hLA,hbl,hcl⟩:=hL.at_ (show j<(zAK l l.bms.length).length by rw [zCR];omega)
  obtain ⟨br,orr,hRA,hbr,hcr⟩:=hR.at_ (show j<(os.map (·.sig)).length by rw [List.length_map];omega)
  have hL':=hL;have hR':=hR
  rw [hLA] at hL';rw [hRA] at hR'
  have:InS w bl ol encI 1 (zAK l l.bms.length):=⟨hL'⟩
  have:InS w br orr encI 1 (os.map (·.sig)):=⟨hR'⟩
  have:zAT (zAK l l.bms.length) j (zAY l j):=⟨by unfold zAK;rw [List.getElem?_map,List.getElem?_range (by omega)];rfl⟩
  rw [hLA,hRA]
  generalize zAY l j=le at *
  generalize zCi (krd l x.r) (j+1) (os.drop (j+1))=en at *
  have:zAT (zF9 (krd l x.r) os (j+1)) j 0:=⟨s3⟩
  rw [show ((j+1:Nat):Int) - 1=(j:Int) by omega]
  rcases hgo with ⟨g1,g2,g3⟩ | ⟨I,s,g1,g2,g3,g4⟩
  ·have em:min en o.hi=en:=by omega
   rw [em] at s1 s2
   have:zAT (os.map (·.sig)) j (-1):=⟨by rw [List.getElem?_map,ho1,← g1];rfl⟩
   (repeat' (first|((with_reducible refine zG ?_);first|refine zD rfl rfl rfl ?_|refine zC rfl rfl rfl ?_|(refine zJ rfl rfl rfl ?_;refine ⟨_,rfl,?_⟩)|refine zL rfl rfl rfl ?_|(refine zS rfl rfl rfl rfl rfl (fun h=>?_) (fun h=>?_)<;>(dsimp only [cmpP] at h;(try (exfalso;omega))))|refine zDY (enc:=encI) (i:=j) (j:=0) (z:=0) en rfl rfl rfl rfl rfl rfl rfl rfl (by omega) ?_|refine zAc rfl rfl rfl rfl (IntWalk.i64_in _ (by omega)) ?_|refine zo rfl rfl rfl rfl rfl (by omega) ?_)|(with_reducible first|refine zI ?_|refine zB ?_|refine zE ?_|refine zA ?_|refine zR ?_|refine zQ ?_|refine zj ?_)|((with_reducible refine zH ?_ ?_);(· exact rfl))|((with_reducible refine zF ?_ ?_);(· exact rfl))))
   exact zd (ι:=Nat) j (by omega) (by omega) (by simp only [s2];(repeat first|exact lK1|refine zT rfl ?_)) (by rw [← s1];(repeat constructor))
  ·have hw:=zEc l s
   have hI:=(List.getElem?_eq_some_iff.1 g1).1
   obtain ⟨bt,ot,hTA,hbt,hct⟩:=hT.at_ (show I<(zBX l x.r x.r.sigs.length).length by rw [zEg (Nat.le_refl _)];omega)
   have hT':=hT
   rw [hTA] at hT'
   have:InS w bt ot zAr 2 (zBX l x.r x.r.sigs.length):=⟨hT'⟩
   have:zAT (zBX l x.r x.r.sigs.length) I (zAm l s):=⟨by unfold zBX;rw [List.take_length,List.getElem?_map,g1];rfl⟩
   rw [hTA]
   rw [g4] at s1 s2
   have:zAT (os.map (·.sig)) j (I:Int):=⟨by rw [List.getElem?_map,ho1,← g2];rfl⟩
   generalize zAm l s=ws at *
   (repeat' (first|((with_reducible refine zG ?_);first|refine zD rfl rfl rfl ?_|(refine zJ rfl rfl rfl ?_;refine ⟨_,rfl,?_⟩)|(refine zS rfl rfl rfl rfl rfl (fun h=>?_) (fun h=>?_)<;>(dsimp only [cmpP] at h;(try (exfalso;omega))))|refine zo rfl rfl rfl rfl rfl (by omega) ?_)|(with_reducible first|refine zI ?_|refine zB ?_|refine zE ?_|refine zA ?_|refine zR ?_|refine zQ ?_)|((with_reducible refine zH ?_ ?_);(· exact rfl))))
   (refine zAD (by kernel_rfl) (by kernel_rfl) (by kernel_rfl) ?_)
   (repeat' (first|((with_reducible refine zAP ?_);first|refine zM (zl rfl rfl) rfl ?_|refine zM (zW rfl rfl (by exact rfl)) rfl ?_|refine zM (zY rfl rfl) rfl ?_|refine zM (zt rfl rfl) rfl ?_|refine zM (zw (I:=j) rfl rfl rfl (by omega) (by first|omega|(dsimp only;omega))) rfl ?_|refine zM (zw (I:=I) rfl rfl rfl (by omega) (by first|omega|(dsimp only;omega))) rfl ?_|refine zM (zGZ rfl rfl rfl) rfl ?_)|(with_reducible refine zAe ?_)))
   all_goals (repeat' (first|((with_reducible refine zG ?_);first|refine zD rfl rfl rfl ?_|refine zC rfl rfl rfl ?_|(refine zJ rfl rfl rfl ?_;refine ⟨_,rfl,?_⟩)|refine zL rfl rfl rfl ?_|refine zDY (enc:=encI) (i:=j) (j:=0) (z:=0) (min en ws.hi) rfl rfl rfl rfl rfl rfl rfl rfl (by omega) ?_|refine zAc rfl rfl rfl rfl (IntWalk.i64_in _ (by omega)) ?_|refine zo rfl rfl rfl rfl rfl (by omega) ?_)|(with_reducible first|refine zI ?_|refine zB ?_|refine zE ?_|refine zA ?_|refine zj ?_)))
   exact zd (ι:=Nat) j (by omega) (by omega) (by simp only [s2];(repeat first|exact lK1|refine zT rfl ?_)) (by rw [← s1];(repeat constructor))
end Go.Proofs.YtfiekidciiighaaGreat.Two
namespace Go.Proofs.YtfiekidciiighaaGreat
variable {ro : Option Nat}
open Go.RowKit
set_option maxRecDepth 20000
structure Sli where
 A:Option Addr
 xs:List Int
 c:Nat
instance : Inhabited Sli:=⟨⟨none,[],0⟩⟩
structure WyM where
 R:Sli
 F:Sli
 L:Sli
instance : Inhabited WyM:=⟨⟨default,default,default⟩⟩
def zA3 (x:WyM):List Value:=[.slice x.R.A x.R.xs.length x.R.c,.slice x.F.A x.F.xs.length x.F.c,.slice x.L.A x.L.xs.length x.L.c]
theorem one_wy (x:WyM):∀ v∈zA3 x,v.oneCell'=true:=by intro v hv;simp [zA3] at hv;rcases hv with rfl|rfl|rfl<;>rfl
instance : zCZ zA3 3:=⟨fun _=>rfl,one_wy⟩
def Ent.rows (l:List Sli):Ent:=⟨fun b=>∃ s∈l,∃ o,s.A=some ⟨b,o,none⟩,fun w=>∀ s∈l,zAC encI 1 w s.A s.xs,fun w w' hs h hp s hm=>(Ent.sl encI 1 s.A s.xs).loc w w' hs (fun b hb=>h b ⟨s,hm,hb⟩) (hp s hm)⟩
theorem Own.zCa {base:Nat} {w:World} {H:List Ent} (h:Own base w H):Own base w (.rows []::H) :=
 ⟨fun e he=>by
  rcases List.mem_cons.1 he with rfl|he
  ·intro s hs;cases hs
  ·exact h.here e he,fun e he b hb=>by
  rcases List.mem_cons.1 he with rfl|he
  ·obtain ⟨s,hs,_⟩:=hb;cases hs
  ·exact h.foot e he b hb,List.pairwise_cons.2 ⟨(fun f _ b hb=>by obtain ⟨s,hs,_⟩:=hb;cases hs),h.apart⟩⟩
theorem Own.zEk {base:Nat} {w:World} {H:List Ent} {A:Option Addr} {xs:List Int} (c:Nat) {l:List Sli} (h:Own base w (.sl encI 1 A xs :: .rows l::H)):Own base w (.rows (⟨A,xs,c⟩::l)::H):=by
 obtain ⟨a1,a2⟩:=List.pairwise_cons.1 h.apart
 obtain ⟨a3,a4⟩:=List.pairwise_cons.1 a2
 refine ⟨fun e he=>?_,fun e he b hb=>?_,List.pairwise_cons.2 ⟨fun f hf b hb hb'=>?_,a4⟩⟩
 ·rcases List.mem_cons.1 he with rfl|he
  ·intro s hs
   rcases List.mem_cons.1 hs with rfl|hs
   ·exact h.here (.sl encI 1 A xs) (by simp)
   ·exact (h.here (.rows l) (by simp):∀ s∈l,zAC encI 1 w s.A s.xs) s hs
  ·exact h.here e (by simp [he])
 ·rcases List.mem_cons.1 he with rfl|he
  ·obtain ⟨s,hs,hb⟩:=hb
   rcases List.mem_cons.1 hs with rfl|hs
   ·exact h.foot (.sl encI 1 A xs) (by simp) b hb
   ·exact h.foot (.rows l) (by simp) b ⟨s,hs,hb⟩
  ·exact h.foot e (by simp [he]) b hb
 ·obtain ⟨s,hs,hb⟩:=hb
  rcases List.mem_cons.1 hs with rfl|hs
  ·exact a1 f (by simp [hf]) b hb hb'
  ·exact a3 f hf b ⟨s,hs,hb⟩ hb'
theorem Own.rows_app {base:Nat} {w:World} {H:List Ent} {a l:List Sli} (h:Own base w (.rows a :: .rows l::H)):Own base w (.rows (a++l)::H):=by
 obtain ⟨a1,a2⟩:=List.pairwise_cons.1 h.apart
 obtain ⟨a3,a4⟩:=List.pairwise_cons.1 a2
 refine ⟨fun e he=>?_,fun e he b hb=>?_,List.pairwise_cons.2 ⟨fun f hf b hb hb'=>?_,a4⟩⟩
 ·rcases List.mem_cons.1 he with rfl|he
  ·intro s hs
   rcases List.mem_append.1 hs with hs|hs
   ·exact (h.here (.rows a) (by simp):∀ s∈a,zAC encI 1 w s.A s.xs) s hs
   ·exact (h.here (.rows l) (by simp):∀ s∈l,zAC encI 1 w s.A s.xs) s hs
  ·exact h.here e (by simp [he])
 ·rcases List.mem_cons.1 he with rfl|he
  ·obtain ⟨s,hs,hb⟩:=hb
   rcases List.mem_append.1 hs with hs|hs
   ·exact h.foot (.rows a) (by simp) b ⟨s,hs,hb⟩
   ·exact h.foot (.rows l) (by simp) b ⟨s,hs,hb⟩
  ·exact h.foot e (by simp [he]) b hb
 ·obtain ⟨s,hs,hb⟩:=hb
  rcases List.mem_append.1 hs with hs|hs
  ·exact a1 f (by simp [hf]) b ⟨s,hs,hb⟩ hb'
  ·exact a3 f hf b ⟨s,hs,hb⟩ hb'
def zAQ (k:RdK) (os:List Opn):List Int:=(List.range os.length).map (zAv k os)
theorem zDH {k:RdK} {os:List Opn}:(zAQ k os).length=os.length:=by simp [zAQ]
theorem zKs {k:RdK} {pre:List Opn} {o:Opn} {b:Nat} (h:b<pre.length):zAv k (pre++[o]) b=zAv k pre b:=by
 unfold zAv;rw [List.take_append_of_le_length (by omega)]
theorem zKt {k:RdK} {pre:List Opn} {o:Opn}:zAv k (pre++[o]) pre.length=zAi k pre.length (zA2 k 0 k.start pre) o:=by
 unfold zAv
 rw [List.take_of_length_le (by simp),zB4,Nat.zero_add];rfl
theorem zJv {k:RdK} {pre:List Opn} {o:Opn}:zAQ k (pre++[o])=zAQ k pre++[zAi k pre.length (zA2 k 0 k.start pre) o]:=by
 unfold zAQ
 rw [List.length_append,List.length_singleton,List.range_succ,List.map_append,List.map_singleton,zKt]
 congr 1
 exact List.map_congr_left fun b hb=>zKs (List.mem_range.1 hb)
theorem zIw {k:RdK} {pre:List Opn} (h:0<pre.length):(zAQ k pre)[pre.length - 1]?=some (zA2 k 0 k.start pre):=by
 unfold zAQ
 rw [List.getElem?_map,List.getElem?_range (by omega)]
 simp only [Option.map_some,zAv]
 rw [List.take_of_length_le (by omega)]
def WayIs (k:RdK) (x:WyM) (os:List Opn):Prop:=x.R.xs=os.map (·.sig)∧x.F.xs=zAQ k os∧x.L.xs=zAz k 0 os
inductive zBS (k:RdK):List WyM→List (List Opn)→Prop
 | nil:zBS k [] []
 | cons {x:WyM} {os:List Opn} {xs:List WyM} {oss:List (List Opn)} (h:WayIs k x os) (t:zBS k xs oss):zBS k (x::xs) (os::oss)
theorem zBS.len {k:RdK} {xs:List WyM} {oss:List (List Opn)} (h:zBS k xs oss):xs.length=oss.length:=by
 induction h with
 | nil=>rfl
 | cons _ _ ih=>simp [ih]
theorem zBS.app {k:RdK} {xs ys:List WyM} {oss pss:List (List Opn)} (h:zBS k xs oss) (h':zBS k ys pss):zBS k (xs++ys) (oss++pss):=by
 induction h with
 | nil=>exact h'
 | cons h1 _ ih=>exact .cons h1 ih
theorem zBS.at_ {k:RdK} {xs:List WyM} {oss:List (List Opn)} (h:zBS k xs oss):∀ {i:Nat} {x:WyM},xs[i]?=some x→∃ os,oss[i]?=some os∧WayIs k x os:=by
 induction h with
 | nil=>intro i x hx;simp at hx
 | cons h1 _ ih =>
  intro i x hx
  cases i with
  | zero=>simp only [List.getElem?_cons_zero,Option.some.injEq] at hx;subst hx;exact ⟨_,rfl,h1⟩
  | succ i=>simp only [List.getElem?_cons_succ] at hx ⊢;exact ih hx
theorem zIE {k:RdK}:∀ (os:List Opn) (c b:Nat),(zAz k c os)[b]?=os[b]?.map fun o=>min (zCi k (c+b+1) (os.drop (b+1))) o.hi
 | [],c,b=>by simp [zAz]
 | o::os,c,0=>by simp [zAz]
 | o::os,c,b+1=>by
  simp only [zAz,List.getElem?_cons_succ,List.drop_succ_cons]
  rw [zIE os (c+1) b,show c+1+b+1=c+(b+1)+1 by omega]
theorem zIv {k:RdK} {os:List Opn} {b:Nat} (h:b<os.length):(zAz k 0 os)[b]?=some (zBe k os b):=by
 rw [zIE,Nat.zero_add]
 unfold zBe
 rw [List.getElem?_eq_getElem h];rfl
theorem zKr {k:RdK} {os:List Opn} {b:Nat} (h:b<os.length):(zAQ k os)[b]?=some (zAv k os b):=by
 unfold zAQ;rw [List.getElem?_map,List.getElem?_range h];rfl
end Go.Proofs.YtfiekidciiighaaGreat
namespace Go.Proofs.YtfiekidciiighaaGreat.Two
theorem zI6 {k:RdK} {f:Nat} {pre:List Opn} {x:Int} (h:k.misses<(zBH pre).missed):zCJ k f pre x=[]:=by unfold zCJ;rw [if_pos h]
theorem zGv {k:RdK} {f:Nat} {pre:List Opn} {x:Int} (h:¬ k.misses<(zBH pre).missed) (hl:pre.length=k.m):zCJ k f pre x=if k.nsig - (zBH pre).right≤k.fakes then [pre] else []:=by
 unfold zCJ;rw [if_neg h,if_pos hl,List.append_nil]
theorem zGw {k:RdK} {f:Nat} {pre:List Opn} {x:Int} (h:¬ k.misses<(zBH pre).missed) (hl:pre.length≠k.m):zCJ k (f+1) pre x=(if k.nsig - (zBH pre).right≤k.fakes then [pre] else [])++(k.opts pre.length).flatMap fun o=>if zAi k pre.length x o≤min o.hi k.now then zCJ k f (pre++[o]) (zAi k pre.length x o) else []:=by
 rw [zCJ,if_neg h,if_neg hl]
def zBs (l:LnM) (r:Rid) (b i:Nat):List Opn:=match i with | 0=>[]|i+1=>⟨-1,r.start,r.now⟩::(r.sigs.take i).zipIdx.filterMap (sigO (clkI l b).c b)
theorem zHK (l:LnM) (r:Rid) (b:Nat):zBs l r b (r.sigs.length+1)=(krd l r).opts b:=by
 unfold zBs krd zJT;simp only [List.take_length]
theorem zKc (l:LnM) (r:Rid) (b:Nat):zBs l r b 1=[⟨-1,r.start,r.now⟩]:=by simp [zBs]
theorem zLl {l:LnM} {b i:Nat} {s:Sgn}:sigO (clkI l b).c b (s,i)=if s.beam=(b:Int)∧(zAm l s).lo≤(zAm l s).hi then some ⟨i,(zAm l s).lo,(zAm l s).hi⟩ else none:=by
 unfold sigO zAm
 by_cases h:s.beam=(b:Int)
 ·rw [h,Int.toNat_natCast]
 ·rw [if_neg (fun h9=>h h9.1),if_neg (fun h9=>h h9.1)]
theorem zJc {l:LnM} {r:Rid} {b j:Nat} {s:Sgn} (h:r.sigs[j]?=some s):zBs l r b (j+2)=zBs l r b (j+1)++(if s.beam=(b:Int)∧(zAm l s).lo≤(zAm l s).hi then [⟨j,(zAm l s).lo,(zAm l s).hi⟩] else []):=by
 have hj:=(List.getElem?_eq_some_iff.1 h).1
 have e:(r.sigs.take j).length=j:=by rw [List.length_take];omega
 simp only [zBs]
 rw [List.take_add_one,h,List.zipIdx_append,List.filterMap_append,e,List.cons_append]
 congr 2
 simp only [Option.toList_some,List.zipIdx_cons,List.zipIdx_nil,Nat.zero_add,List.filterMap_cons,List.filterMap_nil,zLl]
 split<;>rename_i h2<;>split at h2<;>simp_all
def zDP (r:Rid) (b:Nat):Nat:=r.sigs.countP fun s=>decide ((b:Int)≤s.beam)
def atB (r:Rid) (b:Nat):Nat:=r.sigs.countP fun s=>decide (s.beam=(b:Int))
theorem zJs (r:Rid) (b:Nat):zDP r b=atB r b+zDP r (b+1):=by
 unfold zDP atB
 induction r.sigs with
 | nil=>rfl
 | cons s l ih =>
  simp only [List.countP_cons,ih,decide_eq_true_eq]
  split<;>split<;>split<;>omega
theorem zHS (r:Rid) (b:Nat):zDP r b≤r.sigs.length:=List.countP_le_length
theorem zHr {α β:Type} (f:α→Option β) (p:α→Bool) (h:∀ a b,f a=some b→p a=true) (l:List α):(l.filterMap f).length≤l.countP p:=by
 induction l with
 | nil=>exact Nat.le_refl _
 | cons a l ih =>
  rw [List.filterMap_cons,List.countP_cons]
  cases hf:f a with
  | none=>simp only;omega
  | some b=>simp only [List.length_cons,h a b hf,if_true];omega
theorem zFJ {α:Type} (p:α→Bool):∀ (l:List α) (i:Nat),(l.zipIdx i).countP (fun a=>p a.1)=l.countP p
 | [],_=>rfl
 | a::l,i=>by rw [List.zipIdx_cons,List.countP_cons,List.countP_cons,zFJ p l]
theorem zHJ (l:LnM) (r:Rid) (b i:Nat):(zBs l r b i).length≤atB r b+1:=by
 cases i with
 | zero=>simp [zBs]
 | succ i =>
  simp only [zBs,List.length_cons]
  have h1:=zHr (sigO (clkI l b).c b) (fun a:Sgn × Nat=>decide (a.1.beam=(b:Int))) (fun a o h=>by have:=(zHx.1 h).1;simpa using this) ((r.sigs.take i).zipIdx)
  have h2:=zFJ (fun s:Sgn=>decide (s.beam=(b:Int))) (r.sigs.take i) 0
  have h3:(r.sigs.take i).countP (fun s=>decide (s.beam=(b:Int)))≤atB r b:=(List.take_sublist i r.sigs).countP_le
  omega
theorem zEq {α β:Type} {F:α→List β} {m:Nat}:∀ (l:List α),(∀ a∈l,(F a).length≤m)→(l.flatMap F).length≤l.length * m
 | [],_=>by simp
 | a::l,h=>by
  rw [List.flatMap_cons,List.length_append,List.length_cons,Nat.succ_mul]
  have h1:=h a (by simp)
  have h2:=zEq l fun x hx=>h x (by simp [hx])
  omega
theorem pow_ge (n:Nat):n+1≤2 ^ n:=by
 induction n with
 | zero=>decide
 | succ n ih=>rw [Nat.pow_succ];omega
theorem zFy (l:LnM) (r:Rid):∀ (f:Nat) (pre:List Opn) (x:Int),pre.length+f=l.bms.length→(zCJ (krd l r) f pre x).length≤(f+1) * 2 ^ zDP r pre.length:=by
 intro f
 induction f with
 | zero =>
  intro pre x h
  have hp:=Nat.one_le_two_pow (n:=zDP r pre.length)
  unfold zCJ
  split
  ·simp
  ·split
   ·split<;>simp<;>omega
   ·split<;>simp<;>omega
 | succ f ih =>
  intro pre x h
  have hp:=Nat.one_le_two_pow (n:=zDP r pre.length)
  by_cases h0:(krd l r).misses<(zBH pre).missed
  ·rw [zI6 h0];simp
  have hz:pre.length≠(krd l r).m:=by show pre.length≠l.bms.length;omega
  rw [zGw h0 hz,List.length_append]
  have h1:(if (krd l r).nsig - (zBH pre).right≤(krd l r).fakes then [pre] else []).length≤1:=by split<;>simp
  have h2:=zEq (F:=fun o=>if zAi (krd l r) pre.length x o≤min o.hi (krd l r).now then zCJ (krd l r) f (pre++[o]) (zAi (krd l r) pre.length x o) else []) (m:=(f+1) * 2 ^ zDP r (pre.length+1)) ((krd l r).opts pre.length) (fun o _=>by
   split
   ·have:=ih (pre++[o]) (zAi (krd l r) pre.length x o) (by rw [List.length_append,List.length_singleton];omega)
    rwa [List.length_append,List.length_singleton] at this
   ·simp)
  have h3:=zHJ l r pre.length (r.sigs.length+1)
  rw [zHK] at h3
  have h4:=pow_ge (atB r pre.length)
  have h5:((krd l r).opts pre.length).length * ((f+1) * 2 ^ zDP r (pre.length+1))≤(f+1) * 2 ^ zDP r pre.length:=by
   rw [zJs r pre.length,Nat.pow_add]
   calc ((krd l r).opts pre.length).length * ((f+1) * 2 ^ zDP r (pre.length+1))≤2 ^ atB r pre.length * ((f+1) * 2 ^ zDP r (pre.length+1)):=Nat.mul_le_mul_right _ (by omega)
    _=(f+1) * (2 ^ atB r pre.length * 2 ^ zDP r (pre.length+1)):=by rw [Nat.mul_left_comm]
  rw [Nat.succ_mul (f+1)]
  omega
end Go.Proofs.YtfiekidciiighaaGreat.Two
namespace Go.Proofs.YtfiekidciiighaaGreat.Two
def zAt (l:LnM) (r:Rid):Int:=if zCd l=0 then (if zCC l.bms.length r=true then (if zBb (krd l r)=[] then 8 else 0) else 51) else zCd l
def zI7 (l:LnM) (r:Rid):List (List Opn):=if zAt l r=0 then zBb (krd l r) else []
def zFg (l:LnM) (r:Rid):List Int:=if zAt l r=0 then (zAs (krd l r)).map (fun n:Nat=>(n:Int)) else []
theorem zGC {l:LnM} {r:Rid} (h:zCd l≠0):zAt l r=zCd l:=by unfold zAt;rw [if_neg h]
theorem zE8 {l:LnM} {r:Rid} (h:zCd l=0) (h1:zCC l.bms.length r=false):zAt l r=51:=by
 unfold zAt;rw [if_pos h,if_neg (by rw [h1];simp)]
theorem zIM {l:LnM} {r:Rid} (h:zCd l=0) (h1:zCC l.bms.length r=true):zAt l r=if zBb (krd l r)=[] then 8 else 0:=by
 unfold zAt;rw [if_pos h,if_pos h1]
theorem zGD {l:LnM} {r:Rid}:zAt l r=0↔zCd l=0∧zCC l.bms.length r=true∧zBb (krd l r)≠[]:=by
 unfold zAt
 split
 ·next h =>
  split
  ·next h1 =>
   split
   ·next h2=>simp [h2]
   ·next h2=>simp [h,h1,h2]
  ·next h1=>simp [h1]
 ·next h=>simp [h]
theorem zIY {l:LnM} {r:Rid} (h:zAt l r=0):zI7 l r=zBb (krd l r):=by unfold zI7;rw [if_pos h]
theorem zGx {l:LnM} {r:Rid} (h:zAt l r≠0):zI7 l r=[]:=by unfold zI7;rw [if_neg h]
theorem zGn {l:LnM} {r:Rid} (h:zAt l r=0):zFg l r=(zAs (krd l r)).map (fun n:Nat=>(n:Int)):=by unfold zFg;rw [if_pos h]
theorem zJf {l:LnM} {r:Rid} (h:zAt l r≠0):zFg l r=[]:=by unfold zFg;rw [if_neg h]
def zCE (os:List (List Opn)) (n:Nat):List Int:=((List.range n).filter fun i=>os.any fun x=>x.length == i).map fun n:Nat=>(n:Int)
theorem zGW {os:List (List Opn)} {n:Nat}:zCE os (n+1)=zCE os n++(if (os.any fun x=>x.length == n)=true then [(n:Int)] else []):=by
 unfold zCE
 rw [List.range_succ,List.filter_append,List.map_append]
 congr 1
 by_cases h:(os.any fun x=>x.length == n)=true<;>simp [List.filter_cons,h]
theorem zKg {l:LnM} {r:Rid}:zCE (zBb (krd l r)) (l.bms.length+1)=(zAs (krd l r)).map fun n:Nat=>(n:Int):=rfl
theorem zHL {os:List (List Opn)} {n:Nat}:(zCE os n).length≤n:=by
 unfold zCE
 rw [List.length_map]
 exact Nat.le_trans (List.length_filter_le _ _) (by simp)
theorem zIr {k:RdK} (h:zBb k≠[]):zAs k≠[]:=by
 obtain ⟨os,hos⟩:=List.exists_mem_of_ne_nil _ h
 have:=zDU.1 hos
 exact List.ne_nil_of_mem (zIB.2 ⟨this.1,os,rfl,this⟩)
theorem zEo (k:RdK):(zAs k).Pairwise (· < ·):=List.Pairwise.sublist List.filter_sublist List.pairwise_lt_range
def zGH (l:List Nat) (fin:Nat):Int:=if l.all (fun n=>decide (fin<n)) then 2 else if l.all (fun n=>decide (n≤fin)) then 0 else 1
def zBt (l:LnM) (r:Rid):Int:=if zAt l r=0 then zGH (zAs (krd l r)) l.finish.toNat else 0
theorem zGb {l:List Nat} {fin:Nat} (hs:l.Pairwise (· < ·)) (h:l≠[]):zGH l fin=if fin<l.head h then 2 else if l.getLast h≤fin then 0 else 1:=by
 have h1:(l.all fun n=>decide (fin<n))=decide (fin<l.head h):=by
  cases l with
  | nil=>exact absurd rfl h
  | cons a t =>
   rw [List.pairwise_cons] at hs
   simp only [List.head_cons]
   rw [Bool.eq_iff_iff]
   refine ⟨fun h=>List.all_eq_true.1 h a List.mem_cons_self,fun h=>List.all_eq_true.2 fun x hx=>?_⟩
   rcases List.mem_cons.1 hx with rfl|hx
   ·exact h
   ·exact decide_eq_true (Nat.lt_trans (of_decide_eq_true h) (hs.1 x hx))
 have h2:(l.all fun n=>decide (n≤fin))=decide (l.getLast h≤fin):=by
  rw [Bool.eq_iff_iff]
  simp only [decide_eq_true_eq,List.all_eq_true]
  refine ⟨fun h9=>h9 _ (List.getLast_mem h),fun h9 x hx=>?_⟩
  obtain ⟨i,hi,rfl⟩:=List.getElem_of_mem hx
  rw [List.getLast_eq_getElem] at h9
  rcases Nat.lt_or_ge i (l.length - 1) with hlt|hge
  ·have:=List.pairwise_iff_getElem.1 hs i (l.length - 1) hi (by omega) hlt;omega
  ·have:i=l.length - 1:=by omega
   subst this;exact h9
 unfold zGH
 rw [h1,h2]
 simp only [decide_eq_true_eq]
def zDE (k:RdK) (b:Nat) (os:List (List Opn)):Option (Int × Int):=(os.filter fun os=>decide (b<os.length)).foldl (fun s os=>match s with
  | none=>some (zAv k os b,zBe k os b)
  | some p=>some (min (zAv k os b) p.1,max (zBe k os b) p.2)) none
theorem zLi {k:RdK} {b:Nat}:zDE k b (zBb k)=zCG k b:=rfl
theorem spanT_no {k:RdK} {b:Nat} {os:List (List Opn)} {x:List Opn} (h:¬ b<x.length):zDE k b (os++[x])=zDE k b os:=by
 unfold zDE
 rw [List.filter_append,List.filter_cons_of_neg (by simpa using h),List.filter_nil,List.append_nil]
theorem zLh {k:RdK} {b:Nat} {os:List (List Opn)} {x:List Opn} (h:b<x.length):zDE k b (os++[x])=addS (zDE k b os) (zAv k x b) (zBe k x b):=by
 unfold zDE
 rw [List.filter_append,List.filter_cons_of_pos (by simpa using h),List.filter_nil,List.foldl_append]
 rfl
def zFe (s:Option (Int × Int)):Sp × Int:=match s with|some p=>(⟨p.1,p.2⟩,0)|none=>(⟨0,0⟩,6)
def ranV (s:Option (Int × Int)) (st:Int):Sp × Int:=match s with|some p=>(⟨p.1 - st,p.2 - st⟩,0)|none=>(⟨0,0⟩,6)
def zDR (l:LnM) (r:Rid):Sp × Int:=if zAt l r=0 then ranV (zCG (krd l r) l.finish.toNat) r.start else (⟨0,0⟩,zAt l r)
def zCI (l:LnM) (r:Rid) (most:Int):Nat:=wentW (krd l r) l.finish.toNat most
end Go.Proofs.YtfiekidciiighaaGreat.Two
namespace Go.Proofs.YtfiekidciiighaaGreat.Two
variable {ro : Option Nat}
open Go.RowKit
set_option maxRecDepth 20000
structure Na where
 id:Int
 wish:Int
 sleds:Int
instance : Inhabited Na:=⟨⟨0,0,0⟩⟩
structure Gn where
 nation:Int
 after:Int
instance : Inhabited Gn:=⟨⟨0,0⟩⟩
structure AtM where
 id:Int
 nation:Int
 age:Int
 A:Option Addr
 rides:List RdM
 c:Nat
instance : Inhabited RdM:=⟨⟨default,none,0⟩⟩
instance : Inhabited AtM:=⟨⟨0,0,0,none,[],0⟩⟩
structure Pm where
 age:Int
 runs:Int
 time:Int
instance : Inhabited Pm:=⟨⟨0,0,0⟩⟩
def zEs (x:Na):List Value:=[.int .i64 x.id,.int .i64 x.wish,.int .i64 x.sleds]
def zEt (x:Gn):List Value:=[.int .i64 x.nation,.int .i64 x.after]
def zB1 (x:AtM):List Value:=[.int .i64 x.id,.int .i64 x.nation,.int .i64 x.age,.slice x.A x.rides.length x.c]
def zIO (x:Pm):List Value:=[.int .i64 x.age,.int .i64 x.runs,.int .i64 x.time]
theorem one_na (x:Na):∀ v∈zEs x,v.oneCell'=true:=by intro v hv;simp [zEs] at hv;rcases hv with rfl|rfl|rfl<;>rfl
theorem one_gn (x:Gn):∀ v∈zEt x,v.oneCell'=true:=by intro v hv;simp [zEt] at hv;rcases hv with rfl|rfl<;>rfl
theorem one_at (x:AtM):∀ v∈zB1 x,v.oneCell'=true:=by intro v hv;simp [zB1] at hv;rcases hv with rfl|rfl|rfl|rfl<;>rfl
theorem one_rd (x:RdM):∀ v∈zAN x,v.oneCell'=true:=by intro v hv;simp [zAN] at hv;rcases hv with rfl|rfl|rfl<;>rfl
instance : zCZ zEs 3:=⟨fun _=>rfl,one_na⟩
instance : zCZ zEt 2:=⟨fun _=>rfl,one_gn⟩
instance : zCZ zB1 4:=⟨fun _=>rfl,one_at⟩
instance : zCZ zAN 3:=⟨fun _=>rfl,one_rd⟩
structure TrM where
 l:LnM
 nas:List Na
 NA:Option Addr
 nc:Nat
 gns:List Gn
 GA:Option Addr
 gc:Nat
 total:Int
 gap:Int
 down:Int
 every:Int
 seats:Int
 pace:Int
 ats:List AtM
 AA:Option Addr
 ac:Nat
 p1:Pm
 p2:Pm
 p3:Pm
def zg (t:TrM):List Value:=[.slice t.l.TA t.l.t.length t.l.tc,.int .i64 t.l.fast,.slice t.l.CA t.l.cks.length t.l.cc,.slice t.l.BA t.l.bms.length t.l.bc,.int .i64 t.l.finish,.int .i64 t.l.fakes,.int .i64 t.l.misses,.slice t.NA t.nas.length t.nc,.slice t.GA t.gns.length t.gc,.int .i64 t.total,.int .i64 t.gap,.int .i64 t.down,.int .i64 t.every,.int .i64 t.seats,.int .i64 t.pace,.slice t.AA t.ats.length t.ac,.int .i64 t.p1.age,.int .i64 t.p1.runs,.int .i64 t.p1.time,.int .i64 t.p2.age,.int .i64 t.p2.runs,.int .i64 t.p2.time,.int .i64 t.p3.age,.int .i64 t.p3.runs,.int .i64 t.p3.time]
def vTn (t:TrM):Value:=.agg (zg t).toArray
structure zCj (w:World) (t:TrM):Prop where
 l:zCY w t.l
 n:zAC zEs 3 w t.NA t.nas
 g:zAC zEt 2 w t.GA t.gns
 a:zAC zB1 4 w t.AA t.ats
 r:∀ x∈t.ats,zAC zAN 3 w x.A x.rides
 s:∀ x∈t.ats,∀ y∈x.rides,zAC zAw 2 w y.A y.r.sigs
theorem zCj.below {w W:World} {t:TrM} (h:zCj w t) (hb:Below w.heap.size w W):zCj W t:=⟨h.l.below hb,h.n.below hb,h.g.below hb,h.a.below hb,fun x hx=>(h.r x hx).below hb,fun x hx y hy=>(h.s x hx y hy).below hb⟩
structure zBR (t:TrM):Prop where
 l:zBA t.l
 n:t.nas.length≤10
 g:t.gns.length≤10
 a:t.ats.length≤10
 r:∀ x∈t.ats,x.rides.length≤5
 s:∀ x∈t.ats,∀ y∈x.rides,y.r.sigs.length≤15
def zCm (lo hi:Int):List Int→Bool
 | []=>true
 | x::l=>inB lo hi x && zCm (x+1) hi l
def tn1 (t:TrM):Bool:=inB 1 6 t.nas.length && decide (t.ats.length≤6) && inB 0 40 t.total && (inB 1 3600 t.gap && inB 1 3600 t.down && inB 1 3600 t.every) && inB 1 6 t.seats && inB 0 3600 t.pace
def naOk (x:Na):Bool:=inB 0 10 x.wish && inB 1 10 x.sleds
def gnOk (x:Gn):Bool:=inB 0 40 x.after
def pmOk (x:Pm):Bool:=inB 0 99 x.age && inB 0 10 x.runs && inB 1 86400000 x.time
def rdOk (t:TrM) (x:RdM):Bool:=decide (zAt t.l x.r=0)
def atOk (t:TrM) (x:AtM):Bool:=inB 0 ((t.nas.length:Int) - 1) x.nation && inB 0 99 x.age && decide (x.rides.length≤3) && x.rides.all (rdOk t)
def tnB (t:TrM):Bool:=tn1 t && (zCm 0 9999 (t.nas.map (·.id)) && (zCm 0 ((t.nas.length:Int) - 1) (t.gns.map (·.nation)) && (zCm 0 9999 (t.ats.map (·.id)) && (t.nas.all naOk && (t.gns.all gnOk && (pmOk t.p1 && (pmOk t.p2 && (pmOk t.p3 && t.ats.all (atOk t)))))))))
def zBu (t:TrM):Int:=if zCd t.l=0 then (if tnB t then 0 else 80) else zCd t.l
theorem tnB_iff {t:TrM}:tnB t=true↔tn1 t=true∧zCm 0 9999 (t.nas.map (·.id))=true∧zCm 0 ((t.nas.length:Int) - 1) (t.gns.map (·.nation))=true∧zCm 0 9999 (t.ats.map (·.id))=true∧t.nas.all naOk=true∧t.gns.all gnOk=true∧pmOk t.p1=true∧pmOk t.p2=true∧pmOk t.p3=true∧t.ats.all (atOk t)=true:=by
 unfold tnB;simp only [Bool.and_eq_true]
def zC0 (lo:Int) (l:List Int) (i:Nat):Int:=match i with | 0=>lo|i+1=>l.getD i 0+1
theorem zD5 : ∀ {lo hi:Int} {l:List Int},zCm lo hi l=true↔∀ i x,l[i]?=some x→inB (zC0 lo l i) hi x=true
 | lo,hi,[]=>by simp [zCm]
 | lo,hi,y::l=>by
  simp only [zCm,Bool.and_eq_true,zD5 (l:=l)]
  constructor
  ·rintro ⟨h1,h2⟩ i x hx
   cases i with
   | zero=>simp only [List.getElem?_cons_zero,Option.some.injEq] at hx;subst hx;exact h1
   | succ i =>
    simp only [List.getElem?_cons_succ] at hx
    have:=h2 i x hx
    cases i with
    | zero=>simpa [zC0] using this
    | succ i=>simpa [zC0] using this
  ·intro h
   refine ⟨h 0 y rfl,fun i x hx=>?_⟩
   have:=h (i+1) x (by simpa using hx)
   cases i with
   | zero=>simpa [zC0] using this
   | succ i=>simpa [zC0] using this
theorem zCq {lo:Int} {l:List Int} {i:Nat} {x:Int} (h:l[i]?=some x):zC0 lo l (i+1)=x+1:=by simp [zC0,List.getD_eq_getElem?_getD,h]
def pmOf (t:TrM) (c:Nat):Pm:=if c=0 then t.p1 else if c=1 then t.p2 else t.p3
def zBw (t:TrM) (x:AtM) (c:Nat):Int × Int:=((x.rides.countP fun y=>zCI t.l y.r (pmOf t c).time == 2:Nat),(x.rides.countP fun y=>zCI t.l y.r (pmOf t c).time != 0:Nat))
def zDS (t:TrM) (x:AtM) (c:Nat):Int:=if x.age<(pmOf t c).age∨(zBw t x c).2<(pmOf t c).runs then 0 else if (pmOf t c).runs≤(zBw t x c).1 then 2 else 1
def zBk (t:TrM) (athlete class_:Int):Int:=if zBu t=0 then (if inB 0 ((t.ats.length:Int) - 1) athlete && inB 1 3 class_ then 0 else 2) else zBu t
def zDb (t:TrM) (nation:Int) (c:Nat) (i:Nat):List Int:=((List.range i).filter fun k=>match t.ats[k]? with|some x=>decide (x.nation=nation) && decide (zDS t x c=2)|none=>false).map fun k:Nat=>(k:Int)
def zC2 (t:TrM) (nation class_:Int):Int:=if zBu t=0 then (if inB 0 ((t.nas.length:Int) - 1) nation && inB 1 3 class_ then 0 else 2) else zBu t
end Go.Proofs.YtfiekidciiighaaGreat.Two
