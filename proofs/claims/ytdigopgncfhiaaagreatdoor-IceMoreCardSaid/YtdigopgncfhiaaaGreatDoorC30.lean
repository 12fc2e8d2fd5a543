/- C30 -/
import Derived.Test.YtdigopgncfhiaaaGreatDoorC29
import Derived.Test.YtdigopgncfhiaaaGreatDoorC25
import Derived.Test.YtdigopgncfhiaaaGreatDoorC14
import Derived.Test.YtdigopgncfhiaaaGreatDoorC27
set_option linter.unusedSimpArgs false
set_option linter.unusedVariables false
namespace Go.Proofs.YtdigopgncfhiaaaGreatDoor
variable {ro : Option Nat}
open Go.RowKit
set_option maxRecDepth 100000
section
variable {P : Program} {w0:World} {n:Nat} {d:List Deferred} {R:List (Nat × Value)} {H:List Ent} {o:Oper}
theorem zMW {T1:TypeId} {ps:Array (Nat × Operand)} {s:Nat} {z cs:List Value} {qs:List (Nat × Value)} (hop:o.op = .build T1 ps) [i1:TyBA P T1 s z] (hp:evp R ps.toList=some qs) (hf:fillL (fun i=>some (i * s,s)) z qs=some cs):Ev P w0 n d R H o (.agg cs.toArray):=fun a w q=>by
 unfold execOp;rw [hop]
 have e1:(ps.map fun (i,x)=>(i,a.eval x)).toList=qs:=by rw [Array.toList_map];exact q.evp hp
 have e2:P.built T1 (ps.map fun (i,x)=>(i,a.eval x)).toList=some cs.toArray:=by
  rw [i1.bui,e1]
  exact fill_eq _ qs z cs hf
 simp only [Sem.run_bind,run_build w T1 _ _ e2,Result.andThen_ok,Sem.run_pure]
end
theorem zQf (k:Int) (w:World):Ret Tryz.prog 44 [.int .i64 k] w (fun z:Wit=>zAI (zAV k) (some ⟨z.g,0,none⟩) 3 z.A 3 (some ⟨z.m,0,none⟩) 3) (fun z=>[.sl zAt 9 (some ⟨z.g,0,none⟩) (zAV k).t,.sl zAJ 3 z.A (zAV k).beds,.sl zp 5 (some ⟨z.m,0,none⟩) (zAV k).hours]) (fun _=>True):=by
 (refine zM (n:=22) Tryz.func44 rfl rfl rfl ?_)
 (repeat' (first|((with_reducible refine zG ?_);first|refine zE rfl rfl rfl rfl rfl ?_|refine zS rfl rfl rfl rfl rfl rfl (fun _ _ q=>zB3 _ _ _) ?_|(refine zAG rfl rfl rfl rfl rfl rfl (fun _ _ q=>zOV _) ?_;rintro gr -;dsimp only [List.cons_append,List.nil_append])|(refine zf rfl rfl rfl rfl rfl ?_;refine And.intro rfl (And.intro (by first|decide|exact Nat.le_of_ble_eq_true rfl|(simp;omega)) ⟨_,rfl,?_⟩))|(refine zo rfl rfl rfl rfl (fun b=>?_))|(refine zBA rfl rfl rfl rfl rfl ?_;refine ⟨_,rfl,?_⟩)|(refine zz rfl rfl rfl rfl rfl ?_;refine ⟨rfl,_,rfl,fun b=>?_⟩))|(with_reducible first|refine zI ?_|refine zB ?_|refine zD ?_|refine zA ?_|refine zb ?_)))
 rename_i b2 bb
 exact zT (by (exact zO.cons (by exact res1c rfl (by exact rfl)) zO.nil)) ⟨gr,some ⟨bb,0,none⟩,b⟩ trivial rfl (fun _ h=>(Own.zFL (enc:=zAJ) (xs:=(zAV k).beds) (b:=bb) (Take.there _ (Take.there _ (Take.here _ _))) (Own.zFL (enc:=zp) (xs:=(zAV k).hours) (b:=b) (Take.there _ (Take.here _ _)) h)).sub (by (repeat (first|exact oK1 _|(refine oK2 (by (repeat (first|exact tK1 _ _|apply tK2))) ?_)))))
theorem zMG (w:World):Ret Tryz.prog 45 [] w (fun z:Wit=>.slice z.A 3 3) (fun z=>[.zEL z.g z.m z.A zEP]) (fun _=>True) :=
 (zIF w).conv fun z _=>⟨⟨z.1,z.2.2,z.2.1⟩,trivial,rfl,fun _ h=>h⟩
theorem zCy (k:Int):Small (zAV k):=⟨fun s hs=>by
 simp only [zAV,runE,List.mem_cons,List.not_mem_nil,or_false] at hs
 rcases hs with rfl|rfl|rfl<;>decide,by simp [zAV,runE],by simp [zAV],by simp [zAV]⟩
theorem evi_need : zDm (zAV 2)=([1,2,1],0):=by decide +kernel
theorem evi_plan : zAy (zAV 2)=(zEP,0):=by decide +kernel
theorem zR1 : zDB (zAV 2) (zm zEP) 1 2=(⟨294,328⟩,0):=by decide +kernel
theorem zG9 : zDI (zAV 2) (zm zEP)=⟨33000,34500⟩∧zCG (zAV 2) (zm zEP)=0∧zBR (zAV 2) (zm zEP)=2:=by decide +kernel
theorem evi_most : zH9 (zAV 2) (zm zEP) 2=(15,0):=by decide +kernel
theorem zOq : zDl (zAV 2) (zm [[],[],[]])=[(2,0),(2,1),(2,2)]∧zCG (zAV 2) (zm [[],[],[]])=0:=by decide +kernel
theorem zR2 : zF2 (zAV 1)=(2,[0,1],0):=by decide +kernel
theorem zR3 : (zCZ (zAV 2) 100 ⟨302,320⟩).2=0∧(zCZ (zAV 2) 100 ⟨302,320⟩).1.beds=[⟨⟨302,310⟩,1⟩,⟨⟨290,300⟩,2⟩,⟨⟨300,300⟩,0⟩]:=by decide +kernel
theorem zKP {g n:Nat} {base:Nat} {w:World} {H H':List Ent} (h:Own base w H) (ht:Take H (.blk g (List.replicate n (.slice none 0 0))) H'):∃ pl:List Sli,pl.map Sli.xs=(zm (List.replicate n [])).map Sli.xs∧zAu w (some ⟨g,0,none⟩) pl:=by
 refine ⟨List.replicate n ⟨none,[],0⟩,by simp [zm],?_,fun s hs=>?_⟩
 ·have h1:Blk w g (List.replicate n (.slice none 0 0)).toArray:=h.here _ ht.mem
  have e:(List.replicate n (⟨none,[],0⟩:Sli)).flatMap zAC=List.replicate n (.slice none 0 0):=by
   clear h ht h1
   induction n with
   | zero=>rfl
   | succ m ih=>rw [List.replicate_succ,List.flatMap_cons,ih];rfl
  rw [← e] at h1
  exact zFT (fun _=>rfl) h1
 ·obtain rfl:=List.eq_of_mem_replicate hs
  intro i x hx;cases hx
end Go.Proofs.YtdigopgncfhiaaaGreatDoor
namespace Go.Proofs.YtdigopgncfhiaaaGreatDoor.Two
variable {ro : Option Nat}
open Go.RowKit
set_option maxRecDepth 100000
section
variable {S : List (Nat × Nat)} {I:List (Nat × Nat × Nat × List Ent)} {P:Program} {w0:World} {n:Nat} {d:List Deferred} {R R0:List (Nat × Value)} {H H' H0:List Ent} {Q:Exit→Act→World→Prop} {ops:Array Oper} {bs:List (List Bool)} {b:List Bool} {k:Nat} {o:Oper} {rest:List Oper} {T:List Rw} {t:Tmp} {Hk:zBN→List Ent} {x y:Operand} {v:Value}
theorem c_ret {V:Wit→Value} {E:Wit→List Ent} {f:FuncId} {fx:Operand} {xs:Array Operand} {ts:Array TypeId} {vs:zBN→List Value} {cap:Array Value} (hop:o.op = .call ⟨.value fx,xs,ts⟩) (hw:∀ G,want (Rk R0 ops b o T G) ops o=some true) (hd:o.dst=some t) (hf:∀ G,evR (Rk R0 ops b o T G) fx=some (.func (.func f) #[] cap)) (hx:∀ G,evs (Rk R0 ops b o T G) xs.toList=some (vs G)) [ci:za P f]
  (hc:∀ G a w,Kn w0 n d (Rk R0 ops b o T G) (Hk G) a w→Ret P f (vs G++cap.toList) w V E (fun _=>True)) (h:zBm ro S I P w0 n d ops R0 H0 Q bs (k+1) rest (⟨k,some t,fun G=>(V (G k),E (G k))⟩::T)):CAt ro S I P w0 n d ops R0 H0 Q b bs k o rest T Hk:=by
 refine zGJ (f:=fun G=>(V (G k),E (G k))) (fun G G' hG=>by simp only [hG k (.inl rfl)]) (fun G a w q K hK=>?_) (by rw [hd];exact h)
 rw [zBr q (hw G),if_pos rfl]
 unfold Oper.wp execOp;rw [hop]
 have e1:xs.map a.eval=(vs G).toArray:=by apply Array.ext';simpa using q.evs (hx G)
 have e2:(vs G).toArray++cap=(vs G++cap.toList).toArray:=by apply Array.ext';simp
 simp only [resolve,q.ev (hf G),e1,Deferred.ofValue,Sem.run_bind,Sem.run_pure,Result.andThen_ok,invoke,Array.empty_append,e2,ci.ent,Oper.upon_enter]
 refine Calls.mono (hc G a w q).calls ?_
 rintro e w' ⟨z,hp,rfl,hb,hE⟩
 exact hK _ _ _ ⟨z,by simp [upW]⟩ hb hE
theorem zNV {T1 e:TypeId} {i:TypeInfo} {z v:Value} {n0 s:Nat} {g:Bool} (hop:o.op = .makeSlice T1 x y) [i1:TyI P T1 (.slice e) s g] (hi:P.info? e=some i) (hz:i.zero=some z) (h1:i.size=1) (hcz:z.cells=#[v]) (hb:Nat.ble (i.bytes * 1000) 281474976710656=true) (hw:∀ G,want (Rk R0 ops b o T G) ops o=some true) (hd:o.dst=some t) (hx:∀ G,evR (Rk R0 ops b o T G) x=some (.int .i64 (n0:Int))) (hy:∀ G,evR (Rk R0 ops b o T G) y=some (.int .i64 (n0:Int))) (hn:n0≤1000)
  (h:zBm ro S I P w0 n d ops R0 H0 Q bs (k+1) rest (⟨k,some t,fun G=>(.slice (some ⟨(G k).g,0,none⟩) n0 n0,[.blk (G k).g (List.replicate n0 v)])⟩::T)):CAt ro S I P w0 n d ops R0 H0 Q b bs k o rest T Hk:=by
 refine zGJ (f:=fun G=>(.slice (some ⟨(G k).g,0,none⟩) n0 n0,[.blk (G k).g (List.replicate n0 v)])) (fun G G' hG=>by simp only [hG k (.inl rfl)]) (fun G a w q K hK=>?_) (by rw [hd];exact h)
 rw [zBr q (hw G),if_pos rfl]
 have hb':(i.bytes:Int) * (n0:Int)≤281474976710656:=by
  have h9:=Nat.le_of_ble_eq_true hb
  have h8:i.bytes * n0≤i.bytes * 1000:=Nat.mul_le_mul_left _ hn
  have h7:((i.bytes * n0:Nat):Int)≤281474976710656:=by omega
  rwa [Int.natCast_mul] at h7
 have hr:=run_make (P:=P) w T1 e i z i1.und hi hz .i64 .i64 n0 n0 (by omega) (Int.le_refl _) hb' (by omega)
 simp only [Int.toNat_natCast,h1,Nat.mul_one,hcz] at hr
 unfold Oper.wp execOp;rw [hop]
 simp only [Sem.run_bind,q.ev (hx G),q.ev (hy G),hr,Result.andThen_ok,Sem.run_pure,Oper.upon_value]
 have e1:madeCells #[v] n0=(List.replicate n0 v).toArray:=by
  apply Array.ext'
  rw [toList_madeCells_one]
 rw [e1]
 exact hK _ _ _ ⟨⟨w.heap.size,none,0⟩,by simp only [upW,if_true]⟩ (zAQ w (.cells (List.replicate n0 v).toArray e)) (zJj w (List.replicate n0 v) e)
end
set_option maxHeartbeats 8000000 in
theorem zPu (w:World) (hG:InC w 0 0 zB7):Gv Tryz.prog 15 [] w (.bool true):=by
 have s2:=zCy 2
 have h1:=fun W A ca B cb C cc (hC:zAU W (zAV 2) A B C) (hG:InC W 0 0 zB7)=>zEY (zAV 2) A ca B cb C cc W hC s2 hG
 have h2:=fun W A ca B cb C cc (hC:zAU W (zAV 2) A B C) (hG:InC W 0 0 zB7)=>Ret.zEL (V:=fun v=>.tuple #[v,.int .i64 (zAy (zAV 2)).2]) (zEX (zAV 2) A ca B cb C cc W hC s2 hG)
 have h3:=fun W A ca B cb C cc P (hC:zAU W (zAV 2) A B C) hp=>zD5 (zAV 2) A ca B cb C cc zEP P 3 W hC s2 hp (by decide) (by decide) 1 2
 have h4:=fun W A ca B cb C cc P (hC:zAU W (zAV 2) A B C) hp=>zNF (zAV 2) A ca B cb C cc zEP P 3 W hC s2 hp (by decide) (by decide)
 have h5:=fun W A ca B cb C cc P (hC:zAU W (zAV 2) A B C) hp (hG:InC W 0 0 zB7)=>zFJ (zAV 2) A ca B cb C cc zEP P 3 W hC s2 hp (by decide) (by decide) hG
 have h6:=fun W A ca B cb C cc P (hC:zAU W (zAV 2) A B C) hp (hG:InC W 0 0 zB7)=>iMostP (zAV 2) A ca B cb C cc zEP P 3 W hC s2 hp (by decide) (by decide) 2 hG
 have h7:=fun W A ca B cb C cc P (hC:zAU W (zAV 2) A B C) hp (hG:InC W 0 0 zB7)=>zIy (zAV 2) A ca B cb C cc [[],[],[]] P 3 W hC s2 hp (by decide) (by decide) hG
 have h8:=fun W A ca B cb C cc (hC:zAU W (zAV 1) A B C) (hG:InC W 0 0 zB7)=>zKr (zAV 1) A ca B cb C cc W hC (zCy 1) hG
 have h9:=fun W A ca B cb C cc (hC:zAU W (zAV 2) A B C)=>Two.zF6 (zAV 2) A ca B cb C cc 100 ⟨302,320⟩ W hC s2
 rw [evi_need] at h1
 rw [evi_plan] at h2
 rw [zR1] at h3
 rw [zG9.1,zG9.2.1] at h4
 rw [zG9.2.2,zG9.2.1] at h5
 rw [evi_most] at h6
 rw [zOq.1,zOq.2] at h7
 rw [zR2] at h8
 obtain ⟨d1,d2⟩:=zR3
 generalize zCZ (zAV 2) 100 ⟨302,320⟩=dx at *
 unfold vSp at h3 h4 h9
 have d3:dx.1.beds.length=3:=by rw [d2];rfl
 simp only [d1,d2,d3,zAI,zH] at h9
 have h7w:∀ W A ca B cb C cc P,zAU W (zAV 2) A B C→_→InC W 0 0 zB7→Ret Tryz.prog 20 [zAI (zAV 2) A ca B cb C cc,.slice P 3 3] W (fun z:Wit=>.tuple #[.slice z.A 3 z.m,.int .i64 0]) (fun z=>[.sl zAX 2 z.A [(2,0),(2,1),(2,2)]]) (fun _=>True):=fun W A ca B cb C cc P hC hp hG=>(h7 W A ca B cb C cc P hC hp hG).conv fun p _=>⟨⟨0,p.1,p.2⟩,trivial,rfl,fun _ h=>h⟩
 have hcv:=zQf
 unfold zAI zH at h1 h2 h3 h4 h5 h6 h7w h8 hcv
 unfold Gv
 (refine zM (n:=166) Tryz.func15 rfl rfl rfl ?_)
 (repeat' (first|((with_reducible refine zG ?_);first|refine zE rfl rfl rfl rfl rfl ?_|refine zC rfl rfl rfl rfl rfl ?_|(refine zAG rfl rfl rfl rfl rfl rfl (fun _ _ q=>hcv _ _) ?_;rintro z -;dsimp only [List.cons_append,List.nil_append])|(refine zAG rfl rfl rfl rfl rfl rfl (fun _ _ q=>zMG _) ?_;rintro z -;dsimp only [List.cons_append,List.nil_append])|(refine zCE rfl rfl rfl rfl rfl rfl (fun _ _ q=>h1 _ _ _ _ _ _ _ ⟨(zAL q.own (Below.refl _ _)),(zAL q.own (Below.refl _ _)),(zAL q.own (Below.refl _ _))⟩ (hG.below q.below)) (fun N1 nc1=>?_))|(refine zAG rfl rfl rfl rfl rfl rfl (fun _ _ q=>h2 _ _ _ _ _ _ _ ⟨(zAL q.own (Below.refl _ _)),(zAL q.own (Below.refl _ _)),(zAL q.own (Below.refl _ _))⟩ (hG.below q.below)) ?_;rintro ⟨pg,pn,pA,pc⟩ -;dsimp only [List.cons_append,List.nil_append])|refine zS rfl rfl rfl rfl rfl rfl (fun _ _ q=>h3 _ _ _ _ _ _ _ _ ⟨(zAL q.own (Below.refl _ _)),(zAL q.own (Below.refl _ _)),(zAL q.own (Below.refl _ _))⟩ (zBJ q.own (by (repeat (first|exact tK1 _ _|apply tK2))))) ?_|refine zS rfl rfl rfl rfl rfl rfl (fun _ _ q=>h4 _ _ _ _ _ _ _ _ ⟨(zAL q.own (Below.refl _ _)),(zAL q.own (Below.refl _ _)),(zAL q.own (Below.refl _ _))⟩ (zBJ q.own (by (repeat (first|exact tK1 _ _|apply tK2))))) ?_|refine zS rfl rfl rfl rfl rfl rfl (fun _ _ q=>h5 _ _ _ _ _ _ _ _ ⟨(zAL q.own (Below.refl _ _)),(zAL q.own (Below.refl _ _)),(zAL q.own (Below.refl _ _))⟩ (zBJ q.own (by (repeat (first|exact tK1 _ _|apply tK2)))) (hG.below q.below)) ?_|refine zS rfl rfl rfl rfl rfl rfl (fun _ _ q=>h6 _ _ _ _ _ _ _ _ ⟨(zAL q.own (Below.refl _ _)),(zAL q.own (Below.refl _ _)),(zAL q.own (Below.refl _ _))⟩ (zBJ q.own (by (repeat (first|exact tK1 _ _|apply tK2)))) (hG.below q.below)) ?_|refine zg rfl rfl rfl rfl rfl rfl ?_|(refine zf rfl rfl rfl rfl rfl ?_;refine And.intro rfl (And.intro (by first|decide|exact Nat.le_of_ble_eq_true rfl|(simp;omega)) ⟨_,rfl,?_⟩))|(refine zo rfl rfl rfl rfl (fun b=>?_)))|(with_reducible first|refine zI ?_|refine zB ?_|refine zD ?_|refine zA ?_)))
 rename_i b5 y1 y2 y3 y4 y5
 obtain ⟨b7,hb7⟩:∃ x,x=b:=⟨_,rfl⟩
 subst hb7
 refine U.sub (R':=[(0,.bool false),(1,.slice N1 3 nc1),(2,.int .i64 0),(3,.slice pA 3 pc),(4,.int .i64 0),(5,.pointer (some ⟨b5,0,none⟩)),(6,.int .i64 0),(7,.pointer (some ⟨b7,0,none⟩)),(8,.int .i64 0),(9,.int .u8 2),(10,.int .i64 0),(11,.int .i64 15),(12,.int .i64 0)]) (H':=[.sl encI 1 N1 [1,2,1],.zEL pg pn pA zEP,.blk b5 [.int .i64 294,.int .i64 328],.blk b7 [.int .i64 33000,.int .i64 34500]]) (by (first|exact lK1|(repeat (first|exact lK1|(refine zL rfl ?_))))) (by (repeat (first|exact oK1 _|(refine oK2 (by (repeat (first|exact tK1 _ _|apply tK2))) ?_)))) ?_
 (refine zAd [] [] [] rfl (show ([]:List Nat).Nodup by decide) (fun _ h=>h) (by kernel_rfl) [[],[Y],[Z,Z],[Z,Z,Z],[Z,Z,Z,Z],[Y,Z,Z,Z,Z],[Y,Z,Z,Z,Z,Z],[Z,Z,Z,Z,Z,Z,Z]] (by kernel_rfl) (by kernel_rfl) (by kernel_rfl) (by kernel_rfl) (by kernel_rfl) ?_)
 (repeat' (first|(((with_reducible refine zCJ ?_ ?_);(· exact rfl);refine ⟨_,fun G=>(by (try simp (decide:=true) only [vis,see,fltT,zAD,Nat.reduceAdd,Nat.reduceSub,if_true,if_false,List.set_cons_zero,List.set_cons_succ,List.set_nil,List.nil_append,List.cons_append]);rfl),?_⟩);first|refine zX _ (fun _=>zAK rfl rfl) (fun _=>rfl) rfl (by first|exact fun _ _ _=>rfl|(intro G G' h;simp (decide:=true) only [h])) ?_|refine zX _ (fun _=>zBK rfl rfl) (fun _=>rfl) rfl (by first|exact fun _ _ _=>rfl|(intro G G' h;simp (decide:=true) only [h])) ?_|(refine c_ret rfl (fun _=>rfl) rfl (fun _=>rfl) (fun _=>rfl) (fun _ _ _ _=>hcv _ _) ?_)|(refine zNV (v:=.slice none 0 0) rfl rfl rfl rfl rfl rfl (fun _=>rfl) rfl (fun _=>rfl) (fun _=>rfl) (by decide) ?_)|(refine c_ret rfl (fun _=>rfl) rfl (fun _=>rfl) (fun _=>rfl) (fun _ _ _ q=>h7w _ _ _ _ _ _ _ _ ⟨(zAL q.own (Below.refl _ _)),(zAL q.own (Below.refl _ _)),(zAL q.own (Below.refl _ _))⟩ (zKP (n:=3) q.own (by (repeat (first|exact tK1 _ _|apply tK2)))) (hG.below q.below)) ?_)|refine zX _ (fun _=>zCR rfl rfl rfl) (fun _=>rfl) rfl (by first|exact fun _ _ _=>rfl|(intro G G' h;simp (decide:=true) only [h])) ?_)|(with_reducible refine zFr ?_)))
 (intro G;simp only [regsT,zAD,zBU,ini,List.nil_append,List.cons_append])
 (repeat' (first|((with_reducible refine zG ?_);first|refine zE rfl rfl rfl rfl rfl ?_|refine zC rfl rfl rfl rfl rfl ?_|(refine zAG rfl rfl rfl rfl rfl rfl (fun _ _ q=>hcv _ _) ?_;rintro z -;dsimp only [List.cons_append,List.nil_append])|refine zS rfl rfl rfl rfl rfl rfl (fun _ _ q=>zB3 _ _ _) ?_|(refine zCE rfl rfl rfl rfl rfl rfl (fun _ _ q=>h8 _ _ _ _ _ _ _ ⟨(zAL q.own (Below.refl _ _)),(zAL q.own (Below.refl _ _)),(zAL q.own (Below.refl _ _))⟩ (hG.below q.below)) (fun S1 sc1=>?_))|(refine zAG rfl rfl rfl rfl rfl rfl (fun _ _ q=>h9 _ _ _ _ _ _ _ ⟨(zAL q.own (Below.refl _ _)),(zAL q.own (Below.refl _ _)),(zAL q.own (Below.refl _ _))⟩) ?_;rintro ⟨⟨E1,ec1⟩,⟨F1,fc1⟩,⟨G1,gc1⟩⟩ -;dsimp only [List.cons_append,List.nil_append])|refine zg rfl rfl rfl rfl rfl rfl ?_|(refine zf rfl rfl rfl rfl rfl ?_;refine And.intro rfl (And.intro (by first|decide|exact Nat.le_of_ble_eq_true rfl|(simp;omega)) ⟨_,rfl,?_⟩))|(refine zo rfl rfl rfl rfl (fun b=>?_)))|(with_reducible first|refine zI ?_|refine zB ?_|refine zD ?_|refine zA ?_)))
 simp only [Nat.reduceAdd]
 generalize (G 2).A=T1
 generalize (G 2).m=tc1
 refine U.sub (R':=[(0,.bool false),(1,.slice N1 3 nc1),(2,.int .i64 0),(3,.slice pA 3 pc),(4,.int .i64 0),(5,.pointer (some ⟨b5,0,none⟩)),(6,.int .i64 0),(7,.pointer (some ⟨b7,0,none⟩)),(8,.int .i64 0),(9,.int .u8 2),(10,.int .i64 0),(11,.int .i64 15),(12,.int .i64 0),(13,.slice T1 3 tc1),(14,.int .i64 0),(15,.int .i64 2),(16,.slice S1 2 sc1),(17,.int .i64 0),(18,.pointer (some ⟨b,0,none⟩)),(19,.int .i64 0)]) (H':=[.blk b [.slice E1 dx.1.t.length ec1,.slice F1 3 fc1,.slice G1 dx.1.hours.length gc1,.int .i64 dx.1.wear.lo,.int .i64 dx.1.wear.hi,.int .i64 dx.1.layer.lo,.int .i64 dx.1.layer.hi,.int .i64 dx.1.rate,.int .i64 dx.1.limit,.int .i64 dx.1.base],.sl zAJ 3 F1 [⟨⟨302,310⟩,1⟩,⟨⟨290,300⟩,2⟩,⟨⟨300,300⟩,0⟩],.sl zAX 2 T1 [(2,0),(2,1),(2,2)],.sl encI 1 S1 [0,1],.sl encI 1 N1 [1,2,1],.zEL pg pn pA zEP,.blk b5 [.int .i64 294,.int .i64 328],.blk b7 [.int .i64 33000,.int .i64 34500]]) (by (first|exact lK1|(repeat (first|exact lK1|(refine zL rfl ?_))))) (by (repeat (first|exact oK1 _|(refine oK2 (by (repeat (first|exact tK1 _ _|apply tK2))) ?_)))) ?_
 refine zEb (enc:=zAJ) (A:=F1) (by (repeat (first|exact tK1 _ _|apply tK2))) (by decide) ?_
 rintro b9 o9 rfl
 have g0:zAR [(⟨⟨302,310⟩,1⟩:Bed),⟨⟨290,300⟩,2⟩,⟨⟨300,300⟩,0⟩] 0 ⟨⟨302,310⟩,1⟩:=⟨rfl⟩
 dsimp only [List.append]
 (refine zAd [] [] [] rfl (show ([]:List Nat).Nodup by decide) (fun _ h=>h) (by kernel_rfl) [[],[Z],[Z,Z],[Z,Z,Z],[Y,Z,Z,Z],[Z,Z,Z,Z,Z],[Z,Z,Z,Z,Z,Z],[Z,Z,Z,Z,Z,Z,Z],[Z,Z,Z,Z,Z,Z,Z,Z],[Z,Z,Z,Z,Z,Z,Z,Z,Z],[Z,Z,Z,Z,Z,Z,Z,Z,Z,Z],[Z,Z,Z,Z,Z,Z,Z,Z,Z,Z,Z],[Z,Z,Z,Z,Z,Z,Z,Z,Z,Z,Z,Z],[Y,Z,Z,Z,Z,Z,Z,Z,Z,Z,Z,Z,Z],[Z,Z,Z,Z,Z,Z,Z,Z,Z,Z,Z,Z,Z,Z],[Z,Z,Z,Z,Z,Z,Z,Z,Z,Z,Z,Z,Z,Z,Z],[Z,Z,Z,Z,Z,Z,Z,Z,Z,Z,Z,Z,Z,Z,Z,Z],[Z,Z,Z,Z,Z,Z,Z,Z,Z,Z,Z,Z,Z,Z,Z,Z,Z],[Z,Z,Z,Z,Z,Z,Z,Z,Z,Z,Z,Z,Z,Z,Z,Z,Z,Z],[Z,Z,Z,Z,Z,Z,Z,Z,Z,Z,Z,Z,Z,Z,Z,Z,Z,Z,Z],[Z,Z,Z,Z,Z,Z,Z,Z,Z,Z,Z,Z,Z,Z,Z,Z,Z,Z,Z,Z],[Z,Z,Z,Z,Z,Z,Z,Z,Z,Z,Z,Z,Z,Z,Z,Z,Z,Z,Z,Z,Z],[Y,Z,Z,Z,Z,Z,Z,Z,Z,Z,Z,Z,Z,Z,Z,Z,Z,Z,Z,Z,Z,Z],[Z,Z,Z,Z,Z,Z,Z,Z,Z,Z,Z,Z,Z,Z,Z,Z,Z,Z,Z,Z,Z,Z,Z],[Z,Z,Z,Z,Z,Z,Z,Z,Z,Z,Z,Z,Z,Z,Z,Z,Z,Z,Z,Z,Z,Z,Z,Z],[Z,Z,Z,Z,Z,Z,Z,Z,Z,Z,Z,Z,Z,Z,Z,Z,Z,Z,Z,Z,Z,Z,Z,Z,Z],[Z,Z,Z,Z,Z,Z,Z,Z,Z,Z,Z,Z,Z,Z,Z,Z,Z,Z,Z,Z,Z,Z,Z,Z,Z,Z],[Z,Z,Z,Z,Z,Z,Z,Z,Z,Z,Z,Z,Z,Z,Z,Z,Z,Z,Z,Z,Z,Z,Z,Z,Z,Z,Z],[Z,Z,Z,Z,Z,Z,Z,Z,Z,Z,Z,Z,Z,Z,Z,Z,Z,Z,Z,Z,Z,Z,Z,Z,Z,Z,Z,Z],[Z,Z,Z,Z,Z,Z,Z,Z,Z,Z,Z,Z,Z,Z,Z,Z,Z,Z,Z,Z,Z,Z,Z,Z,Z,Z,Z,Z,Z],[Z,Z,Z,Z,Z,Z,Z,Z,Z,Z,Z,Z,Z,Z,Z,Z,Z,Z,Z,Z,Z,Z,Z,Z,Z,Z,Z,Z,Z,Z],[Y,Z,Z,Z,Z,Z,Z,Z,Z,Z,Z,Z,Z,Z,Z,Z,Z,Z,Z,Z,Z,Z,Z,Z,Z,Z,Z,Z,Z,Z,Z],[Z,Z,Z,Z,Z,Z,Z,Z,Z,Z,Z,Z,Z,Z,Z,Z,Z,Z,Z,Z,Z,Z,Z,Z,Z,Z,Z,Z,Z,Z,Z,Z],[Z,Z,Z,Z,Z,Z,Z,Z,Z,Z,Z,Z,Z,Z,Z,Z,Z,Z,Z,Z,Z,Z,Z,Z,Z,Z,Z,Z,Z,Z,Z,Z,Z],[Z,Z,Z,Z,Z,Z,Z,Z,Z,Z,Z,Z,Z,Z,Z,Z,Z,Z,Z,Z,Z,Z,Z,Z,Z,Z,Z,Z,Z,Z,Z,Z,Z,Z],[Z,Z,Z,Z,Z,Z,Z,Z,Z,Z,Z,Z,Z,Z,Z,Z,Z,Z,Z,Z,Z,Z,Z,Z,Z,Z,Z,Z,Z,Z,Z,Z,Z,Z,Z],[Z,Z,Z,Z,Z,Z,Z,Z,Z,Z,Z,Z,Z,Z,Z,Z,Z,Z,Z,Z,Z,Z,Z,Z,Z,Z,Z,Z,Z,Z,Z,Z,Z,Z,Z,Z],[Z,Z,Z,Z,Z,Z,Z,Z,Z,Z,Z,Z,Z,Z,Z,Z,Z,Z,Z,Z,Z,Z,Z,Z,Z,Z,Z,Z,Z,Z,Z,Z,Z,Z,Z,Z,Z],[Z,Z,Z,Z,Z,Z,Z,Z,Z,Z,Z,Z,Z,Z,Z,Z,Z,Z,Z,Z,Z,Z,Z,Z,Z,Z,Z,Z,Z,Z,Z,Z,Z,Z,Z,Z,Z,Z],[Z,Z,Z,Z,Z,Z,Z,Z,Z,Z,Z,Z,Z,Z,Z,Z,Z,Z,Z,Z,Z,Z,Z,Z,Z,Z,Z,Z,Z,Z,Z,Z,Z,Z,Z,Z,Z,Z,Z],[Z,Z,Z,Z,Z,Z,Z,Z,Z,Z,Z,Z,Z,Z,Z,Z,Z,Z,Z,Z,Z,Z,Z,Z,Z,Z,Z,Z,Z,Z,Z,Z,Z,Z,Z,Z,Z,Z,Z,Z],[Z,Z,Z,Z,Z,Z,Z,Z,Z,Z,Z,Z,Z,Z,Z,Z,Z,Z,Z,Z,Z,Z,Z,Z,Z,Z,Z,Z,Z,Z,Z,Z,Z,Z,Z,Z,Z,Z,Z,Z,Z],[Z,Z,Z,Z,Z,Z,Z,Z,Z,Z,Z,Z,Z,Z,Z,Z,Z,Z,Z,Z,Z,Z,Z,Z,Z,Z,Z,Z,Z,Z,Z,Z,Z,Z,Z,Z,Z,Z,Z,Z,Z,Z],[Z,Z,Z,Z,Z,Z,Z,Z,Z,Z,Z,Z,Z,Z,Z,Z,Z,Z,Z,Z,Z,Z,Z,Z,Z,Z,Z,Z,Z,Z,Z,Z,Z,Z,Z,Z,Z,Z,Z,Z,Z,Z,Z],[Z,Z,Z,Z,Z,Z,Z,Z,Z,Z,Z,Z,Z,Z,Z,Z,Z,Z,Z,Z,Z,Z,Z,Z,Z,Z,Z,Z,Z,Z,Z,Z,Z,Z,Z,Z,Z,Z,Z,Z,Z,Z,Z,Z],[Z,Z,Z,Z,Z,Z,Z,Z,Z,Z,Z,Z,Z,Z,Z,Z,Z,Z,Z,Z,Z,Z,Z,Z,Z,Z,Z,Z,Z,Z,Z,Z,Z,Z,Z,Z,Z,Z,Z,Z,Z,Z,Z,Z,Z],[Z,Z,Z,Z,Z,Z,Z,Z,Z,Z,Z,Z,Z,Z,Z,Z,Z,Z,Z,Z,Z,Z,Z,Z,Z,Z,Z,Z,Z,Z,Z,Z,Z,Z,Z,Z,Z,Z,Z,Z,Z,Z,Z,Z,Z,Z],[Z,Z,Z,Z,Z,Z,Z,Z,Z,Z,Z,Z,Z,Z,Z,Z,Z,Z,Z,Z,Z,Z,Z,Z,Z,Z,Z,Z,Z,Z,Z,Z,Z,Z,Z,Z,Z,Z,Z,Z,Z,Z,Z,Z,Z,Z,Z],[Z,Z,Z,Z,Z,Z,Z,Z,Z,Z,Z,Z,Z,Z,Z,Z,Z,Z,Z,Z,Z,Z,Z,Z,Z,Z,Z,Z,Z,Z,Z,Z,Z,Z,Z,Z,Z,Z,Z,Z,Z,Z,Z,Z,Z,Z,Z,Z],[Z,Z,Z,Z,Z,Z,Z,Z,Z,Z,Z,Z,Z,Z,Z,Z,Z,Z,Z,Z,Z,Z,Z,Z,Z,Z,Z,Z,Z,Z,Z,Z,Z,Z,Z,Z,Z,Z,Z,Z,Z,Z,Z,Z,Z,Z,Z,Z,Z],[Z,Z,Z,Z,Z,Z,Z,Z,Z,Z,Z,Z,Z,Z,Z,Z,Z,Z,Z,Z,Z,Z,Z,Z,Z,Z,Z,Z,Z,Z,Z,Z,Z,Z,Z,Z,Z,Z,Z,Z,Z,Z,Z,Z,Z,Z,Z,Z,Z,Z],[Z,Z,Z,Z,Z,Z,Z,Z,Z,Z,Z,Z,Z,Z,Z,Z,Z,Z,Z,Z,Z,Z,Z,Z,Z,Z,Z,Z,Z,Z,Z,Z,Z,Z,Z,Z,Z,Z,Z,Z,Z,Z,Z,Z,Z,Z,Z,Z,Z,Z,Z],[Z,Z,Z,Z,Z,Z,Z,Z,Z,Z,Z,Z,Z,Z,Z,Z,Z,Z,Z,Z,Z,Z,Z,Z,Z,Z,Z,Z,Z,Z,Z,Z,Z,Z,Z,Z,Z,Z,Z,Z,Z,Z,Z,Z,Z,Z,Z,Z,Z,Z,Z,Z],[Z,Z,Z,Z,Z,Z,Z,Z,Z,Z,Z,Z,Z,Z,Z,Z,Z,Z,Z,Z,Z,Z,Z,Z,Z,Z,Z,Z,Z,Z,Z,Z,Z,Z,Z,Z,Z,Z,Z,Z,Z,Z,Z,Z,Z,Z,Z,Z,Z,Z,Z,Z,Z],[Z,Z,Z,Z,Z,Z,Z,Z,Z,Z,Z,Z,Z,Z,Z,Z,Z,Z,Z,Z,Z,Z,Z,Z,Z,Z,Z,Z,Z,Z,Z,Z,Z,Z,Z,Z,Z,Z,Z,Z,Z,Z,Z,Z,Z,Z,Z,Z,Z,Z,Z,Z,Z,Z],[Z,Z,Z,Z,Z,Z,Z,Z,Z,Z,Z,Z,Z,Z,Z,Z,Z,Z,Z,Z,Z,Z,Z,Z,Z,Z,Z,Z,Z,Z,Z,Z,Z,Z,Z,Z,Z,Z,Z,Z,Z,Z,Z,Z,Z,Z,Z,Z,Z,Z,Z,Z,Z,Z,Z],[Y,Z,Z,Z,Z,Z,Z,Z,Z,Z,Z,Z,Z,Z,Z,Z,Z,Z,Z,Z,Z,Z,Z,Z,Z,Z,Z,Z,Z,Z,Z,Z,Z,Z,Z,Z,Z,Z,Z,Z,Z,Z,Z,Z,Z,Z,Z,Z,Z,Z,Z,Z,Z,Z,Z,Z],[Y,Y,Z,Z,Z,Z,Z,Z,Z,Z,Z,Z,Z,Z,Z,Z,Z,Z,Z,Z,Z,Z,Z,Z,Z,Z,Z,Z,Z,Z,Z,Z,Z,Z,Z,Z,Z,Z,Z,Z,Z,Z,Z,Z,Z,Z,Z,Z,Z,Z,Z,Z,Z,Z,Z,Z,Z],[Y,Y,Y,Z,Z,Z,Z,Z,Z,Z,Z,Z,Z,Z,Z,Z,Z,Z,Z,Z,Z,Z,Z,Z,Z,Z,Z,Z,Z,Z,Z,Z,Z,Z,Z,Z,Z,Z,Z,Z,Z,Z,Z,Z,Z,Z,Z,Z,Z,Z,Z,Z,Z,Z,Z,Z,Z,Z],[Z,Z,Z,Y,Z,Z,Z,Z,Z,Z,Z,Z,Z,Z,Z,Z,Z,Z,Z,Z,Z,Z,Z,Z,Z,Z,Z,Z,Z,Z,Z,Z,Z,Z,Z,Z,Z,Z,Z,Z,Z,Z,Z,Z,Z,Z,Z,Z,Z,Z,Z,Z,Z,Z,Z,Z,Z,Z,Z],[Z,Z,Z,Z,Z,Z,Z,Z,Z,Z,Z,Z,Z,Z,Z,Z,Z,Z,Z,Z,Z,Z,Z,Z,Z,Z,Z,Z,Z,Z,Z,Z,Z,Z,Z,Z,Z,Z,Z,Z,Z,Z,Z,Z,Z,Z,Z,Z,Z,Z,Z,Z,Z,Z,Z,Z,Z,Z,Z,Z],[Z,Z,Z,Z,Z,Z,Z,Z,Z,Z,Z,Z,Z,Z,Z,Z,Z,Z,Z,Z,Z,Z,Z,Z,Z,Z,Z,Z,Z,Z,Z,Z,Z,Z,Z,Z,Z,Z,Z,Z,Z,Z,Z,Z,Z,Z,Z,Z,Z,Z,Z,Z,Z,Z,Z,Z,Z,Z,Z,Z,Z],[Z,Z,Z,Z,Z,Z,Z,Z,Z,Z,Z,Z,Z,Z,Z,Z,Z,Z,Z,Z,Z,Z,Z,Z,Z,Z,Z,Z,Z,Z,Z,Z,Z,Z,Z,Z,Z,Z,Z,Z,Z,Z,Z,Z,Z,Z,Z,Z,Z,Z,Z,Z,Z,Z,Z,Z,Z,Z,Z,Z,Z,Z],[Z,Z,Z,Z,Z,Z,Z,Z,Z,Z,Z,Z,Z,Z,Z,Z,Z,Z,Z,Z,Z,Z,Z,Z,Z,Z,Z,Z,Z,Z,Z,Z,Z,Z,Z,Z,Z,Z,Z,Z,Z,Z,Z,Z,Z,Z,Z,Z,Z,Z,Z,Z,Z,Z,Z,Z,Z,Z,Z,Z,Z,Z,Z],[Z,Z,Z,Z,Z,Z,Z,Z,Z,Z,Z,Z,Z,Z,Z,Z,Z,Z,Z,Z,Z,Z,Z,Z,Z,Z,Z,Z,Z,Z,Z,Z,Z,Z,Z,Z,Z,Z,Z,Z,Z,Z,Z,Z,Z,Z,Z,Z,Z,Z,Z,Z,Z,Z,Z,Z,Z,Z,Z,Z,Z,Z,Z,Z],[Z,Z,Z,Z,Z,Z,Z,Z,Z,Z,Z,Z,Z,Z,Z,Z,Z,Z,Z,Z,Z,Z,Z,Z,Z,Z,Z,Z,Z,Z,Z,Z,Z,Z,Z,Z,Z,Z,Z,Z,Z,Z,Z,Z,Z,Z,Z,Z,Z,Z,Z,Z,Z,Z,Z,Z,Z,Z,Z,Z,Z,Z,Z,Z,Z],[Z,Z,Z,Z,Z,Z,Z,Z,Z,Z,Z,Z,Z,Z,Z,Z,Z,Z,Z,Z,Z,Z,Z,Z,Z,Z,Z,Z,Z,Z,Z,Z,Z,Z,Z,Z,Z,Z,Z,Z,Z,Z,Z,Z,Z,Z,Z,Z,Z,Z,Z,Z,Z,Z,Z,Z,Z,Z,Z,Z,Z,Z,Z,Z,Z,Z],[Z,Z,Z,Z,Z,Z,Z,Z,Z,Z,Z,Z,Z,Z,Z,Z,Z,Z,Z,Z,Z,Z,Z,Z,Z,Z,Z,Z,Z,Z,Z,Z,Z,Z,Z,Z,Z,Z,Z,Z,Z,Z,Z,Z,Z,Z,Z,Z,Z,Z,Z,Z,Z,Z,Z,Z,Z,Z,Z,Z,Z,Z,Z,Z,Z,Z,Z],[Z,Z,Z,Z,Z,Z,Z,Z,Z,Z,Z,Z,Z,Z,Z,Z,Z,Z,Z,Z,Z,Z,Z,Z,Z,Z,Z,Z,Z,Z,Z,Z,Z,Z,Z,Z,Z,Z,Z,Z,Z,Z,Z,Z,Z,Z,Z,Z,Z,Z,Z,Z,Z,Z,Z,Z,Z,Z,Z,Z,Z,Z,Z,Z,Z,Z,Z,Z],[Z,Z,Z,Z,Z,Z,Z,Z,Z,Z,Z,Z,Z,Z,Z,Z,Z,Z,Z,Z,Z,Z,Z,Z,Z,Z,Z,Z,Z,Z,Z,Z,Z,Z,Z,Z,Z,Z,Z,Z,Z,Z,Z,Z,Z,Z,Z,Z,Z,Z,Z,Z,Z,Z,Z,Z,Z,Z,Z,Z,Z,Z,Z,Z,Z,Z,Z,Z,Z],[Z,Z,Z,Z,Z,Z,Z,Z,Z,Z,Z,Z,Z,Z,Z,Z,Z,Z,Z,Z,Z,Z,Z,Z,Z,Z,Z,Z,Z,Z,Z,Z,Z,Z,Z,Z,Z,Z,Z,Z,Z,Z,Z,Z,Z,Z,Z,Z,Z,Z,Z,Z,Z,Z,Z,Z,Z,Z,Z,Z,Z,Z,Z,Z,Z,Z,Z,Z,Z,Z],[Z,Z,Z,Z,Z,Z,Z,Z,Z,Z,Z,Z,Z,Z,Z,Z,Z,Z,Z,Z,Z,Z,Z,Z,Z,Z,Z,Z,Z,Z,Z,Z,Z,Z,Z,Z,Z,Z,Z,Z,Z,Z,Z,Z,Z,Z,Z,Z,Z,Z,Z,Z,Z,Z,Z,Z,Z,Z,Z,Z,Z,Z,Z,Z,Z,Z,Z,Z,Z,Z,Z],[Y,Z,Z,Z,Z,Z,Z,Z,Z,Z,Z,Z,Z,Z,Z,Z,Z,Z,Z,Z,Z,Z,Z,Z,Z,Z,Z,Z,Z,Z,Z,Z,Z,Z,Z,Z,Z,Z,Z,Z,Z,Z,Z,Z,Z,Z,Z,Z,Z,Z,Z,Z,Z,Z,Z,Z,Z,Z,Z,Z,Z,Z,Z,Z,Z,Z,Z,Z,Z,Z,Z,Z],[Z,Z,Z,Z,Z,Z,Z,Z,Z,Z,Z,Z,Z,Z,Z,Z,Z,Z,Z,Z,Z,Z,Z,Z,Z,Z,Z,Z,Z,Z,Z,Z,Z,Z,Z,Z,Z,Z,Z,Z,Z,Z,Z,Z,Z,Z,Z,Z,Z,Z,Z,Z,Z,Z,Z,Z,Z,Z,Z,Z,Z,Z,Z,Z,Z,Z,Z,Z,Z,Z,Z,Z,Z],[Z,Z,Z,Z,Z,Z,Z,Z,Z,Z,Z,Z,Z,Z,Z,Z,Z,Z,Z,Z,Z,Z,Z,Z,Z,Z,Z,Z,Z,Z,Z,Z,Z,Z,Z,Z,Z,Z,Z,Z,Z,Z,Z,Z,Z,Z,Z,Z,Z,Z,Z,Z,Z,Z,Z,Z,Z,Z,Z,Z,Z,Z,Z,Z,Z,Z,Z,Z,Z,Z,Z,Z,Z,Z],[Z,Z,Z,Z,Z,Z,Z,Z,Z,Z,Z,Z,Z,Z,Z,Z,Z,Z,Z,Z,Z,Z,Z,Z,Z,Z,Z,Z,Z,Z,Z,Z,Z,Z,Z,Z,Z,Z,Z,Z,Z,Z,Z,Z,Z,Z,Z,Z,Z,Z,Z,Z,Z,Z,Z,Z,Z,Z,Z,Z,Z,Z,Z,Z,Z,Z,Z,Z,Z,Z,Z,Z,Z,Z,Z],[Z,Z,Z,Z,Z,Z,Z,Z,Z,Z,Z,Z,Z,Z,Z,Z,Z,Z,Z,Z,Z,Z,Z,Z,Z,Z,Z,Z,Z,Z,Z,Z,Z,Z,Z,Z,Z,Z,Z,Z,Z,Z,Z,Z,Z,Z,Z,Z,Z,Z,Z,Z,Z,Z,Z,Z,Z,Z,Z,Z,Z,Z,Z,Z,Z,Z,Z,Z,Z,Z,Z,Z,Z,Z,Z,Z],[Z,Z,Z,Z,Z,Z,Z,Z,Z,Z,Z,Z,Z,Z,Z,Z,Z,Z,Z,Z,Z,Z,Z,Z,Z,Z,Z,Z,Z,Z,Z,Z,Z,Z,Z,Z,Z,Z,Z,Z,Z,Z,Z,Z,Z,Z,Z,Z,Z,Z,Z,Z,Z,Z,Z,Z,Z,Z,Z,Z,Z,Z,Z,Z,Z,Z,Z,Z,Z,Z,Z,Z,Z,Z,Z,Z,Z],[Z,Z,Z,Z,Z,Z,Z,Z,Z,Z,Z,Z,Z,Z,Z,Z,Z,Z,Z,Z,Z,Z,Z,Z,Z,Z,Z,Z,Z,Z,Z,Z,Z,Z,Z,Z,Z,Z,Z,Z,Z,Z,Z,Z,Z,Z,Z,Z,Z,Z,Z,Z,Z,Z,Z,Z,Z,Z,Z,Z,Z,Z,Z,Z,Z,Z,Z,Z,Z,Z,Z,Z,Z,Z,Z,Z,Z,Z],[Z,Z,Z,Z,Z,Z,Z,Z,Z,Z,Z,Z,Z,Z,Z,Z,Z,Z,Z,Z,Z,Z,Z,Z,Z,Z,Z,Z,Z,Z,Z,Z,Z,Z,Z,Z,Z,Z,Z,Z,Z,Z,Z,Z,Z,Z,Z,Z,Z,Z,Z,Z,Z,Z,Z,Z,Z,Z,Z,Z,Z,Z,Z,Z,Z,Z,Z,Z,Z,Z,Z,Z,Z,Z,Z,Z,Z,Z,Z],[Z,Z,Z,Z,Z,Z,Z,Z,Z,Z,Z,Z,Z,Z,Z,Z,Z,Z,Z,Z,Z,Z,Z,Z,Z,Z,Z,Z,Z,Z,Z,Z,Z,Z,Z,Z,Z,Z,Z,Z,Z,Z,Z,Z,Z,Z,Z,Z,Z,Z,Z,Z,Z,Z,Z,Z,Z,Z,Z,Z,Z,Z,Z,Z,Z,Z,Z,Z,Z,Z,Z,Z,Z,Z,Z,Z,Z,Z,Z,Z],[Z,Z,Z,Z,Z,Z,Z,Z,Z,Z,Z,Z,Z,Z,Z,Z,Z,Z,Z,Z,Z,Z,Z,Z,Z,Z,Z,Z,Z,Z,Z,Z,Z,Z,Z,Z,Z,Z,Z,Z,Z,Z,Z,Z,Z,Z,Z,Z,Z,Z,Z,Z,Z,Z,Z,Z,Z,Z,Z,Z,Z,Z,Z,Z,Z,Z,Z,Z,Z,Z,Z,Z,Z,Z,Z,Z,Z,Z,Z,Z,Z],[Z,Z,Z,Z,Z,Z,Z,Z,Z,Z,Z,Z,Z,Z,Z,Z,Z,Z,Z,Z,Z,Z,Z,Z,Z,Z,Z,Z,Z,Z,Z,Z,Z,Z,Z,Z,Z,Z,Z,Z,Z,Z,Z,Z,Z,Z,Z,Z,Z,Z,Z,Z,Z,Z,Z,Z,Z,Z,Z,Z,Z,Z,Z,Z,Z,Z,Z,Z,Z,Z,Z,Z,Z,Z,Z,Z,Z,Z,Z,Z,Z,Z],[Z,Z,Z,Z,Z,Z,Z,Z,Z,Z,Z,Z,Z,Z,Z,Z,Z,Z,Z,Z,Z,Z,Z,Z,Z,Z,Z,Z,Z,Z,Z,Z,Z,Z,Z,Z,Z,Z,Z,Z,Z,Z,Z,Z,Z,Z,Z,Z,Z,Z,Z,Z,Z,Z,Z,Z,Z,Z,Z,Z,Z,Z,Z,Z,Z,Z,Z,Z,Z,Z,Z,Z,Z,Z,Z,Z,Z,Z,Z,Z,Z,Z,Z],[Z,Z,Z,Z,Z,Z,Z,Z,Z,Z,Z,Z,Z,Z,Z,Z,Z,Z,Z,Z,Z,Z,Z,Z,Z,Z,Z,Z,Z,Z,Z,Z,Z,Z,Z,Z,Z,Z,Z,Z,Z,Z,Z,Z,Z,Z,Z,Z,Z,Z,Z,Z,Z,Z,Z,Z,Z,Z,Z,Z,Z,Z,Z,Z,Z,Z,Z,Z,Z,Z,Z,Z,Z,Z,Z,Z,Z,Z,Z,Z,Z,Z,Z,Z],[Z,Z,Z,Z,Z,Z,Z,Z,Z,Z,Z,Z,Z,Z,Z,Z,Z,Z,Z,Z,Z,Z,Z,Z,Z,Z,Z,Z,Z,Z,Z,Z,Z,Z,Z,Z,Z,Z,Z,Z,Z,Z,Z,Z,Z,Z,Z,Z,Z,Z,Z,Z,Z,Z,Z,Z,Z,Z,Z,Z,Z,Z,Z,Z,Z,Z,Z,Z,Z,Z,Z,Z,Z,Z,Z,Z,Z,Z,Z,Z,Z,Z,Z,Z,Z],[Z,Z,Z,Z,Z,Z,Z,Z,Z,Z,Z,Z,Z,Z,Z,Z,Z,Z,Z,Z,Z,Z,Z,Z,Z,Z,Z,Z,Z,Z,Z,Z,Z,Z,Z,Z,Z,Z,Z,Z,Z,Z,Z,Z,Z,Z,Z,Z,Z,Z,Z,Z,Z,Z,Z,Z,Z,Z,Z,Z,Z,Z,Z,Z,Z,Z,Z,Z,Z,Z,Z,Z,Z,Z,Z,Z,Z,Z,Z,Z,Z,Z,Z,Z,Z,Z],[Z,Z,Z,Z,Z,Z,Z,Z,Z,Z,Z,Z,Z,Z,Z,Z,Z,Z,Z,Z,Z,Z,Z,Z,Z,Z,Z,Z,Z,Z,Z,Z,Z,Z,Z,Z,Z,Z,Z,Z,Z,Z,Z,Z,Z,Z,Z,Z,Z,Z,Z,Z,Z,Z,Z,Z,Z,Z,Z,Z,Z,Z,Z,Z,Z,Z,Z,Z,Z,Z,Z,Z,Z,Z,Z,Z,Z,Z,Z,Z,Z,Z,Z,Z,Z,Z,Z],[Z,Z,Z,Z,Z,Z,Z,Z,Z,Z,Z,Z,Z,Z,Z,Z,Z,Z,Z,Z,Z,Z,Z,Z,Z,Z,Z,Z,Z,Z,Z,Z,Z,Z,Z,Z,Z,Z,Z,Z,Z,Z,Z,Z,Z,Z,Z,Z,Z,Z,Z,Z,Z,Z,Z,Z,Z,Z,Z,Z,Z,Z,Z,Z,Z,Z,Z,Z,Z,Z,Z,Z,Z,Z,Z,Z,Z,Z,Z,Z,Z,Z,Z,Z,Z,Z,Z,Z],[Z,Z,Z,Z,Z,Z,Z,Z,Z,Z,Z,Z,Z,Z,Z,Z,Z,Z,Z,Z,Z,Z,Z,Z,Z,Z,Z,Z,Z,Z,Z,Z,Z,Z,Z,Z,Z,Z,Z,Z,Z,Z,Z,Z,Z,Z,Z,Z,Z,Z,Z,Z,Z,Z,Z,Z,Z,Z,Z,Z,Z,Z,Z,Z,Z,Z,Z,Z,Z,Z,Z,Z,Z,Z,Z,Z,Z,Z,Z,Z,Z,Z,Z,Z,Z,Z,Z,Z,Z],[Z,Z,Z,Z,Z,Z,Z,Z,Z,Z,Z,Z,Z,Z,Z,Z,Z,Z,Z,Z,Z,Z,Z,Z,Z,Z,Z,Z,Z,Z,Z,Z,Z,Z,Z,Z,Z,Z,Z,Z,Z,Z,Z,Z,Z,Z,Z,Z,Z,Z,Z,Z,Z,Z,Z,Z,Z,Z,Z,Z,Z,Z,Z,Z,Z,Z,Z,Z,Z,Z,Z,Z,Z,Z,Z,Z,Z,Z,Z,Z,Z,Z,Z,Z,Z,Z,Z,Z,Z,Z],[Y,Y,Y,Y,Y,Z,Z,Z,Z,Z,Z,Z,Z,Z,Z,Z,Z,Z,Z,Z,Z,Z,Z,Z,Z,Z,Z,Z,Z,Z,Z,Z,Z,Z,Z,Z,Z,Z,Z,Z,Z,Z,Z,Z,Z,Z,Z,Z,Z,Z,Z,Z,Z,Z,Z,Z,Z,Z,Z,Z,Z,Z,Z,Z,Z,Z,Z,Z,Z,Z,Z,Z,Z,Z,Z,Z,Z,Z,Z,Z,Z,Z,Z,Z,Z,Z,Z,Z,Z,Z,Z],[Z,Z,Z,Z,Z,Z,Z,Z,Z,Z,Z,Z,Z,Z,Z,Z,Z,Z,Z,Z,Z,Z,Z,Z,Z,Z,Z,Z,Z,Z,Z,Z,Z,Z,Z,Z,Z,Z,Z,Z,Z,Z,Z,Z,Z,Z,Z,Z,Z,Z,Z,Z,Z,Z,Z,Z,Z,Z,Z,Z,Z,Z,Z,Z,Z,Z,Z,Z,Z,Z,Z,Z,Z,Z,Z,Z,Z,Z,Z,Z,Z,Z,Z,Z,Z,Z,Z,Z,Z,Z,Z,Z],[Z,Z,Z,Z,Z,Z,Z,Z,Z,Z,Z,Z,Z,Z,Z,Z,Z,Z,Z,Z,Z,Z,Z,Z,Z,Z,Z,Z,Z,Z,Z,Z,Z,Z,Z,Z,Z,Z,Z,Z,Z,Z,Z,Z,Z,Z,Z,Z,Z,Z,Z,Z,Z,Z,Z,Z,Z,Z,Z,Z,Z,Z,Z,Z,Z,Z,Z,Z,Z,Z,Z,Z,Z,Z,Z,Z,Z,Z,Z,Z,Z,Z,Z,Z,Z,Z,Z,Z,Z,Z,Z,Z,Z],[Z,Z,Z,Z,Z,Z,Z,Z,Z,Z,Z,Z,Z,Z,Z,Z,Z,Z,Z,Z,Z,Z,Z,Z,Z,Z,Z,Z,Z,Z,Z,Z,Z,Z,Z,Z,Z,Z,Z,Z,Z,Z,Z,Z,Z,Z,Z,Z,Z,Z,Z,Z,Z,Z,Z,Z,Z,Z,Z,Z,Z,Z,Z,Z,Z,Z,Z,Z,Z,Z,Z,Z,Z,Z,Z,Z,Z,Z,Z,Z,Z,Z,Z,Z,Z,Z,Z,Z,Z,Z,Z,Z,Z,Z]] (by kernel_rfl) (by kernel_rfl) (by kernel_rfl) (by kernel_rfl) (by kernel_rfl) ?_)
 (repeat' (first|(((with_reducible refine zCJ ?_ ?_);(· exact rfl);refine ⟨_,fun G=>(by (try simp (decide:=true) only [vis,see,fltT,zAD,Nat.reduceAdd,Nat.reduceSub,if_true,if_false,List.set_cons_zero,List.set_cons_succ,List.set_nil,List.nil_append,List.cons_append]);rfl),?_⟩);first|refine zX _ (fun _=>zAK rfl rfl) (fun _=>rfl) rfl (by first|exact fun _ _ _=>rfl|(intro G G' h;simp (decide:=true) only [h])) ?_|refine zX _ (fun _=>zy rfl rfl (by exact rfl)) (fun _=>rfl) rfl (by first|exact fun _ _ _=>rfl|(intro G G' h;simp (decide:=true) only [h])) ?_|(refine zAb rfl ?_;refine zX _ (fun _=>zAO rfl rfl) (fun _=>rfl) rfl (by first|exact fun _ _ _=>rfl|(intro G G' h;simp (decide:=true) only [h])) ?_)|refine zX _ (fun _=>zB8 rfl rfl rfl) (fun _=>rfl) rfl (by first|exact fun _ _ _=>rfl|(intro G G' h;simp (decide:=true) only [h])) ?_|refine zX _ (fun _=>zBK rfl rfl) (fun _=>rfl) rfl (by first|exact fun _ _ _=>rfl|(intro G G' h;simp (decide:=true) only [h])) ?_|(refine c_cmp rfl rfl (fun _=>rfl) rfl (fun _=>rfl) (fun _=>rfl) (fun h=>?_) (fun h=>?_)<;>(dsimp only [cmpP] at h;(try (exfalso;omega))))|refine zBI _ rfl (fun _=>rfl) rfl (fun _=>rfl) (fun _=>rfl) (fun _ _ _ q=>zB3 _ _ _) (by first|exact fun _ _ _=>rfl|(intro G G' h;simp (decide:=true) only [h])) ?_|(refine c_ret rfl (fun _=>rfl) rfl (fun _=>rfl) (fun _=>rfl) (fun _ _ _ _=>zMG _) ?_)|refine zBI _ rfl (fun _=>rfl) rfl (fun _=>rfl) (fun _=>rfl) (fun _ _ _ q=>zM1 [1,2,1] _ _ _ _ _ (zAL q.own (Below.refl _ _)) (zHu (enc:=encI) [1,2,1] (by exact rfl) _ q.below q.own) (by decide)) (by first|exact fun _ _ _=>rfl|(intro G G' h;simp (decide:=true) only [h])) ?_|refine zBI _ rfl (fun _=>rfl) rfl (fun _=>rfl) (fun _=>rfl) (fun _ _ _ q=>zM1 [0,1] _ _ _ _ _ (zAL q.own (Below.refl _ _)) (zHu (enc:=encI) [0,1] (by exact rfl) _ q.below q.own) (by decide)) (by first|exact fun _ _ _=>rfl|(intro G G' h;simp (decide:=true) only [h])) ?_|refine zBI _ rfl (fun _=>rfl) rfl (fun _=>rfl) (fun _=>rfl) (fun _ _ _ q=>zPG zEP _ _ _ _ _ (zBJ q.own (by (repeat (first|exact tK1 _ _|apply tK2)))) (zBJ q.own (by (repeat (first|exact tK1 _ _|apply tK2)))) (by decide) (by decide)) (by first|exact fun _ _ _=>rfl|(intro G G' h;simp (decide:=true) only [h])) ?_|refine zX _ (fun _=>e_eqSp rfl rfl rfl) (fun _=>rfl) rfl (by exact fun _ _ _=>rfl) ?_|refine zX _ (fun _=>zMW rfl rfl (by exact rfl)) (fun _=>rfl) rfl (by exact fun _ _ _=>rfl) ?_|refine zBI _ rfl (fun _=>rfl) rfl (fun _=>rfl) (fun _=>rfl) (fun _ _ _ q=>zHL [(2,0),(2,1),(2,2)] _ _ _ _ _ (zAL q.own (Below.refl _ _)) (zHu (enc:=zAX) [(2,0),(2,1),(2,2)] (by exact rfl) _ q.below q.own) (by decide)) (by first|exact fun _ _ _=>rfl|(intro G G' h;simp (decide:=true) only [h])) ?_|refine zX _ (fun _=>zAS (I:=0) rfl rfl rfl rfl (by decide)) (fun _=>rfl) rfl (by exact fun _ _ _=>rfl) ?_|refine zX _ (fun _=>zDT rfl rfl) (fun _=>rfl) rfl (by first|exact fun _ _ _=>rfl|(intro G G' h;simp (decide:=true) only [h])) ?_|refine zB1 rfl (fun _=>rfl) rfl (fun _=>rfl) (by exact rfl) (by exact fun _=>rfl) (by first|exact fun _ _ _=>rfl|(intro G G' h;simp (decide:=true) only [h])) ?_)|(with_reducible refine zFr ?_)))
 all_goals
  (intro G;simp only [regsT,zAD,zBU,ini,List.nil_append,List.cons_append])
  (repeat' (first|(with_reducible first|refine zA ?_|refine zb ?_)))
  exact zT (by (exact zO.cons (by exact zq.tmp rfl) zO.nil)) () trivial rfl (fun _ _=>Own.nil _ _)
end Go.Proofs.YtdigopgncfhiaaaGreatDoor.Two
namespace Go.Proofs.YtdigopgncfhiaaaGreatDoor
open Go.RowKit
theorem zCu (w:World) (hG:InC w 0 0 zB7):Gv Tryz.prog 15 [] w (.bool true):=Two.zPu w hG
end Go.Proofs.YtdigopgncfhiaaaGreatDoor
namespace Go.Proofs.YtdigopgncfhiaaaGreatDoor
open Go.RowKit
set_option maxRecDepth 20000
theorem errI_of {c:Cov} (hv:valid c.t=true) (h:zBl c):zAr c=0:=by
 have:zEM c=true:=zCg.2 ⟨h.beds,h.hours,List.all_eq_true.2 fun z hz=>h.bed z hz,List.all_eq_true.2 fun z hz=>h.hour z hz,h.wear,h.layer,h.rate,h.limit,h.base⟩
 unfold zAr
 rw [if_pos hv,if_pos this]
theorem errI_val {c:Cov} (h:zAr c=0):valid c.t=true:=by
 cases hv:valid c.t with
 | true=>rfl
 | false=>unfold zAr at h;rw [hv] at h;simp at h
theorem zC7 {c:Cov} {pl:List Sli} (h:zAr c=0) (hp:zAz c pl=true):zCG c pl=0:=by unfold zCG;rw [if_pos h,hp];rfl
end Go.Proofs.YtdigopgncfhiaaaGreatDoor
