/- B30 -/
import Derived.Test.YtdigopgncfhiaaaGreatDoorB5
import Derived.Test.YtdigopgncfhiaaaGreatDoorB12
import Derived.Test.YtdigopgncfhiaaaGreatDoorB18
import Derived.Test.YtdigopgncfhiaaaGreatDoorB1
import Derived.Test.YtdigopgncfhiaaaGreatDoorB10
import Derived.Test.YtdigopgncfhiaaaGreatDoorB8
import Derived.Test.YtdigopgncfhiaaaGreatDoorB29
import Derived.Test.YtdigopgncfhiaaaGreatDoorB25
import Derived.Test.YtdigopgncfhiaaaGreatDoorB14
import Derived.Test.YtdigopgncfhiaaaGreatDoorB27
set_option linter.unusedSimpArgs false
set_option linter.unusedVariables false
namespace Go.Proofs.YtdigopgncfhiaaaGreatDoor
variable {ro : Option Nat}
open Go.RowKit
set_option maxRecDepth 100000
section
variable {P : Program} {w0:World} {n:Nat} {d:List Deferred} {R:List (Nat × Value)} {H:List Ent} {o:Oper}
theorem zRD {T1:TypeId} {ps:Array (Nat × Operand)} {s:Nat} {z cs:List Value} {qs:List (Nat × Value)} (hop:o.op = .build T1 ps) [i1:TyBA P T1 s z] (hp:evp R ps.toList=some qs) (hf:fillL (fun i=>some (i * s,s)) z qs=some cs):Ev P w0 n d R H o (.agg cs.toArray):=fun a w q=>by
 unfold execOp;rw [hop]
 have e1:(ps.map fun (i,x)=>(i,a.eval x)).toList=qs:=by rw [Array.toList_map];exact q.evp hp
 have e2:P.built T1 (ps.map fun (i,x)=>(i,a.eval x)).toList=some cs.toArray:=by
  rw [i1.bui,e1]
  exact fill_eq _ qs z cs hf
 simp only [Sem.run_bind,run_build w T1 _ _ e2,Result.andThen_ok,Sem.run_pure]
end
theorem icoverW (k:Int) (w:World):Ret Tryz.prog 44 [.int .i64 k] w (fun z:Wit=>zAQ (zB2 k) (some ⟨z.g,0,none⟩) 3 z.A 3 (some ⟨z.m,0,none⟩) 3) (fun z=>[.sl zBE 9 (some ⟨z.g,0,none⟩) (zB2 k).t,.sl zAX 3 z.A (zB2 k).beds,.sl zw 5 (some ⟨z.m,0,none⟩) (zB2 k).hours]) (fun _=>True):=by
 (refine zM (n:=22) Tryz.func44 rfl rfl rfl ?_)
 (repeat' (first|((with_reducible refine zG ?_);first|refine zE rfl rfl rfl rfl rfl ?_|refine zV rfl rfl rfl rfl rfl rfl (fun _ _ q=>zDf _ _ _) ?_|(refine zAV rfl rfl rfl rfl rfl rfl (fun _ _ q=>irun_any _) ?_;rintro gr -;dsimp only [List.cons_append,List.nil_append])|(refine zf rfl rfl rfl rfl rfl ?_;refine And.intro rfl (And.intro zRY ⟨_,rfl,?_⟩))|(refine zr rfl rfl rfl rfl (fun b=>?_))|(refine zBC rfl rfl rfl rfl rfl ?_;refine ⟨_,rfl,?_⟩)|(refine zz rfl rfl rfl rfl rfl ?_;refine ⟨rfl,_,rfl,fun b=>?_⟩))|(with_reducible first|refine zI ?_|refine zB ?_|refine zD ?_|refine zA ?_|refine za ?_)))
 rename_i b2 bb
 exact zU zRo ⟨gr,some ⟨bb,0,none⟩,b⟩ trivial rfl (fun _ h=>(Own.zIm (enc:=zAX) (xs:=(zB2 k).beds) (b:=bb) (Take.there _ (Take.there _ (Take.here _ _))) (Own.zIm (enc:=zw) (xs:=(zB2 k).hours) (b:=b) (Take.there _ (Take.here _ _)) h)).sub zRQ)
theorem zLi (w:World):Ret Tryz.prog 45 [] w (fun z:Wit=>.slice z.A 3 3) (fun z=>[.zEO z.g z.m z.A zGs]) (fun _=>True) :=
 (zMb w).conv fun z _=>⟨⟨z.1,z.2.2,z.2.1⟩,trivial,rfl,fun _ h=>h⟩
theorem zKX (k:Int):Small (zB2 k):=⟨fun s hs=>by
 simp only [zB2,runE,List.mem_cons,List.not_mem_nil,or_false] at hs
 rcases hs with rfl|rfl|rfl<;>decide,by simp [zB2,runE],by simp [zB2],by simp [zB2]⟩
theorem evi_need : zD6 (zB2 2)=([1,2,1],0):=by decide +kernel
theorem evi_plan : zAt (zB2 2)=(zGs,0):=by decide +kernel
theorem zQ9 : zEI (zB2 2) (zAC zGs) 1 2=(⟨294,328⟩,0):=by decide +kernel
theorem zGo : zC3 (zB2 2) (zAC zGs)=⟨33000,34500⟩∧zCC (zB2 2) (zAC zGs)=0∧zBN (zB2 2) (zAC zGs)=2:=by decide +kernel
theorem evi_most : zHn (zB2 2) (zAC zGs) 2=(15,0):=by decide +kernel
theorem zOE : zE3 (zB2 2) (zAC [[],[],[]])=[(2,0),(2,1),(2,2)]∧zCC (zB2 2) (zAC [[],[],[]])=0:=by decide +kernel
theorem zRA : zF2 (zB2 1)=(2,[0,1],0):=by decide +kernel
theorem zRB : (zDl (zB2 2) 100 ⟨302,320⟩).2=0∧(zDl (zB2 2) 100 ⟨302,320⟩).1.beds=[⟨⟨302,310⟩,1⟩,⟨⟨290,300⟩,2⟩,⟨⟨300,300⟩,0⟩]:=by decide +kernel
theorem zNY {g n:Nat} {base:Nat} {w:World} {H H':List Ent} (h:Own base w H) (ht:Take H (.blk g (List.replicate n (.slice none 0 0))) H'):∃ pl:List Sli,pl.map Sli.xs=(zAC (List.replicate n [])).map Sli.xs∧zBA w (some ⟨g,0,none⟩) pl:=by
 refine ⟨List.replicate n ⟨none,[],0⟩,by simp [zAC],?_,fun s hs=>?_⟩
 ·have h1:Blk w g (List.replicate n (.slice none 0 0)).toArray:=h.here _ ht.mem
  have e:(List.replicate n (⟨none,[],0⟩:Sli)).flatMap zAA=List.replicate n (.slice none 0 0):=by
   clear h ht h1
   induction n with
   | zero=>rfl
   | succ m ih=>rw [List.replicate_succ,List.flatMap_cons,ih];rfl
  rw [← e] at h1
  exact zHY (fun _=>rfl) h1
 ·obtain rfl:=List.eq_of_mem_replicate hs
  intro i x hx;cases hx
end Go.Proofs.YtdigopgncfhiaaaGreatDoor
namespace Go.Proofs.YtdigopgncfhiaaaGreatDoor.Two
variable {ro : Option Nat}
open Go.RowKit
set_option maxRecDepth 100000
section
variable {S : List (Nat × Nat)} {I:List (Nat × Nat × Nat × List Ent)} {P:Program} {w0:World} {n:Nat} {d:List Deferred} {R R0:List (Nat × Value)} {H H' H0:List Ent} {Q:Exit→Act→World→Prop} {ops:Array Oper} {bs:List (List Bool)} {b:List Bool} {k:Nat} {o:Oper} {rest:List Oper} {T:List Rw} {t:Tmp} {Hk:zBO→List Ent} {x y:Operand} {v:Value}
theorem c_ret {V:Wit→Value} {E:Wit→List Ent} {f:FuncId} {fx:Operand} {xs:Array Operand} {ts:Array TypeId} {vs:zBO→List Value} {cap:Array Value} (hop:o.op = .call ⟨.value fx,xs,ts⟩) (hw:∀ G,want (Rk R0 ops b o T G) ops o=some true) (hd:o.dst=some t) (hf:∀ G,evR (Rk R0 ops b o T G) fx=some (.func (.func f) #[] cap)) (hx:∀ G,evs (Rk R0 ops b o T G) xs.toList=some (vs G)) [ci:zZ P f]
  (hc:∀ G a w,Kn w0 n d (Rk R0 ops b o T G) (Hk G) a w→Ret P f (vs G++cap.toList) w V E (fun _=>True)) (h:zBo ro S I P w0 n d ops R0 H0 Q bs (k+1) rest (⟨k,some t,fun G=>(V (G k),E (G k))⟩::T)):CAt ro S I P w0 n d ops R0 H0 Q b bs k o rest T Hk:=by
 refine zFy (f:=fun G=>(V (G k),E (G k))) (fun G G' hG=>by simp only [hG k (.inl rfl)]) (fun G a w q K hK=>?_) zRt
 rw [zBs q (hw G),if_pos rfl]
 unfold Oper.wp execOp;rw [hop]
 have e1:xs.map a.eval=(vs G).toArray:=by apply Array.ext';simpa using q.evs (hx G)
 have e2:(vs G).toArray++cap=(vs G++cap.toList).toArray:=by apply Array.ext';simp
 simp only [resolve,q.ev (hf G),e1,Deferred.ofValue,Sem.run_bind,Sem.run_pure,Result.andThen_ok,invoke,Array.empty_append,e2,ci.ent,Oper.upon_enter]
 refine Calls.mono (hc G a w q).calls ?_
 rintro e w' ⟨z,hp,rfl,hb,hE⟩
 exact hK _ _ _ ⟨z,by simp [upW]⟩ hb hE
theorem zP3 {T1 e:TypeId} {i:TypeInfo} {z v:Value} {n0 s:Nat} {g:Bool} (hop:o.op = .makeSlice T1 x y) [i1:TyI P T1 (.slice e) s g] (hi:P.info? e=some i) (hz:i.zero=some z) (h1:i.size=1) (hcz:z.cells=#[v]) (hb:Nat.ble (i.bytes * 1000) 281474976710656=true) (hw:∀ G,want (Rk R0 ops b o T G) ops o=some true) (hd:o.dst=some t) (hx:∀ G,evR (Rk R0 ops b o T G) x=some (.int .i64 (n0:Int))) (hy:∀ G,evR (Rk R0 ops b o T G) y=some (.int .i64 (n0:Int))) (hn:n0≤1000)
  (h:zBo ro S I P w0 n d ops R0 H0 Q bs (k+1) rest (⟨k,some t,fun G=>(.slice (some ⟨(G k).g,0,none⟩) n0 n0,[.blk (G k).g (List.replicate n0 v)])⟩::T)):CAt ro S I P w0 n d ops R0 H0 Q b bs k o rest T Hk:=by
 refine zFy (f:=fun G=>(.slice (some ⟨(G k).g,0,none⟩) n0 n0,[.blk (G k).g (List.replicate n0 v)])) (fun G G' hG=>by simp only [hG k (.inl rfl)]) (fun G a w q K hK=>?_) zRt
 rw [zBs q (hw G),if_pos rfl]
 have hb':(i.bytes:Int) * (n0:Int)≤281474976710656:=by
  have h9:=Nat.le_of_ble_eq_true hb
  have h8:i.bytes * n0≤i.bytes * 1000:=Nat.mul_le_mul_left _ hn
  have h7:((i.bytes * n0:Nat):Int)≤281474976710656:=by omega
  rwa [Int.natCast_mul] at h7
 have hr:=run_make (P:=P) w T1 e i z i1.und hi hz .i64 .i64 n0 n0 zRU (Int.le_refl _) hb' zRU
 simp only [Int.toNat_natCast,h1,Nat.mul_one,hcz] at hr
 unfold Oper.wp execOp;rw [hop]
 simp only [Sem.run_bind,q.ev (hx G),q.ev (hy G),hr,Result.andThen_ok,Sem.run_pure,Oper.upon_value]
 have e1:madeCells #[v] n0=(List.replicate n0 v).toArray:=by
  apply Array.ext'
  rw [toList_madeCells_one]
 rw [e1]
 exact hK _ _ _ ⟨⟨w.heap.size,none,0⟩,by simp only [upW,if_true]⟩ (zAL w (.cells (List.replicate n0 v).toArray e)) (zJJ w (List.replicate n0 v) e)
end
set_option maxHeartbeats 8000000 in
theorem zO9 (w:World) (hG:InC w 0 0 zCS):Gv Tryz.prog 15 [] w (.bool true):=by
 have s2:=zKX 2
 have h1:=fun W A ca B cb C cc (hC:zAl W (zB2 2) A B C) (hG:InC W 0 0 zCS)=>zGl (zB2 2) A ca B cb C cc W hC s2 hG
 have h2:=fun W A ca B cb C cc (hC:zAl W (zB2 2) A B C) (hG:InC W 0 0 zCS)=>Ret.zEO (V:=fun v=>.tuple #[v,.int .i64 (zAt (zB2 2)).2]) (zFJ (zB2 2) A ca B cb C cc W hC s2 hG)
 have h3:=fun W A ca B cb C cc P (hC:zAl W (zB2 2) A B C) hp=>zMh (zB2 2) A ca B cb C cc zGs P 3 W hC s2 hp zRs zRs 1 2
 have h4:=fun W A ca B cb C cc P (hC:zAl W (zB2 2) A B C) hp=>zMg (zB2 2) A ca B cb C cc zGs P 3 W hC s2 hp zRs zRs
 have h5:=fun W A ca B cb C cc P (hC:zAl W (zB2 2) A B C) hp (hG:InC W 0 0 zCS)=>zFl (zB2 2) A ca B cb C cc zGs P 3 W hC s2 hp zRs zRs hG
 have h6:=fun W A ca B cb C cc P (hC:zAl W (zB2 2) A B C) hp (hG:InC W 0 0 zCS)=>iMostP (zB2 2) A ca B cb C cc zGs P 3 W hC s2 hp zRs zRs 2 hG
 have h7:=fun W A ca B cb C cc P (hC:zAl W (zB2 2) A B C) hp (hG:InC W 0 0 zCS)=>zO5 (zB2 2) A ca B cb C cc [[],[],[]] P 3 W hC s2 hp zRs zRs hG
 have h8:=fun W A ca B cb C cc (hC:zAl W (zB2 1) A B C) (hG:InC W 0 0 zCS)=>zO7 (zB2 1) A ca B cb C cc W hC (zKX 1) hG
 have h9:=fun W A ca B cb C cc (hC:zAl W (zB2 2) A B C)=>Two.zO8 (zB2 2) A ca B cb C cc 100 ⟨302,320⟩ W hC s2
 rw [evi_need] at h1
 rw [evi_plan] at h2
 rw [zQ9] at h3
 rw [zGo.1,zGo.2.1] at h4
 rw [zGo.2.2,zGo.2.1] at h5
 rw [evi_most] at h6
 rw [zOE.1,zOE.2] at h7
 rw [zRA] at h8
 obtain ⟨d1,d2⟩:=zRB
 generalize zDl (zB2 2) 100 ⟨302,320⟩=dx at *
 unfold vSp at h3 h4 h9
 have d3:dx.1.beds.length=3:=by rw [d2];rfl
 simp only [d1,d2,d3,zAQ,zH] at h9
 have h7w:∀ W A ca B cb C cc P,zAl W (zB2 2) A B C→_→InC W 0 0 zCS→Ret Tryz.prog 20 [zAQ (zB2 2) A ca B cb C cc,.slice P 3 3] W (fun z:Wit=>.tuple #[.slice z.A 3 z.m,.int .i64 0]) (fun z=>[.sl zAW 2 z.A [(2,0),(2,1),(2,2)]]) (fun _=>True):=fun W A ca B cb C cc P hC hp hG=>(h7 W A ca B cb C cc P hC hp hG).conv fun p _=>⟨⟨0,p.1,p.2⟩,trivial,rfl,fun _ h=>h⟩
 have hcv:=icoverW
 unfold zAQ zH at h1 h2 h3 h4 h5 h6 h7w h8 hcv
 unfold Gv
 (refine zM (n:=166) Tryz.func15 rfl rfl rfl ?_)
 (repeat' (first|((with_reducible refine zG ?_);first|refine zE rfl rfl rfl rfl rfl ?_|refine zC rfl rfl rfl rfl rfl ?_|(refine zAV rfl rfl rfl rfl rfl rfl (fun _ _ q=>hcv _ _) ?_;rintro z -;dsimp only [List.cons_append,List.nil_append])|(refine zAV rfl rfl rfl rfl rfl rfl (fun _ _ q=>zLi _) ?_;rintro z -;dsimp only [List.cons_append,List.nil_append])|(refine zCW rfl rfl rfl rfl rfl rfl (fun _ _ q=>h1 _ _ _ _ _ _ _ ⟨(zA5 q.own (Below.refl _ _)),(zA5 q.own (Below.refl _ _)),(zA5 q.own (Below.refl _ _))⟩ (hG.below q.below)) (fun N1 nc1=>?_))|(refine zAV rfl rfl rfl rfl rfl rfl (fun _ _ q=>h2 _ _ _ _ _ _ _ ⟨(zA5 q.own (Below.refl _ _)),(zA5 q.own (Below.refl _ _)),(zA5 q.own (Below.refl _ _))⟩ (hG.below q.below)) ?_;rintro ⟨pg,pn,pA,pc⟩ -;dsimp only [List.cons_append,List.nil_append])|refine zV rfl rfl rfl rfl rfl rfl (fun _ _ q=>h3 _ _ _ _ _ _ _ _ ⟨(zA5 q.own (Below.refl _ _)),(zA5 q.own (Below.refl _ _)),(zA5 q.own (Below.refl _ _))⟩ (zBd q.own zRT)) ?_|refine zV rfl rfl rfl rfl rfl rfl (fun _ _ q=>h4 _ _ _ _ _ _ _ _ ⟨(zA5 q.own (Below.refl _ _)),(zA5 q.own (Below.refl _ _)),(zA5 q.own (Below.refl _ _))⟩ (zBd q.own zRT)) ?_|refine zV rfl rfl rfl rfl rfl rfl (fun _ _ q=>h5 _ _ _ _ _ _ _ _ ⟨(zA5 q.own (Below.refl _ _)),(zA5 q.own (Below.refl _ _)),(zA5 q.own (Below.refl _ _))⟩ (zBd q.own zRT) (hG.below q.below)) ?_|refine zV rfl rfl rfl rfl rfl rfl (fun _ _ q=>h6 _ _ _ _ _ _ _ _ ⟨(zA5 q.own (Below.refl _ _)),(zA5 q.own (Below.refl _ _)),(zA5 q.own (Below.refl _ _))⟩ (zBd q.own zRT) (hG.below q.below)) ?_|refine zj rfl rfl rfl rfl rfl rfl ?_|(refine zf rfl rfl rfl rfl rfl ?_;refine And.intro rfl (And.intro zRY ⟨_,rfl,?_⟩))|(refine zr rfl rfl rfl rfl (fun b=>?_)))|(with_reducible first|refine zI ?_|refine zB ?_|refine zD ?_|refine zA ?_)))
 rename_i b5 y1 y2 y3 y4 y5
 obtain ⟨b7,hb7⟩:∃ x,x=b:=⟨_,rfl⟩
 subst hb7
 refine U.sub (R':=[(0,.bool false),(1,.slice N1 3 nc1),(2,.int .i64 0),(3,.slice pA 3 pc),(4,.int .i64 0),(5,.pointer (some ⟨b5,0,none⟩)),(6,.int .i64 0),(7,.pointer (some ⟨b7,0,none⟩)),(8,.int .i64 0),(9,.int .u8 2),(10,.int .i64 0),(11,.int .i64 15),(12,.int .i64 0)]) (H':=[.sl encI 1 N1 [1,2,1],.zEO pg pn pA zGs,.blk b5 [.int .i64 294,.int .i64 328],.blk b7 [.int .i64 33000,.int .i64 34500]]) zRS zRQ ?_
 (refine zAc [] [] [] rfl (show ([]:List Nat).Nodup by decide) (fun _ h=>h) zRW [[],[O0],[I0,I0],[I0,I0,I0],[I0,I0,I0,I0],[O0,I0,I0,I0,I0],[O0,I0,I0,I0,I0,I0],[I0,I0,I0,I0,I0,I0,I0]] zRW zRW zRW zRW zRW ?_)
 (repeat' (first|(((with_reducible refine zCT ?_ ?_);(· exact rfl);refine ⟨_,fun G=>zRX,?_⟩);first|refine zX _ (fun _=>zAM rfl rfl) (fun _=>rfl) rfl zRR ?_|refine zX _ (fun _=>zBe rfl rfl) (fun _=>rfl) rfl zRR ?_|(refine c_ret rfl (fun _=>rfl) rfl (fun _=>rfl) (fun _=>rfl) (fun _ _ _ _=>hcv _ _) ?_)|(refine zP3 (v:=.slice none 0 0) rfl rfl rfl rfl rfl rfl (fun _=>rfl) rfl (fun _=>rfl) (fun _=>rfl) zRs ?_)|(refine c_ret rfl (fun _=>rfl) rfl (fun _=>rfl) (fun _=>rfl) (fun _ _ _ q=>h7w _ _ _ _ _ _ _ _ ⟨(zA5 q.own (Below.refl _ _)),(zA5 q.own (Below.refl _ _)),(zA5 q.own (Below.refl _ _))⟩ (zNY (n:=3) q.own zRT) (hG.below q.below)) ?_)|refine zX _ (fun _=>zDk rfl rfl rfl) (fun _=>rfl) rfl zRR ?_)|(with_reducible refine zH3 ?_)))
 (intro G;simp only [regsT,zAG,zBZ,ini,List.nil_append,List.cons_append])
 (repeat' (first|((with_reducible refine zG ?_);first|refine zE rfl rfl rfl rfl rfl ?_|refine zC rfl rfl rfl rfl rfl ?_|(refine zAV rfl rfl rfl rfl rfl rfl (fun _ _ q=>hcv _ _) ?_;rintro z -;dsimp only [List.cons_append,List.nil_append])|refine zV rfl rfl rfl rfl rfl rfl (fun _ _ q=>zDf _ _ _) ?_|(refine zCW rfl rfl rfl rfl rfl rfl (fun _ _ q=>h8 _ _ _ _ _ _ _ ⟨(zA5 q.own (Below.refl _ _)),(zA5 q.own (Below.refl _ _)),(zA5 q.own (Below.refl _ _))⟩ (hG.below q.below)) (fun S1 sc1=>?_))|(refine zAV rfl rfl rfl rfl rfl rfl (fun _ _ q=>h9 _ _ _ _ _ _ _ ⟨(zA5 q.own (Below.refl _ _)),(zA5 q.own (Below.refl _ _)),(zA5 q.own (Below.refl _ _))⟩) ?_;rintro ⟨⟨E1,ec1⟩,⟨F1,fc1⟩,⟨G1,gc1⟩⟩ -;dsimp only [List.cons_append,List.nil_append])|refine zj rfl rfl rfl rfl rfl rfl ?_|(refine zf rfl rfl rfl rfl rfl ?_;refine And.intro rfl (And.intro zRY ⟨_,rfl,?_⟩))|(refine zr rfl rfl rfl rfl (fun b=>?_)))|(with_reducible first|refine zI ?_|refine zB ?_|refine zD ?_|refine zA ?_)))
 simp only [Nat.reduceAdd]
 generalize (G 2).A=T1
 generalize (G 2).m=tc1
 refine U.sub (R':=[(0,.bool false),(1,.slice N1 3 nc1),(2,.int .i64 0),(3,.slice pA 3 pc),(4,.int .i64 0),(5,.pointer (some ⟨b5,0,none⟩)),(6,.int .i64 0),(7,.pointer (some ⟨b7,0,none⟩)),(8,.int .i64 0),(9,.int .u8 2),(10,.int .i64 0),(11,.int .i64 15),(12,.int .i64 0),(13,.slice T1 3 tc1),(14,.int .i64 0),(15,.int .i64 2),(16,.slice S1 2 sc1),(17,.int .i64 0),(18,.pointer (some ⟨b,0,none⟩)),(19,.int .i64 0)]) (H':=[.blk b [.slice E1 dx.1.t.length ec1,.slice F1 3 fc1,.slice G1 dx.1.hours.length gc1,.int .i64 dx.1.wear.lo,.int .i64 dx.1.wear.hi,.int .i64 dx.1.layer.lo,.int .i64 dx.1.layer.hi,.int .i64 dx.1.rate,.int .i64 dx.1.limit,.int .i64 dx.1.base],.sl zAX 3 F1 [⟨⟨302,310⟩,1⟩,⟨⟨290,300⟩,2⟩,⟨⟨300,300⟩,0⟩],.sl zAW 2 T1 [(2,0),(2,1),(2,2)],.sl encI 1 S1 [0,1],.sl encI 1 N1 [1,2,1],.zEO pg pn pA zGs,.blk b5 [.int .i64 294,.int .i64 328],.blk b7 [.int .i64 33000,.int .i64 34500]]) zRS zRQ ?_
 refine zE1 (enc:=zAX) (A:=F1) zRT zRs ?_
 rintro b9 o9 rfl
 have g0:zAP [(⟨⟨302,310⟩,1⟩:Bed),⟨⟨290,300⟩,2⟩,⟨⟨300,300⟩,0⟩] 0 ⟨⟨302,310⟩,1⟩:=⟨rfl⟩
 dsimp only [List.append]
 (refine zAc [] [] [] rfl (show ([]:List Nat).Nodup by decide) (fun _ h=>h) zRW [[],[I0],[I0,I0],[I0,I0,I0],[O0,I0,I0,I0],[I0,I0,I0,I0,I0],[I0,I0,I0,I0,I0,I0],[I0,I0,I0,I0,I0,I0,I0],[I0,I0,I0,I0,I0,I0,I0,I0],[I0,I0,I0,I0,I0,I0,I0,I0,I0],[I0,I0,I0,I0,I0,I0,I0,I0,I0,I0],[I0,I0,I0,I0,I0,I0,I0,I0,I0,I0,I0],[I0,I0,I0,I0,I0,I0,I0,I0,I0,I0,I0,I0],[O0,I0,I0,I0,I0,I0,I0,I0,I0,I0,I0,I0,I0],[I0,I0,I0,I0,I0,I0,I0,I0,I0,I0,I0,I0,I0,I0],[I0,I0,I0,I0,I0,I0,I0,I0,I0,I0,I0,I0,I0,I0,I0],[I0,I0,I0,I0,I0,I0,I0,I0,I0,I0,I0,I0,I0,I0,I0,I0],[I0,I0,I0,I0,I0,I0,I0,I0,I0,I0,I0,I0,I0,I0,I0,I0,I0],[I0,I0,I0,I0,I0,I0,I0,I0,I0,I0,I0,I0,I0,I0,I0,I0,I0,I0],[I0,I0,I0,I0,I0,I0,I0,I0,I0,I0,I0,I0,I0,I0,I0,I0,I0,I0,I0],[I0,I0,I0,I0,I0,I0,I0,I0,I0,I0,I0,I0,I0,I0,I0,I0,I0,I0,I0,I0],[I0,I0,I0,I0,I0,I0,I0,I0,I0,I0,I0,I0,I0,I0,I0,I0,I0,I0,I0,I0,I0],[O0,I0,I0,I0,I0,I0,I0,I0,I0,I0,I0,I0,I0,I0,I0,I0,I0,I0,I0,I0,I0,I0],[I0,I0,I0,I0,I0,I0,I0,I0,I0,I0,I0,I0,I0,I0,I0,I0,I0,I0,I0,I0,I0,I0,I0],[I0,I0,I0,I0,I0,I0,I0,I0,I0,I0,I0,I0,I0,I0,I0,I0,I0,I0,I0,I0,I0,I0,I0,I0],[I0,I0,I0,I0,I0,I0,I0,I0,I0,I0,I0,I0,I0,I0,I0,I0,I0,I0,I0,I0,I0,I0,I0,I0,I0],[I0,I0,I0,I0,I0,I0,I0,I0,I0,I0,I0,I0,I0,I0,I0,I0,I0,I0,I0,I0,I0,I0,I0,I0,I0,I0],[I0,I0,I0,I0,I0,I0,I0,I0,I0,I0,I0,I0,I0,I0,I0,I0,I0,I0,I0,I0,I0,I0,I0,I0,I0,I0,I0],[I0,I0,I0,I0,I0,I0,I0,I0,I0,I0,I0,I0,I0,I0,I0,I0,I0,I0,I0,I0,I0,I0,I0,I0,I0,I0,I0,I0],[I0,I0,I0,I0,I0,I0,I0,I0,I0,I0,I0,I0,I0,I0,I0,I0,I0,I0,I0,I0,I0,I0,I0,I0,I0,I0,I0,I0,I0],[I0,I0,I0,I0,I0,I0,I0,I0,I0,I0,I0,I0,I0,I0,I0,I0,I0,I0,I0,I0,I0,I0,I0,I0,I0,I0,I0,I0,I0,I0],[O0,I0,I0,I0,I0,I0,I0,I0,I0,I0,I0,I0,I0,I0,I0,I0,I0,I0,I0,I0,I0,I0,I0,I0,I0,I0,I0,I0,I0,I0,I0],[I0,I0,I0,I0,I0,I0,I0,I0,I0,I0,I0,I0,I0,I0,I0,I0,I0,I0,I0,I0,I0,I0,I0,I0,I0,I0,I0,I0,I0,I0,I0,I0],[I0,I0,I0,I0,I0,I0,I0,I0,I0,I0,I0,I0,I0,I0,I0,I0,I0,I0,I0,I0,I0,I0,I0,I0,I0,I0,I0,I0,I0,I0,I0,I0,I0],[I0,I0,I0,I0,I0,I0,I0,I0,I0,I0,I0,I0,I0,I0,I0,I0,I0,I0,I0,I0,I0,I0,I0,I0,I0,I0,I0,I0,I0,I0,I0,I0,I0,I0],[I0,I0,I0,I0,I0,I0,I0,I0,I0,I0,I0,I0,I0,I0,I0,I0,I0,I0,I0,I0,I0,I0,I0,I0,I0,I0,I0,I0,I0,I0,I0,I0,I0,I0,I0],[I0,I0,I0,I0,I0,I0,I0,I0,I0,I0,I0,I0,I0,I0,I0,I0,I0,I0,I0,I0,I0,I0,I0,I0,I0,I0,I0,I0,I0,I0,I0,I0,I0,I0,I0,I0],[I0,I0,I0,I0,I0,I0,I0,I0,I0,I0,I0,I0,I0,I0,I0,I0,I0,I0,I0,I0,I0,I0,I0,I0,I0,I0,I0,I0,I0,I0,I0,I0,I0,I0,I0,I0,I0],[I0,I0,I0,I0,I0,I0,I0,I0,I0,I0,I0,I0,I0,I0,I0,I0,I0,I0,I0,I0,I0,I0,I0,I0,I0,I0,I0,I0,I0,I0,I0,I0,I0,I0,I0,I0,I0,I0],[I0,I0,I0,I0,I0,I0,I0,I0,I0,I0,I0,I0,I0,I0,I0,I0,I0,I0,I0,I0,I0,I0,I0,I0,I0,I0,I0,I0,I0,I0,I0,I0,I0,I0,I0,I0,I0,I0,I0],[I0,I0,I0,I0,I0,I0,I0,I0,I0,I0,I0,I0,I0,I0,I0,I0,I0,I0,I0,I0,I0,I0,I0,I0,I0,I0,I0,I0,I0,I0,I0,I0,I0,I0,I0,I0,I0,I0,I0,I0],[I0,I0,I0,I0,I0,I0,I0,I0,I0,I0,I0,I0,I0,I0,I0,I0,I0,I0,I0,I0,I0,I0,I0,I0,I0,I0,I0,I0,I0,I0,I0,I0,I0,I0,I0,I0,I0,I0,I0,I0,I0],[I0,I0,I0,I0,I0,I0,I0,I0,I0,I0,I0,I0,I0,I0,I0,I0,I0,I0,I0,I0,I0,I0,I0,I0,I0,I0,I0,I0,I0,I0,I0,I0,I0,I0,I0,I0,I0,I0,I0,I0,I0,I0],[I0,I0,I0,I0,I0,I0,I0,I0,I0,I0,I0,I0,I0,I0,I0,I0,I0,I0,I0,I0,I0,I0,I0,I0,I0,I0,I0,I0,I0,I0,I0,I0,I0,I0,I0,I0,I0,I0,I0,I0,I0,I0,I0],[I0,I0,I0,I0,I0,I0,I0,I0,I0,I0,I0,I0,I0,I0,I0,I0,I0,I0,I0,I0,I0,I0,I0,I0,I0,I0,I0,I0,I0,I0,I0,I0,I0,I0,I0,I0,I0,I0,I0,I0,I0,I0,I0,I0],[I0,I0,I0,I0,I0,I0,I0,I0,I0,I0,I0,I0,I0,I0,I0,I0,I0,I0,I0,I0,I0,I0,I0,I0,I0,I0,I0,I0,I0,I0,I0,I0,I0,I0,I0,I0,I0,I0,I0,I0,I0,I0,I0,I0,I0],[I0,I0,I0,I0,I0,I0,I0,I0,I0,I0,I0,I0,I0,I0,I0,I0,I0,I0,I0,I0,I0,I0,I0,I0,I0,I0,I0,I0,I0,I0,I0,I0,I0,I0,I0,I0,I0,I0,I0,I0,I0,I0,I0,I0,I0,I0],[I0,I0,I0,I0,I0,I0,I0,I0,I0,I0,I0,I0,I0,I0,I0,I0,I0,I0,I0,I0,I0,I0,I0,I0,I0,I0,I0,I0,I0,I0,I0,I0,I0,I0,I0,I0,I0,I0,I0,I0,I0,I0,I0,I0,I0,I0,I0],[I0,I0,I0,I0,I0,I0,I0,I0,I0,I0,I0,I0,I0,I0,I0,I0,I0,I0,I0,I0,I0,I0,I0,I0,I0,I0,I0,I0,I0,I0,I0,I0,I0,I0,I0,I0,I0,I0,I0,I0,I0,I0,I0,I0,I0,I0,I0,I0],[I0,I0,I0,I0,I0,I0,I0,I0,I0,I0,I0,I0,I0,I0,I0,I0,I0,I0,I0,I0,I0,I0,I0,I0,I0,I0,I0,I0,I0,I0,I0,I0,I0,I0,I0,I0,I0,I0,I0,I0,I0,I0,I0,I0,I0,I0,I0,I0,I0],[I0,I0,I0,I0,I0,I0,I0,I0,I0,I0,I0,I0,I0,I0,I0,I0,I0,I0,I0,I0,I0,I0,I0,I0,I0,I0,I0,I0,I0,I0,I0,I0,I0,I0,I0,I0,I0,I0,I0,I0,I0,I0,I0,I0,I0,I0,I0,I0,I0,I0],[I0,I0,I0,I0,I0,I0,I0,I0,I0,I0,I0,I0,I0,I0,I0,I0,I0,I0,I0,I0,I0,I0,I0,I0,I0,I0,I0,I0,I0,I0,I0,I0,I0,I0,I0,I0,I0,I0,I0,I0,I0,I0,I0,I0,I0,I0,I0,I0,I0,I0,I0],[I0,I0,I0,I0,I0,I0,I0,I0,I0,I0,I0,I0,I0,I0,I0,I0,I0,I0,I0,I0,I0,I0,I0,I0,I0,I0,I0,I0,I0,I0,I0,I0,I0,I0,I0,I0,I0,I0,I0,I0,I0,I0,I0,I0,I0,I0,I0,I0,I0,I0,I0,I0],[I0,I0,I0,I0,I0,I0,I0,I0,I0,I0,I0,I0,I0,I0,I0,I0,I0,I0,I0,I0,I0,I0,I0,I0,I0,I0,I0,I0,I0,I0,I0,I0,I0,I0,I0,I0,I0,I0,I0,I0,I0,I0,I0,I0,I0,I0,I0,I0,I0,I0,I0,I0,I0],[I0,I0,I0,I0,I0,I0,I0,I0,I0,I0,I0,I0,I0,I0,I0,I0,I0,I0,I0,I0,I0,I0,I0,I0,I0,I0,I0,I0,I0,I0,I0,I0,I0,I0,I0,I0,I0,I0,I0,I0,I0,I0,I0,I0,I0,I0,I0,I0,I0,I0,I0,I0,I0,I0],[I0,I0,I0,I0,I0,I0,I0,I0,I0,I0,I0,I0,I0,I0,I0,I0,I0,I0,I0,I0,I0,I0,I0,I0,I0,I0,I0,I0,I0,I0,I0,I0,I0,I0,I0,I0,I0,I0,I0,I0,I0,I0,I0,I0,I0,I0,I0,I0,I0,I0,I0,I0,I0,I0,I0],[O0,I0,I0,I0,I0,I0,I0,I0,I0,I0,I0,I0,I0,I0,I0,I0,I0,I0,I0,I0,I0,I0,I0,I0,I0,I0,I0,I0,I0,I0,I0,I0,I0,I0,I0,I0,I0,I0,I0,I0,I0,I0,I0,I0,I0,I0,I0,I0,I0,I0,I0,I0,I0,I0,I0,I0],[O0,O0,I0,I0,I0,I0,I0,I0,I0,I0,I0,I0,I0,I0,I0,I0,I0,I0,I0,I0,I0,I0,I0,I0,I0,I0,I0,I0,I0,I0,I0,I0,I0,I0,I0,I0,I0,I0,I0,I0,I0,I0,I0,I0,I0,I0,I0,I0,I0,I0,I0,I0,I0,I0,I0,I0,I0],[O0,O0,O0,I0,I0,I0,I0,I0,I0,I0,I0,I0,I0,I0,I0,I0,I0,I0,I0,I0,I0,I0,I0,I0,I0,I0,I0,I0,I0,I0,I0,I0,I0,I0,I0,I0,I0,I0,I0,I0,I0,I0,I0,I0,I0,I0,I0,I0,I0,I0,I0,I0,I0,I0,I0,I0,I0,I0],[I0,I0,I0,O0,I0,I0,I0,I0,I0,I0,I0,I0,I0,I0,I0,I0,I0,I0,I0,I0,I0,I0,I0,I0,I0,I0,I0,I0,I0,I0,I0,I0,I0,I0,I0,I0,I0,I0,I0,I0,I0,I0,I0,I0,I0,I0,I0,I0,I0,I0,I0,I0,I0,I0,I0,I0,I0,I0,I0],[I0,I0,I0,I0,I0,I0,I0,I0,I0,I0,I0,I0,I0,I0,I0,I0,I0,I0,I0,I0,I0,I0,I0,I0,I0,I0,I0,I0,I0,I0,I0,I0,I0,I0,I0,I0,I0,I0,I0,I0,I0,I0,I0,I0,I0,I0,I0,I0,I0,I0,I0,I0,I0,I0,I0,I0,I0,I0,I0,I0],[I0,I0,I0,I0,I0,I0,I0,I0,I0,I0,I0,I0,I0,I0,I0,I0,I0,I0,I0,I0,I0,I0,I0,I0,I0,I0,I0,I0,I0,I0,I0,I0,I0,I0,I0,I0,I0,I0,I0,I0,I0,I0,I0,I0,I0,I0,I0,I0,I0,I0,I0,I0,I0,I0,I0,I0,I0,I0,I0,I0,I0],[I0,I0,I0,I0,I0,I0,I0,I0,I0,I0,I0,I0,I0,I0,I0,I0,I0,I0,I0,I0,I0,I0,I0,I0,I0,I0,I0,I0,I0,I0,I0,I0,I0,I0,I0,I0,I0,I0,I0,I0,I0,I0,I0,I0,I0,I0,I0,I0,I0,I0,I0,I0,I0,I0,I0,I0,I0,I0,I0,I0,I0,I0],[I0,I0,I0,I0,I0,I0,I0,I0,I0,I0,I0,I0,I0,I0,I0,I0,I0,I0,I0,I0,I0,I0,I0,I0,I0,I0,I0,I0,I0,I0,I0,I0,I0,I0,I0,I0,I0,I0,I0,I0,I0,I0,I0,I0,I0,I0,I0,I0,I0,I0,I0,I0,I0,I0,I0,I0,I0,I0,I0,I0,I0,I0,I0],[I0,I0,I0,I0,I0,I0,I0,I0,I0,I0,I0,I0,I0,I0,I0,I0,I0,I0,I0,I0,I0,I0,I0,I0,I0,I0,I0,I0,I0,I0,I0,I0,I0,I0,I0,I0,I0,I0,I0,I0,I0,I0,I0,I0,I0,I0,I0,I0,I0,I0,I0,I0,I0,I0,I0,I0,I0,I0,I0,I0,I0,I0,I0,I0],[I0,I0,I0,I0,I0,I0,I0,I0,I0,I0,I0,I0,I0,I0,I0,I0,I0,I0,I0,I0,I0,I0,I0,I0,I0,I0,I0,I0,I0,I0,I0,I0,I0,I0,I0,I0,I0,I0,I0,I0,I0,I0,I0,I0,I0,I0,I0,I0,I0,I0,I0,I0,I0,I0,I0,I0,I0,I0,I0,I0,I0,I0,I0,I0,I0],[I0,I0,I0,I0,I0,I0,I0,I0,I0,I0,I0,I0,I0,I0,I0,I0,I0,I0,I0,I0,I0,I0,I0,I0,I0,I0,I0,I0,I0,I0,I0,I0,I0,I0,I0,I0,I0,I0,I0,I0,I0,I0,I0,I0,I0,I0,I0,I0,I0,I0,I0,I0,I0,I0,I0,I0,I0,I0,I0,I0,I0,I0,I0,I0,I0,I0],[I0,I0,I0,I0,I0,I0,I0,I0,I0,I0,I0,I0,I0,I0,I0,I0,I0,I0,I0,I0,I0,I0,I0,I0,I0,I0,I0,I0,I0,I0,I0,I0,I0,I0,I0,I0,I0,I0,I0,I0,I0,I0,I0,I0,I0,I0,I0,I0,I0,I0,I0,I0,I0,I0,I0,I0,I0,I0,I0,I0,I0,I0,I0,I0,I0,I0,I0],[I0,I0,I0,I0,I0,I0,I0,I0,I0,I0,I0,I0,I0,I0,I0,I0,I0,I0,I0,I0,I0,I0,I0,I0,I0,I0,I0,I0,I0,I0,I0,I0,I0,I0,I0,I0,I0,I0,I0,I0,I0,I0,I0,I0,I0,I0,I0,I0,I0,I0,I0,I0,I0,I0,I0,I0,I0,I0,I0,I0,I0,I0,I0,I0,I0,I0,I0,I0],[I0,I0,I0,I0,I0,I0,I0,I0,I0,I0,I0,I0,I0,I0,I0,I0,I0,I0,I0,I0,I0,I0,I0,I0,I0,I0,I0,I0,I0,I0,I0,I0,I0,I0,I0,I0,I0,I0,I0,I0,I0,I0,I0,I0,I0,I0,I0,I0,I0,I0,I0,I0,I0,I0,I0,I0,I0,I0,I0,I0,I0,I0,I0,I0,I0,I0,I0,I0,I0],[I0,I0,I0,I0,I0,I0,I0,I0,I0,I0,I0,I0,I0,I0,I0,I0,I0,I0,I0,I0,I0,I0,I0,I0,I0,I0,I0,I0,I0,I0,I0,I0,I0,I0,I0,I0,I0,I0,I0,I0,I0,I0,I0,I0,I0,I0,I0,I0,I0,I0,I0,I0,I0,I0,I0,I0,I0,I0,I0,I0,I0,I0,I0,I0,I0,I0,I0,I0,I0,I0],[I0,I0,I0,I0,I0,I0,I0,I0,I0,I0,I0,I0,I0,I0,I0,I0,I0,I0,I0,I0,I0,I0,I0,I0,I0,I0,I0,I0,I0,I0,I0,I0,I0,I0,I0,I0,I0,I0,I0,I0,I0,I0,I0,I0,I0,I0,I0,I0,I0,I0,I0,I0,I0,I0,I0,I0,I0,I0,I0,I0,I0,I0,I0,I0,I0,I0,I0,I0,I0,I0,I0],[O0,I0,I0,I0,I0,I0,I0,I0,I0,I0,I0,I0,I0,I0,I0,I0,I0,I0,I0,I0,I0,I0,I0,I0,I0,I0,I0,I0,I0,I0,I0,I0,I0,I0,I0,I0,I0,I0,I0,I0,I0,I0,I0,I0,I0,I0,I0,I0,I0,I0,I0,I0,I0,I0,I0,I0,I0,I0,I0,I0,I0,I0,I0,I0,I0,I0,I0,I0,I0,I0,I0,I0],[I0,I0,I0,I0,I0,I0,I0,I0,I0,I0,I0,I0,I0,I0,I0,I0,I0,I0,I0,I0,I0,I0,I0,I0,I0,I0,I0,I0,I0,I0,I0,I0,I0,I0,I0,I0,I0,I0,I0,I0,I0,I0,I0,I0,I0,I0,I0,I0,I0,I0,I0,I0,I0,I0,I0,I0,I0,I0,I0,I0,I0,I0,I0,I0,I0,I0,I0,I0,I0,I0,I0,I0,I0],[I0,I0,I0,I0,I0,I0,I0,I0,I0,I0,I0,I0,I0,I0,I0,I0,I0,I0,I0,I0,I0,I0,I0,I0,I0,I0,I0,I0,I0,I0,I0,I0,I0,I0,I0,I0,I0,I0,I0,I0,I0,I0,I0,I0,I0,I0,I0,I0,I0,I0,I0,I0,I0,I0,I0,I0,I0,I0,I0,I0,I0,I0,I0,I0,I0,I0,I0,I0,I0,I0,I0,I0,I0,I0],[I0,I0,I0,I0,I0,I0,I0,I0,I0,I0,I0,I0,I0,I0,I0,I0,I0,I0,I0,I0,I0,I0,I0,I0,I0,I0,I0,I0,I0,I0,I0,I0,I0,I0,I0,I0,I0,I0,I0,I0,I0,I0,I0,I0,I0,I0,I0,I0,I0,I0,I0,I0,I0,I0,I0,I0,I0,I0,I0,I0,I0,I0,I0,I0,I0,I0,I0,I0,I0,I0,I0,I0,I0,I0,I0],[I0,I0,I0,I0,I0,I0,I0,I0,I0,I0,I0,I0,I0,I0,I0,I0,I0,I0,I0,I0,I0,I0,I0,I0,I0,I0,I0,I0,I0,I0,I0,I0,I0,I0,I0,I0,I0,I0,I0,I0,I0,I0,I0,I0,I0,I0,I0,I0,I0,I0,I0,I0,I0,I0,I0,I0,I0,I0,I0,I0,I0,I0,I0,I0,I0,I0,I0,I0,I0,I0,I0,I0,I0,I0,I0,I0],[I0,I0,I0,I0,I0,I0,I0,I0,I0,I0,I0,I0,I0,I0,I0,I0,I0,I0,I0,I0,I0,I0,I0,I0,I0,I0,I0,I0,I0,I0,I0,I0,I0,I0,I0,I0,I0,I0,I0,I0,I0,I0,I0,I0,I0,I0,I0,I0,I0,I0,I0,I0,I0,I0,I0,I0,I0,I0,I0,I0,I0,I0,I0,I0,I0,I0,I0,I0,I0,I0,I0,I0,I0,I0,I0,I0,I0],[I0,I0,I0,I0,I0,I0,I0,I0,I0,I0,I0,I0,I0,I0,I0,I0,I0,I0,I0,I0,I0,I0,I0,I0,I0,I0,I0,I0,I0,I0,I0,I0,I0,I0,I0,I0,I0,I0,I0,I0,I0,I0,I0,I0,I0,I0,I0,I0,I0,I0,I0,I0,I0,I0,I0,I0,I0,I0,I0,I0,I0,I0,I0,I0,I0,I0,I0,I0,I0,I0,I0,I0,I0,I0,I0,I0,I0,I0],[I0,I0,I0,I0,I0,I0,I0,I0,I0,I0,I0,I0,I0,I0,I0,I0,I0,I0,I0,I0,I0,I0,I0,I0,I0,I0,I0,I0,I0,I0,I0,I0,I0,I0,I0,I0,I0,I0,I0,I0,I0,I0,I0,I0,I0,I0,I0,I0,I0,I0,I0,I0,I0,I0,I0,I0,I0,I0,I0,I0,I0,I0,I0,I0,I0,I0,I0,I0,I0,I0,I0,I0,I0,I0,I0,I0,I0,I0,I0],[I0,I0,I0,I0,I0,I0,I0,I0,I0,I0,I0,I0,I0,I0,I0,I0,I0,I0,I0,I0,I0,I0,I0,I0,I0,I0,I0,I0,I0,I0,I0,I0,I0,I0,I0,I0,I0,I0,I0,I0,I0,I0,I0,I0,I0,I0,I0,I0,I0,I0,I0,I0,I0,I0,I0,I0,I0,I0,I0,I0,I0,I0,I0,I0,I0,I0,I0,I0,I0,I0,I0,I0,I0,I0,I0,I0,I0,I0,I0,I0],[I0,I0,I0,I0,I0,I0,I0,I0,I0,I0,I0,I0,I0,I0,I0,I0,I0,I0,I0,I0,I0,I0,I0,I0,I0,I0,I0,I0,I0,I0,I0,I0,I0,I0,I0,I0,I0,I0,I0,I0,I0,I0,I0,I0,I0,I0,I0,I0,I0,I0,I0,I0,I0,I0,I0,I0,I0,I0,I0,I0,I0,I0,I0,I0,I0,I0,I0,I0,I0,I0,I0,I0,I0,I0,I0,I0,I0,I0,I0,I0,I0],[I0,I0,I0,I0,I0,I0,I0,I0,I0,I0,I0,I0,I0,I0,I0,I0,I0,I0,I0,I0,I0,I0,I0,I0,I0,I0,I0,I0,I0,I0,I0,I0,I0,I0,I0,I0,I0,I0,I0,I0,I0,I0,I0,I0,I0,I0,I0,I0,I0,I0,I0,I0,I0,I0,I0,I0,I0,I0,I0,I0,I0,I0,I0,I0,I0,I0,I0,I0,I0,I0,I0,I0,I0,I0,I0,I0,I0,I0,I0,I0,I0,I0],[I0,I0,I0,I0,I0,I0,I0,I0,I0,I0,I0,I0,I0,I0,I0,I0,I0,I0,I0,I0,I0,I0,I0,I0,I0,I0,I0,I0,I0,I0,I0,I0,I0,I0,I0,I0,I0,I0,I0,I0,I0,I0,I0,I0,I0,I0,I0,I0,I0,I0,I0,I0,I0,I0,I0,I0,I0,I0,I0,I0,I0,I0,I0,I0,I0,I0,I0,I0,I0,I0,I0,I0,I0,I0,I0,I0,I0,I0,I0,I0,I0,I0,I0],[I0,I0,I0,I0,I0,I0,I0,I0,I0,I0,I0,I0,I0,I0,I0,I0,I0,I0,I0,I0,I0,I0,I0,I0,I0,I0,I0,I0,I0,I0,I0,I0,I0,I0,I0,I0,I0,I0,I0,I0,I0,I0,I0,I0,I0,I0,I0,I0,I0,I0,I0,I0,I0,I0,I0,I0,I0,I0,I0,I0,I0,I0,I0,I0,I0,I0,I0,I0,I0,I0,I0,I0,I0,I0,I0,I0,I0,I0,I0,I0,I0,I0,I0,I0],[I0,I0,I0,I0,I0,I0,I0,I0,I0,I0,I0,I0,I0,I0,I0,I0,I0,I0,I0,I0,I0,I0,I0,I0,I0,I0,I0,I0,I0,I0,I0,I0,I0,I0,I0,I0,I0,I0,I0,I0,I0,I0,I0,I0,I0,I0,I0,I0,I0,I0,I0,I0,I0,I0,I0,I0,I0,I0,I0,I0,I0,I0,I0,I0,I0,I0,I0,I0,I0,I0,I0,I0,I0,I0,I0,I0,I0,I0,I0,I0,I0,I0,I0,I0,I0],[I0,I0,I0,I0,I0,I0,I0,I0,I0,I0,I0,I0,I0,I0,I0,I0,I0,I0,I0,I0,I0,I0,I0,I0,I0,I0,I0,I0,I0,I0,I0,I0,I0,I0,I0,I0,I0,I0,I0,I0,I0,I0,I0,I0,I0,I0,I0,I0,I0,I0,I0,I0,I0,I0,I0,I0,I0,I0,I0,I0,I0,I0,I0,I0,I0,I0,I0,I0,I0,I0,I0,I0,I0,I0,I0,I0,I0,I0,I0,I0,I0,I0,I0,I0,I0,I0],[I0,I0,I0,I0,I0,I0,I0,I0,I0,I0,I0,I0,I0,I0,I0,I0,I0,I0,I0,I0,I0,I0,I0,I0,I0,I0,I0,I0,I0,I0,I0,I0,I0,I0,I0,I0,I0,I0,I0,I0,I0,I0,I0,I0,I0,I0,I0,I0,I0,I0,I0,I0,I0,I0,I0,I0,I0,I0,I0,I0,I0,I0,I0,I0,I0,I0,I0,I0,I0,I0,I0,I0,I0,I0,I0,I0,I0,I0,I0,I0,I0,I0,I0,I0,I0,I0,I0],[I0,I0,I0,I0,I0,I0,I0,I0,I0,I0,I0,I0,I0,I0,I0,I0,I0,I0,I0,I0,I0,I0,I0,I0,I0,I0,I0,I0,I0,I0,I0,I0,I0,I0,I0,I0,I0,I0,I0,I0,I0,I0,I0,I0,I0,I0,I0,I0,I0,I0,I0,I0,I0,I0,I0,I0,I0,I0,I0,I0,I0,I0,I0,I0,I0,I0,I0,I0,I0,I0,I0,I0,I0,I0,I0,I0,I0,I0,I0,I0,I0,I0,I0,I0,I0,I0,I0,I0],[I0,I0,I0,I0,I0,I0,I0,I0,I0,I0,I0,I0,I0,I0,I0,I0,I0,I0,I0,I0,I0,I0,I0,I0,I0,I0,I0,I0,I0,I0,I0,I0,I0,I0,I0,I0,I0,I0,I0,I0,I0,I0,I0,I0,I0,I0,I0,I0,I0,I0,I0,I0,I0,I0,I0,I0,I0,I0,I0,I0,I0,I0,I0,I0,I0,I0,I0,I0,I0,I0,I0,I0,I0,I0,I0,I0,I0,I0,I0,I0,I0,I0,I0,I0,I0,I0,I0,I0,I0],[I0,I0,I0,I0,I0,I0,I0,I0,I0,I0,I0,I0,I0,I0,I0,I0,I0,I0,I0,I0,I0,I0,I0,I0,I0,I0,I0,I0,I0,I0,I0,I0,I0,I0,I0,I0,I0,I0,I0,I0,I0,I0,I0,I0,I0,I0,I0,I0,I0,I0,I0,I0,I0,I0,I0,I0,I0,I0,I0,I0,I0,I0,I0,I0,I0,I0,I0,I0,I0,I0,I0,I0,I0,I0,I0,I0,I0,I0,I0,I0,I0,I0,I0,I0,I0,I0,I0,I0,I0,I0],[O0,O0,O0,O0,O0,I0,I0,I0,I0,I0,I0,I0,I0,I0,I0,I0,I0,I0,I0,I0,I0,I0,I0,I0,I0,I0,I0,I0,I0,I0,I0,I0,I0,I0,I0,I0,I0,I0,I0,I0,I0,I0,I0,I0,I0,I0,I0,I0,I0,I0,I0,I0,I0,I0,I0,I0,I0,I0,I0,I0,I0,I0,I0,I0,I0,I0,I0,I0,I0,I0,I0,I0,I0,I0,I0,I0,I0,I0,I0,I0,I0,I0,I0,I0,I0,I0,I0,I0,I0,I0,I0],[I0,I0,I0,I0,I0,I0,I0,I0,I0,I0,I0,I0,I0,I0,I0,I0,I0,I0,I0,I0,I0,I0,I0,I0,I0,I0,I0,I0,I0,I0,I0,I0,I0,I0,I0,I0,I0,I0,I0,I0,I0,I0,I0,I0,I0,I0,I0,I0,I0,I0,I0,I0,I0,I0,I0,I0,I0,I0,I0,I0,I0,I0,I0,I0,I0,I0,I0,I0,I0,I0,I0,I0,I0,I0,I0,I0,I0,I0,I0,I0,I0,I0,I0,I0,I0,I0,I0,I0,I0,I0,I0,I0],[I0,I0,I0,I0,I0,I0,I0,I0,I0,I0,I0,I0,I0,I0,I0,I0,I0,I0,I0,I0,I0,I0,I0,I0,I0,I0,I0,I0,I0,I0,I0,I0,I0,I0,I0,I0,I0,I0,I0,I0,I0,I0,I0,I0,I0,I0,I0,I0,I0,I0,I0,I0,I0,I0,I0,I0,I0,I0,I0,I0,I0,I0,I0,I0,I0,I0,I0,I0,I0,I0,I0,I0,I0,I0,I0,I0,I0,I0,I0,I0,I0,I0,I0,I0,I0,I0,I0,I0,I0,I0,I0,I0,I0],[I0,I0,I0,I0,I0,I0,I0,I0,I0,I0,I0,I0,I0,I0,I0,I0,I0,I0,I0,I0,I0,I0,I0,I0,I0,I0,I0,I0,I0,I0,I0,I0,I0,I0,I0,I0,I0,I0,I0,I0,I0,I0,I0,I0,I0,I0,I0,I0,I0,I0,I0,I0,I0,I0,I0,I0,I0,I0,I0,I0,I0,I0,I0,I0,I0,I0,I0,I0,I0,I0,I0,I0,I0,I0,I0,I0,I0,I0,I0,I0,I0,I0,I0,I0,I0,I0,I0,I0,I0,I0,I0,I0,I0,I0]] zRW zRW zRW zRW zRW ?_)
 (repeat' (first|(((with_reducible refine zCT ?_ ?_);(· exact rfl);refine ⟨_,fun G=>zRX,?_⟩);first|refine zX _ (fun _=>zAM rfl rfl) (fun _=>rfl) rfl zRR ?_|refine zX _ (fun _=>zy rfl rfl zRe) (fun _=>rfl) rfl zRR ?_|(refine zAU rfl ?_;refine zX _ (fun _=>zAJ rfl rfl) (fun _=>rfl) rfl zRR ?_)|refine zX _ (fun _=>zCA rfl rfl rfl) (fun _=>rfl) rfl zRR ?_|refine zX _ (fun _=>zBe rfl rfl) (fun _=>rfl) rfl zRR ?_|(refine c_cmp rfl rfl (fun _=>rfl) rfl (fun _=>rfl) (fun _=>rfl) (fun h=>?_) (fun h=>?_)<;>(dsimp only [cmpP] at h;(try (exfalso;omega))))|refine zBM _ rfl (fun _=>rfl) rfl (fun _=>rfl) (fun _=>rfl) (fun _ _ _ q=>zDf _ _ _) zRR ?_|(refine c_ret rfl (fun _=>rfl) rfl (fun _=>rfl) (fun _=>rfl) (fun _ _ _ _=>zLi _) ?_)|refine zBM _ rfl (fun _=>rfl) rfl (fun _=>rfl) (fun _=>rfl) (fun _ _ _ q=>zMR [1,2,1] _ _ _ _ _ (zA5 q.own (Below.refl _ _)) (zHW (enc:=encI) [1,2,1] zRe _ q.below q.own) zRs) zRR ?_|refine zBM _ rfl (fun _=>rfl) rfl (fun _=>rfl) (fun _=>rfl) (fun _ _ _ q=>zMR [0,1] _ _ _ _ _ (zA5 q.own (Below.refl _ _)) (zHW (enc:=encI) [0,1] zRe _ q.below q.own) zRs) zRR ?_|refine zBM _ rfl (fun _=>rfl) rfl (fun _=>rfl) (fun _=>rfl) (fun _ _ _ q=>zOY zGs _ _ _ _ _ (zBd q.own zRT) (zBd q.own zRT) zRs zRs) zRR ?_|refine zX _ (fun _=>e_eqSp rfl rfl rfl) (fun _=>rfl) rfl zRm ?_|refine zX _ (fun _=>zRD rfl rfl zRe) (fun _=>rfl) rfl zRm ?_|refine zBM _ rfl (fun _=>rfl) rfl (fun _=>rfl) (fun _=>rfl) (fun _ _ _ q=>zGz [(2,0),(2,1),(2,2)] _ _ _ _ _ (zA5 q.own (Below.refl _ _)) (zHW (enc:=zAW) [(2,0),(2,1),(2,2)] zRe _ q.below q.own) zRs) zRR ?_|refine zX _ (fun _=>zAO (I:=0) rfl rfl rfl rfl zRs) (fun _=>rfl) rfl zRm ?_|refine zX _ (fun _=>zDR rfl rfl) (fun _=>rfl) rfl zRR ?_|refine zBu rfl (fun _=>rfl) rfl (fun _=>rfl) zRe (by exact fun _=>rfl) zRR ?_)|(with_reducible refine zH3 ?_)))
 all_goals
  (intro G;simp only [regsT,zAG,zBZ,ini,List.nil_append,List.cons_append])
  (repeat' (first|(with_reducible first|refine zA ?_|refine za ?_)))
  exact zU zRZ () trivial rfl (fun _ _=>Own.nil _ _)
end Go.Proofs.YtdigopgncfhiaaaGreatDoor.Two
namespace Go.Proofs.YtdigopgncfhiaaaGreatDoor
open Go.RowKit
theorem zDh (w:World) (hG:InC w 0 0 zCS):Gv Tryz.prog 15 [] w (.bool true):=Two.zO9 w hG
end Go.Proofs.YtdigopgncfhiaaaGreatDoor
namespace Go.Proofs.YtdigopgncfhiaaaGreatDoor
open Go.RowKit
set_option maxRecDepth 20000
theorem errI_of {c:Cov} (hv:valid c.t=true) (h:zBm c):zAp c=0:=by
 have:zET c=true:=zCt.2 ⟨h.beds,h.hours,List.all_eq_true.2 fun z hz=>h.bed z hz,List.all_eq_true.2 fun z hz=>h.hour z hz,h.wear,h.layer,h.rate,h.limit,h.base⟩
 unfold zAp
 rw [if_pos hv,if_pos this]
theorem errI_val {c:Cov} (h:zAp c=0):valid c.t=true:=by
 cases hv:valid c.t with
 | true=>rfl
 | false=>unfold zAp at h;rw [hv] at h;simp at h
theorem zDs {c:Cov} {pl:List Sli} (h:zAp c=0) (hp:zA2 c pl=true):zCC c pl=0:=by unfold zCC;rw [if_pos h,hp];rfl
end Go.Proofs.YtdigopgncfhiaaaGreatDoor
