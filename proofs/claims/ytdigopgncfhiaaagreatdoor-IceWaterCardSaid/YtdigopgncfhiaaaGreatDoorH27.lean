/- H27 -/
import Derived.Test.YtdigopgncfhiaaaGreatDoorH26
import Derived.Test.YtdigopgncfhiaaaGreatDoorH23
import Derived.Test.YtdigopgncfhiaaaGreatDoorH12
import Derived.Test.YtdigopgncfhiaaaGreatDoorH24
import Derived.Test.YtdigopgncfhiaaaGreatDoorH1
set_option linter.unusedSimpArgs false
set_option linter.unusedVariables false
namespace Go.Proofs.YtdigopgncfhiaaaGreatDoor
variable {ro : Option Nat}
open Go.RowKit
set_option maxRecDepth 100000
section
variable {P : Program} {w0:World} {n:Nat} {d:List Deferred} {R:List (Nat × Value)} {H:List Ent} {o:Oper}
theorem zQy {T1:TypeId} {ps:Array (Nat × Operand)} {s:Nat} {z cs:List Value} {qs:List (Nat × Value)} (hop:o.op = .build T1 ps) [i1:TyBA P T1 s z] (hp:evp R ps.toList=some qs) (hf:fillL (fun i=>some (i * s,s)) z qs=some cs):Ev P w0 n d R H o (.agg cs.toArray):=fun a w q=>by
 unfold execOp;rw [hop]
 have e1:(ps.map fun (i,x)=>(i,a.eval x)).toList=qs:=by rw [Array.toList_map];exact q.evp hp
 have e2:P.built T1 (ps.map fun (i,x)=>(i,a.eval x)).toList=some cs.toArray:=by
  rw [i1.bui,e1]
  exact fill_eq _ qs z cs hf
 simp only [Sem.run_bind,run_build w T1 _ _ e2,Result.andThen_ok,Sem.run_pure]
end
theorem icoverW (k:Int) (w:World):Ret Tryz.prog 44 [.int .i64 k] w (fun z:Wit=>zAS (zBf k) (some ⟨z.g,0,none⟩) 3 z.A 3 (some ⟨z.m,0,none⟩) 3) (fun z=>[.sl zAK 9 (some ⟨z.g,0,none⟩) (zBf k).t,.sl zAw 3 z.A (zBf k).beds,.sl zAD 5 (some ⟨z.m,0,none⟩) (zBf k).hours]) (fun _=>True):=by
 (refine zJ (n:=22) Tryz.func44 rfl rfl rfl ?_)
 (repeat' (first|((with_reducible refine zF ?_);first|refine zE rfl rfl rfl ?_|refine zY rfl rfl rfl rfl (fun _ _ q=>zEh _ _ _) ?_|(refine zAW rfl rfl rfl rfl (fun _ _ q=>irun_any _) ?_;rintro gr -;dsimp only [List.cons_append,List.nil_append])|(refine za rfl rfl rfl rfl rfl ?_;refine ⟨rfl,by first|decide|exact Nat.le_of_ble_eq_true rfl|(simp;omega),_,rfl,?_⟩)|(refine zh rfl rfl (fun b=>?_))|(refine zAo rfl rfl rfl ?_;refine ⟨_,rfl,?_⟩)|(refine zt rfl rfl rfl ?_;refine ⟨rfl,_,rfl,fun b=>?_⟩))|(with_reducible first|refine zH ?_|refine zB ?_|refine zD ?_|refine zA ?_|refine zW ?_)))
 rename_i b2 bb
 exact zR (by (exact zf.cons (by exact res1c rfl (by exact rfl)) zf.nil)) ⟨gr,some ⟨bb,0,none⟩,b⟩ trivial rfl (fun _ h=>(Own.zID (enc:=zAw) (xs:=(zBf k).beds) (b:=bb) (Take.there _ (Take.there _ (Take.here _ _))) (Own.zID (enc:=zAD) (xs:=(zBf k).hours) (b:=b) (Take.there _ (Take.here _ _)) h)).sub (by (repeat constructor)))
theorem zLI (w:World):Ret Tryz.prog 45 [] w (fun z:Wit=>.slice z.A 3 3) (fun z=>[.zHD z.g z.m z.A zGS]) (fun _=>True) :=
 (zL7 w).conv fun z _=>⟨⟨z.1,z.2.2,z.2.1⟩,trivial,rfl,fun _ h=>h⟩
theorem zKC (k:Int):Small (zBf k):=⟨fun s hs=>by
 simp only [zBf,runE,List.mem_cons,List.not_mem_nil,or_false] at hs
 rcases hs with rfl|rfl|rfl<;>decide,by simp [zBf,runE],by simp [zBf],by simp [zBf]⟩
theorem evi_need : needT (zBf 2)=([1,2,1],0):=by decide +kernel
theorem evi_plan : zEH (zBf 2)=(zGS,0):=by decide +kernel
theorem zQt : zE5 (zBf 2) (zBH zGS) 1 2=(⟨294,328⟩,0):=by decide +kernel
theorem zGQ : zCD (zBf 2) (zBH zGS)=⟨33000,34500⟩∧zCB (zBf 2) (zBH zGS)=0∧zJN (zBf 2) (zBH zGS)=2:=by decide +kernel
theorem evi_most : zHG (zBf 2) (zBH zGS) 2=(15,0):=by decide +kernel
theorem zNh : zG6 (zBf 2) (zBH [[],[],[]])=[(2,0),(2,1),(2,2)]∧zCB (zBf 2) (zBH [[],[],[]])=0:=by decide +kernel
theorem zQu : zFc (zBf 1)=(2,[0,1],0):=by decide +kernel
theorem zQv : (zDE (zBf 2) 100 ⟨302,320⟩).2=0∧(zDE (zBf 2) 100 ⟨302,320⟩).1.beds=[⟨⟨302,310⟩,1⟩,⟨⟨290,300⟩,2⟩,⟨⟨300,300⟩,0⟩]:=by decide +kernel
theorem plan_nil {g n:Nat} {base:Nat} {w:World} {H H':List Ent} (h:Own base w H) (ht:Take H (.blk g (List.replicate n (.slice none 0 0))) H'):∃ pl:List Sli,pl.map Sli.xs=(zBH (List.replicate n [])).map Sli.xs∧zBJ w (some ⟨g,0,none⟩) pl:=by
 refine ⟨List.replicate n ⟨none,[],0⟩,by simp [zBH],?_,fun s hs=>?_⟩
 ·have h1:Blk w g (List.replicate n (.slice none 0 0)).toArray:=h.here _ ht.mem
  have e:(List.replicate n (⟨none,[],0⟩:Sli)).flatMap zBC=List.replicate n (.slice none 0 0):=by
   clear h ht h1
   induction n with
   | zero=>rfl
   | succ m ih=>rw [List.replicate_succ,List.flatMap_cons,ih];rfl
  rw [← e] at h1
  exact zHA (fun _=>rfl) h1
 ·obtain rfl:=List.eq_of_mem_replicate hs
  intro i x hx;cases hx
end Go.Proofs.YtdigopgncfhiaaaGreatDoor
namespace Go.Proofs.YtdigopgncfhiaaaGreatDoor.Two
variable {ro : Option Nat}
open Go.RowKit
set_option maxRecDepth 100000
section
variable {S : List (Nat × Nat)} {I:List (Nat × Nat × Nat × List Ent)} {P:Program} {w0:World} {n:Nat} {d:List Deferred} {R R0:List (Nat × Value)} {H H' H0:List Ent} {Q:Exit→Act→World→Prop} {ops:Array Oper} {bs:List (List Bool)} {b:List Bool} {k:Nat} {o:Oper} {rest:List Oper} {T:List Rw} {t:Tmp} {Hk:zAb→List Ent} {x y:Operand} {v:Value}
theorem c_ret {V:Wit→Value} {E:Wit→List Ent} {f:FuncId} {fx:Operand} {xs:Array Operand} {ts:Array TypeId} {vs:zAb→List Value} {cap:Array Value} (hop:o.op = .call ⟨.value fx,xs,ts⟩) (hw:∀ G,want (Rk R0 ops b o T G) ops o=some true) (hd:o.dst=some t) (hf:∀ G,evR (Rk R0 ops b o T G) fx=some (.func (.func f) #[] cap)) (hx:∀ G,evs (Rk R0 ops b o T G) xs.toList=some (vs G)) [ci:zT P f]
  (hc:∀ G a w,Kn w0 n d (Rk R0 ops b o T G) (Hk G) a w→Ret P f (vs G++cap.toList) w V E (fun _=>True)) (h:zAt ro S I P w0 n d ops R0 H0 Q bs (k+1) rest (⟨k,some t,fun G=>(V (G k),E (G k))⟩::T)):CAt ro S I P w0 n d ops R0 H0 Q b bs k o rest T Hk:=by
 refine zDY (f:=fun G=>(V (G k),E (G k))) (fun G G' hG=>by simp only [hG k (.inl rfl)]) (fun G a w q K hK=>?_) (by rw [hd];exact h)
 rw [zA3 q (hw G),if_pos rfl]
 unfold Oper.wp execOp;rw [hop]
 have e1:xs.map a.eval=(vs G).toArray:=by apply Array.ext';simpa using q.evs (hx G)
 have e2:(vs G).toArray++cap=(vs G++cap.toList).toArray:=by apply Array.ext';simp
 simp only [resolve,q.ev (hf G),e1,Deferred.ofValue,Sem.run_bind,Sem.run_pure,Result.andThen_ok,invoke,Array.empty_append,e2,ci.ent,Oper.upon_enter]
 refine Calls.mono (hc G a w q).calls ?_
 rintro e w' ⟨z,hp,rfl,hb,hE⟩
 exact hK _ _ _ ⟨z,by simp [upW]⟩ hb hE
theorem c_makeC {T1 e:TypeId} {i:TypeInfo} {z v:Value} {n0 s:Nat} {g:Bool} (hop:o.op = .makeSlice T1 x y) [i1:TyI P T1 (.slice e) s g] (hi:P.info? e=some i) (hz:i.zero=some z) (h1:i.size=1) (hcz:z.cells=#[v]) (hb:Nat.ble (i.bytes * 1000) 281474976710656=true) (hw:∀ G,want (Rk R0 ops b o T G) ops o=some true) (hd:o.dst=some t) (hx:∀ G,evR (Rk R0 ops b o T G) x=some (.int .i64 (n0:Int))) (hy:∀ G,evR (Rk R0 ops b o T G) y=some (.int .i64 (n0:Int))) (hn:n0≤1000)
  (h:zAt ro S I P w0 n d ops R0 H0 Q bs (k+1) rest (⟨k,some t,fun G=>(.slice (some ⟨(G k).g,0,none⟩) n0 n0,[.blk (G k).g (List.replicate n0 v)])⟩::T)):CAt ro S I P w0 n d ops R0 H0 Q b bs k o rest T Hk:=by
 refine zDY (f:=fun G=>(.slice (some ⟨(G k).g,0,none⟩) n0 n0,[.blk (G k).g (List.replicate n0 v)])) (fun G G' hG=>by simp only [hG k (.inl rfl)]) (fun G a w q K hK=>?_) (by rw [hd];exact h)
 rw [zA3 q (hw G),if_pos rfl]
 have hb':(i.bytes:Int) * (n0:Int)≤281474976710656:=by
  have h9:=Nat.le_of_ble_eq_true hb
  have h8:i.bytes * n0≤i.bytes * 1000:=Nat.mul_le_mul_left _ hn
  have h7:((i.bytes * n0:Nat):Int)≤281474976710656:=by omega
  rwa [Int.natCast_mul] at h7
 have hr:=run_make (P:=P) w T1 e i z i1.und hi hz .i64 .i64 n0 n0 (by omega) (Int.le_refl _) hb' (by omega)
 simp only [Int.toNat_natCast,h1,Nat.mul_one,hcz] at hr
 unfold Oper.wp execOp;rw [hop]
 simp only [Sem.run_bind,q.ev (hx G),q.ev (hy G),hr,Result.andThen_ok,Sem.run_pure,Oper.upon_value]
 have e1:madeCells #[v] n0=(List.replicate n0 v).toArray:=by
  apply Array.ext'
  rw [toList_madeCells_one]
 rw [e1]
 exact hK _ _ _ ⟨⟨w.heap.size,none,0⟩,by simp only [upW,if_true]⟩ (zo w (.cells (List.replicate n0 v).toArray e)) (zHE w (List.replicate n0 v) e)
end
set_option maxHeartbeats 8000000 in
theorem zOo (w:World) (hG:InC w 0 0 zCz):Gv Tryz.prog 15 [] w (.bool true):=by
 have s2:=zKC 2
 have h1:=fun W A ca B cb C cc (hC:zAp W (zBf 2) A B C) (hG:InC W 0 0 zCz)=>zQk (zBf 2) A ca B cb C cc W hC s2 hG
 have h2:=fun W A ca B cb C cc (hC:zAp W (zBf 2) A B C) (hG:InC W 0 0 zCz)=>Ret.zHD (V:=fun v=>.tuple #[v,.int .i64 (zEH (zBf 2)).2]) (zQj (zBf 2) A ca B cb C cc W hC s2 hG)
 have h3:=fun W A ca B cb C cc P (hC:zAp W (zBf 2) A B C) hp=>iThickP (zBf 2) A ca B cb C cc zGS P 3 W hC s2 hp (by decide) (by decide) 1 2
 have h4:=fun W A ca B cb C cc P (hC:zAp W (zBf 2) A B C) hp=>zMC (zBf 2) A ca B cb C cc zGS P 3 W hC s2 hp (by decide) (by decide)
 have h5:=fun W A ca B cb C cc P (hC:zAp W (zBf 2) A B C) hp (hG:InC W 0 0 zCz)=>iSafeP (zBf 2) A ca B cb C cc zGS P 3 W hC s2 hp (by decide) (by decide) hG
 have h6:=fun W A ca B cb C cc P (hC:zAp W (zBf 2) A B C) hp (hG:InC W 0 0 zCz)=>iMostP (zBf 2) A ca B cb C cc zGS P 3 W hC s2 hp (by decide) (by decide) 2 hG
 have h7:=fun W A ca B cb C cc P (hC:zAp W (zBf 2) A B C) hp (hG:InC W 0 0 zCz)=>iThinP (zBf 2) A ca B cb C cc [[],[],[]] P 3 W hC s2 hp (by decide) (by decide) hG
 have h8:=fun W A ca B cb C cc (hC:zAp W (zBf 1) A B C) (hG:InC W 0 0 zCz)=>zOm (zBf 1) A ca B cb C cc W hC (zKC 1) hG
 have h9:=fun W A ca B cb C cc (hC:zAp W (zBf 2) A B C)=>Two.zOn (zBf 2) A ca B cb C cc 100 ⟨302,320⟩ W hC s2
 rw [evi_need] at h1
 rw [evi_plan] at h2
 rw [zQt] at h3
 rw [zGQ.1,zGQ.2.1] at h4
 rw [zGQ.2.2,zGQ.2.1] at h5
 rw [evi_most] at h6
 rw [zNh.1,zNh.2] at h7
 rw [zQu] at h8
 obtain ⟨d1,d2⟩:=zQv
 generalize zDE (zBf 2) 100 ⟨302,320⟩=dx at *
 unfold vSp at h3 h4 h9
 have d3:dx.1.beds.length=3:=by rw [d2];rfl
 simp only [d1,d2,d3,zAS,zN] at h9
 have h7w:∀ W A ca B cb C cc P,zAp W (zBf 2) A B C→_→InC W 0 0 zCz→Ret Tryz.prog 20 [zAS (zBf 2) A ca B cb C cc,.slice P 3 3] W (fun z:Wit=>.tuple #[.slice z.A 3 z.m,.int .i64 0]) (fun z=>[.sl zAc 2 z.A [(2,0),(2,1),(2,2)]]) (fun _=>True):=fun W A ca B cb C cc P hC hp hG=>(h7 W A ca B cb C cc P hC hp hG).conv fun p _=>⟨⟨0,p.1,p.2⟩,trivial,rfl,fun _ h=>h⟩
 have hcv:=icoverW
 unfold zAS zN at h1 h2 h3 h4 h5 h6 h7w h8 hcv
 unfold Gv
 (refine zJ (n:=166) Tryz.func15 rfl rfl rfl ?_)
 (repeat' (first|((with_reducible refine zF ?_);first|refine zE rfl rfl rfl ?_|refine zC rfl rfl rfl ?_|(refine zAW rfl rfl rfl rfl (fun _ _ q=>hcv _ _) ?_;rintro z -;dsimp only [List.cons_append,List.nil_append])|(refine zAW rfl rfl rfl rfl (fun _ _ q=>zLI _) ?_;rintro z -;dsimp only [List.cons_append,List.nil_append])|(refine zBt rfl rfl rfl rfl (fun _ _ q=>h1 _ _ _ _ _ _ _ ⟨(zBQ q.own (Below.refl _ _)),(zBQ q.own (Below.refl _ _)),(zBQ q.own (Below.refl _ _))⟩ (hG.below q.below)) (fun N1 nc1=>?_))|(refine zAW rfl rfl rfl rfl (fun _ _ q=>h2 _ _ _ _ _ _ _ ⟨(zBQ q.own (Below.refl _ _)),(zBQ q.own (Below.refl _ _)),(zBQ q.own (Below.refl _ _))⟩ (hG.below q.below)) ?_;rintro ⟨pg,pn,pA,pc⟩ -;dsimp only [List.cons_append,List.nil_append])|refine zY rfl rfl rfl rfl (fun _ _ q=>h3 _ _ _ _ _ _ _ _ ⟨(zBQ q.own (Below.refl _ _)),(zBQ q.own (Below.refl _ _)),(zBQ q.own (Below.refl _ _))⟩ (zEd q.own (by (repeat constructor)))) ?_|refine zY rfl rfl rfl rfl (fun _ _ q=>h4 _ _ _ _ _ _ _ _ ⟨(zBQ q.own (Below.refl _ _)),(zBQ q.own (Below.refl _ _)),(zBQ q.own (Below.refl _ _))⟩ (zEd q.own (by (repeat constructor)))) ?_|refine zY rfl rfl rfl rfl (fun _ _ q=>h5 _ _ _ _ _ _ _ _ ⟨(zBQ q.own (Below.refl _ _)),(zBQ q.own (Below.refl _ _)),(zBQ q.own (Below.refl _ _))⟩ (zEd q.own (by (repeat constructor))) (hG.below q.below)) ?_|refine zY rfl rfl rfl rfl (fun _ _ q=>h6 _ _ _ _ _ _ _ _ ⟨(zBQ q.own (Below.refl _ _)),(zBQ q.own (Below.refl _ _)),(zBQ q.own (Below.refl _ _))⟩ (zEd q.own (by (repeat constructor))) (hG.below q.below)) ?_|refine zc rfl rfl rfl rfl ?_|(refine za rfl rfl rfl rfl rfl ?_;refine ⟨rfl,by first|decide|exact Nat.le_of_ble_eq_true rfl|(simp;omega),_,rfl,?_⟩)|(refine zh rfl rfl (fun b=>?_)))|(with_reducible first|refine zH ?_|refine zB ?_|refine zD ?_|refine zA ?_)))
 rename_i b5 y1 y2 y3 y4 y5
 obtain ⟨b7,hb7⟩:∃ x,x=b:=⟨_,rfl⟩
 subst hb7
 refine U.sub (R':=[(0,.bool false),(1,.slice N1 3 nc1),(2,.int .i64 0),(3,.slice pA 3 pc),(4,.int .i64 0),(5,.pointer (some ⟨b5,0,none⟩)),(6,.int .i64 0),(7,.pointer (some ⟨b7,0,none⟩)),(8,.int .i64 0),(9,.int .u8 2),(10,.int .i64 0),(11,.int .i64 15),(12,.int .i64 0)]) (H':=[.sl encI 1 N1 [1,2,1],.zHD pg pn pA zGS,.blk b5 [.int .i64 294,.int .i64 328],.blk b7 [.int .i64 33000,.int .i64 34500]]) (by (repeat first|exact lK1|refine zI rfl ?_)) (by (repeat constructor)) ?_
 (refine zAV [] [] [] rfl (show ([]:List Nat).Nodup by decide) (fun _ h=>h) (by kernel_rfl) [[],[Y],[Z,Z],[Z,Z,Z],[Z,Z,Z,Z],[Y,Z,Z,Z,Z],[Y,Z,Z,Z,Z,Z],[Z,Z,Z,Z,Z,Z,Z]] (by kernel_rfl) (by kernel_rfl) (by kernel_rfl) (by kernel_rfl) (by kernel_rfl) ?_)
 (repeat' (first|(((with_reducible refine zCC ?_ ?_);(· exact rfl);refine ⟨_,fun G=>(by (try simp (decide:=true) only [vis,see,fltT,zm,Nat.reduceAdd,Nat.reduceSub,if_true,if_false,List.set_cons_zero,List.set_cons_succ,List.set_nil,List.nil_append,List.cons_append]);rfl),?_⟩);first|refine zU _ (fun _=>zAO rfl rfl) (fun _=>rfl) rfl (by intro G G' h;simp (decide:=true) only [h]) ?_|refine zU _ (fun _=>zBr rfl rfl) (fun _=>rfl) rfl (by intro G G' h;simp (decide:=true) only [h]) ?_|(refine c_ret rfl (fun _=>rfl) rfl (fun _=>rfl) (fun _=>rfl) (fun _ _ _ _=>hcv _ _) ?_)|(refine c_makeC (v:=.slice none 0 0) rfl rfl rfl rfl rfl rfl (fun _=>rfl) rfl (fun _=>rfl) (fun _=>rfl) (by decide) ?_)|(refine c_ret rfl (fun _=>rfl) rfl (fun _=>rfl) (fun _=>rfl) (fun _ _ _ q=>h7w _ _ _ _ _ _ _ _ ⟨(zBQ q.own (Below.refl _ _)),(zBQ q.own (Below.refl _ _)),(zBQ q.own (Below.refl _ _))⟩ (plan_nil (n:=3) q.own (by (repeat constructor))) (hG.below q.below)) ?_)|refine zU _ (fun _=>zLY rfl rfl rfl) (fun _=>rfl) rfl (by intro G G' h;simp (decide:=true) only [h]) ?_)|(with_reducible refine zKH ?_)))
 (intro G;simp only [regsT,zm,zAq,ini,List.nil_append,List.cons_append])
 (repeat' (first|((with_reducible refine zF ?_);first|refine zE rfl rfl rfl ?_|refine zC rfl rfl rfl ?_|(refine zAW rfl rfl rfl rfl (fun _ _ q=>hcv _ _) ?_;rintro z -;dsimp only [List.cons_append,List.nil_append])|refine zY rfl rfl rfl rfl (fun _ _ q=>zEh _ _ _) ?_|(refine zBt rfl rfl rfl rfl (fun _ _ q=>h8 _ _ _ _ _ _ _ ⟨(zBQ q.own (Below.refl _ _)),(zBQ q.own (Below.refl _ _)),(zBQ q.own (Below.refl _ _))⟩ (hG.below q.below)) (fun S1 sc1=>?_))|(refine zAW rfl rfl rfl rfl (fun _ _ q=>h9 _ _ _ _ _ _ _ ⟨(zBQ q.own (Below.refl _ _)),(zBQ q.own (Below.refl _ _)),(zBQ q.own (Below.refl _ _))⟩) ?_;rintro ⟨⟨E1,ec1⟩,⟨F1,fc1⟩,⟨G1,gc1⟩⟩ -;dsimp only [List.cons_append,List.nil_append])|refine zc rfl rfl rfl rfl ?_|(refine za rfl rfl rfl rfl rfl ?_;refine ⟨rfl,by first|decide|exact Nat.le_of_ble_eq_true rfl|(simp;omega),_,rfl,?_⟩)|(refine zh rfl rfl (fun b=>?_)))|(with_reducible first|refine zH ?_|refine zB ?_|refine zD ?_|refine zA ?_)))
 simp only [Nat.reduceAdd]
 generalize (G 2).A=T1
 generalize (G 2).m=tc1
 refine U.sub (R':=[(0,.bool false),(1,.slice N1 3 nc1),(2,.int .i64 0),(3,.slice pA 3 pc),(4,.int .i64 0),(5,.pointer (some ⟨b5,0,none⟩)),(6,.int .i64 0),(7,.pointer (some ⟨b7,0,none⟩)),(8,.int .i64 0),(9,.int .u8 2),(10,.int .i64 0),(11,.int .i64 15),(12,.int .i64 0),(13,.slice T1 3 tc1),(14,.int .i64 0),(15,.int .i64 2),(16,.slice S1 2 sc1),(17,.int .i64 0),(18,.pointer (some ⟨b,0,none⟩)),(19,.int .i64 0)]) (H':=[.blk b [.slice E1 dx.1.t.length ec1,.slice F1 3 fc1,.slice G1 dx.1.hours.length gc1,.int .i64 dx.1.wear.lo,.int .i64 dx.1.wear.hi,.int .i64 dx.1.layer.lo,.int .i64 dx.1.layer.hi,.int .i64 dx.1.rate,.int .i64 dx.1.limit,.int .i64 dx.1.base],.sl zAw 3 F1 [⟨⟨302,310⟩,1⟩,⟨⟨290,300⟩,2⟩,⟨⟨300,300⟩,0⟩],.sl zAc 2 T1 [(2,0),(2,1),(2,2)],.sl encI 1 S1 [0,1],.sl encI 1 N1 [1,2,1],.zHD pg pn pA zGS,.blk b5 [.int .i64 294,.int .i64 328],.blk b7 [.int .i64 33000,.int .i64 34500]]) (by (repeat first|exact lK1|refine zI rfl ?_)) (by (repeat constructor)) ?_
 refine u_slS (enc:=zAw) (A:=F1) (by (repeat constructor)) (by decide) ?_
 rintro b9 o9 rfl
 have g0:zAQ [(⟨⟨302,310⟩,1⟩:Bed),⟨⟨290,300⟩,2⟩,⟨⟨300,300⟩,0⟩] 0 ⟨⟨302,310⟩,1⟩:=⟨rfl⟩
 dsimp only [List.append]
 (refine zAV [] [] [] rfl (show ([]:List Nat).Nodup by decide) (fun _ h=>h) (by kernel_rfl) [[],[Z],[Z,Z],[Z,Z,Z],[Y,Z,Z,Z],[Z,Z,Z,Z,Z],[Z,Z,Z,Z,Z,Z],[Z,Z,Z,Z,Z,Z,Z],[Z,Z,Z,Z,Z,Z,Z,Z],[Z,Z,Z,Z,Z,Z,Z,Z,Z],[Z,Z,Z,Z,Z,Z,Z,Z,Z,Z],[Z,Z,Z,Z,Z,Z,Z,Z,Z,Z,Z],[Z,Z,Z,Z,Z,Z,Z,Z,Z,Z,Z,Z],[Y,Z,Z,Z,Z,Z,Z,Z,Z,Z,Z,Z,Z],[Z,Z,Z,Z,Z,Z,Z,Z,Z,Z,Z,Z,Z,Z],[Z,Z,Z,Z,Z,Z,Z,Z,Z,Z,Z,Z,Z,Z,Z],[Z,Z,Z,Z,Z,Z,Z,Z,Z,Z,Z,Z,Z,Z,Z,Z],[Z,Z,Z,Z,Z,Z,Z,Z,Z,Z,Z,Z,Z,Z,Z,Z,Z],[Z,Z,Z,Z,Z,Z,Z,Z,Z,Z,Z,Z,Z,Z,Z,Z,Z,Z],[Z,Z,Z,Z,Z,Z,Z,Z,Z,Z,Z,Z,Z,Z,Z,Z,Z,Z,Z],[Z,Z,Z,Z,Z,Z,Z,Z,Z,Z,Z,Z,Z,Z,Z,Z,Z,Z,Z,Z],[Z,Z,Z,Z,Z,Z,Z,Z,Z,Z,Z,Z,Z,Z,Z,Z,Z,Z,Z,Z,Z],[Y,Z,Z,Z,Z,Z,Z,Z,Z,Z,Z,Z,Z,Z,Z,Z,Z,Z,Z,Z,Z,Z],[Z,Z,Z,Z,Z,Z,Z,Z,Z,Z,Z,Z,Z,Z,Z,Z,Z,Z,Z,Z,Z,Z,Z],[Z,Z,Z,Z,Z,Z,Z,Z,Z,Z,Z,Z,Z,Z,Z,Z,Z,Z,Z,Z,Z,Z,Z,Z],[Z,Z,Z,Z,Z,Z,Z,Z,Z,Z,Z,Z,Z,Z,Z,Z,Z,Z,Z,Z,Z,Z,Z,Z,Z],[Z,Z,Z,Z,Z,Z,Z,Z,Z,Z,Z,Z,Z,Z,Z,Z,Z,Z,Z,Z,Z,Z,Z,Z,Z,Z],[Z,Z,Z,Z,Z,Z,Z,Z,Z,Z,Z,Z,Z,Z,Z,Z,Z,Z,Z,Z,Z,Z,Z,Z,Z,Z,Z],[Z,Z,Z,Z,Z,Z,Z,Z,Z,Z,Z,Z,Z,Z,Z,Z,Z,Z,Z,Z,Z,Z,Z,Z,Z,Z,Z,Z],[Z,Z,Z,Z,Z,Z,Z,Z,Z,Z,Z,Z,Z,Z,Z,Z,Z,Z,Z,Z,Z,Z,Z,Z,Z,Z,Z,Z,Z],[Z,Z,Z,Z,Z,Z,Z,Z,Z,Z,Z,Z,Z,Z,Z,Z,Z,Z,Z,Z,Z,Z,Z,Z,Z,Z,Z,Z,Z,Z],[Y,Z,Z,Z,Z,Z,Z,Z,Z,Z,Z,Z,Z,Z,Z,Z,Z,Z,Z,Z,Z,Z,Z,Z,Z,Z,Z,Z,Z,Z,Z],[Z,Z,Z,Z,Z,Z,Z,Z,Z,Z,Z,Z,Z,Z,Z,Z,Z,Z,Z,Z,Z,Z,Z,Z,Z,Z,Z,Z,Z,Z,Z,Z],[Z,Z,Z,Z,Z,Z,Z,Z,Z,Z,Z,Z,Z,Z,Z,Z,Z,Z,Z,Z,Z,Z,Z,Z,Z,Z,Z,Z,Z,Z,Z,Z,Z],[Z,Z,Z,Z,Z,Z,Z,Z,Z,Z,Z,Z,Z,Z,Z,Z,Z,Z,Z,Z,Z,Z,Z,Z,Z,Z,Z,Z,Z,Z,Z,Z,Z,Z],[Z,Z,Z,Z,Z,Z,Z,Z,Z,Z,Z,Z,Z,Z,Z,Z,Z,Z,Z,Z,Z,Z,Z,Z,Z,Z,Z,Z,Z,Z,Z,Z,Z,Z,Z],[Z,Z,Z,Z,Z,Z,Z,Z,Z,Z,Z,Z,Z,Z,Z,Z,Z,Z,Z,Z,Z,Z,Z,Z,Z,Z,Z,Z,Z,Z,Z,Z,Z,Z,Z,Z],[Z,Z,Z,Z,Z,Z,Z,Z,Z,Z,Z,Z,Z,Z,Z,Z,Z,Z,Z,Z,Z,Z,Z,Z,Z,Z,Z,Z,Z,Z,Z,Z,Z,Z,Z,Z,Z],[Z,Z,Z,Z,Z,Z,Z,Z,Z,Z,Z,Z,Z,Z,Z,Z,Z,Z,Z,Z,Z,Z,Z,Z,Z,Z,Z,Z,Z,Z,Z,Z,Z,Z,Z,Z,Z,Z],[Z,Z,Z,Z,Z,Z,Z,Z,Z,Z,Z,Z,Z,Z,Z,Z,Z,Z,Z,Z,Z,Z,Z,Z,Z,Z,Z,Z,Z,Z,Z,Z,Z,Z,Z,Z,Z,Z,Z],[Z,Z,Z,Z,Z,Z,Z,Z,Z,Z,Z,Z,Z,Z,Z,Z,Z,Z,Z,Z,Z,Z,Z,Z,Z,Z,Z,Z,Z,Z,Z,Z,Z,Z,Z,Z,Z,Z,Z,Z],[Z,Z,Z,Z,Z,Z,Z,Z,Z,Z,Z,Z,Z,Z,Z,Z,Z,Z,Z,Z,Z,Z,Z,Z,Z,Z,Z,Z,Z,Z,Z,Z,Z,Z,Z,Z,Z,Z,Z,Z,Z],[Z,Z,Z,Z,Z,Z,Z,Z,Z,Z,Z,Z,Z,Z,Z,Z,Z,Z,Z,Z,Z,Z,Z,Z,Z,Z,Z,Z,Z,Z,Z,Z,Z,Z,Z,Z,Z,Z,Z,Z,Z,Z],[Z,Z,Z,Z,Z,Z,Z,Z,Z,Z,Z,Z,Z,Z,Z,Z,Z,Z,Z,Z,Z,Z,Z,Z,Z,Z,Z,Z,Z,Z,Z,Z,Z,Z,Z,Z,Z,Z,Z,Z,Z,Z,Z],[Z,Z,Z,Z,Z,Z,Z,Z,Z,Z,Z,Z,Z,Z,Z,Z,Z,Z,Z,Z,Z,Z,Z,Z,Z,Z,Z,Z,Z,Z,Z,Z,Z,Z,Z,Z,Z,Z,Z,Z,Z,Z,Z,Z],[Z,Z,Z,Z,Z,Z,Z,Z,Z,Z,Z,Z,Z,Z,Z,Z,Z,Z,Z,Z,Z,Z,Z,Z,Z,Z,Z,Z,Z,Z,Z,Z,Z,Z,Z,Z,Z,Z,Z,Z,Z,Z,Z,Z,Z],[Z,Z,Z,Z,Z,Z,Z,Z,Z,Z,Z,Z,Z,Z,Z,Z,Z,Z,Z,Z,Z,Z,Z,Z,Z,Z,Z,Z,Z,Z,Z,Z,Z,Z,Z,Z,Z,Z,Z,Z,Z,Z,Z,Z,Z,Z],[Z,Z,Z,Z,Z,Z,Z,Z,Z,Z,Z,Z,Z,Z,Z,Z,Z,Z,Z,Z,Z,Z,Z,Z,Z,Z,Z,Z,Z,Z,Z,Z,Z,Z,Z,Z,Z,Z,Z,Z,Z,Z,Z,Z,Z,Z,Z],[Z,Z,Z,Z,Z,Z,Z,Z,Z,Z,Z,Z,Z,Z,Z,Z,Z,Z,Z,Z,Z,Z,Z,Z,Z,Z,Z,Z,Z,Z,Z,Z,Z,Z,Z,Z,Z,Z,Z,Z,Z,Z,Z,Z,Z,Z,Z,Z],[Z,Z,Z,Z,Z,Z,Z,Z,Z,Z,Z,Z,Z,Z,Z,Z,Z,Z,Z,Z,Z,Z,Z,Z,Z,Z,Z,Z,Z,Z,Z,Z,Z,Z,Z,Z,Z,Z,Z,Z,Z,Z,Z,Z,Z,Z,Z,Z,Z],[Z,Z,Z,Z,Z,Z,Z,Z,Z,Z,Z,Z,Z,Z,Z,Z,Z,Z,Z,Z,Z,Z,Z,Z,Z,Z,Z,Z,Z,Z,Z,Z,Z,Z,Z,Z,Z,Z,Z,Z,Z,Z,Z,Z,Z,Z,Z,Z,Z,Z],[Z,Z,Z,Z,Z,Z,Z,Z,Z,Z,Z,Z,Z,Z,Z,Z,Z,Z,Z,Z,Z,Z,Z,Z,Z,Z,Z,Z,Z,Z,Z,Z,Z,Z,Z,Z,Z,Z,Z,Z,Z,Z,Z,Z,Z,Z,Z,Z,Z,Z,Z],[Z,Z,Z,Z,Z,Z,Z,Z,Z,Z,Z,Z,Z,Z,Z,Z,Z,Z,Z,Z,Z,Z,Z,Z,Z,Z,Z,Z,Z,Z,Z,Z,Z,Z,Z,Z,Z,Z,Z,Z,Z,Z,Z,Z,Z,Z,Z,Z,Z,Z,Z,Z],[Z,Z,Z,Z,Z,Z,Z,Z,Z,Z,Z,Z,Z,Z,Z,Z,Z,Z,Z,Z,Z,Z,Z,Z,Z,Z,Z,Z,Z,Z,Z,Z,Z,Z,Z,Z,Z,Z,Z,Z,Z,Z,Z,Z,Z,Z,Z,Z,Z,Z,Z,Z,Z],[Z,Z,Z,Z,Z,Z,Z,Z,Z,Z,Z,Z,Z,Z,Z,Z,Z,Z,Z,Z,Z,Z,Z,Z,Z,Z,Z,Z,Z,Z,Z,Z,Z,Z,Z,Z,Z,Z,Z,Z,Z,Z,Z,Z,Z,Z,Z,Z,Z,Z,Z,Z,Z,Z],[Z,Z,Z,Z,Z,Z,Z,Z,Z,Z,Z,Z,Z,Z,Z,Z,Z,Z,Z,Z,Z,Z,Z,Z,Z,Z,Z,Z,Z,Z,Z,Z,Z,Z,Z,Z,Z,Z,Z,Z,Z,Z,Z,Z,Z,Z,Z,Z,Z,Z,Z,Z,Z,Z,Z],[Y,Z,Z,Z,Z,Z,Z,Z,Z,Z,Z,Z,Z,Z,Z,Z,Z,Z,Z,Z,Z,Z,Z,Z,Z,Z,Z,Z,Z,Z,Z,Z,Z,Z,Z,Z,Z,Z,Z,Z,Z,Z,Z,Z,Z,Z,Z,Z,Z,Z,Z,Z,Z,Z,Z,Z],[Y,Y,Z,Z,Z,Z,Z,Z,Z,Z,Z,Z,Z,Z,Z,Z,Z,Z,Z,Z,Z,Z,Z,Z,Z,Z,Z,Z,Z,Z,Z,Z,Z,Z,Z,Z,Z,Z,Z,Z,Z,Z,Z,Z,Z,Z,Z,Z,Z,Z,Z,Z,Z,Z,Z,Z,Z],[Y,Y,Y,Z,Z,Z,Z,Z,Z,Z,Z,Z,Z,Z,Z,Z,Z,Z,Z,Z,Z,Z,Z,Z,Z,Z,Z,Z,Z,Z,Z,Z,Z,Z,Z,Z,Z,Z,Z,Z,Z,Z,Z,Z,Z,Z,Z,Z,Z,Z,Z,Z,Z,Z,Z,Z,Z,Z],[Z,Z,Z,Y,Z,Z,Z,Z,Z,Z,Z,Z,Z,Z,Z,Z,Z,Z,Z,Z,Z,Z,Z,Z,Z,Z,Z,Z,Z,Z,Z,Z,Z,Z,Z,Z,Z,Z,Z,Z,Z,Z,Z,Z,Z,Z,Z,Z,Z,Z,Z,Z,Z,Z,Z,Z,Z,Z,Z],[Z,Z,Z,Z,Z,Z,Z,Z,Z,Z,Z,Z,Z,Z,Z,Z,Z,Z,Z,Z,Z,Z,Z,Z,Z,Z,Z,Z,Z,Z,Z,Z,Z,Z,Z,Z,Z,Z,Z,Z,Z,Z,Z,Z,Z,Z,Z,Z,Z,Z,Z,Z,Z,Z,Z,Z,Z,Z,Z,Z],[Z,Z,Z,Z,Z,Z,Z,Z,Z,Z,Z,Z,Z,Z,Z,Z,Z,Z,Z,Z,Z,Z,Z,Z,Z,Z,Z,Z,Z,Z,Z,Z,Z,Z,Z,Z,Z,Z,Z,Z,Z,Z,Z,Z,Z,Z,Z,Z,Z,Z,Z,Z,Z,Z,Z,Z,Z,Z,Z,Z,Z],[Z,Z,Z,Z,Z,Z,Z,Z,Z,Z,Z,Z,Z,Z,Z,Z,Z,Z,Z,Z,Z,Z,Z,Z,Z,Z,Z,Z,Z,Z,Z,Z,Z,Z,Z,Z,Z,Z,Z,Z,Z,Z,Z,Z,Z,Z,Z,Z,Z,Z,Z,Z,Z,Z,Z,Z,Z,Z,Z,Z,Z,Z],[Z,Z,Z,Z,Z,Z,Z,Z,Z,Z,Z,Z,Z,Z,Z,Z,Z,Z,Z,Z,Z,Z,Z,Z,Z,Z,Z,Z,Z,Z,Z,Z,Z,Z,Z,Z,Z,Z,Z,Z,Z,Z,Z,Z,Z,Z,Z,Z,Z,Z,Z,Z,Z,Z,Z,Z,Z,Z,Z,Z,Z,Z,Z],[Z,Z,Z,Z,Z,Z,Z,Z,Z,Z,Z,Z,Z,Z,Z,Z,Z,Z,Z,Z,Z,Z,Z,Z,Z,Z,Z,Z,Z,Z,Z,Z,Z,Z,Z,Z,Z,Z,Z,Z,Z,Z,Z,Z,Z,Z,Z,Z,Z,Z,Z,Z,Z,Z,Z,Z,Z,Z,Z,Z,Z,Z,Z,Z],[Z,Z,Z,Z,Z,Z,Z,Z,Z,Z,Z,Z,Z,Z,Z,Z,Z,Z,Z,Z,Z,Z,Z,Z,Z,Z,Z,Z,Z,Z,Z,Z,Z,Z,Z,Z,Z,Z,Z,Z,Z,Z,Z,Z,Z,Z,Z,Z,Z,Z,Z,Z,Z,Z,Z,Z,Z,Z,Z,Z,Z,Z,Z,Z,Z],[Z,Z,Z,Z,Z,Z,Z,Z,Z,Z,Z,Z,Z,Z,Z,Z,Z,Z,Z,Z,Z,Z,Z,Z,Z,Z,Z,Z,Z,Z,Z,Z,Z,Z,Z,Z,Z,Z,Z,Z,Z,Z,Z,Z,Z,Z,Z,Z,Z,Z,Z,Z,Z,Z,Z,Z,Z,Z,Z,Z,Z,Z,Z,Z,Z,Z],[Z,Z,Z,Z,Z,Z,Z,Z,Z,Z,Z,Z,Z,Z,Z,Z,Z,Z,Z,Z,Z,Z,Z,Z,Z,Z,Z,Z,Z,Z,Z,Z,Z,Z,Z,Z,Z,Z,Z,Z,Z,Z,Z,Z,Z,Z,Z,Z,Z,Z,Z,Z,Z,Z,Z,Z,Z,Z,Z,Z,Z,Z,Z,Z,Z,Z,Z],[Z,Z,Z,Z,Z,Z,Z,Z,Z,Z,Z,Z,Z,Z,Z,Z,Z,Z,Z,Z,Z,Z,Z,Z,Z,Z,Z,Z,Z,Z,Z,Z,Z,Z,Z,Z,Z,Z,Z,Z,Z,Z,Z,Z,Z,Z,Z,Z,Z,Z,Z,Z,Z,Z,Z,Z,Z,Z,Z,Z,Z,Z,Z,Z,Z,Z,Z,Z],[Z,Z,Z,Z,Z,Z,Z,Z,Z,Z,Z,Z,Z,Z,Z,Z,Z,Z,Z,Z,Z,Z,Z,Z,Z,Z,Z,Z,Z,Z,Z,Z,Z,Z,Z,Z,Z,Z,Z,Z,Z,Z,Z,Z,Z,Z,Z,Z,Z,Z,Z,Z,Z,Z,Z,Z,Z,Z,Z,Z,Z,Z,Z,Z,Z,Z,Z,Z,Z],[Z,Z,Z,Z,Z,Z,Z,Z,Z,Z,Z,Z,Z,Z,Z,Z,Z,Z,Z,Z,Z,Z,Z,Z,Z,Z,Z,Z,Z,Z,Z,Z,Z,Z,Z,Z,Z,Z,Z,Z,Z,Z,Z,Z,Z,Z,Z,Z,Z,Z,Z,Z,Z,Z,Z,Z,Z,Z,Z,Z,Z,Z,Z,Z,Z,Z,Z,Z,Z,Z],[Z,Z,Z,Z,Z,Z,Z,Z,Z,Z,Z,Z,Z,Z,Z,Z,Z,Z,Z,Z,Z,Z,Z,Z,Z,Z,Z,Z,Z,Z,Z,Z,Z,Z,Z,Z,Z,Z,Z,Z,Z,Z,Z,Z,Z,Z,Z,Z,Z,Z,Z,Z,Z,Z,Z,Z,Z,Z,Z,Z,Z,Z,Z,Z,Z,Z,Z,Z,Z,Z,Z],[Y,Z,Z,Z,Z,Z,Z,Z,Z,Z,Z,Z,Z,Z,Z,Z,Z,Z,Z,Z,Z,Z,Z,Z,Z,Z,Z,Z,Z,Z,Z,Z,Z,Z,Z,Z,Z,Z,Z,Z,Z,Z,Z,Z,Z,Z,Z,Z,Z,Z,Z,Z,Z,Z,Z,Z,Z,Z,Z,Z,Z,Z,Z,Z,Z,Z,Z,Z,Z,Z,Z,Z],[Z,Z,Z,Z,Z,Z,Z,Z,Z,Z,Z,Z,Z,Z,Z,Z,Z,Z,Z,Z,Z,Z,Z,Z,Z,Z,Z,Z,Z,Z,Z,Z,Z,Z,Z,Z,Z,Z,Z,Z,Z,Z,Z,Z,Z,Z,Z,Z,Z,Z,Z,Z,Z,Z,Z,Z,Z,Z,Z,Z,Z,Z,Z,Z,Z,Z,Z,Z,Z,Z,Z,Z,Z],[Z,Z,Z,Z,Z,Z,Z,Z,Z,Z,Z,Z,Z,Z,Z,Z,Z,Z,Z,Z,Z,Z,Z,Z,Z,Z,Z,Z,Z,Z,Z,Z,Z,Z,Z,Z,Z,Z,Z,Z,Z,Z,Z,Z,Z,Z,Z,Z,Z,Z,Z,Z,Z,Z,Z,Z,Z,Z,Z,Z,Z,Z,Z,Z,Z,Z,Z,Z,Z,Z,Z,Z,Z,Z],[Z,Z,Z,Z,Z,Z,Z,Z,Z,Z,Z,Z,Z,Z,Z,Z,Z,Z,Z,Z,Z,Z,Z,Z,Z,Z,Z,Z,Z,Z,Z,Z,Z,Z,Z,Z,Z,Z,Z,Z,Z,Z,Z,Z,Z,Z,Z,Z,Z,Z,Z,Z,Z,Z,Z,Z,Z,Z,Z,Z,Z,Z,Z,Z,Z,Z,Z,Z,Z,Z,Z,Z,Z,Z,Z],[Z,Z,Z,Z,Z,Z,Z,Z,Z,Z,Z,Z,Z,Z,Z,Z,Z,Z,Z,Z,Z,Z,Z,Z,Z,Z,Z,Z,Z,Z,Z,Z,Z,Z,Z,Z,Z,Z,Z,Z,Z,Z,Z,Z,Z,Z,Z,Z,Z,Z,Z,Z,Z,Z,Z,Z,Z,Z,Z,Z,Z,Z,Z,Z,Z,Z,Z,Z,Z,Z,Z,Z,Z,Z,Z,Z],[Z,Z,Z,Z,Z,Z,Z,Z,Z,Z,Z,Z,Z,Z,Z,Z,Z,Z,Z,Z,Z,Z,Z,Z,Z,Z,Z,Z,Z,Z,Z,Z,Z,Z,Z,Z,Z,Z,Z,Z,Z,Z,Z,Z,Z,Z,Z,Z,Z,Z,Z,Z,Z,Z,Z,Z,Z,Z,Z,Z,Z,Z,Z,Z,Z,Z,Z,Z,Z,Z,Z,Z,Z,Z,Z,Z,Z],[Z,Z,Z,Z,Z,Z,Z,Z,Z,Z,Z,Z,Z,Z,Z,Z,Z,Z,Z,Z,Z,Z,Z,Z,Z,Z,Z,Z,Z,Z,Z,Z,Z,Z,Z,Z,Z,Z,Z,Z,Z,Z,Z,Z,Z,Z,Z,Z,Z,Z,Z,Z,Z,Z,Z,Z,Z,Z,Z,Z,Z,Z,Z,Z,Z,Z,Z,Z,Z,Z,Z,Z,Z,Z,Z,Z,Z,Z],[Z,Z,Z,Z,Z,Z,Z,Z,Z,Z,Z,Z,Z,Z,Z,Z,Z,Z,Z,Z,Z,Z,Z,Z,Z,Z,Z,Z,Z,Z,Z,Z,Z,Z,Z,Z,Z,Z,Z,Z,Z,Z,Z,Z,Z,Z,Z,Z,Z,Z,Z,Z,Z,Z,Z,Z,Z,Z,Z,Z,Z,Z,Z,Z,Z,Z,Z,Z,Z,Z,Z,Z,Z,Z,Z,Z,Z,Z,Z],[Z,Z,Z,Z,Z,Z,Z,Z,Z,Z,Z,Z,Z,Z,Z,Z,Z,Z,Z,Z,Z,Z,Z,Z,Z,Z,Z,Z,Z,Z,Z,Z,Z,Z,Z,Z,Z,Z,Z,Z,Z,Z,Z,Z,Z,Z,Z,Z,Z,Z,Z,Z,Z,Z,Z,Z,Z,Z,Z,Z,Z,Z,Z,Z,Z,Z,Z,Z,Z,Z,Z,Z,Z,Z,Z,Z,Z,Z,Z,Z],[Z,Z,Z,Z,Z,Z,Z,Z,Z,Z,Z,Z,Z,Z,Z,Z,Z,Z,Z,Z,Z,Z,Z,Z,Z,Z,Z,Z,Z,Z,Z,Z,Z,Z,Z,Z,Z,Z,Z,Z,Z,Z,Z,Z,Z,Z,Z,Z,Z,Z,Z,Z,Z,Z,Z,Z,Z,Z,Z,Z,Z,Z,Z,Z,Z,Z,Z,Z,Z,Z,Z,Z,Z,Z,Z,Z,Z,Z,Z,Z,Z],[Z,Z,Z,Z,Z,Z,Z,Z,Z,Z,Z,Z,Z,Z,Z,Z,Z,Z,Z,Z,Z,Z,Z,Z,Z,Z,Z,Z,Z,Z,Z,Z,Z,Z,Z,Z,Z,Z,Z,Z,Z,Z,Z,Z,Z,Z,Z,Z,Z,Z,Z,Z,Z,Z,Z,Z,Z,Z,Z,Z,Z,Z,Z,Z,Z,Z,Z,Z,Z,Z,Z,Z,Z,Z,Z,Z,Z,Z,Z,Z,Z,Z],[Z,Z,Z,Z,Z,Z,Z,Z,Z,Z,Z,Z,Z,Z,Z,Z,Z,Z,Z,Z,Z,Z,Z,Z,Z,Z,Z,Z,Z,Z,Z,Z,Z,Z,Z,Z,Z,Z,Z,Z,Z,Z,Z,Z,Z,Z,Z,Z,Z,Z,Z,Z,Z,Z,Z,Z,Z,Z,Z,Z,Z,Z,Z,Z,Z,Z,Z,Z,Z,Z,Z,Z,Z,Z,Z,Z,Z,Z,Z,Z,Z,Z,Z],[Z,Z,Z,Z,Z,Z,Z,Z,Z,Z,Z,Z,Z,Z,Z,Z,Z,Z,Z,Z,Z,Z,Z,Z,Z,Z,Z,Z,Z,Z,Z,Z,Z,Z,Z,Z,Z,Z,Z,Z,Z,Z,Z,Z,Z,Z,Z,Z,Z,Z,Z,Z,Z,Z,Z,Z,Z,Z,Z,Z,Z,Z,Z,Z,Z,Z,Z,Z,Z,Z,Z,Z,Z,Z,Z,Z,Z,Z,Z,Z,Z,Z,Z,Z],[Z,Z,Z,Z,Z,Z,Z,Z,Z,Z,Z,Z,Z,Z,Z,Z,Z,Z,Z,Z,Z,Z,Z,Z,Z,Z,Z,Z,Z,Z,Z,Z,Z,Z,Z,Z,Z,Z,Z,Z,Z,Z,Z,Z,Z,Z,Z,Z,Z,Z,Z,Z,Z,Z,Z,Z,Z,Z,Z,Z,Z,Z,Z,Z,Z,Z,Z,Z,Z,Z,Z,Z,Z,Z,Z,Z,Z,Z,Z,Z,Z,Z,Z,Z,Z],[Z,Z,Z,Z,Z,Z,Z,Z,Z,Z,Z,Z,Z,Z,Z,Z,Z,Z,Z,Z,Z,Z,Z,Z,Z,Z,Z,Z,Z,Z,Z,Z,Z,Z,Z,Z,Z,Z,Z,Z,Z,Z,Z,Z,Z,Z,Z,Z,Z,Z,Z,Z,Z,Z,Z,Z,Z,Z,Z,Z,Z,Z,Z,Z,Z,Z,Z,Z,Z,Z,Z,Z,Z,Z,Z,Z,Z,Z,Z,Z,Z,Z,Z,Z,Z,Z],[Z,Z,Z,Z,Z,Z,Z,Z,Z,Z,Z,Z,Z,Z,Z,Z,Z,Z,Z,Z,Z,Z,Z,Z,Z,Z,Z,Z,Z,Z,Z,Z,Z,Z,Z,Z,Z,Z,Z,Z,Z,Z,Z,Z,Z,Z,Z,Z,Z,Z,Z,Z,Z,Z,Z,Z,Z,Z,Z,Z,Z,Z,Z,Z,Z,Z,Z,Z,Z,Z,Z,Z,Z,Z,Z,Z,Z,Z,Z,Z,Z,Z,Z,Z,Z,Z,Z],[Z,Z,Z,Z,Z,Z,Z,Z,Z,Z,Z,Z,Z,Z,Z,Z,Z,Z,Z,Z,Z,Z,Z,Z,Z,Z,Z,Z,Z,Z,Z,Z,Z,Z,Z,Z,Z,Z,Z,Z,Z,Z,Z,Z,Z,Z,Z,Z,Z,Z,Z,Z,Z,Z,Z,Z,Z,Z,Z,Z,Z,Z,Z,Z,Z,Z,Z,Z,Z,Z,Z,Z,Z,Z,Z,Z,Z,Z,Z,Z,Z,Z,Z,Z,Z,Z,Z,Z],[Z,Z,Z,Z,Z,Z,Z,Z,Z,Z,Z,Z,Z,Z,Z,Z,Z,Z,Z,Z,Z,Z,Z,Z,Z,Z,Z,Z,Z,Z,Z,Z,Z,Z,Z,Z,Z,Z,Z,Z,Z,Z,Z,Z,Z,Z,Z,Z,Z,Z,Z,Z,Z,Z,Z,Z,Z,Z,Z,Z,Z,Z,Z,Z,Z,Z,Z,Z,Z,Z,Z,Z,Z,Z,Z,Z,Z,Z,Z,Z,Z,Z,Z,Z,Z,Z,Z,Z,Z],[Z,Z,Z,Z,Z,Z,Z,Z,Z,Z,Z,Z,Z,Z,Z,Z,Z,Z,Z,Z,Z,Z,Z,Z,Z,Z,Z,Z,Z,Z,Z,Z,Z,Z,Z,Z,Z,Z,Z,Z,Z,Z,Z,Z,Z,Z,Z,Z,Z,Z,Z,Z,Z,Z,Z,Z,Z,Z,Z,Z,Z,Z,Z,Z,Z,Z,Z,Z,Z,Z,Z,Z,Z,Z,Z,Z,Z,Z,Z,Z,Z,Z,Z,Z,Z,Z,Z,Z,Z,Z],[Y,Y,Y,Y,Y,Z,Z,Z,Z,Z,Z,Z,Z,Z,Z,Z,Z,Z,Z,Z,Z,Z,Z,Z,Z,Z,Z,Z,Z,Z,Z,Z,Z,Z,Z,Z,Z,Z,Z,Z,Z,Z,Z,Z,Z,Z,Z,Z,Z,Z,Z,Z,Z,Z,Z,Z,Z,Z,Z,Z,Z,Z,Z,Z,Z,Z,Z,Z,Z,Z,Z,Z,Z,Z,Z,Z,Z,Z,Z,Z,Z,Z,Z,Z,Z,Z,Z,Z,Z,Z,Z],[Z,Z,Z,Z,Z,Z,Z,Z,Z,Z,Z,Z,Z,Z,Z,Z,Z,Z,Z,Z,Z,Z,Z,Z,Z,Z,Z,Z,Z,Z,Z,Z,Z,Z,Z,Z,Z,Z,Z,Z,Z,Z,Z,Z,Z,Z,Z,Z,Z,Z,Z,Z,Z,Z,Z,Z,Z,Z,Z,Z,Z,Z,Z,Z,Z,Z,Z,Z,Z,Z,Z,Z,Z,Z,Z,Z,Z,Z,Z,Z,Z,Z,Z,Z,Z,Z,Z,Z,Z,Z,Z,Z],[Z,Z,Z,Z,Z,Z,Z,Z,Z,Z,Z,Z,Z,Z,Z,Z,Z,Z,Z,Z,Z,Z,Z,Z,Z,Z,Z,Z,Z,Z,Z,Z,Z,Z,Z,Z,Z,Z,Z,Z,Z,Z,Z,Z,Z,Z,Z,Z,Z,Z,Z,Z,Z,Z,Z,Z,Z,Z,Z,Z,Z,Z,Z,Z,Z,Z,Z,Z,Z,Z,Z,Z,Z,Z,Z,Z,Z,Z,Z,Z,Z,Z,Z,Z,Z,Z,Z,Z,Z,Z,Z,Z,Z],[Z,Z,Z,Z,Z,Z,Z,Z,Z,Z,Z,Z,Z,Z,Z,Z,Z,Z,Z,Z,Z,Z,Z,Z,Z,Z,Z,Z,Z,Z,Z,Z,Z,Z,Z,Z,Z,Z,Z,Z,Z,Z,Z,Z,Z,Z,Z,Z,Z,Z,Z,Z,Z,Z,Z,Z,Z,Z,Z,Z,Z,Z,Z,Z,Z,Z,Z,Z,Z,Z,Z,Z,Z,Z,Z,Z,Z,Z,Z,Z,Z,Z,Z,Z,Z,Z,Z,Z,Z,Z,Z,Z,Z,Z]] (by kernel_rfl) (by kernel_rfl) (by kernel_rfl) (by kernel_rfl) (by kernel_rfl) ?_)
 (repeat' (first|(((with_reducible refine zCC ?_ ?_);(· exact rfl);refine ⟨_,fun G=>(by (try simp (decide:=true) only [vis,see,fltT,zm,Nat.reduceAdd,Nat.reduceSub,if_true,if_false,List.set_cons_zero,List.set_cons_succ,List.set_nil,List.nil_append,List.cons_append]);rfl),?_⟩);first|refine zU _ (fun _=>zAO rfl rfl) (fun _=>rfl) rfl (by intro G G' h;simp (decide:=true) only [h]) ?_|refine zU _ (fun _=>zu rfl rfl (by exact rfl)) (fun _=>rfl) rfl (by intro G G' h;simp (decide:=true) only [h]) ?_|(refine zAC rfl ?_;refine zU _ (fun _=>zAE rfl rfl) (fun _=>rfl) rfl (by intro G G' h;simp (decide:=true) only [h]) ?_)|refine zU _ (fun _=>zDw rfl rfl rfl) (fun _=>rfl) rfl (by intro G G' h;simp (decide:=true) only [h]) ?_|refine zU _ (fun _=>zBr rfl rfl) (fun _=>rfl) rfl (by intro G G' h;simp (decide:=true) only [h]) ?_|(refine c_cmp rfl rfl (fun _=>rfl) rfl (fun _=>rfl) (fun _=>rfl) (fun h=>?_) (fun h=>?_)<;>(dsimp only [cmpP] at h;(try (exfalso;omega))))|refine zB1 _ rfl (fun _=>rfl) rfl (fun _=>rfl) (fun _=>rfl) (fun _ _ _ q=>zEh _ _ _) (by intro G G' h;simp (decide:=true) only [h]) ?_|(refine c_ret rfl (fun _=>rfl) rfl (fun _=>rfl) (fun _=>rfl) (fun _ _ _ _=>zLI _) ?_)|refine zB1 _ rfl (fun _=>rfl) rfl (fun _=>rfl) (fun _=>rfl) (fun _ _ _ q=>zPL [1,2,1] _ _ _ _ _ (zBQ q.own (Below.refl _ _)) (zFa (enc:=encI) [1,2,1] (by exact rfl) _ q.below q.own) (by decide)) (by intro G G' h;simp (decide:=true) only [h]) ?_|refine zB1 _ rfl (fun _=>rfl) rfl (fun _=>rfl) (fun _=>rfl) (fun _ _ _ q=>zPL [0,1] _ _ _ _ _ (zBQ q.own (Below.refl _ _)) (zFa (enc:=encI) [0,1] (by exact rfl) _ q.below q.own) (by decide)) (by intro G G' h;simp (decide:=true) only [h]) ?_|refine zB1 _ rfl (fun _=>rfl) rfl (fun _=>rfl) (fun _=>rfl) (fun _ _ _ q=>zOC zGS _ _ _ _ _ (zEd q.own (by (repeat constructor))) (zEd q.own (by (repeat constructor))) (by decide) (by decide)) (by intro G G' h;simp (decide:=true) only [h]) ?_|refine zU _ (fun _=>e_eqSp rfl rfl rfl) (fun _=>rfl) rfl (by exact fun _ _ _=>rfl) ?_|refine zU _ (fun _=>zQy rfl rfl (by exact rfl)) (fun _=>rfl) rfl (by exact fun _ _ _=>rfl) ?_|refine zB1 _ rfl (fun _=>rfl) rfl (fun _=>rfl) (fun _=>rfl) (fun _ _ _ q=>zKX [(2,0),(2,1),(2,2)] _ _ _ _ _ (zBQ q.own (Below.refl _ _)) (zFa (enc:=zAc) [(2,0),(2,1),(2,2)] (by exact rfl) _ q.below q.own) (by decide)) (by intro G G' h;simp (decide:=true) only [h]) ?_|refine zU _ (fun _=>zAl (I:=0) rfl rfl rfl rfl (by decide)) (fun _=>rfl) rfl (by exact fun _ _ _=>rfl) ?_|refine zU _ (fun _=>zEu rfl rfl) (fun _=>rfl) rfl (by intro G G' h;simp (decide:=true) only [h]) ?_|refine zB2 rfl (fun _=>rfl) rfl (fun _=>rfl) (by exact rfl) (by exact fun _=>rfl) (by intro G G' h;simp (decide:=true) only [h]) ?_)|(with_reducible refine zKH ?_)))
 all_goals
  (intro G;simp only [regsT,zm,zAq,ini,List.nil_append,List.cons_append])
  (repeat' (first|(with_reducible first|refine zA ?_|refine zW ?_)))
  exact zR (by exact rTm rfl) () trivial rfl (fun _ h=>h.sub (by (repeat constructor)))
end Go.Proofs.YtdigopgncfhiaaaGreatDoor.Two
namespace Go.Proofs.YtdigopgncfhiaaaGreatDoor
open Go.RowKit
theorem zOp (w:World) (hG:InC w 0 0 zCz):Gv Tryz.prog 15 [] w (.bool true):=Two.zOo w hG
end Go.Proofs.YtdigopgncfhiaaaGreatDoor
namespace Go.Proofs.YtdigopgncfhiaaaGreatDoor
open Go.RowKit
set_option maxRecDepth 20000
theorem zMH {c:Cov} {pl:List Sli} (h:zAs c=0) (hp:zBd c pl=true):zCB c pl=0:=by unfold zCB;rw [if_pos h,hp];rfl
end Go.Proofs.YtdigopgncfhiaaaGreatDoor
namespace Go.Proofs.YtdigopgncfhiaaaGreatDoor
open Go.RowKit
open Flow (lackF zFI sumL)
def hasP (xss:List (List Int)) (h i:Nat):Bool:=(xss.getD h []).contains (i:Int)
theorem zL0 {c:Cov} {xss:List (List Int)} (hf:zD5 c) (hok:zBd c (zBH xss)=true):∀ h,h<c.hours.length→(xss.getD h []).Pairwise (· < ·)∧(∀ x∈xss.getD h [],∃ j:Nat,x=(j:Int)∧j<c.beds.length)∧((xss.getD h []).length:Int)≤(zBN c).getD h 0∧(xss.getD h []≠[]→(c.hours.map (·.cold)).getD h false=true):=fun h hh=>by
 obtain ⟨hl,hr⟩:=zBc.1 hok
 obtain ⟨u,hu⟩:∃ u,c.hours[h]?=some u:=⟨_,List.getElem?_eq_getElem hh⟩
 obtain ⟨s,hs⟩:∃ s,(zBH xss)[h]?=some s:=⟨_,List.getElem?_eq_getElem (by omega)⟩
 have e:s.xs=xss.getD h []:=by rw [← sliL_at,zBD hs]
 have hb:=hf.beds
 have h1:=hr h u s hu hs
 unfold zFe at h1
 rw [e] at h1
 simp only [Bool.and_eq_true,Bool.or_eq_true,decide_eq_true_eq,List.all_eq_true,zAB] at h1
 obtain ⟨⟨⟨a1,a2⟩,a3⟩,a4⟩:=h1
 have hS:(zBN c).getD h 0=zGb u:=by unfold zBN;rw [getD_map hu]
 have hC:(c.hours.map (·.cold)).getD h false=u.cold:=by rw [getD_map hu]
 refine ⟨?_,fun x hx=>⟨x.toNat,by have:=a3 x hx;omega,by have:=a3 x hx;omega⟩,?_,fun hne=>?_⟩
 ·have h4:=zE8.1 a4
  have key:∀ d i,i+d+1<(xss.getD h []).length→(xss.getD h []).getD i 0<(xss.getD h []).getD (i+d+1) 0:=by
   intro d
   induction d with
   | zero=>intro i hi;exact h4 i hi
   | succ d ih =>
    intro i hi
    have:=ih i (by omega)
    have:=h4 (i+d+1) (by omega)
    rw [show i+(d+1)+1=i+d+1+1 by omega]
    omega
  rw [List.pairwise_iff_getElem]
  intro i j hi hj hij
  have:=key (j - i - 1) i (by omega)
  rw [show i+(j - i - 1)+1=j by omega,Flow.zAh hi,Flow.zAh hj] at this
  exact this
 ·rw [hS]
  unfold zGb
  rcases a2 with h9|h9
  ·rw [h9]
   have:=zIz hf u (List.mem_of_getElem? hu)
   split<;>omega
  ·rw [h9,if_pos rfl];exact a1
 ·rw [hC]
  rcases a2 with h9|h9
  ·exact absurd (List.length_eq_zero_iff.1 h9) hne
  ·exact h9
end Go.Proofs.YtdigopgncfhiaaaGreatDoor
namespace Go.Proofs.YtdigopgncfhiaaaGreatDoor
open Go.RowKit
open Flow (lackF zFI sumL)
set_option linter.unusedSectionVars false
theorem cntP_has {xss:List (List Int)} {j k:Nat}:zGT xss j k=sumL (List.range k) fun h=>if hasP xss h j then 1 else 0:=rfl
theorem zMt {nb:Nat} (f:Int→Int):∀ r:List Int,r.Pairwise (· < ·)→(∀ x∈r,∃ j:Nat,x=(j:Int)∧j<nb)→sumL r f=sumL (List.range nb) fun j=>if r.contains (j:Int) then f j else 0
 | [],_,_=>(Flow.zAn fun _ _=>by simp).symm
 | x::r,h1,h2=>by
  obtain ⟨h3,h4⟩:=List.pairwise_cons.1 h1
  have ih:=zMt f r h4 fun y hy=>h2 y (List.mem_cons_of_mem _ hy)
  obtain ⟨q,rfl,hq⟩:=h2 x List.mem_cons_self
  have e:(sumL (List.range nb) fun j=>if (((q:Int)::r).contains (j:Int)) then f j else 0)=sumL (List.range nb) fun j=>(if j=q then f q else 0)+(if r.contains (j:Int) then f j else 0):=Flow.zAF fun j _=>by
   by_cases e:j=q
   ·subst e
    have h5:¬ (j:Int)∈r:=fun h=>by have:=h3 _ h;omega
    simp [h5]
   ·have:¬ (j:Int)=(q:Int):=by omega
    rw [if_neg e,Int.zero_add]
    simp [List.contains_cons,this]
  rw [e,Flow.zCv,Flow.zF5 List.nodup_range (List.mem_range.2 hq),← ih];rfl
theorem zI4 {c:Cov}:∀ l:List Int,∀ z:Sp,l.foldl (zC6 c) z=⟨z.lo+sumL l fun x=>c.rate * (zAe c x).lo,z.hi+sumL l fun x=>c.rate * (zAe c x).hi⟩
 | [],z=>by simp [sumL]
 | x::l,z=>by
  rw [List.foldl_cons,zI4 l]
  simp only [zC6,sumL,Int.add_assoc]
theorem zKz {c:Cov} {xss:List (List Int)} (hf:zD5 c) (hok:zBd c (zBH xss)=true) (f:Int→Int):sumL (zD2 (zBH xss) (zBH xss).length) f=sumL (List.range c.beds.length) fun (j:Nat)=>zGT xss j c.hours.length * f j:=by
 have hl:xss.length=c.hours.length:=by have:=(zBc.1 hok).1;simpa [zBH] using this
 have e1:zD2 (zBH xss) (zBH xss).length=(List.range xss.length).flatMap fun h=>xss.getD h []:=by
  unfold zD2
  rw [List.take_length]
  unfold zBH
  rw [List.flatMap_map]
  have:xss=(List.range xss.length).map fun h=>xss.getD h []:=by
   apply List.ext_getElem
   ·simp
   ·intro i h1 h2;simp [List.getD_eq_getElem?_getD,h1]
  conv=>lhs;rw [this]
  rw [List.flatMap_map]
 rw [e1,Flow.zDb,hl]
 have e2:sumL (List.range c.hours.length) (fun h=>sumL (xss.getD h []) f)=sumL (List.range c.hours.length) fun h=>sumL (List.range c.beds.length) fun (j:Nat)=>if hasP xss h j then f j else 0:=zAF _ fun h hh=>by
  obtain ⟨h1,h2,_⟩:=zL0 hf hok h hh
  exact zMt f _ h1 h2
 rw [e2,Flow.zF6]
 refine zAF _ fun j _=>?_
 rw [cntP_has]
 have key:∀ k,(sumL (List.range k) fun h=>if hasP xss h j then f j else 0)=(sumL (List.range k) fun h=>if hasP xss h j then (1:Int) else 0) * f j:=fun k=>by
  induction k with
  | zero=>simp [sumL]
  | succ k ih =>
   rw [Flow.zAI,Flow.zAI,ih,Int.add_mul]
   congr 1
   split<;>simp
 exact key _
theorem zHh {c:Cov} {xss:List (List Int)} (h0:zAs c=0) (hok:zBd c (zBH xss)=true):zCD c (zBH xss)=⟨sumL (List.range c.beds.length) fun (j:Nat)=>zGT xss j c.hours.length * (c.rate * (zAe c j).lo),sumL (List.range c.beds.length) fun (j:Nat)=>zGT xss j c.hours.length * (c.rate * (zAe c j).hi)⟩:=by
 have hf:=zBm h0
 unfold zCD
 rw [if_pos (zMH h0 hok)]
 unfold zES
 rw [zI4,zKz hf hok,zKz hf hok]
 simp
end Go.Proofs.YtdigopgncfhiaaaGreatDoor
namespace Go.Proofs.YtdigopgncfhiaaaGreatDoor
open Go.RowKit
structure Tru where
 th:List Int
 me:List Int
 we:Int
 la:Int
def ofS (s:Sp) (n:Int):Int:=s.lo+n % (s.hi - s.lo+1)
theorem ofS_in {s:Sp} {n:Int} (h:s.lo≤s.hi):s.lo≤ofS s n∧ofS s n≤s.hi:=by
 have:=mod_in (x:=n) (n:=s.hi - s.lo+1) (by omega)
 unfold ofS;omega
end Go.Proofs.YtdigopgncfhiaaaGreatDoor
namespace Go.Proofs.YtdigopgncfhiaaaGreatDoor
abbrev Mat := Nat→Nat→Int
def zG9 (x:Nat) (M:Mat):Mat:=fun i k=>min (M i k) (M i x+M x k)
def zAZ (M:Mat):Nat→Mat
 | 0=>M
 | x+1=>zG9 x (zAZ M x)
def fine (n:Nat) (M:Mat) (x:Nat):Prop:=∀ y,y≤x→∀ i,i<n→0≤zAZ M y i i
def Tri (n:Nat) (E:Mat):Prop:=∀ i k y,i<n→k<n→y<n→E i k≤E i y+E y k
def Le (n:Nat) (E M:Mat):Prop:=∀ i k,i<n→k<n→E i k≤M i k
def zDe (n:Nat) (M:Mat):Prop:=∀ i,i<n→M i i=0
theorem step_le (x:Nat) (M:Mat) (i k:Nat):zG9 x M i k≤M i k:=by unfold zG9;omega
theorem zIy (M:Mat):∀ x i k,zAZ M x i k≤M i k
 | 0,_,_=>Int.le_refl _
 | x+1,i,k=>Int.le_trans (step_le x _ i k) (zIy M x i k)
theorem zEm {n:Nat} {M:Mat} (h0:zDe n M) {x:Nat} (hf:fine n M x):zDe n (zAZ M x):=fun i hi=>by
 have h1:=zIy M x i i
 have h2:=hf x (Nat.le_refl _) i hi
 have h3:=h0 i hi
 omega
theorem fine.mono {n:Nat} {M:Mat} {x y:Nat} (h:fine n M x) (hy:y≤x):fine n M y:=fun z hz i hi=>h z (by omega) i hi
theorem zNb {n:Nat} {M:Mat} (h0:zDe n M):∀ x,x≤n→fine n M x→∀ y,y<x→∀ i k,i<n→k<n→zAZ M x i k≤zAZ M x i y+zAZ M x y k
 | 0,_,_,y,hy,_,_,_,_=>by omega
 | x+1,hx,hf,y,hy,i,k,hi,hk=>by
  have hf':=hf.mono (Nat.le_succ x)
  have hd:=zEm h0 hf'
  have ih:=zNb h0 x (by omega) hf'
  have dx:=hd x (by omega)
  simp only [zAZ,zG9]
  by_cases hyx:y=x
  ·subst hyx
   omega
  ·have hy':y<x:=by omega
   have a1:=ih y hy' i k hi hk
   have a2:=ih y hy' x k (by omega) hk
   have a3:=ih y hy' i x hi (by omega)
   have a4:=ih y hy' x x (by omega) (by omega)
   omega
theorem fw_tri {n:Nat} {M:Mat} (h0:zDe n M) (hf:fine n M n):Tri n (zAZ M n):=fun i k y hi hk hy=>zNb h0 n (Nat.le_refl n) hf y hy i k hi hk
theorem zJ4 {n:Nat} {M E:Mat} (hE:Tri n E) (h:Le n E M):∀ x,x≤n→Le n E (zAZ M x)
 | 0,_=>h
 | x+1,hx=>fun i k hi hk=>by
  have ih:=zJ4 hE h x (by omega)
  have a1:=ih i k hi hk
  have a2:=ih i x hi (by omega)
  have a3:=ih x k (by omega) hk
  have a4:=hE i k x hi hk (by omega)
  simp only [zAZ,zG9]
  omega
theorem zHO {n:Nat} {M1 M2:Mat} (h1:zDe n M1) (h:∀ E,Tri n E→zDe n E→Le n E M1→Le n E M2) (hf:fine n M1 n):fine n M2 n∧Le n (zAZ M1 n) (zAZ M2 n):=by
 have ht:=fw_tri h1 hf
 have hd:=zEm h1 hf
 have hl:=h _ ht hd (fun i k _ _=>zIy M1 n i k)
 have ha:=zJ4 ht hl
 refine ⟨fun y hy i hi=>?_,ha n (Nat.le_refl n)⟩
 have:=ha y hy i i hi hi
 rw [hd i hi] at this
 exact this
theorem zMF {n:Nat} {M1 M2:Mat} (h1:zDe n M1) (h2:zDe n M2) (ha:∀ E,Tri n E→zDe n E→Le n E M1→Le n E M2) (hb:∀ E,Tri n E→zDe n E→Le n E M2→Le n E M1) :
  (fine n M1 n↔fine n M2 n)∧(fine n M1 n→∀ i k,i<n→k<n→zAZ M1 n i k=zAZ M2 n i k):=by
 refine ⟨⟨fun h=>(zHO h1 ha h).1,fun h=>(zHO h2 hb h).1⟩,fun h i k hi hk=>?_⟩
 have x1:=(zHO h1 ha h).2 i k hi hk
 have x2:=(zHO h2 hb (zHO h1 ha h).1).2 i k hi hk
 omega
theorem fw_bd {n:Nat} {M:Mat} {B:Int} (h:∀ i k,i<n→k<n→-B≤M i k∧M i k≤B) (hB:0≤B):∀ x,x≤n→∀ i k,i<n→k<n→-(2 ^ x * B)≤zAZ M x i k∧zAZ M x i k≤B
 | 0,_,i,k,hi,hk=>by simpa [zAZ] using h i k hi hk
 | x+1,hx,i,k,hi,hk=>by
  have ih:=fw_bd h hB x (by omega)
  have a1:=ih i k hi hk
  have a2:=ih i x hi (by omega)
  have a3:=ih x k (by omega) hk
  have e:(2:Int) ^ (x+1) * B=2 * (2 ^ x * B):=by rw [Int.pow_succ];rw [Int.mul_comm ((2:Int) ^ x) 2,Int.mul_assoc]
  have hp:0≤(2:Int) ^ x * B:=Int.mul_nonneg (Int.pow_nonneg (by omega)) hB
  rw [e]
  simp only [zAZ,zG9]
  omega
def zCA (s:List Sp) (i:Nat):Sp:=s.getD i ⟨0,0⟩
def far : Int:=1073741824
def T0 (s:List Sp):Mat:=fun i k=>if i=k then 0 else if k=i+1 then (zCA s i).hi else if i=k+1 then -(zCA s k).lo else far
def zFN (s:List Sp) (i:Nat):Nat→Int
 | 0=>0
 | d+1=>zFN s i d+(zCA s (i+d)).hi
def zGX (s:List Sp) (i:Nat):Nat→Int
 | 0=>0
 | d+1=>zGX s i d+(zCA s (i+d)).lo
def R0 (s:List Sp):Mat:=fun i k=>if i≤k then zFN s i (k - i) else -(zGX s k (i - k))
def zBu (M:Mat) (a b:Nat) (v:Int):Mat:=fun i k=>if i=a∧k=b then v else M i k
def zCU (kind:Int) (M:Mat) (m:Me):Mat :=
 if m.kind=kind then
  let M':=zBu M m.frm.toNat m.to.toNat (min (M m.frm.toNat m.to.toNat) m.value.hi)
  zBu M' m.to.toNat m.frm.toNat (min (M' m.to.toNat m.frm.toNat) (-m.value.lo))
 else M
def meas (kind:Int) (M:Mat) (ms:List Me):Mat:=ms.foldl (zCU kind) M
def zCn (n:Nat) (m:Me):Prop:=1≤m.kind∧m.kind≤2∧0≤m.frm∧m.frm<m.to∧m.to<n∧0≤m.value.lo∧m.value.lo≤m.value.hi∧m.value.hi≤360000
theorem le_putMe {n:Nat} {kind:Int} {E M:Mat} {m:Me} (hm:zCn n m):Le n E (zCU kind M m)↔Le n E M∧(m.kind=kind→E m.frm.toNat m.to.toNat≤m.value.hi∧E m.to.toNat m.frm.toNat≤-m.value.lo):=by
 obtain ⟨-,-,h1,h2,h3,-⟩:=hm
 have hf:m.frm.toNat<n:=by omega
 have ht:m.to.toNat<n:=by omega
 have hne:m.frm.toNat≠m.to.toNat:=by omega
 unfold zCU
 by_cases hk:m.kind=kind
 ·rw [if_pos hk]
  simp only [hk,forall_const,true_imp_iff]
  constructor
  ·intro h
   have a1:=h _ _ hf ht
   have a2:=h _ _ ht hf
   simp only [zBu,if_true,and_self,hne,Ne.symm hne,false_and,if_false,and_false] at a1 a2
   refine ⟨fun i k hi hk=>?_,by omega,by omega⟩
   have a3:=h i k hi hk
   simp only [zBu] at a3
   split at a3
   ·rename_i e;obtain ⟨rfl,rfl⟩:=e
    simp only [hne,Ne.symm hne,false_and,if_false,and_false] at a3
    omega
   ·split at a3
    ·rename_i e;obtain ⟨rfl,rfl⟩:=e;omega
    ·exact a3
  ·rintro ⟨h,b1,b2⟩ i k hi hk
   have a1:=h i k hi hk
   simp only [zBu]
   split
   ·rename_i e;obtain ⟨rfl,rfl⟩:=e
    simp only [hne,Ne.symm hne,false_and,if_false,and_false]
    omega
   ·split
    ·rename_i e;obtain ⟨rfl,rfl⟩:=e;omega
    ·exact a1
 ·rw [if_neg hk]
  exact ⟨fun h=>⟨h,fun e=>absurd e hk⟩,fun h=>h.1⟩
theorem zCS {n:Nat} {kind:Int} {E:Mat}:∀ (ms:List Me) (M:Mat),(∀ m∈ms,zCn n m)→(Le n E (meas kind M ms)↔Le n E M∧∀ m∈ms,m.kind=kind→E m.frm.toNat m.to.toNat≤m.value.hi∧E m.to.toNat m.frm.toNat≤-m.value.lo)
 | [],M,_=>by simp [meas]
 | m::r,M,h=>by
  have ih:=zCS (E:=E) (kind:=kind) r (zCU kind M m) (fun x hx=>h x (by simp [hx]))
  have hp:=le_putMe (E:=E) (kind:=kind) (M:=M) (h m (by simp))
  simp only [meas,List.foldl_cons] at ih ⊢
  rw [ih,hp]
  constructor
  ·rintro ⟨⟨a,b⟩,c⟩
   refine ⟨a,fun x hx=>?_⟩
   rcases List.mem_cons.1 hx with rfl|hx
   ·exact b
   ·exact c x hx
  ·rintro ⟨a,b⟩
   exact ⟨⟨a,b m (by simp)⟩,fun x hx=>b x (by simp [hx])⟩
theorem zOz {n:Nat} {kind:Int} {M:Mat} {m:Me} (hm:zCn n m) (h:zDe n M):zDe n (zCU kind M m):=fun i hi=>by
 obtain ⟨-,-,h1,h2,h3,-⟩:=hm
 have hne:m.frm.toNat≠m.to.toNat:=by omega
 unfold zCU
 split
 ·simp only [zBu]
  rw [if_neg (by omega),if_neg (by omega)]
  exact h i hi
 ·exact h i hi
theorem zB6 {n:Nat} {kind:Int}:∀ (ms:List Me) (M:Mat),(∀ m∈ms,zCn n m)→zDe n M→zDe n (meas kind M ms)
 | [],_,_,h=>h
 | m::r,M,hm,h=>zB6 r (zCU kind M m) (fun x hx=>hm x (by simp [hx])) (zOz (hm m (by simp)) h)
theorem zEQ (n:Nat) (s:List Sp):zDe n (T0 s):=fun i _=>by simp [T0]
theorem R0_diag (n:Nat) (s:List Sp):zDe n (R0 s):=fun i _=>by simp [R0,zFN]
def zFi (s:List Sp):Prop:=∀ i,0≤(zCA s i).lo∧(zCA s i).lo≤(zCA s i).hi∧(zCA s i).hi≤30000
theorem zMf {s:List Sp} (h:zFi s) (i:Nat):∀ d:Nat,0≤zFN s i d∧zFN s i d≤30000 * d
 | 0=>by simp [zFN]
 | d+1=>by
  have:=zMf h i d;have:=h (i+d)
  simp only [zFN];omega
theorem zMe {s:List Sp} (h:zFi s) (i:Nat):∀ d:Nat,0≤zGX s i d∧zGX s i d≤30000 * d
 | 0=>by simp [zGX]
 | d+1=>by
  have:=zMe h i d;have:=h (i+d)
  simp only [zGX];omega
theorem zNW {n:Nat} {s:List Sp} {E:Mat} (hE:Tri n E) (hd:zDe n E) (h:Le n E (T0 s)) (i:Nat):∀ d,i+d<n→E i (i+d)≤zFN s i d
 | 0,hi=>by have:=hd i (by omega);simp [zFN];omega
 | d+1,hi=>by
  have ih:=zNW hE hd h i d (by omega)
  have a1:=hE i (i+(d+1)) (i+d) (by omega) hi (by omega)
  have a2:=h (i+d) (i+(d+1)) (by omega) hi
  have e:T0 s (i+d) (i+(d+1))=(zCA s (i+d)).hi:=by
   unfold T0;rw [if_neg (by omega),if_pos (by omega)]
  rw [e] at a2
  simp only [zFN];omega
theorem zNP {n:Nat} {s:List Sp} {E:Mat} (hE:Tri n E) (hd:zDe n E) (h:Le n E (T0 s)) (i:Nat):∀ d,i+d<n→E (i+d) i≤-(zGX s i d)
 | 0,hi=>by have:=hd i (by omega);simp [zGX];omega
 | d+1,hi=>by
  have ih:=zNP hE hd h i d (by omega)
  have a1:=hE (i+(d+1)) i (i+d) hi (by omega) (by omega)
  have a2:=h (i+(d+1)) (i+d) hi (by omega)
  have e:T0 s (i+(d+1)) (i+d) = -(zCA s (i+d)).lo:=by
   unfold T0;rw [if_neg (by omega),if_neg (by omega),if_pos (by omega)]
  rw [e] at a2
  simp only [zGX];omega
theorem T0_R0 {n:Nat} {s:List Sp} {E:Mat} (hE:Tri n E) (hd:zDe n E) (h:Le n E (T0 s)):Le n E (R0 s):=fun i k hi hk=>by
 unfold R0
 split
 ·have:=zNW hE hd h i (k - i) (by omega)
  rwa [show i+(k - i)=k by omega] at this
 ·have:=zNP hE hd h k (i - k) (by omega)
  rwa [show k+(i - k)=i by omega] at this
theorem R0_T0 {n:Nat} {s:List Sp} (hs:zFi s) (hn:n≤13):Le n (R0 s) (T0 s):=fun i k hi hk=>by
 unfold R0 T0
 by_cases e:i=k
 ·subst e;simp [zFN]
 rw [if_neg e]
 by_cases e1:k=i+1
 ·subst e1
  rw [if_pos (by omega),if_pos rfl,show i+1 - i=0+1 by omega]
  simp [zFN]
 rw [if_neg e1]
 by_cases e2:i=k+1
 ·subst e2
  rw [if_neg (by omega),if_pos rfl,show k+1 - k=0+1 by omega]
  simp [zGX]
 rw [if_neg e2]
 unfold far
 split
 ·have:=zMf hs i (k - i);omega
 ·have:=zMe hs k (i - k);omega
theorem zIU {n:Nat} {s:List Sp} (hs:zFi s) (hn:n≤13) {ms ms':List Me} (hm:∀ m∈ms,zCn n m) (hp:∀ m,m∈ms'↔m∈ms) (kind:Int) :
  (fine n (meas kind (T0 s) ms') n↔fine n (meas kind (R0 s) ms) n)∧(fine n (meas kind (T0 s) ms') n→∀ i k,i<n→k<n→zAZ (meas kind (T0 s) ms') n i k=zAZ (meas kind (R0 s) ms) n i k):=by
 have hm':∀ m∈ms',zCn n m:=fun m h=>hm m ((hp m).1 h)
 refine zMF (zB6 ms' _ hm' (zEQ n s)) (zB6 ms _ hm (R0_diag n s)) (fun E hE hd h=>?_) (fun E hE hd h=>?_)
 ·obtain ⟨h1,h2⟩:=(zCS ms' _ hm').1 h
  exact (zCS ms _ hm).2 ⟨T0_R0 hE hd h1,fun m hx=>h2 m ((hp m).2 hx)⟩
 ·obtain ⟨h1,h2⟩:=(zCS ms _ hm).1 h
  exact (zCS ms' _ hm').2 ⟨fun i k hi hk=>Int.le_trans (h1 i k hi hk) (R0_T0 hs hn i k hi hk),fun m hx=>h2 m ((hp m).1 hx)⟩
end Go.Proofs.YtdigopgncfhiaaaGreatDoor
