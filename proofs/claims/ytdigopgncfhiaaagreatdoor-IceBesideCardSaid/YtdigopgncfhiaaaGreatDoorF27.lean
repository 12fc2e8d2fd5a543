/- F27 -/
import Derived.Test.YtdigopgncfhiaaaGreatDoorF26
import Derived.Test.YtdigopgncfhiaaaGreatDoorF23
import Derived.Test.YtdigopgncfhiaaaGreatDoorF12
import Derived.Test.YtdigopgncfhiaaaGreatDoorF24
import Derived.Test.YtdigopgncfhiaaaGreatDoorF9
import Derived.Test.YtdigopgncfhiaaaGreatDoorF15
set_option linter.unusedSimpArgs false
set_option linter.unusedVariables false
namespace Go.Proofs.YtdigopgncfhiaaaGreatDoor
variable {ro : Option Nat}
open Go.RowKit
set_option maxRecDepth 100000
section
variable {P : Program} {w0:World} {n:Nat} {d:List Deferred} {R:List (Nat × Value)} {H:List Ent} {o:Oper}
theorem zN7 {T1:TypeId} {ps:Array (Nat × Operand)} {s:Nat} {z cs:List Value} {qs:List (Nat × Value)} (hop:o.op = .build T1 ps) [i1:TyBA P T1 s z] (hp:evp R ps.toList=some qs) (hf:fillL (fun i=>some (i * s,s)) z qs=some cs):Ev P w0 n d R H o (.agg cs.toArray):=fun a w q=>by
 unfold execOp;rw [hop]
 have e1:(ps.map fun (i,x)=>(i,a.eval x)).toList=qs:=by rw [Array.toList_map];exact q.evp hp
 have e2:P.built T1 (ps.map fun (i,x)=>(i,a.eval x)).toList=some cs.toArray:=by
  rw [i1.bui,e1]
  exact fill_eq _ qs z cs hf
 simp only [Sem.run_bind,run_build w T1 _ _ e2,Result.andThen_ok,Sem.run_pure]
end
theorem icoverW (k:Int) (w:World):Ret Tryz.prog 44 [.int .i64 k] w (fun z:Wit=>zAH (zBU k) (some ⟨z.g,0,none⟩) 3 z.A 3 (some ⟨z.m,0,none⟩) 3) (fun z=>[.sl zAS 9 (some ⟨z.g,0,none⟩) (zBU k).t,.sl zAK 3 z.A (zBU k).beds,.sl zr 5 (some ⟨z.m,0,none⟩) (zBU k).hours]) (fun _=>True):=by
 (refine zJ (n:=22) Tryz.func44 rfl rfl rfl ?_)
 (repeat' (first|((with_reducible refine zF ?_);first|refine zE rfl rfl rfl ?_|refine zV rfl rfl rfl rfl (fun _ _ q=>zFF _ _ _) ?_|(refine zAQ rfl rfl rfl rfl (fun _ _ q=>irun_any _) ?_;rintro gr -;dsimp only [List.cons_append,List.nil_append])|(refine zb rfl rfl rfl rfl rfl ?_;refine ⟨rfl,by first|decide|exact Nat.le_of_ble_eq_true rfl|(simp;omega),_,rfl,?_⟩)|(refine zj rfl rfl (fun b=>?_))|(refine zAl rfl rfl rfl ?_;refine ⟨_,rfl,?_⟩)|(refine zY rfl rfl rfl ?_;refine ⟨rfl,_,rfl,fun b=>?_⟩))|(with_reducible first|refine zH ?_|refine zB ?_|refine zD ?_|refine zA ?_|refine zX ?_)))
 rename_i b2 bb
 exact zS (by (exact zi.cons (by exact res1c rfl (by exact rfl)) zi.nil)) ⟨gr,some ⟨bb,0,none⟩,b⟩ trivial rfl (fun _ h=>(Own.zGz (enc:=zAK) (xs:=(zBU k).beds) (b:=bb) (Take.there _ (Take.there _ (Take.here _ _))) (Own.zGz (enc:=zr) (xs:=(zBU k).hours) (b:=b) (Take.there _ (Take.here _ _)) h)).sub (by (repeat constructor)))
theorem zJN (w:World):Ret Tryz.prog 45 [] w (fun z:Wit=>.slice z.A 3 3) (fun z=>[.zDu z.g z.m z.A zFL]) (fun _=>True) :=
 (zJ5 w).conv fun z _=>⟨⟨z.1,z.2.2,z.2.1⟩,trivial,rfl,fun _ h=>h⟩
theorem zIQ (k:Int):Small (zBU k):=⟨fun s hs=>by
 simp only [zBU,runE,List.mem_cons,List.not_mem_nil,or_false] at hs
 rcases hs with rfl|rfl|rfl<;>decide,by simp [zBU,runE],by simp [zBU],by simp [zBU]⟩
theorem evi_need : zJG (zBU 2)=([1,2,1],0):=by decide +kernel
theorem evi_plan : zDX (zBU 2)=(zFL,0):=by decide +kernel
theorem zN4 : zDB (zBU 2) (zB5 zFL) 1 2=(⟨294,328⟩,0):=by decide +kernel
theorem zFJ : zFZ (zBU 2) (zB5 zFL)=⟨33000,34500⟩∧zBs (zBU 2) (zB5 zFL)=0∧zHt (zBU 2) (zB5 zFL)=2:=by decide +kernel
theorem evi_most : zF9 (zBU 2) (zB5 zFL) 2=(15,0):=by decide +kernel
theorem zLM : zFy (zBU 2) (zB5 [[],[],[]])=[(2,0),(2,1),(2,2)]∧zBs (zBU 2) (zB5 [[],[],[]])=0:=by decide +kernel
theorem zN5 : zEn (zBU 1)=(2,[0,1],0):=by decide +kernel
theorem zN6 : (zCm (zBU 2) 100 ⟨302,320⟩).2=0∧(zCm (zBU 2) 100 ⟨302,320⟩).1.beds=[⟨⟨302,310⟩,1⟩,⟨⟨290,300⟩,2⟩,⟨⟨300,300⟩,0⟩]:=by decide +kernel
theorem plan_nil {g n:Nat} {base:Nat} {w:World} {H H':List Ent} (h:Own base w H) (ht:Take H (.blk g (List.replicate n (.slice none 0 0))) H'):∃ pl:List Sli,pl.map Sli.xs=(zB5 (List.replicate n [])).map Sli.xs∧zBG w (some ⟨g,0,none⟩) pl:=by
 refine ⟨List.replicate n ⟨none,[],0⟩,by simp [zB5],?_,fun s hs=>?_⟩
 ·have h1:Blk w g (List.replicate n (.slice none 0 0)).toArray:=h.here _ ht.mem
  have e:(List.replicate n (⟨none,[],0⟩:Sli)).flatMap zBF=List.replicate n (.slice none 0 0):=by
   clear h ht h1
   induction n with
   | zero=>rfl
   | succ m ih=>rw [List.replicate_succ,List.flatMap_cons,ih];rfl
  rw [← e] at h1
  exact zF3 (fun _=>rfl) h1
 ·obtain rfl:=List.eq_of_mem_replicate hs
  intro i x hx;cases hx
end Go.Proofs.YtdigopgncfhiaaaGreatDoor
namespace Go.Proofs.YtdigopgncfhiaaaGreatDoor.Two
variable {ro : Option Nat}
open Go.RowKit
set_option maxRecDepth 100000
section
variable {S : List (Nat × Nat)} {I:List (Nat × Nat × Nat × List Ent)} {P:Program} {w0:World} {n:Nat} {d:List Deferred} {R R0:List (Nat × Value)} {H H' H0:List Ent} {Q:Exit→Act→World→Prop} {ops:Array Oper} {bs:List (List Bool)} {b:List Bool} {k:Nat} {o:Oper} {rest:List Oper} {T:List Rw} {t:Tmp} {Hk:zA9→List Ent} {x y:Operand} {v:Value}
theorem c_ret {V:Wit→Value} {E:Wit→List Ent} {f:FuncId} {fx:Operand} {xs:Array Operand} {ts:Array TypeId} {vs:zA9→List Value} {cap:Array Value} (hop:o.op = .call ⟨.value fx,xs,ts⟩) (hw:∀ G,want (Rk R0 ops b o T G) ops o=some true) (hd:o.dst=some t) (hf:∀ G,evR (Rk R0 ops b o T G) fx=some (.func (.func f) #[] cap)) (hx:∀ G,evs (Rk R0 ops b o T G) xs.toList=some (vs G)) [ci:zU P f]
  (hc:∀ G a w,Kn w0 n d (Rk R0 ops b o T G) (Hk G) a w→Ret P f (vs G++cap.toList) w V E (fun _=>True)) (h:zBS ro S I P w0 n d ops R0 H0 Q bs (k+1) rest (⟨k,some t,fun G=>(V (G k),E (G k))⟩::T)):CAt ro S I P w0 n d ops R0 H0 Q b bs k o rest T Hk:=by
 refine zFW (f:=fun G=>(V (G k),E (G k))) (fun G G' hG=>by simp only [hG k (.inl rfl)]) (fun G a w q K hK=>?_) (by rw [hd];exact h)
 rw [zBO q (hw G),if_pos rfl]
 unfold Oper.wp execOp;rw [hop]
 have e1:xs.map a.eval=(vs G).toArray:=by apply Array.ext';simpa using q.evs (hx G)
 have e2:(vs G).toArray++cap=(vs G++cap.toList).toArray:=by apply Array.ext';simp
 simp only [resolve,q.ev (hf G),e1,Deferred.ofValue,Sem.run_bind,Sem.run_pure,Result.andThen_ok,invoke,Array.empty_append,e2,ci.ent,Oper.upon_enter]
 refine Calls.mono (hc G a w q).calls ?_
 rintro e w' ⟨z,hp,rfl,hb,hE⟩
 exact hK _ _ _ ⟨z,by simp [upW]⟩ hb hE
theorem c_makeC {T1 e:TypeId} {i:TypeInfo} {z v:Value} {n0 s:Nat} {g:Bool} (hop:o.op = .makeSlice T1 x y) [i1:TyI P T1 (.slice e) s g] (hi:P.info? e=some i) (hz:i.zero=some z) (h1:i.size=1) (hcz:z.cells=#[v]) (hb:Nat.ble (i.bytes * 1000) 281474976710656=true) (hw:∀ G,want (Rk R0 ops b o T G) ops o=some true) (hd:o.dst=some t) (hx:∀ G,evR (Rk R0 ops b o T G) x=some (.int .i64 (n0:Int))) (hy:∀ G,evR (Rk R0 ops b o T G) y=some (.int .i64 (n0:Int))) (hn:n0≤1000)
  (h:zBS ro S I P w0 n d ops R0 H0 Q bs (k+1) rest (⟨k,some t,fun G=>(.slice (some ⟨(G k).g,0,none⟩) n0 n0,[.blk (G k).g (List.replicate n0 v)])⟩::T)):CAt ro S I P w0 n d ops R0 H0 Q b bs k o rest T Hk:=by
 refine zFW (f:=fun G=>(.slice (some ⟨(G k).g,0,none⟩) n0 n0,[.blk (G k).g (List.replicate n0 v)])) (fun G G' hG=>by simp only [hG k (.inl rfl)]) (fun G a w q K hK=>?_) (by rw [hd];exact h)
 rw [zBO q (hw G),if_pos rfl]
 have hb':(i.bytes:Int) * (n0:Int)≤281474976710656:=by
  have h9:=Nat.le_of_ble_eq_true hb
  have h8:i.bytes * n0≤i.bytes * 1000:=Nat.mul_le_mul_left _ hn
  have h7:((i.bytes * n0:Nat):Int)≤281474976710656:=by omega
  rwa [Int.natCast_mul] at h7
 have hr:=run_make (P:=P) w T1 e i z i1.und hi hz .i64 .i64 n0 n0 (by omega) (Int.le_refl _) hb' (by omega)
 simp only [Int.toNat_natCast,h1,Nat.mul_one,hcz] at hr
 unfold Oper.wp execOp;rw [hop]
 simp only [Sem.run_bind,q.ev (hx G),q.ev (hy G),hr,Result.andThen_ok,Sem.run_pure,Oper.upon_value]
 have e1:madeCells #[v] n0=(List.replicate n0 v).toArray:=by
  apply Array.ext'
  rw [toList_madeCells_one]
 rw [e1]
 exact hK _ _ _ ⟨⟨w.heap.size,none,0⟩,by simp only [upW,if_true]⟩ (zy w (.cells (List.replicate n0 v).toArray e)) (zHR w (List.replicate n0 v) e)
end
set_option maxHeartbeats 8000000 in
theorem zML (w:World) (hG:InC w 0 0 zCP):Gv Tryz.prog 15 [] w (.bool true):=by
 have s2:=zIQ 2
 have h1:=fun W A ca B cb C cc (hC:zAe W (zBU 2) A B C) (hG:InC W 0 0 zCP)=>zJQ (zBU 2) A ca B cb C cc W hC s2 hG
 have h2:=fun W A ca B cb C cc (hC:zAe W (zBU 2) A B C) (hG:InC W 0 0 zCP)=>Ret.zDu (V:=fun v=>.tuple #[v,.int .i64 (zDX (zBU 2)).2]) (zNw (zBU 2) A ca B cb C cc W hC s2 hG)
 have h3:=fun W A ca B cb C cc P (hC:zAe W (zBU 2) A B C) hp=>zJ9 (zBU 2) A ca B cb C cc zFL P 3 W hC s2 hp (by decide) (by decide) 1 2
 have h4:=fun W A ca B cb C cc P (hC:zAe W (zBU 2) A B C) hp=>iWaterP (zBU 2) A ca B cb C cc zFL P 3 W hC s2 hp (by decide) (by decide)
 have h5:=fun W A ca B cb C cc P (hC:zAe W (zBU 2) A B C) hp (hG:InC W 0 0 zCP)=>iSafeP (zBU 2) A ca B cb C cc zFL P 3 W hC s2 hp (by decide) (by decide) hG
 have h6:=fun W A ca B cb C cc P (hC:zAe W (zBU 2) A B C) hp (hG:InC W 0 0 zCP)=>iMostP (zBU 2) A ca B cb C cc zFL P 3 W hC s2 hp (by decide) (by decide) 2 hG
 have h7:=fun W A ca B cb C cc P (hC:zAe W (zBU 2) A B C) hp (hG:InC W 0 0 zCP)=>iThinP (zBU 2) A ca B cb C cc [[],[],[]] P 3 W hC s2 hp (by decide) (by decide) hG
 have h8:=fun W A ca B cb C cc (hC:zAe W (zBU 1) A B C) (hG:InC W 0 0 zCP)=>zMJ (zBU 1) A ca B cb C cc W hC (zIQ 1) hG
 have h9:=fun W A ca B cb C cc (hC:zAe W (zBU 2) A B C)=>Two.zMK (zBU 2) A ca B cb C cc 100 ⟨302,320⟩ W hC s2
 rw [evi_need] at h1
 rw [evi_plan] at h2
 rw [zN4] at h3
 rw [zFJ.1,zFJ.2.1] at h4
 rw [zFJ.2.2,zFJ.2.1] at h5
 rw [evi_most] at h6
 rw [zLM.1,zLM.2] at h7
 rw [zN5] at h8
 obtain ⟨d1,d2⟩:=zN6
 generalize zCm (zBU 2) 100 ⟨302,320⟩=dx at *
 unfold vSp at h3 h4 h9
 have d3:dx.1.beds.length=3:=by rw [d2];rfl
 simp only [d1,d2,d3,zAH,zM] at h9
 have h7w:∀ W A ca B cb C cc P,zAe W (zBU 2) A B C→_→InC W 0 0 zCP→Ret Tryz.prog 20 [zAH (zBU 2) A ca B cb C cc,.slice P 3 3] W (fun z:Wit=>.tuple #[.slice z.A 3 z.m,.int .i64 0]) (fun z=>[.sl zAW 2 z.A [(2,0),(2,1),(2,2)]]) (fun _=>True):=fun W A ca B cb C cc P hC hp hG=>(h7 W A ca B cb C cc P hC hp hG).conv fun p _=>⟨⟨0,p.1,p.2⟩,trivial,rfl,fun _ h=>h⟩
 have hcv:=icoverW
 unfold zAH zM at h1 h2 h3 h4 h5 h6 h7w h8 hcv
 unfold Gv
 (refine zJ (n:=166) Tryz.func15 rfl rfl rfl ?_)
 (repeat' (first|((with_reducible refine zF ?_);first|refine zE rfl rfl rfl ?_|refine zC rfl rfl rfl ?_|(refine zAQ rfl rfl rfl rfl (fun _ _ q=>hcv _ _) ?_;rintro z -;dsimp only [List.cons_append,List.nil_append])|(refine zAQ rfl rfl rfl rfl (fun _ _ q=>zJN _) ?_;rintro z -;dsimp only [List.cons_append,List.nil_append])|(refine zBt rfl rfl rfl rfl (fun _ _ q=>h1 _ _ _ _ _ _ _ ⟨(zAv q.own (Below.refl _ _)),(zAv q.own (Below.refl _ _)),(zAv q.own (Below.refl _ _))⟩ (hG.below q.below)) (fun N1 nc1=>?_))|(refine zAQ rfl rfl rfl rfl (fun _ _ q=>h2 _ _ _ _ _ _ _ ⟨(zAv q.own (Below.refl _ _)),(zAv q.own (Below.refl _ _)),(zAv q.own (Below.refl _ _))⟩ (hG.below q.below)) ?_;rintro ⟨pg,pn,pA,pc⟩ -;dsimp only [List.cons_append,List.nil_append])|refine zV rfl rfl rfl rfl (fun _ _ q=>h3 _ _ _ _ _ _ _ _ ⟨(zAv q.own (Below.refl _ _)),(zAv q.own (Below.refl _ _)),(zAv q.own (Below.refl _ _))⟩ (zCt q.own (by (repeat constructor)))) ?_|refine zV rfl rfl rfl rfl (fun _ _ q=>h4 _ _ _ _ _ _ _ _ ⟨(zAv q.own (Below.refl _ _)),(zAv q.own (Below.refl _ _)),(zAv q.own (Below.refl _ _))⟩ (zCt q.own (by (repeat constructor)))) ?_|refine zV rfl rfl rfl rfl (fun _ _ q=>h5 _ _ _ _ _ _ _ _ ⟨(zAv q.own (Below.refl _ _)),(zAv q.own (Below.refl _ _)),(zAv q.own (Below.refl _ _))⟩ (zCt q.own (by (repeat constructor))) (hG.below q.below)) ?_|refine zV rfl rfl rfl rfl (fun _ _ q=>h6 _ _ _ _ _ _ _ _ ⟨(zAv q.own (Below.refl _ _)),(zAv q.own (Below.refl _ _)),(zAv q.own (Below.refl _ _))⟩ (zCt q.own (by (repeat constructor))) (hG.below q.below)) ?_|refine zc rfl rfl rfl rfl ?_|(refine zb rfl rfl rfl rfl rfl ?_;refine ⟨rfl,by first|decide|exact Nat.le_of_ble_eq_true rfl|(simp;omega),_,rfl,?_⟩)|(refine zj rfl rfl (fun b=>?_)))|(with_reducible first|refine zH ?_|refine zB ?_|refine zD ?_|refine zA ?_)))
 rename_i b5 y1 y2 y3 y4 y5
 obtain ⟨b7,hb7⟩:∃ x,x=b:=⟨_,rfl⟩
 subst hb7
 refine U.sub (R':=[(0,.bool false),(1,.slice N1 3 nc1),(2,.int .i64 0),(3,.slice pA 3 pc),(4,.int .i64 0),(5,.pointer (some ⟨b5,0,none⟩)),(6,.int .i64 0),(7,.pointer (some ⟨b7,0,none⟩)),(8,.int .i64 0),(9,.int .u8 2),(10,.int .i64 0),(11,.int .i64 15),(12,.int .i64 0)]) (H':=[.sl encI 1 N1 [1,2,1],.zDu pg pn pA zFL,.blk b5 [.int .i64 294,.int .i64 328],.blk b7 [.int .i64 33000,.int .i64 34500]]) (by (repeat first|exact lK1|refine zL rfl ?_)) (by (repeat constructor)) ?_
 (refine zA1 [] [] [] rfl (show ([]:List Nat).Nodup by decide) (fun _ h=>h) (by kernel_rfl) [[],[Y],[Z,Z],[Z,Z,Z],[Z,Z,Z,Z],[Y,Z,Z,Z,Z],[Y,Z,Z,Z,Z,Z],[Z,Z,Z,Z,Z,Z,Z]] (by kernel_rfl) (by kernel_rfl) (by kernel_rfl) (by kernel_rfl) (by kernel_rfl) ?_)
 (repeat' (first|(((with_reducible refine zDQ ?_ ?_);(· exact rfl);refine ⟨_,fun G=>(by (try simp (decide:=true) only [vis,see,fltT,zAF,Nat.reduceAdd,Nat.reduceSub,if_true,if_false,List.set_cons_zero,List.set_cons_succ,List.set_nil,List.nil_append,List.cons_append]);rfl),?_⟩);first|refine zm _ (fun _=>zAi rfl rfl) (fun _=>rfl) rfl (by intro G G' h;simp (decide:=true) only [h]) ?_|refine zm _ (fun _=>zCE rfl rfl) (fun _=>rfl) rfl (by intro G G' h;simp (decide:=true) only [h]) ?_|(refine c_ret rfl (fun _=>rfl) rfl (fun _=>rfl) (fun _=>rfl) (fun _ _ _ _=>hcv _ _) ?_)|(refine c_makeC (v:=.slice none 0 0) rfl rfl rfl rfl rfl rfl (fun _=>rfl) rfl (fun _=>rfl) (fun _=>rfl) (by decide) ?_)|(refine c_ret rfl (fun _=>rfl) rfl (fun _=>rfl) (fun _=>rfl) (fun _ _ _ q=>h7w _ _ _ _ _ _ _ _ ⟨(zAv q.own (Below.refl _ _)),(zAv q.own (Below.refl _ _)),(zAv q.own (Below.refl _ _))⟩ (plan_nil (n:=3) q.own (by (repeat constructor))) (hG.below q.below)) ?_)|refine zm _ (fun _=>zJZ rfl rfl rfl) (fun _=>rfl) rfl (by intro G G' h;simp (decide:=true) only [h]) ?_)|(with_reducible refine zLX ?_)))
 (intro G;simp only [regsT,zAF,zBb,ini,List.nil_append,List.cons_append])
 (repeat' (first|((with_reducible refine zF ?_);first|refine zE rfl rfl rfl ?_|refine zC rfl rfl rfl ?_|(refine zAQ rfl rfl rfl rfl (fun _ _ q=>hcv _ _) ?_;rintro z -;dsimp only [List.cons_append,List.nil_append])|refine zV rfl rfl rfl rfl (fun _ _ q=>zFF _ _ _) ?_|(refine zBt rfl rfl rfl rfl (fun _ _ q=>h8 _ _ _ _ _ _ _ ⟨(zAv q.own (Below.refl _ _)),(zAv q.own (Below.refl _ _)),(zAv q.own (Below.refl _ _))⟩ (hG.below q.below)) (fun S1 sc1=>?_))|(refine zAQ rfl rfl rfl rfl (fun _ _ q=>h9 _ _ _ _ _ _ _ ⟨(zAv q.own (Below.refl _ _)),(zAv q.own (Below.refl _ _)),(zAv q.own (Below.refl _ _))⟩) ?_;rintro ⟨⟨E1,ec1⟩,⟨F1,fc1⟩,⟨G1,gc1⟩⟩ -;dsimp only [List.cons_append,List.nil_append])|refine zc rfl rfl rfl rfl ?_|(refine zb rfl rfl rfl rfl rfl ?_;refine ⟨rfl,by first|decide|exact Nat.le_of_ble_eq_true rfl|(simp;omega),_,rfl,?_⟩)|(refine zj rfl rfl (fun b=>?_)))|(with_reducible first|refine zH ?_|refine zB ?_|refine zD ?_|refine zA ?_)))
 simp only [Nat.reduceAdd]
 generalize (G 2).A=T1
 generalize (G 2).m=tc1
 refine U.sub (R':=[(0,.bool false),(1,.slice N1 3 nc1),(2,.int .i64 0),(3,.slice pA 3 pc),(4,.int .i64 0),(5,.pointer (some ⟨b5,0,none⟩)),(6,.int .i64 0),(7,.pointer (some ⟨b7,0,none⟩)),(8,.int .i64 0),(9,.int .u8 2),(10,.int .i64 0),(11,.int .i64 15),(12,.int .i64 0),(13,.slice T1 3 tc1),(14,.int .i64 0),(15,.int .i64 2),(16,.slice S1 2 sc1),(17,.int .i64 0),(18,.pointer (some ⟨b,0,none⟩)),(19,.int .i64 0)]) (H':=[.blk b [.slice E1 dx.1.t.length ec1,.slice F1 3 fc1,.slice G1 dx.1.hours.length gc1,.int .i64 dx.1.wear.lo,.int .i64 dx.1.wear.hi,.int .i64 dx.1.layer.lo,.int .i64 dx.1.layer.hi,.int .i64 dx.1.rate,.int .i64 dx.1.limit,.int .i64 dx.1.base],.sl zAK 3 F1 [⟨⟨302,310⟩,1⟩,⟨⟨290,300⟩,2⟩,⟨⟨300,300⟩,0⟩],.sl zAW 2 T1 [(2,0),(2,1),(2,2)],.sl encI 1 S1 [0,1],.sl encI 1 N1 [1,2,1],.zDu pg pn pA zFL,.blk b5 [.int .i64 294,.int .i64 328],.blk b7 [.int .i64 33000,.int .i64 34500]]) (by (repeat first|exact lK1|refine zL rfl ?_)) (by (repeat constructor)) ?_
 refine u_slS (enc:=zAK) (A:=F1) (by (repeat constructor)) (by decide) ?_
 rintro b9 o9 rfl
 have g0:zAT [(⟨⟨302,310⟩,1⟩:Bed),⟨⟨290,300⟩,2⟩,⟨⟨300,300⟩,0⟩] 0 ⟨⟨302,310⟩,1⟩:=⟨rfl⟩
 dsimp only [List.append]
 (refine zA1 [] [] [] rfl (show ([]:List Nat).Nodup by decide) (fun _ h=>h) (by kernel_rfl) [[],[Z],[Z,Z],[Z,Z,Z],[Y,Z,Z,Z],[Z,Z,Z,Z,Z],[Z,Z,Z,Z,Z,Z],[Z,Z,Z,Z,Z,Z,Z],[Z,Z,Z,Z,Z,Z,Z,Z],[Z,Z,Z,Z,Z,Z,Z,Z,Z],[Z,Z,Z,Z,Z,Z,Z,Z,Z,Z],[Z,Z,Z,Z,Z,Z,Z,Z,Z,Z,Z],[Z,Z,Z,Z,Z,Z,Z,Z,Z,Z,Z,Z],[Y,Z,Z,Z,Z,Z,Z,Z,Z,Z,Z,Z,Z],[Z,Z,Z,Z,Z,Z,Z,Z,Z,Z,Z,Z,Z,Z],[Z,Z,Z,Z,Z,Z,Z,Z,Z,Z,Z,Z,Z,Z,Z],[Z,Z,Z,Z,Z,Z,Z,Z,Z,Z,Z,Z,Z,Z,Z,Z],[Z,Z,Z,Z,Z,Z,Z,Z,Z,Z,Z,Z,Z,Z,Z,Z,Z],[Z,Z,Z,Z,Z,Z,Z,Z,Z,Z,Z,Z,Z,Z,Z,Z,Z,Z],[Z,Z,Z,Z,Z,Z,Z,Z,Z,Z,Z,Z,Z,Z,Z,Z,Z,Z,Z],[Z,Z,Z,Z,Z,Z,Z,Z,Z,Z,Z,Z,Z,Z,Z,Z,Z,Z,Z,Z],[Z,Z,Z,Z,Z,Z,Z,Z,Z,Z,Z,Z,Z,Z,Z,Z,Z,Z,Z,Z,Z],[Y,Z,Z,Z,Z,Z,Z,Z,Z,Z,Z,Z,Z,Z,Z,Z,Z,Z,Z,Z,Z,Z],[Z,Z,Z,Z,Z,Z,Z,Z,Z,Z,Z,Z,Z,Z,Z,Z,Z,Z,Z,Z,Z,Z,Z],[Z,Z,Z,Z,Z,Z,Z,Z,Z,Z,Z,Z,Z,Z,Z,Z,Z,Z,Z,Z,Z,Z,Z,Z],[Z,Z,Z,Z,Z,Z,Z,Z,Z,Z,Z,Z,Z,Z,Z,Z,Z,Z,Z,Z,Z,Z,Z,Z,Z],[Z,Z,Z,Z,Z,Z,Z,Z,Z,Z,Z,Z,Z,Z,Z,Z,Z,Z,Z,Z,Z,Z,Z,Z,Z,Z],[Z,Z,Z,Z,Z,Z,Z,Z,Z,Z,Z,Z,Z,Z,Z,Z,Z,Z,Z,Z,Z,Z,Z,Z,Z,Z,Z],[Z,Z,Z,Z,Z,Z,Z,Z,Z,Z,Z,Z,Z,Z,Z,Z,Z,Z,Z,Z,Z,Z,Z,Z,Z,Z,Z,Z],[Z,Z,Z,Z,Z,Z,Z,Z,Z,Z,Z,Z,Z,Z,Z,Z,Z,Z,Z,Z,Z,Z,Z,Z,Z,Z,Z,Z,Z],[Z,Z,Z,Z,Z,Z,Z,Z,Z,Z,Z,Z,Z,Z,Z,Z,Z,Z,Z,Z,Z,Z,Z,Z,Z,Z,Z,Z,Z,Z],[Y,Z,Z,Z,Z,Z,Z,Z,Z,Z,Z,Z,Z,Z,Z,Z,Z,Z,Z,Z,Z,Z,Z,Z,Z,Z,Z,Z,Z,Z,Z],[Z,Z,Z,Z,Z,Z,Z,Z,Z,Z,Z,Z,Z,Z,Z,Z,Z,Z,Z,Z,Z,Z,Z,Z,Z,Z,Z,Z,Z,Z,Z,Z],[Z,Z,Z,Z,Z,Z,Z,Z,Z,Z,Z,Z,Z,Z,Z,Z,Z,Z,Z,Z,Z,Z,Z,Z,Z,Z,Z,Z,Z,Z,Z,Z,Z],[Z,Z,Z,Z,Z,Z,Z,Z,Z,Z,Z,Z,Z,Z,Z,Z,Z,Z,Z,Z,Z,Z,Z,Z,Z,Z,Z,Z,Z,Z,Z,Z,Z,Z],[Z,Z,Z,Z,Z,Z,Z,Z,Z,Z,Z,Z,Z,Z,Z,Z,Z,Z,Z,Z,Z,Z,Z,Z,Z,Z,Z,Z,Z,Z,Z,Z,Z,Z,Z],[Z,Z,Z,Z,Z,Z,Z,Z,Z,Z,Z,Z,Z,Z,Z,Z,Z,Z,Z,Z,Z,Z,Z,Z,Z,Z,Z,Z,Z,Z,Z,Z,Z,Z,Z,Z],[Z,Z,Z,Z,Z,Z,Z,Z,Z,Z,Z,Z,Z,Z,Z,Z,Z,Z,Z,Z,Z,Z,Z,Z,Z,Z,Z,Z,Z,Z,Z,Z,Z,Z,Z,Z,Z],[Z,Z,Z,Z,Z,Z,Z,Z,Z,Z,Z,Z,Z,Z,Z,Z,Z,Z,Z,Z,Z,Z,Z,Z,Z,Z,Z,Z,Z,Z,Z,Z,Z,Z,Z,Z,Z,Z],[Z,Z,Z,Z,Z,Z,Z,Z,Z,Z,Z,Z,Z,Z,Z,Z,Z,Z,Z,Z,Z,Z,Z,Z,Z,Z,Z,Z,Z,Z,Z,Z,Z,Z,Z,Z,Z,Z,Z],[Z,Z,Z,Z,Z,Z,Z,Z,Z,Z,Z,Z,Z,Z,Z,Z,Z,Z,Z,Z,Z,Z,Z,Z,Z,Z,Z,Z,Z,Z,Z,Z,Z,Z,Z,Z,Z,Z,Z,Z],[Z,Z,Z,Z,Z,Z,Z,Z,Z,Z,Z,Z,Z,Z,Z,Z,Z,Z,Z,Z,Z,Z,Z,Z,Z,Z,Z,Z,Z,Z,Z,Z,Z,Z,Z,Z,Z,Z,Z,Z,Z],[Z,Z,Z,Z,Z,Z,Z,Z,Z,Z,Z,Z,Z,Z,Z,Z,Z,Z,Z,Z,Z,Z,Z,Z,Z,Z,Z,Z,Z,Z,Z,Z,Z,Z,Z,Z,Z,Z,Z,Z,Z,Z],[Z,Z,Z,Z,Z,Z,Z,Z,Z,Z,Z,Z,Z,Z,Z,Z,Z,Z,Z,Z,Z,Z,Z,Z,Z,Z,Z,Z,Z,Z,Z,Z,Z,Z,Z,Z,Z,Z,Z,Z,Z,Z,Z],[Z,Z,Z,Z,Z,Z,Z,Z,Z,Z,Z,Z,Z,Z,Z,Z,Z,Z,Z,Z,Z,Z,Z,Z,Z,Z,Z,Z,Z,Z,Z,Z,Z,Z,Z,Z,Z,Z,Z,Z,Z,Z,Z,Z],[Z,Z,Z,Z,Z,Z,Z,Z,Z,Z,Z,Z,Z,Z,Z,Z,Z,Z,Z,Z,Z,Z,Z,Z,Z,Z,Z,Z,Z,Z,Z,Z,Z,Z,Z,Z,Z,Z,Z,Z,Z,Z,Z,Z,Z],[Z,Z,Z,Z,Z,Z,Z,Z,Z,Z,Z,Z,Z,Z,Z,Z,Z,Z,Z,Z,Z,Z,Z,Z,Z,Z,Z,Z,Z,Z,Z,Z,Z,Z,Z,Z,Z,Z,Z,Z,Z,Z,Z,Z,Z,Z],[Z,Z,Z,Z,Z,Z,Z,Z,Z,Z,Z,Z,Z,Z,Z,Z,Z,Z,Z,Z,Z,Z,Z,Z,Z,Z,Z,Z,Z,Z,Z,Z,Z,Z,Z,Z,Z,Z,Z,Z,Z,Z,Z,Z,Z,Z,Z],[Z,Z,Z,Z,Z,Z,Z,Z,Z,Z,Z,Z,Z,Z,Z,Z,Z,Z,Z,Z,Z,Z,Z,Z,Z,Z,Z,Z,Z,Z,Z,Z,Z,Z,Z,Z,Z,Z,Z,Z,Z,Z,Z,Z,Z,Z,Z,Z],[Z,Z,Z,Z,Z,Z,Z,Z,Z,Z,Z,Z,Z,Z,Z,Z,Z,Z,Z,Z,Z,Z,Z,Z,Z,Z,Z,Z,Z,Z,Z,Z,Z,Z,Z,Z,Z,Z,Z,Z,Z,Z,Z,Z,Z,Z,Z,Z,Z],[Z,Z,Z,Z,Z,Z,Z,Z,Z,Z,Z,Z,Z,Z,Z,Z,Z,Z,Z,Z,Z,Z,Z,Z,Z,Z,Z,Z,Z,Z,Z,Z,Z,Z,Z,Z,Z,Z,Z,Z,Z,Z,Z,Z,Z,Z,Z,Z,Z,Z],[Z,Z,Z,Z,Z,Z,Z,Z,Z,Z,Z,Z,Z,Z,Z,Z,Z,Z,Z,Z,Z,Z,Z,Z,Z,Z,Z,Z,Z,Z,Z,Z,Z,Z,Z,Z,Z,Z,Z,Z,Z,Z,Z,Z,Z,Z,Z,Z,Z,Z,Z],[Z,Z,Z,Z,Z,Z,Z,Z,Z,Z,Z,Z,Z,Z,Z,Z,Z,Z,Z,Z,Z,Z,Z,Z,Z,Z,Z,Z,Z,Z,Z,Z,Z,Z,Z,Z,Z,Z,Z,Z,Z,Z,Z,Z,Z,Z,Z,Z,Z,Z,Z,Z],[Z,Z,Z,Z,Z,Z,Z,Z,Z,Z,Z,Z,Z,Z,Z,Z,Z,Z,Z,Z,Z,Z,Z,Z,Z,Z,Z,Z,Z,Z,Z,Z,Z,Z,Z,Z,Z,Z,Z,Z,Z,Z,Z,Z,Z,Z,Z,Z,Z,Z,Z,Z,Z],[Z,Z,Z,Z,Z,Z,Z,Z,Z,Z,Z,Z,Z,Z,Z,Z,Z,Z,Z,Z,Z,Z,Z,Z,Z,Z,Z,Z,Z,Z,Z,Z,Z,Z,Z,Z,Z,Z,Z,Z,Z,Z,Z,Z,Z,Z,Z,Z,Z,Z,Z,Z,Z,Z],[Z,Z,Z,Z,Z,Z,Z,Z,Z,Z,Z,Z,Z,Z,Z,Z,Z,Z,Z,Z,Z,Z,Z,Z,Z,Z,Z,Z,Z,Z,Z,Z,Z,Z,Z,Z,Z,Z,Z,Z,Z,Z,Z,Z,Z,Z,Z,Z,Z,Z,Z,Z,Z,Z,Z],[Y,Z,Z,Z,Z,Z,Z,Z,Z,Z,Z,Z,Z,Z,Z,Z,Z,Z,Z,Z,Z,Z,Z,Z,Z,Z,Z,Z,Z,Z,Z,Z,Z,Z,Z,Z,Z,Z,Z,Z,Z,Z,Z,Z,Z,Z,Z,Z,Z,Z,Z,Z,Z,Z,Z,Z],[Y,Y,Z,Z,Z,Z,Z,Z,Z,Z,Z,Z,Z,Z,Z,Z,Z,Z,Z,Z,Z,Z,Z,Z,Z,Z,Z,Z,Z,Z,Z,Z,Z,Z,Z,Z,Z,Z,Z,Z,Z,Z,Z,Z,Z,Z,Z,Z,Z,Z,Z,Z,Z,Z,Z,Z,Z],[Y,Y,Y,Z,Z,Z,Z,Z,Z,Z,Z,Z,Z,Z,Z,Z,Z,Z,Z,Z,Z,Z,Z,Z,Z,Z,Z,Z,Z,Z,Z,Z,Z,Z,Z,Z,Z,Z,Z,Z,Z,Z,Z,Z,Z,Z,Z,Z,Z,Z,Z,Z,Z,Z,Z,Z,Z,Z],[Z,Z,Z,Y,Z,Z,Z,Z,Z,Z,Z,Z,Z,Z,Z,Z,Z,Z,Z,Z,Z,Z,Z,Z,Z,Z,Z,Z,Z,Z,Z,Z,Z,Z,Z,Z,Z,Z,Z,Z,Z,Z,Z,Z,Z,Z,Z,Z,Z,Z,Z,Z,Z,Z,Z,Z,Z,Z,Z],[Z,Z,Z,Z,Z,Z,Z,Z,Z,Z,Z,Z,Z,Z,Z,Z,Z,Z,Z,Z,Z,Z,Z,Z,Z,Z,Z,Z,Z,Z,Z,Z,Z,Z,Z,Z,Z,Z,Z,Z,Z,Z,Z,Z,Z,Z,Z,Z,Z,Z,Z,Z,Z,Z,Z,Z,Z,Z,Z,Z],[Z,Z,Z,Z,Z,Z,Z,Z,Z,Z,Z,Z,Z,Z,Z,Z,Z,Z,Z,Z,Z,Z,Z,Z,Z,Z,Z,Z,Z,Z,Z,Z,Z,Z,Z,Z,Z,Z,Z,Z,Z,Z,Z,Z,Z,Z,Z,Z,Z,Z,Z,Z,Z,Z,Z,Z,Z,Z,Z,Z,Z],[Z,Z,Z,Z,Z,Z,Z,Z,Z,Z,Z,Z,Z,Z,Z,Z,Z,Z,Z,Z,Z,Z,Z,Z,Z,Z,Z,Z,Z,Z,Z,Z,Z,Z,Z,Z,Z,Z,Z,Z,Z,Z,Z,Z,Z,Z,Z,Z,Z,Z,Z,Z,Z,Z,Z,Z,Z,Z,Z,Z,Z,Z],[Z,Z,Z,Z,Z,Z,Z,Z,Z,Z,Z,Z,Z,Z,Z,Z,Z,Z,Z,Z,Z,Z,Z,Z,Z,Z,Z,Z,Z,Z,Z,Z,Z,Z,Z,Z,Z,Z,Z,Z,Z,Z,Z,Z,Z,Z,Z,Z,Z,Z,Z,Z,Z,Z,Z,Z,Z,Z,Z,Z,Z,Z,Z],[Z,Z,Z,Z,Z,Z,Z,Z,Z,Z,Z,Z,Z,Z,Z,Z,Z,Z,Z,Z,Z,Z,Z,Z,Z,Z,Z,Z,Z,Z,Z,Z,Z,Z,Z,Z,Z,Z,Z,Z,Z,Z,Z,Z,Z,Z,Z,Z,Z,Z,Z,Z,Z,Z,Z,Z,Z,Z,Z,Z,Z,Z,Z,Z],[Z,Z,Z,Z,Z,Z,Z,Z,Z,Z,Z,Z,Z,Z,Z,Z,Z,Z,Z,Z,Z,Z,Z,Z,Z,Z,Z,Z,Z,Z,Z,Z,Z,Z,Z,Z,Z,Z,Z,Z,Z,Z,Z,Z,Z,Z,Z,Z,Z,Z,Z,Z,Z,Z,Z,Z,Z,Z,Z,Z,Z,Z,Z,Z,Z],[Z,Z,Z,Z,Z,Z,Z,Z,Z,Z,Z,Z,Z,Z,Z,Z,Z,Z,Z,Z,Z,Z,Z,Z,Z,Z,Z,Z,Z,Z,Z,Z,Z,Z,Z,Z,Z,Z,Z,Z,Z,Z,Z,Z,Z,Z,Z,Z,Z,Z,Z,Z,Z,Z,Z,Z,Z,Z,Z,Z,Z,Z,Z,Z,Z,Z],[Z,Z,Z,Z,Z,Z,Z,Z,Z,Z,Z,Z,Z,Z,Z,Z,Z,Z,Z,Z,Z,Z,Z,Z,Z,Z,Z,Z,Z,Z,Z,Z,Z,Z,Z,Z,Z,Z,Z,Z,Z,Z,Z,Z,Z,Z,Z,Z,Z,Z,Z,Z,Z,Z,Z,Z,Z,Z,Z,Z,Z,Z,Z,Z,Z,Z,Z],[Z,Z,Z,Z,Z,Z,Z,Z,Z,Z,Z,Z,Z,Z,Z,Z,Z,Z,Z,Z,Z,Z,Z,Z,Z,Z,Z,Z,Z,Z,Z,Z,Z,Z,Z,Z,Z,Z,Z,Z,Z,Z,Z,Z,Z,Z,Z,Z,Z,Z,Z,Z,Z,Z,Z,Z,Z,Z,Z,Z,Z,Z,Z,Z,Z,Z,Z,Z],[Z,Z,Z,Z,Z,Z,Z,Z,Z,Z,Z,Z,Z,Z,Z,Z,Z,Z,Z,Z,Z,Z,Z,Z,Z,Z,Z,Z,Z,Z,Z,Z,Z,Z,Z,Z,Z,Z,Z,Z,Z,Z,Z,Z,Z,Z,Z,Z,Z,Z,Z,Z,Z,Z,Z,Z,Z,Z,Z,Z,Z,Z,Z,Z,Z,Z,Z,Z,Z],[Z,Z,Z,Z,Z,Z,Z,Z,Z,Z,Z,Z,Z,Z,Z,Z,Z,Z,Z,Z,Z,Z,Z,Z,Z,Z,Z,Z,Z,Z,Z,Z,Z,Z,Z,Z,Z,Z,Z,Z,Z,Z,Z,Z,Z,Z,Z,Z,Z,Z,Z,Z,Z,Z,Z,Z,Z,Z,Z,Z,Z,Z,Z,Z,Z,Z,Z,Z,Z,Z],[Z,Z,Z,Z,Z,Z,Z,Z,Z,Z,Z,Z,Z,Z,Z,Z,Z,Z,Z,Z,Z,Z,Z,Z,Z,Z,Z,Z,Z,Z,Z,Z,Z,Z,Z,Z,Z,Z,Z,Z,Z,Z,Z,Z,Z,Z,Z,Z,Z,Z,Z,Z,Z,Z,Z,Z,Z,Z,Z,Z,Z,Z,Z,Z,Z,Z,Z,Z,Z,Z,Z],[Y,Z,Z,Z,Z,Z,Z,Z,Z,Z,Z,Z,Z,Z,Z,Z,Z,Z,Z,Z,Z,Z,Z,Z,Z,Z,Z,Z,Z,Z,Z,Z,Z,Z,Z,Z,Z,Z,Z,Z,Z,Z,Z,Z,Z,Z,Z,Z,Z,Z,Z,Z,Z,Z,Z,Z,Z,Z,Z,Z,Z,Z,Z,Z,Z,Z,Z,Z,Z,Z,Z,Z],[Z,Z,Z,Z,Z,Z,Z,Z,Z,Z,Z,Z,Z,Z,Z,Z,Z,Z,Z,Z,Z,Z,Z,Z,Z,Z,Z,Z,Z,Z,Z,Z,Z,Z,Z,Z,Z,Z,Z,Z,Z,Z,Z,Z,Z,Z,Z,Z,Z,Z,Z,Z,Z,Z,Z,Z,Z,Z,Z,Z,Z,Z,Z,Z,Z,Z,Z,Z,Z,Z,Z,Z,Z],[Z,Z,Z,Z,Z,Z,Z,Z,Z,Z,Z,Z,Z,Z,Z,Z,Z,Z,Z,Z,Z,Z,Z,Z,Z,Z,Z,Z,Z,Z,Z,Z,Z,Z,Z,Z,Z,Z,Z,Z,Z,Z,Z,Z,Z,Z,Z,Z,Z,Z,Z,Z,Z,Z,Z,Z,Z,Z,Z,Z,Z,Z,Z,Z,Z,Z,Z,Z,Z,Z,Z,Z,Z,Z],[Z,Z,Z,Z,Z,Z,Z,Z,Z,Z,Z,Z,Z,Z,Z,Z,Z,Z,Z,Z,Z,Z,Z,Z,Z,Z,Z,Z,Z,Z,Z,Z,Z,Z,Z,Z,Z,Z,Z,Z,Z,Z,Z,Z,Z,Z,Z,Z,Z,Z,Z,Z,Z,Z,Z,Z,Z,Z,Z,Z,Z,Z,Z,Z,Z,Z,Z,Z,Z,Z,Z,Z,Z,Z,Z],[Z,Z,Z,Z,Z,Z,Z,Z,Z,Z,Z,Z,Z,Z,Z,Z,Z,Z,Z,Z,Z,Z,Z,Z,Z,Z,Z,Z,Z,Z,Z,Z,Z,Z,Z,Z,Z,Z,Z,Z,Z,Z,Z,Z,Z,Z,Z,Z,Z,Z,Z,Z,Z,Z,Z,Z,Z,Z,Z,Z,Z,Z,Z,Z,Z,Z,Z,Z,Z,Z,Z,Z,Z,Z,Z,Z],[Z,Z,Z,Z,Z,Z,Z,Z,Z,Z,Z,Z,Z,Z,Z,Z,Z,Z,Z,Z,Z,Z,Z,Z,Z,Z,Z,Z,Z,Z,Z,Z,Z,Z,Z,Z,Z,Z,Z,Z,Z,Z,Z,Z,Z,Z,Z,Z,Z,Z,Z,Z,Z,Z,Z,Z,Z,Z,Z,Z,Z,Z,Z,Z,Z,Z,Z,Z,Z,Z,Z,Z,Z,Z,Z,Z,Z],[Z,Z,Z,Z,Z,Z,Z,Z,Z,Z,Z,Z,Z,Z,Z,Z,Z,Z,Z,Z,Z,Z,Z,Z,Z,Z,Z,Z,Z,Z,Z,Z,Z,Z,Z,Z,Z,Z,Z,Z,Z,Z,Z,Z,Z,Z,Z,Z,Z,Z,Z,Z,Z,Z,Z,Z,Z,Z,Z,Z,Z,Z,Z,Z,Z,Z,Z,Z,Z,Z,Z,Z,Z,Z,Z,Z,Z,Z],[Z,Z,Z,Z,Z,Z,Z,Z,Z,Z,Z,Z,Z,Z,Z,Z,Z,Z,Z,Z,Z,Z,Z,Z,Z,Z,Z,Z,Z,Z,Z,Z,Z,Z,Z,Z,Z,Z,Z,Z,Z,Z,Z,Z,Z,Z,Z,Z,Z,Z,Z,Z,Z,Z,Z,Z,Z,Z,Z,Z,Z,Z,Z,Z,Z,Z,Z,Z,Z,Z,Z,Z,Z,Z,Z,Z,Z,Z,Z],[Z,Z,Z,Z,Z,Z,Z,Z,Z,Z,Z,Z,Z,Z,Z,Z,Z,Z,Z,Z,Z,Z,Z,Z,Z,Z,Z,Z,Z,Z,Z,Z,Z,Z,Z,Z,Z,Z,Z,Z,Z,Z,Z,Z,Z,Z,Z,Z,Z,Z,Z,Z,Z,Z,Z,Z,Z,Z,Z,Z,Z,Z,Z,Z,Z,Z,Z,Z,Z,Z,Z,Z,Z,Z,Z,Z,Z,Z,Z,Z],[Z,Z,Z,Z,Z,Z,Z,Z,Z,Z,Z,Z,Z,Z,Z,Z,Z,Z,Z,Z,Z,Z,Z,Z,Z,Z,Z,Z,Z,Z,Z,Z,Z,Z,Z,Z,Z,Z,Z,Z,Z,Z,Z,Z,Z,Z,Z,Z,Z,Z,Z,Z,Z,Z,Z,Z,Z,Z,Z,Z,Z,Z,Z,Z,Z,Z,Z,Z,Z,Z,Z,Z,Z,Z,Z,Z,Z,Z,Z,Z,Z],[Z,Z,Z,Z,Z,Z,Z,Z,Z,Z,Z,Z,Z,Z,Z,Z,Z,Z,Z,Z,Z,Z,Z,Z,Z,Z,Z,Z,Z,Z,Z,Z,Z,Z,Z,Z,Z,Z,Z,Z,Z,Z,Z,Z,Z,Z,Z,Z,Z,Z,Z,Z,Z,Z,Z,Z,Z,Z,Z,Z,Z,Z,Z,Z,Z,Z,Z,Z,Z,Z,Z,Z,Z,Z,Z,Z,Z,Z,Z,Z,Z,Z],[Z,Z,Z,Z,Z,Z,Z,Z,Z,Z,Z,Z,Z,Z,Z,Z,Z,Z,Z,Z,Z,Z,Z,Z,Z,Z,Z,Z,Z,Z,Z,Z,Z,Z,Z,Z,Z,Z,Z,Z,Z,Z,Z,Z,Z,Z,Z,Z,Z,Z,Z,Z,Z,Z,Z,Z,Z,Z,Z,Z,Z,Z,Z,Z,Z,Z,Z,Z,Z,Z,Z,Z,Z,Z,Z,Z,Z,Z,Z,Z,Z,Z,Z],[Z,Z,Z,Z,Z,Z,Z,Z,Z,Z,Z,Z,Z,Z,Z,Z,Z,Z,Z,Z,Z,Z,Z,Z,Z,Z,Z,Z,Z,Z,Z,Z,Z,Z,Z,Z,Z,Z,Z,Z,Z,Z,Z,Z,Z,Z,Z,Z,Z,Z,Z,Z,Z,Z,Z,Z,Z,Z,Z,Z,Z,Z,Z,Z,Z,Z,Z,Z,Z,Z,Z,Z,Z,Z,Z,Z,Z,Z,Z,Z,Z,Z,Z,Z],[Z,Z,Z,Z,Z,Z,Z,Z,Z,Z,Z,Z,Z,Z,Z,Z,Z,Z,Z,Z,Z,Z,Z,Z,Z,Z,Z,Z,Z,Z,Z,Z,Z,Z,Z,Z,Z,Z,Z,Z,Z,Z,Z,Z,Z,Z,Z,Z,Z,Z,Z,Z,Z,Z,Z,Z,Z,Z,Z,Z,Z,Z,Z,Z,Z,Z,Z,Z,Z,Z,Z,Z,Z,Z,Z,Z,Z,Z,Z,Z,Z,Z,Z,Z,Z],[Z,Z,Z,Z,Z,Z,Z,Z,Z,Z,Z,Z,Z,Z,Z,Z,Z,Z,Z,Z,Z,Z,Z,Z,Z,Z,Z,Z,Z,Z,Z,Z,Z,Z,Z,Z,Z,Z,Z,Z,Z,Z,Z,Z,Z,Z,Z,Z,Z,Z,Z,Z,Z,Z,Z,Z,Z,Z,Z,Z,Z,Z,Z,Z,Z,Z,Z,Z,Z,Z,Z,Z,Z,Z,Z,Z,Z,Z,Z,Z,Z,Z,Z,Z,Z,Z],[Z,Z,Z,Z,Z,Z,Z,Z,Z,Z,Z,Z,Z,Z,Z,Z,Z,Z,Z,Z,Z,Z,Z,Z,Z,Z,Z,Z,Z,Z,Z,Z,Z,Z,Z,Z,Z,Z,Z,Z,Z,Z,Z,Z,Z,Z,Z,Z,Z,Z,Z,Z,Z,Z,Z,Z,Z,Z,Z,Z,Z,Z,Z,Z,Z,Z,Z,Z,Z,Z,Z,Z,Z,Z,Z,Z,Z,Z,Z,Z,Z,Z,Z,Z,Z,Z,Z],[Z,Z,Z,Z,Z,Z,Z,Z,Z,Z,Z,Z,Z,Z,Z,Z,Z,Z,Z,Z,Z,Z,Z,Z,Z,Z,Z,Z,Z,Z,Z,Z,Z,Z,Z,Z,Z,Z,Z,Z,Z,Z,Z,Z,Z,Z,Z,Z,Z,Z,Z,Z,Z,Z,Z,Z,Z,Z,Z,Z,Z,Z,Z,Z,Z,Z,Z,Z,Z,Z,Z,Z,Z,Z,Z,Z,Z,Z,Z,Z,Z,Z,Z,Z,Z,Z,Z,Z],[Z,Z,Z,Z,Z,Z,Z,Z,Z,Z,Z,Z,Z,Z,Z,Z,Z,Z,Z,Z,Z,Z,Z,Z,Z,Z,Z,Z,Z,Z,Z,Z,Z,Z,Z,Z,Z,Z,Z,Z,Z,Z,Z,Z,Z,Z,Z,Z,Z,Z,Z,Z,Z,Z,Z,Z,Z,Z,Z,Z,Z,Z,Z,Z,Z,Z,Z,Z,Z,Z,Z,Z,Z,Z,Z,Z,Z,Z,Z,Z,Z,Z,Z,Z,Z,Z,Z,Z,Z],[Z,Z,Z,Z,Z,Z,Z,Z,Z,Z,Z,Z,Z,Z,Z,Z,Z,Z,Z,Z,Z,Z,Z,Z,Z,Z,Z,Z,Z,Z,Z,Z,Z,Z,Z,Z,Z,Z,Z,Z,Z,Z,Z,Z,Z,Z,Z,Z,Z,Z,Z,Z,Z,Z,Z,Z,Z,Z,Z,Z,Z,Z,Z,Z,Z,Z,Z,Z,Z,Z,Z,Z,Z,Z,Z,Z,Z,Z,Z,Z,Z,Z,Z,Z,Z,Z,Z,Z,Z,Z],[Y,Y,Y,Y,Y,Z,Z,Z,Z,Z,Z,Z,Z,Z,Z,Z,Z,Z,Z,Z,Z,Z,Z,Z,Z,Z,Z,Z,Z,Z,Z,Z,Z,Z,Z,Z,Z,Z,Z,Z,Z,Z,Z,Z,Z,Z,Z,Z,Z,Z,Z,Z,Z,Z,Z,Z,Z,Z,Z,Z,Z,Z,Z,Z,Z,Z,Z,Z,Z,Z,Z,Z,Z,Z,Z,Z,Z,Z,Z,Z,Z,Z,Z,Z,Z,Z,Z,Z,Z,Z,Z],[Z,Z,Z,Z,Z,Z,Z,Z,Z,Z,Z,Z,Z,Z,Z,Z,Z,Z,Z,Z,Z,Z,Z,Z,Z,Z,Z,Z,Z,Z,Z,Z,Z,Z,Z,Z,Z,Z,Z,Z,Z,Z,Z,Z,Z,Z,Z,Z,Z,Z,Z,Z,Z,Z,Z,Z,Z,Z,Z,Z,Z,Z,Z,Z,Z,Z,Z,Z,Z,Z,Z,Z,Z,Z,Z,Z,Z,Z,Z,Z,Z,Z,Z,Z,Z,Z,Z,Z,Z,Z,Z,Z],[Z,Z,Z,Z,Z,Z,Z,Z,Z,Z,Z,Z,Z,Z,Z,Z,Z,Z,Z,Z,Z,Z,Z,Z,Z,Z,Z,Z,Z,Z,Z,Z,Z,Z,Z,Z,Z,Z,Z,Z,Z,Z,Z,Z,Z,Z,Z,Z,Z,Z,Z,Z,Z,Z,Z,Z,Z,Z,Z,Z,Z,Z,Z,Z,Z,Z,Z,Z,Z,Z,Z,Z,Z,Z,Z,Z,Z,Z,Z,Z,Z,Z,Z,Z,Z,Z,Z,Z,Z,Z,Z,Z,Z],[Z,Z,Z,Z,Z,Z,Z,Z,Z,Z,Z,Z,Z,Z,Z,Z,Z,Z,Z,Z,Z,Z,Z,Z,Z,Z,Z,Z,Z,Z,Z,Z,Z,Z,Z,Z,Z,Z,Z,Z,Z,Z,Z,Z,Z,Z,Z,Z,Z,Z,Z,Z,Z,Z,Z,Z,Z,Z,Z,Z,Z,Z,Z,Z,Z,Z,Z,Z,Z,Z,Z,Z,Z,Z,Z,Z,Z,Z,Z,Z,Z,Z,Z,Z,Z,Z,Z,Z,Z,Z,Z,Z,Z,Z]] (by kernel_rfl) (by kernel_rfl) (by kernel_rfl) (by kernel_rfl) (by kernel_rfl) ?_)
 (repeat' (first|(((with_reducible refine zDQ ?_ ?_);(· exact rfl);refine ⟨_,fun G=>(by (try simp (decide:=true) only [vis,see,fltT,zAF,Nat.reduceAdd,Nat.reduceSub,if_true,if_false,List.set_cons_zero,List.set_cons_succ,List.set_nil,List.nil_append,List.cons_append]);rfl),?_⟩);first|refine zm _ (fun _=>zAi rfl rfl) (fun _=>rfl) rfl (by intro G G' h;simp (decide:=true) only [h]) ?_|refine zm _ (fun _=>zAG rfl rfl (by exact rfl)) (fun _=>rfl) rfl (by intro G G' h;simp (decide:=true) only [h]) ?_|(refine zAj rfl ?_;refine zm _ (fun _=>zAU rfl rfl) (fun _=>rfl) rfl (by intro G G' h;simp (decide:=true) only [h]) ?_)|refine zm _ (fun _=>zDM rfl rfl rfl) (fun _=>rfl) rfl (by intro G G' h;simp (decide:=true) only [h]) ?_|refine zm _ (fun _=>zCE rfl rfl) (fun _=>rfl) rfl (by intro G G' h;simp (decide:=true) only [h]) ?_|(refine c_cmp rfl rfl (fun _=>rfl) rfl (fun _=>rfl) (fun _=>rfl) (fun h=>?_) (fun h=>?_)<;>(dsimp only [cmpP] at h;(try (exfalso;omega))))|refine zC5 _ rfl (fun _=>rfl) rfl (fun _=>rfl) (fun _=>rfl) (fun _ _ _ q=>zFF _ _ _) (by intro G G' h;simp (decide:=true) only [h]) ?_|(refine c_ret rfl (fun _=>rfl) rfl (fun _=>rfl) (fun _=>rfl) (fun _ _ _ _=>zJN _) ?_)|refine zC5 _ rfl (fun _=>rfl) rfl (fun _=>rfl) (fun _=>rfl) (fun _ _ _ q=>zJx [1,2,1] _ _ _ _ _ (zAv q.own (Below.refl _ _)) (zF2 (enc:=encI) [1,2,1] (by exact rfl) _ q.below q.own) (by decide)) (by intro G G' h;simp (decide:=true) only [h]) ?_|refine zC5 _ rfl (fun _=>rfl) rfl (fun _=>rfl) (fun _=>rfl) (fun _ _ _ q=>zJx [0,1] _ _ _ _ _ (zAv q.own (Below.refl _ _)) (zF2 (enc:=encI) [0,1] (by exact rfl) _ q.below q.own) (by decide)) (by intro G G' h;simp (decide:=true) only [h]) ?_|refine zC5 _ rfl (fun _=>rfl) rfl (fun _=>rfl) (fun _=>rfl) (fun _ _ _ q=>zLl zFL _ _ _ _ _ (zCt q.own (by (repeat constructor))) (zCt q.own (by (repeat constructor))) (by decide) (by decide)) (by intro G G' h;simp (decide:=true) only [h]) ?_|refine zm _ (fun _=>e_eqSp rfl rfl rfl) (fun _=>rfl) rfl (by exact fun _ _ _=>rfl) ?_|refine zm _ (fun _=>zN7 rfl rfl (by exact rfl)) (fun _=>rfl) rfl (by exact fun _ _ _=>rfl) ?_|refine zC5 _ rfl (fun _=>rfl) rfl (fun _=>rfl) (fun _=>rfl) (fun _ _ _ q=>zIj [(2,0),(2,1),(2,2)] _ _ _ _ _ (zAv q.own (Below.refl _ _)) (zF2 (enc:=zAW) [(2,0),(2,1),(2,2)] (by exact rfl) _ q.below q.own) (by decide)) (by intro G G' h;simp (decide:=true) only [h]) ?_|refine zm _ (fun _=>zAr (I:=0) rfl rfl rfl rfl (by decide)) (fun _=>rfl) rfl (by exact fun _ _ _=>rfl) ?_|refine zm _ (fun _=>zD8 rfl rfl) (fun _=>rfl) rfl (by intro G G' h;simp (decide:=true) only [h]) ?_|refine zBn rfl (fun _=>rfl) rfl (fun _=>rfl) (by exact rfl) (by exact fun _=>rfl) (by intro G G' h;simp (decide:=true) only [h]) ?_)|(with_reducible refine zLX ?_)))
 all_goals
  (intro G;simp only [regsT,zAF,zBb,ini,List.nil_append,List.cons_append])
  (repeat' (first|(with_reducible first|refine zA ?_|refine zX ?_)))
  exact zS (by exact rTm rfl) () trivial rfl (fun _ h=>h.sub (by (repeat constructor)))
end Go.Proofs.YtdigopgncfhiaaaGreatDoor.Two
namespace Go.Proofs.YtdigopgncfhiaaaGreatDoor
open Go.RowKit
theorem zMM (w:World) (hG:InC w 0 0 zCP):Gv Tryz.prog 15 [] w (.bool true):=Two.zML w hG
end Go.Proofs.YtdigopgncfhiaaaGreatDoor
namespace Go.Proofs.YtdigopgncfhiaaaGreatDoor
open Go.RowKit
set_option maxRecDepth 20000
theorem errI_val {c:Cov} (h:zAm c=0):valid c.t=true:=by
 cases hv:valid c.t with
 | true=>rfl
 | false=>unfold zAm at h;rw [hv] at h;simp at h
theorem zM2 {c:Cov} {pl:List Sli} (h:zAm c=0) (hp:zBY c pl=true):zBs c pl=0:=by unfold zBs;rw [if_pos h,hp];rfl
end Go.Proofs.YtdigopgncfhiaaaGreatDoor
namespace Go.Proofs.YtdigopgncfhiaaaGreatDoor
variable {ro : Option Nat}
open Go.RowKit
set_option maxRecDepth 20000
theorem e_neSp {w0:World} {n:Nat} {d:List Deferred} {R:List (Nat × Value)} {H:List Ent} {o:Oper} {x y:Operand} {a b:Int} {T':TypeId} (hop:o.op = .binOp .neq 28 x y T') (hx:evR R x=some (.agg #[.int .i64 a,.int .i64 b])) (hy:evR R y=some (.agg #[.int .i64 a,.int .i64 b])):Ev Tryz.prog w0 n d R H o (.bool false):=fun k w q=>by
 have e:=zLm a b a b w
 rw [show zD7 ⟨a,b⟩ ⟨a,b⟩=true from zGJ.2 ⟨rfl,rfl⟩] at e
 have g:=gd_sp .neq x y #[.int .i64 a,.int .i64 b] #[.int .i64 a,.int .i64 b] w
 unfold execOp;rw [hop]
 simp only [Sem.run_bind,q.ev hx,q.ev hy,g,Result.andThen_ok,e,Sem.run_pure]
 rfl
theorem zIz {c:Cov} {pl:List Sli} (h:zBs c pl=0) {i k:Nat} (hi:i<c.beds.length) (hk:k≤c.hours.length):zDB c pl (i:Int) (k:Int)=(thickN c pl (c.beds.getD i default) i k,0):=by
 unfold zDB
 rw [if_pos h,if_pos (by rw [zAC,zAC];omega)]
 rfl
end Go.Proofs.YtdigopgncfhiaaaGreatDoor
namespace Go.Proofs.YtdigopgncfhiaaaGreatDoor.Two
variable {ro : Option Nat}
open Go.RowKit
set_option maxRecDepth 20000
theorem zLx {A:Option Addr} {c s:Nat}:partA A c 0 s=A:=by
 unfold partA
 split
 ·rfl
 ·cases A with
  | none=>rfl
  | some a=>simp [Addr.add]
theorem e_prefix {P:Program} {w0:World} {n:Nat} {d:List Deferred} {R:List (Nat × Value)} {H:List Ent} {o:Oper} {x:Operand} {T1 e:TypeId} {td:TypeDesc} {s s' m c:Nat} {g g':Bool} {A:Option Addr} {hi:Option Operand} {u:Int} (M:Nat) (hop:o.op = .slice T1 x none hi none) [i1:TyI P T1 (.slice e) s g] [i2:TyI P e td s' g'] (hx:evR R x=some (.slice A m c)) (hu:bnd R hi m=some u) (hM:u=(M:Int)) (h2:M≤c):Ev P w0 n d R H o (.slice A M c):=by
 have h:=e_slice (P:=P) (w0:=w0) (n:=n) (d:=d) (H:=H) (l:=0) 0 M hop hx rfl hu rfl hM (Nat.zero_le _) h2
 rw [zLx] at h
 exact h
end Go.Proofs.YtdigopgncfhiaaaGreatDoor.Two
namespace Go.Proofs.YtdigopgncfhiaaaGreatDoor
open Go.RowKit
def zIU (c:Cov) (tt:List St) (z:Bed) (j:Nat):Cov:={ c with t:=tt,beds:=c.beds++List.replicate j z }
section
variable {c : Cov} {tt:List St} {z:Bed} {j:Nat} {pl:List Sli}
theorem bes_bed {i:Nat} (hi:i<c.beds.length):(zIU c tt z j).beds.getD i default=c.beds.getD i default:=by
 unfold zIU
 simp only
 rw [Flow.zAZ hi,Flow.zAZ (by rw [List.length_append];omega),List.getElem_append_left hi]
theorem zJe {y:Bed} {i:Int}:∀ h,thickN (zIU c tt z j) pl y i h=thickN c pl y i h
 | 0=>rfl
 | h+1=>by
  simp only [thickN]
  rw [zJe h]
  rfl
theorem zLa {y:Bed}:∀ h,needG (zIU c tt z j) y h=needG c y h
 | 0=>rfl
 | h+1=>by
  simp only [needG]
  rw [zLa h]
  rfl
theorem zOG : (zAk (zIU c tt z j)).take c.beds.length=zAk c:=by
 have e:∀ y m,zBX (zIU c tt z j) y m=zBX c y m:=fun y m=>by unfold zBX;simp only [zLa]
 have e2:zAk (zIU c tt z j)=(c.beds++List.replicate j z).map fun y=>zBX c y c.hours.length:=by unfold zAk;simp only [e];rfl
 rw [e2,List.map_append,List.take_left' (by simp)]
 rfl
theorem bes_plan (h:zBY c pl=true):zBY (zIU c tt z j) pl=true:=by
 obtain ⟨h1,h2⟩:=zBK.1 h
 refine zBK.2 ⟨h1,fun i u s hu hs=>?_⟩
 have:=h2 i u s hu hs
 unfold zEp at this ⊢
 simp only [Bool.and_eq_true,List.all_eq_true,zAC] at this ⊢
 refine ⟨⟨this.1.1,fun x hx=>?_⟩,this.2⟩
 have h3:=this.1.2 x hx
 have:(zIU c tt z j).beds.length=c.beds.length+j:=by simp [zIU]
 omega
end
end Go.Proofs.YtdigopgncfhiaaaGreatDoor
namespace Go.Proofs.YtdigopgncfhiaaaGreatDoor
variable {ro : Option Nat}
open Go.RowKit
set_option maxRecDepth 20000
def zEi (a b:List St):Int:=if valid a && valid b then (if 12<a.length+b.length then 9 else if valid (a++b) then 0 else 8) else 10
def zDd (a b:List St):List St:=if valid a && valid b then (if 12<a.length+b.length then [] else if valid (a++b) then a++b else []) else []
set_option maxHeartbeats 2000000 in
theorem join_any (a m:List St) (A B:Option Addr) (ca cb:Nat) (w:World) (ha:zq zAS 9 w A a) (hb:zq zAS 9 w B m) (fa:zEe a) (fb:zEe m) (hl:a.length≤1000∧m.length≤1000) :
  zCB zAS 9 (zDd a m) (fun v=>.tuple #[.agg #[v],.int .i64 (zEi a m)]) Tryz.prog 50 [.agg #[.slice A a.length ca],.agg #[.slice B m.length cb]] w:=by
 unfold zCB
 have h1:=fun W (h:Below w.heap.size w W)=>zHW a A ca W (ha.below h) fa (by omega)
 have h2:=fun W (h:Below w.heap.size w W)=>zHW m B cb W (hb.below h) fb (by omega)
 cases hva:valid a
 ·have e1:zDd a m=[]:=by simp [zDd,hva]
  have e2:zEi a m=10:=by simp [zEi,hva]
  rw [e1,e2]
  rw [zGI hva] at h1
  (refine zJ (n:=35) Tryz.func50 rfl rfl rfl ?_)
  (repeat' (first|((with_reducible refine zF ?_);first|refine zE rfl rfl rfl ?_|refine zC rfl rfl rfl ?_|(refine zK rfl rfl rfl ?_;refine ⟨_,rfl,?_⟩)|refine za rfl rfl rfl ?_|refine zAB rfl rfl rfl rfl ?_|refine zd rfl rfl rfl ?_|refine zAA rfl rfl ?_|(refine zQ rfl rfl rfl rfl rfl (fun h=>?_) (fun h=>?_)<;>(dsimp only [cmpP] at h;(try (exfalso;omega))))|refine zV rfl rfl rfl rfl (fun _ _ q=>h1 _ q.below) ?_|refine zo rfl rfl rfl ?_|(refine zb rfl rfl rfl rfl rfl ?_;refine ⟨rfl,by first|decide|exact Nat.le_of_ble_eq_true rfl|(simp;omega),_,rfl,?_⟩)|(refine zj rfl rfl (fun b=>?_))|(refine zu rfl rfl rfl rfl (fun b=>?_))|(refine zAl rfl rfl rfl ?_;refine ⟨_,rfl,?_⟩)|(refine zY rfl rfl rfl ?_;refine ⟨rfl,_,rfl,fun b=>?_⟩))|(with_reducible first|refine zH ?_|refine zB ?_|refine zD ?_|refine zA ?_|refine zX ?_|refine zT ?_|refine zZ ?_|refine zB7 ?_|refine zP ?_|refine zk ?_|refine zg ?_|refine zAP ?_|refine zR ?_|refine zW ?_)|((with_reducible refine zAE ?_ ?_);(· exact rfl))|((with_reducible refine zI ?_ ?_);(· exact rfl))|((with_reducible refine zG ?_ ?_);(· exact rfl))))
  exact zS (by (exact zi.cons (by exact res1c rfl (by exact rfl)) (zi.cons (by exact zAR.tmp rfl) zi.nil))) (none,0) trivial rfl (fun _ h=>zDi h)
 rw [zDK hva] at h1
 cases hvb:valid m
 ·have e1:zDd a m=[]:=by simp [zDd,hvb]
  have e2:zEi a m=10:=by simp [zEi,hvb]
  rw [e1,e2]
  rw [zGI hvb] at h2
  (refine zJ (n:=35) Tryz.func50 rfl rfl rfl ?_)
  (repeat' (first|((with_reducible refine zF ?_);first|refine zE rfl rfl rfl ?_|refine zC rfl rfl rfl ?_|(refine zK rfl rfl rfl ?_;refine ⟨_,rfl,?_⟩)|refine za rfl rfl rfl ?_|refine zAB rfl rfl rfl rfl ?_|refine zd rfl rfl rfl ?_|refine zAA rfl rfl ?_|(refine zQ rfl rfl rfl rfl rfl (fun h=>?_) (fun h=>?_)<;>(dsimp only [cmpP] at h;(try (exfalso;omega))))|refine zV rfl rfl rfl rfl (fun _ _ q=>h1 _ q.below) ?_|refine zV rfl rfl rfl rfl (fun _ _ q=>h2 _ q.below) ?_|refine zo rfl rfl rfl ?_|(refine zb rfl rfl rfl rfl rfl ?_;refine ⟨rfl,by first|decide|exact Nat.le_of_ble_eq_true rfl|(simp;omega),_,rfl,?_⟩)|(refine zj rfl rfl (fun b=>?_))|(refine zu rfl rfl rfl rfl (fun b=>?_))|(refine zAl rfl rfl rfl ?_;refine ⟨_,rfl,?_⟩)|(refine zY rfl rfl rfl ?_;refine ⟨rfl,_,rfl,fun b=>?_⟩))|(with_reducible first|refine zH ?_|refine zB ?_|refine zD ?_|refine zA ?_|refine zX ?_|refine zT ?_|refine zZ ?_|refine zB7 ?_|refine zP ?_|refine zk ?_|refine zg ?_|refine zAP ?_|refine zR ?_|refine zW ?_)|((with_reducible refine zAE ?_ ?_);(· exact rfl))|((with_reducible refine zI ?_ ?_);(· exact rfl))|((with_reducible refine zG ?_ ?_);(· exact rfl))))
  exact zS (by (exact zi.cons (by exact res1c rfl (by exact rfl)) (zi.cons (by exact zAR.tmp rfl) zi.nil))) (none,0) trivial rfl (fun _ h=>zDi h)
 rw [zDK hvb] at h2
 have la:=zCd hva
 have lb:=zCd hvb
 have h3:=fun bb W (h:Below w.heap.size w W) i=>zMY a m A B ca cb bb W (ha.below h) (hb.below h) (by omega) (by omega) i
 have hab:zEe (a++m):=fun s hs=>by
  rcases List.mem_append.1 hs with h|h
  ·exact fa s h
  ·exact fb s h
 have hlen:(a++m).length=a.length+m.length:=List.length_append
 have h4:=fun A' c' W hs=>zHW (a++m) A' c' W hs hab (by omega)
 by_cases h12:12<a.length+m.length
 ·have e1:zDd a m=[]:=by simp [zDd,hva,hvb,h12]
  have e2:zEi a m=9:=by simp [zEi,hva,hvb,h12]
  rw [e1,e2]
  generalize a++m=ab at *
  (refine zJ (n:=35) Tryz.func50 rfl rfl rfl ?_)
  (repeat' (first|((with_reducible refine zF ?_);first|refine zE rfl rfl rfl ?_|refine zC rfl rfl rfl ?_|(refine zK rfl rfl rfl ?_;refine ⟨_,rfl,?_⟩)|refine za rfl rfl rfl ?_|refine zAB rfl rfl rfl rfl ?_|refine zd rfl rfl rfl ?_|refine zAA rfl rfl ?_|(refine zQ rfl rfl rfl rfl rfl (fun h=>?_) (fun h=>?_)<;>(dsimp only [cmpP] at h;(try (exfalso;omega))))|refine zV rfl rfl rfl rfl (fun _ _ q=>h1 _ q.below) ?_|refine zV rfl rfl rfl rfl (fun _ _ q=>h2 _ q.below) ?_|refine zBt rfl rfl rfl rfl (fun _ _ q=>h3 _ _ q.below (zGN q.own (Below.refl _ _))) (fun A' c'=>?_)|refine zo rfl rfl rfl ?_|(refine zb rfl rfl rfl rfl rfl ?_;refine ⟨rfl,by first|decide|exact Nat.le_of_ble_eq_true rfl|(simp;omega),_,rfl,?_⟩)|(refine zj rfl rfl (fun b=>?_))|(refine zu rfl rfl rfl rfl (fun b=>?_))|(refine zAl rfl rfl rfl ?_;refine ⟨_,rfl,?_⟩)|(refine zY rfl rfl rfl ?_;refine ⟨rfl,_,rfl,fun b=>?_⟩))|(with_reducible first|refine zH ?_|refine zB ?_|refine zD ?_|refine zA ?_|refine zX ?_|refine zT ?_|refine zZ ?_|refine zB7 ?_|refine zP ?_|refine zk ?_|refine zg ?_|refine zAP ?_|refine zR ?_|refine zW ?_)|((with_reducible refine zAE ?_ ?_);(· exact rfl))|((with_reducible refine zI ?_ ?_);(· exact rfl))|((with_reducible refine zG ?_ ?_);(· exact rfl))))
  exact zS (by (exact zi.cons (by exact res1c rfl (by exact rfl)) (zi.cons (by exact zAR.tmp rfl) zi.nil))) (none,0) trivial rfl (fun _ h=>zDi h)
 cases hvj:valid (a++m)
 ·have e1:zDd a m=[]:=by simp [zDd,hva,hvb,h12,hvj]
  have e2:zEi a m=8:=by simp [zEi,hva,hvb,h12,hvj]
  rw [e1,e2]
  rw [zGI hvj] at h4
  generalize a++m=ab at *
  (refine zJ (n:=35) Tryz.func50 rfl rfl rfl ?_)
  (repeat' (first|((with_reducible refine zF ?_);first|refine zE rfl rfl rfl ?_|refine zC rfl rfl rfl ?_|(refine zK rfl rfl rfl ?_;refine ⟨_,rfl,?_⟩)|refine za rfl rfl rfl ?_|refine zAB rfl rfl rfl rfl ?_|refine zd rfl rfl rfl ?_|refine zAA rfl rfl ?_|(refine zQ rfl rfl rfl rfl rfl (fun h=>?_) (fun h=>?_)<;>(dsimp only [cmpP] at h;(try (exfalso;omega))))|refine zV rfl rfl rfl rfl (fun _ _ q=>h1 _ q.below) ?_|refine zV rfl rfl rfl rfl (fun _ _ q=>h2 _ q.below) ?_|refine zBt rfl rfl rfl rfl (fun _ _ q=>h3 _ _ q.below (zGN q.own (Below.refl _ _))) (fun A' c'=>?_)|refine zV rfl rfl rfl rfl (fun _ _ q=>h4 _ _ _ (zAv q.own (Below.refl _ _))) ?_|refine zo rfl rfl rfl ?_|(refine zb rfl rfl rfl rfl rfl ?_;refine ⟨rfl,by first|decide|exact Nat.le_of_ble_eq_true rfl|(simp;omega),_,rfl,?_⟩)|(refine zj rfl rfl (fun b=>?_))|(refine zu rfl rfl rfl rfl (fun b=>?_))|(refine zAl rfl rfl rfl ?_;refine ⟨_,rfl,?_⟩)|(refine zY rfl rfl rfl ?_;refine ⟨rfl,_,rfl,fun b=>?_⟩))|(with_reducible first|refine zH ?_|refine zB ?_|refine zD ?_|refine zA ?_|refine zX ?_|refine zT ?_|refine zZ ?_|refine zB7 ?_|refine zP ?_|refine zk ?_|refine zg ?_|refine zAP ?_|refine zR ?_|refine zW ?_)|((with_reducible refine zAE ?_ ?_);(· exact rfl))|((with_reducible refine zI ?_ ?_);(· exact rfl))|((with_reducible refine zG ?_ ?_);(· exact rfl))))
  exact zS (by (exact zi.cons (by exact res1c rfl (by exact rfl)) (zi.cons (by exact zAR.tmp rfl) zi.nil))) (none,0) trivial rfl (fun _ h=>zDi h)
 ·have e1:zDd a m=a++m:=by simp [zDd,hva,hvb,h12,hvj]
  have e2:zEi a m=0:=by simp [zEi,hva,hvb,h12,hvj]
  rw [e1,e2]
  rw [zDK hvj] at h4
  generalize a++m=ab at *
  (refine zJ (n:=35) Tryz.func50 rfl rfl rfl ?_)
  (repeat' (first|((with_reducible refine zF ?_);first|refine zE rfl rfl rfl ?_|refine zC rfl rfl rfl ?_|(refine zK rfl rfl rfl ?_;refine ⟨_,rfl,?_⟩)|refine za rfl rfl rfl ?_|refine zAB rfl rfl rfl rfl ?_|refine zd rfl rfl rfl ?_|refine zAA rfl rfl ?_|(refine zQ rfl rfl rfl rfl rfl (fun h=>?_) (fun h=>?_)<;>(dsimp only [cmpP] at h;(try (exfalso;omega))))|refine zV rfl rfl rfl rfl (fun _ _ q=>h1 _ q.below) ?_|refine zV rfl rfl rfl rfl (fun _ _ q=>h2 _ q.below) ?_|refine zBt rfl rfl rfl rfl (fun _ _ q=>h3 _ _ q.below (zGN q.own (Below.refl _ _))) (fun A' c'=>?_)|refine zV rfl rfl rfl rfl (fun _ _ q=>h4 _ _ _ (zAv q.own (Below.refl _ _))) ?_|refine zo rfl rfl rfl ?_|(refine zb rfl rfl rfl rfl rfl ?_;refine ⟨rfl,by first|decide|exact Nat.le_of_ble_eq_true rfl|(simp;omega),_,rfl,?_⟩)|(refine zj rfl rfl (fun b=>?_))|(refine zu rfl rfl rfl rfl (fun b=>?_))|(refine zAl rfl rfl rfl ?_;refine ⟨_,rfl,?_⟩)|(refine zY rfl rfl rfl ?_;refine ⟨rfl,_,rfl,fun b=>?_⟩))|(with_reducible first|refine zH ?_|refine zB ?_|refine zD ?_|refine zA ?_|refine zX ?_|refine zT ?_|refine zZ ?_|refine zB7 ?_|refine zP ?_|refine zk ?_|refine zg ?_|refine zAP ?_|refine zR ?_|refine zW ?_)|((with_reducible refine zAE ?_ ?_);(· exact rfl))|((with_reducible refine zI ?_ ?_);(· exact rfl))|((with_reducible refine zG ?_ ?_);(· exact rfl))))
  exact zS (by (exact zi.cons (by exact res1c rfl (by exact rfl)) (zi.cons (by exact zAR.tmp rfl) zi.nil))) (_,_) trivial rfl (fun _ h=>h.sub (by (repeat constructor)))
end Go.Proofs.YtdigopgncfhiaaaGreatDoor
namespace Go.Proofs.YtdigopgncfhiaaaGreatDoor
variable {ro : Option Nat}
open Go.RowKit
set_option maxRecDepth 20000
set_option maxHeartbeats 4000000 in
theorem zNx (c:Cov) (A:Option Addr) (ca:Nat) (B:Option Addr) (cb:Nat) (C:Option Addr) (cc:Nat) (w:World) (h:zAe w c A B C) (hs:Small c) (hG:InC w 0 0 zCP) (h0:zAm c=0) :
  Ret Tryz.prog 24 [zAH c A ca B cb C cc] w (fun p:Option Addr × Nat=>.tuple #[.slice p.1 ((zAk c).map Flow.zBl).length p.2,.int .i64 0]) (fun p=>[.row encI 1 3 (.slice p.1 ((zAk c).map Flow.zBl).length p.2) ((zAk c).map Flow.zBl)]) (fun _=>True):=by
 have h4:=hs.b;have h5:=hs.h
 have h2:=fun W (hb:Below w.heap.size w W)=>zCu c A ca B cb C cc W (h.below hb) hs
 unfold zAH at h2
 unfold zAH
 have hf:=zBu h0
 have hh1:=hf.hours
 rw [zAC] at hh1
 have h3:=fun W (hb:Below w.heap.size w W) g (hr:InC W g 0 (zM c A ca B cb C cc))=>zFo c A ca B cb C cc g W hr (hG.below hb) (h.below hb) hs hf
 unfold zM at h2 h3 ⊢
 (refine zJ (n:=31) Tryz.func24 rfl rfl rfl ?_)
 (repeat' (first|((with_reducible refine zF ?_);first|refine zE rfl rfl rfl ?_|refine zC rfl rfl rfl ?_|(refine zK rfl rfl rfl ?_;refine ⟨_,rfl,?_⟩)|(refine zQ rfl rfl rfl rfl rfl (fun h=>?_) (fun h=>?_)<;>(dsimp only [cmpP] at h;(try (exfalso;omega))))|(refine zAQ rfl rfl rfl rfl (fun _ _ q=>h2 _ q.below h0) ?_;rintro g -;dsimp only [List.cons_append,List.nil_append])|(refine zAQ rfl rfl rfl rfl (fun _ _ q=>h3 _ q.below g (zA5 q.own (Below.refl _ _) rfl)) ?_;rintro ⟨gt,L⟩ hL;dsimp only [List.cons_append,List.nil_append])|refine zc rfl rfl rfl rfl ?_|refine zh rfl rfl rfl rfl (by omega) ?_|refine zBd rfl rfl rfl rfl (IntWalk.i64_in _ (by omega)) ?_|refine zl rfl rfl rfl rfl rfl (by omega) ?_|refine zFv rfl rfl rfl rfl rfl (by first|decide|omega) ?_|refine zo rfl rfl rfl ?_|(refine zu rfl rfl rfl rfl (fun b=>?_))|(refine zY rfl rfl rfl ?_;refine ⟨rfl,_,rfl,fun b=>?_⟩))|(with_reducible first|refine zH ?_|refine zB ?_|refine zD ?_|refine zA ?_|refine zX ?_|refine zT ?_|refine zZ ?_|refine zB7 ?_|refine zP ?_|refine zk ?_|refine zg ?_|refine zAP ?_|refine zR ?_|refine zW ?_)|((with_reducible refine zAE ?_ ?_);(· exact rfl))|((with_reducible refine zI ?_ ?_);(· exact rfl))|((with_reducible refine zG ?_ ?_);(· exact rfl))))
 simp only at hL
 have hLl:L.length=c.beds.length:=by
  have:=congrArg List.length hL
  rw [zCg] at this;simpa using this
 have hrow:∀ s∈L,s.xs.length=c.hours.length:=fun s hs=>zFj s.xs (by rw [← hL];exact List.mem_map_of_mem hs)
 rw [← hL]
 refine zHf (enc:=encI) (k:=1) (e:=3) ?_
 refine zw (ι:=Nat × Option Addr × Nat) [18,19] rfl (fun p=>p.1≤L.length) (fun p=>[(20,.int .i64 (p.1:Int)),(6,.slice p.2.1 (((L.take p.1).map (·.xs)).map Flow.zBl).length p.2.2)]) (fun p=>[.row encI 1 3 (.slice p.2.1 (((L.take p.1).map (·.xs)).map Flow.zBl).length p.2.2) (((L.take p.1).map (·.xs)).map Flow.zBl),.zA0 zp (rowOf encI 1 3) gt L]) (fun p=>L.length - p.1) (0,none,0) (Nat.zero_le _) (by (repeat first|exact lK1|refine zL rfl ?_)) (by (repeat constructor)) ?_
 rintro ⟨i,A1,c1⟩ hi
 simp only at hi
 simp only [zAt,List.cons_append,List.nil_append]
 by_cases hlt:i<L.length
 ·obtain ⟨s,hs1⟩:∃ s,L[i]?=some s:=⟨_,List.getElem?_eq_getElem hlt⟩
  have:zAT L i s:=⟨hs1⟩
  have hsm:=List.mem_of_getElem? hs1
  have hsl:=hrow s hsm
  have hcl:(((L.take i).map (·.xs)).map Flow.zBl).length=i:=by simp;omega
  have e1:((L.take (i+1)).map (·.xs)).map Flow.zBl=((L.take i).map (·.xs)).map Flow.zBl++[Flow.zBl s.xs]:=by rw [List.take_add_one,hs1];simp
  (repeat' (first|((with_reducible refine zF ?_);first|refine zE rfl rfl rfl ?_|refine zC rfl rfl rfl ?_|(refine zK rfl rfl rfl ?_;refine ⟨_,rfl,?_⟩)|(refine zQ rfl rfl rfl rfl rfl (fun h=>?_) (fun h=>?_)<;>(dsimp only [cmpP] at h;(try (exfalso;omega))))|refine zV rfl rfl rfl rfl (fun _ _ q=>zHS s.xs s.A s.c _ ((zCG (enc:=encI) (k:=1) (e:=3) q.own (by (repeat constructor))).rows s hsm) (by omega) (by omega)) ?_|(refine zAn (enc:=encI) [_] rfl rfl rfl (by (repeat constructor)) rfl rfl (zAY (by exact rfl)) (by refine ⟨?_,by decide⟩;(try simp only [List.length_append,List.length_cons,List.length_nil]);omega) (fun A' c'=>?_))|refine zc rfl rfl rfl rfl ?_|refine zh rfl rfl rfl rfl (by omega) ?_|refine zBd rfl rfl rfl rfl (IntWalk.i64_in _ (by omega)) ?_|refine zl rfl rfl rfl rfl rfl (by omega) ?_|refine zFv rfl rfl rfl rfl rfl (by first|decide|omega) ?_|refine zo rfl rfl rfl ?_|(refine zu rfl rfl rfl rfl (fun b=>?_))|(refine zY rfl rfl rfl ?_;refine ⟨rfl,_,rfl,fun b=>?_⟩))|(with_reducible first|refine zH ?_|refine zB ?_|refine zD ?_|refine zA ?_|refine zX ?_|refine zT ?_|refine zZ ?_|refine zB7 ?_|refine zP ?_|refine zk ?_|refine zg ?_|refine zAP ?_|refine zR ?_|refine zW ?_)|((with_reducible refine zAE ?_ ?_);(· exact rfl))|((with_reducible refine zI ?_ ?_);(· exact rfl))|((with_reducible refine zG ?_ ?_);(· exact rfl))))
  refine zf (i+1,A',c') (by simp only;omega) (by simp only;omega) (by simp only [e1];(repeat first|exact lK1|refine zL rfl ?_)) ?_
  simp only [e1]
  (repeat constructor)
 ·obtain rfl:i=L.length:=by omega
  rw [List.take_length]
  (repeat' (first|((with_reducible refine zF ?_);first|refine zE rfl rfl rfl ?_|refine zC rfl rfl rfl ?_|(refine zK rfl rfl rfl ?_;refine ⟨_,rfl,?_⟩)|(refine zQ rfl rfl rfl rfl rfl (fun h=>?_) (fun h=>?_)<;>(dsimp only [cmpP] at h;(try (exfalso;omega))))|refine zc rfl rfl rfl rfl ?_|refine zh rfl rfl rfl rfl (by omega) ?_|refine zBd rfl rfl rfl rfl (IntWalk.i64_in _ (by omega)) ?_|refine zl rfl rfl rfl rfl rfl (by omega) ?_|refine zFv rfl rfl rfl rfl rfl (by first|decide|omega) ?_|refine zo rfl rfl rfl ?_|(refine zu rfl rfl rfl rfl (fun b=>?_))|(refine zY rfl rfl rfl ?_;refine ⟨rfl,_,rfl,fun b=>?_⟩))|(with_reducible first|refine zH ?_|refine zB ?_|refine zD ?_|refine zA ?_|refine zX ?_|refine zT ?_|refine zZ ?_|refine zB7 ?_|refine zP ?_|refine zk ?_|refine zg ?_|refine zAP ?_|refine zR ?_|refine zW ?_)|((with_reducible refine zAE ?_ ?_);(· exact rfl))|((with_reducible refine zI ?_ ?_);(· exact rfl))|((with_reducible refine zG ?_ ?_);(· exact rfl))))
  exact zS (by (exact zi.cons (by exact zAR.tmp rfl) (zi.cons (by exact zAR.tmp rfl) zi.nil))) (A1,c1) trivial rfl (fun _ h=>h.sub (by (repeat constructor)))
end Go.Proofs.YtdigopgncfhiaaaGreatDoor
