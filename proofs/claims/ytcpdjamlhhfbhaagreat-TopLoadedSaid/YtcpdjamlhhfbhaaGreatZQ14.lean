/- ZQ14 -/
import Derived.Test.YtcpdjamlhhfbhaaGreatZQ13
set_option linter.unusedSimpArgs false
set_option linter.unusedVariables false
namespace Go.Proofs.YtcpdjamlhhfbhaaGreat
variable {ro : Option Nat}
open Go.RowKit
set_option maxRecDepth 20000
set_option maxHeartbeats 1000000 in
theorem zG5 (scs:List ScM) (A:Option Addr) (c:Nat) (g:GrM) (w:World) (h:zCX w A scs):Ret Tryz.prog 14 [.agg #[.slice A scs.length c],vGr g] w (fun b:Bool=>.bool b) (fun _=>[]) (fun b=>b=false→zEA scs g):=by
 obtain ⟨h1,h2⟩:=h
 have hfin:scs.length≤8→(∀ s∈scs,s.tr.length≤10)→g.loads.length≤10→g.run.length≤12→g.str.length≤12→zEA scs g:=fun a b c d e=>⟨by omega,fun s hs=>by have:=b s hs;omega,by omega,by omega,by omega⟩
 generalize zEA scs g=Qsb at *
 obtain ⟨lA,loads,lc,ad,ba,ji,uA,run,uc,kA,str,kc,spd,stm⟩:=g
 simp only at hfin
 unfold vGr at *
 simp only at *
 (refine ze (n:=43) Tryz.func14 rfl rfl rfl ?_)
 (repeat' (first|((with_reducible refine zV ?_);first|refine zO rfl rfl rfl ?_|refine zD rfl rfl rfl ?_|(refine zQ rfl rfl rfl ?_;refine ⟨_,rfl,?_⟩)|refine zS rfl rfl rfl ?_|refine zr rfl rfl rfl rfl ?_|refine zN rfl rfl rfl ?_|refine zM rfl rfl ?_|(refine zd rfl rfl rfl rfl rfl (fun h=>?_) (fun h=>?_)<;>(dsimp only [cmpP] at h;(try (exfalso;omega))))|refine zb rfl rfl rfl rfl (by omega) ?_|refine zm rfl rfl rfl rfl (IntWalk.i64_in _ (by omega)) ?_|refine zK rfl rfl rfl rfl rfl (by omega) ?_|refine zL rfl rfl rfl rfl rfl (by first|decide|omega) ?_|refine zj rfl rfl rfl ?_|(refine zl rfl rfl rfl rfl (fun b=>?_)))|(with_reducible first|refine zW ?_|refine zC ?_|refine zU ?_|refine zB ?_|refine zX ?_|refine zT ?_|refine zF ?_|refine zf ?_|refine zP ?_|refine zZ ?_|refine zY ?_|refine za ?_|refine zG ?_|refine zJ ?_)|((with_reducible refine zE ?_ ?_);(· exact rfl))|((with_reducible refine zI ?_ ?_);(· exact rfl))|((with_reducible refine zH ?_ ?_);(· exact rfl))))
 all_goals first|exact zk (by exact rTm rfl) true (by simp) rfl (fun _ h=>h.sub (by (repeat constructor)))|skip
 rename_i b1 _ _ _
 refine zAC (ι:=Nat) [2,3] rfl (fun i=>i≤scs.length∧∀ (j:Nat) x,j<i→scs[j]?=some x→x.tr.length≤10) (fun i=>[(5,.int .i64 (i:Int))]) (fun _=>[.blk b [.slice lA loads.length lc,.int .i64 ad,.int .i64 ba,.int .i64 ji,.slice uA run.length uc,.slice kA str.length kc,.int .i64 spd,.bool stm],.blk b1 [.slice A scs.length c]]) (fun i=>scs.length - i) 0 ⟨Nat.zero_le _,by omega⟩ (by (repeat first|exact lK1|refine zp rfl ?_)) (by (repeat constructor)) ?_
 rintro i ⟨hi,hall⟩
 simp only [zAm,List.cons_append,List.nil_append]
 by_cases hlt:i<scs.length
 ·obtain ⟨x,hx⟩:∃ x,scs[i]?=some x:=⟨_,List.getElem?_eq_getElem hlt⟩
  have:zAZ scs i x:=⟨hx⟩
  obtain ⟨bA,oA,hAe,hAl,hAc⟩:=h1.at_ hlt
  subst hAe
  have:InS w bA oA zAW 7 scs:=⟨h1⟩
  have hy1:=fun (hN:x.tr.length≤10) (j:Nat) y (hj:j<i+1) (hy:scs[j]?=some y)=>(show y.tr.length≤10 from by
   rcases Nat.lt_succ_iff_lt_or_eq.1 hj with h9|rfl
   ·exact hall j y h9 hy
   ·rw [hx] at hy;cases hy;exact hN)
  obtain ⟨xi,xst,xg,xo,xA,xt,xc⟩:=x
  simp only at hy1
  (repeat' (first|((with_reducible refine zV ?_);first|refine zO rfl rfl rfl ?_|refine zD rfl rfl rfl ?_|(refine zQ rfl rfl rfl ?_;refine ⟨_,rfl,?_⟩)|refine zS rfl rfl rfl ?_|refine zr rfl rfl rfl rfl ?_|refine zN rfl rfl rfl ?_|refine zM rfl rfl ?_|(refine zd rfl rfl rfl rfl rfl (fun h=>?_) (fun h=>?_)<;>(dsimp only [cmpP] at h;(try (exfalso;omega))))|refine zK (I:=i) rfl rfl rfl rfl rfl (by omega) ?_|refine zb rfl rfl rfl rfl (by omega) ?_|refine zm rfl rfl rfl rfl (IntWalk.i64_in _ (by omega)) ?_|refine zK rfl rfl rfl rfl rfl (by omega) ?_|refine zL rfl rfl rfl rfl rfl (by first|decide|omega) ?_|refine zj rfl rfl rfl ?_|(refine zl rfl rfl rfl rfl (fun b=>?_)))|(with_reducible first|refine zW ?_|refine zC ?_|refine zU ?_|refine zB ?_|refine zX ?_|refine zT ?_|refine zF ?_|refine zf ?_|refine zP ?_|refine zZ ?_|refine zY ?_|refine za ?_|refine zG ?_|refine zJ ?_)|((with_reducible refine zE ?_ ?_);(· exact rfl))|((with_reducible refine zI ?_ ?_);(· exact rfl))|((with_reducible refine zH ?_ ?_);(· exact rfl))))
  ·exact zk (by exact rTm rfl) true (by simp) rfl (fun _ h=>h.sub (by (repeat constructor)))
  ·exact z6 (ι:=Nat) (i+1) ⟨by omega,hy1 (by omega)⟩ (by omega) (by (repeat first|exact lK1|refine zp rfl ?_)) (by (repeat constructor))
 ·obtain rfl:i=scs.length:=by omega
  (repeat' (first|((with_reducible refine zV ?_);first|refine zO rfl rfl rfl ?_|refine zD rfl rfl rfl ?_|(refine zQ rfl rfl rfl ?_;refine ⟨_,rfl,?_⟩)|refine zS rfl rfl rfl ?_|refine zr rfl rfl rfl rfl ?_|refine zN rfl rfl rfl ?_|refine zM rfl rfl ?_|(refine zd rfl rfl rfl rfl rfl (fun h=>?_) (fun h=>?_)<;>(dsimp only [cmpP] at h;(try (exfalso;omega))))|refine zb rfl rfl rfl rfl (by omega) ?_|refine zm rfl rfl rfl rfl (IntWalk.i64_in _ (by omega)) ?_|refine zK rfl rfl rfl rfl rfl (by omega) ?_|refine zL rfl rfl rfl rfl rfl (by first|decide|omega) ?_|refine zj rfl rfl rfl ?_|(refine zl rfl rfl rfl rfl (fun b=>?_)))|(with_reducible first|refine zW ?_|refine zC ?_|refine zU ?_|refine zB ?_|refine zX ?_|refine zT ?_|refine zF ?_|refine zf ?_|refine zP ?_|refine zZ ?_|refine zY ?_|refine za ?_|refine zG ?_|refine zJ ?_)|((with_reducible refine zE ?_ ?_);(· exact rfl))|((with_reducible refine zI ?_ ?_);(· exact rfl))|((with_reducible refine zH ?_ ?_);(· exact rfl))))
  exact zk (by exact rTm rfl) false (fun _=>hfin (by omega) (fun s hs=>by
   obtain ⟨j,hj⟩:=List.mem_iff_getElem?.1 hs
   exact hall j s (List.getElem?_eq_some_iff.1 hj).1 hj) (by omega) (by omega) (by omega)) rfl (fun _ h=>h.sub (by (repeat constructor)))
end Go.Proofs.YtcpdjamlhhfbhaaGreat
namespace Go.Proofs.YtcpdjamlhhfbhaaGreat
variable {ro : Option Nat}
open Go.RowKit
open Go.ChangeMaps (setBlock)
set_option linter.unusedSectionVars false
set_option maxRecDepth 20000
def zGM {K V:Type} [DecidableEq K] (w:World) (m:Nat) (kv:K→Value) (vv:V→Value) (f:K→Option V):Prop:=∃ l c,w.heap[m]?=some (.map (l.map (zAc kv vv)).toArray c)∧MOk l c∧look l=f
theorem zDx {w W:World} {m:Nat} {o:Obj} (h:w.heap[m]?=some o) (hB:Below w.heap.size w W):W.heap[m]?=some o:=by
 rw [hB.block m (Array.getElem?_eq_some_iff.1 h).1];exact h
theorem zGM.below {K V:Type} [DecidableEq K] {w W:World} {m:Nat} {kv:K→Value} {vv:V→Value} {f:K→Option V} (h:zGM w m kv vv f) (hB:Below w.heap.size w W):zGM W m kv vv f:=by
 obtain ⟨l,c,h1,h2,h3⟩:=h
 exact ⟨l,c,zDx h1 hB,h2,h3⟩
theorem zGd {K V:Type} [DecidableEq K] {base m:Nat} {kv:K→Value} {vv:V→Value} {f:K→Option V} {H H':List Ent} {w:World} (ho:Own base w H) (ht:Take H (.fm m kv vv f) H'):zGM w m kv vv f:=ho.here (.fm m kv vv f) ht.mem
section
variable {P : Program} {w0:World} {n:Nat} {d:List Deferred} {R:List (Nat × Value)} {H H' H1 H2:List Ent} {Q:Exit→Act→World→Prop} {ops:Array Oper} {rest:List Oper} {o:Oper} {t:Tmp} {x y z:Operand} {v:Value} {X:Act→World→Prop}
variable {K V:Type} [DecidableEq K] {kv:K→Value} {vv:V→Value} {f:K→Option V}
theorem zIt {T1 kt et:TypeId} {s m:Nat} {g:Bool} {zv:V} (hm:zGM w0 m kv vv f) (k:K) (u:V) (bb:Bool) (hop:o.op = .lookup T1 x y true) [i1:TyI P T1 (.map kt et) s g] (hT:zFV P kt kv) (hz:∀ w,(zeroValue et).run P w = .ok (vv zv) w) (hx:evR R x=some (.map (some m))) (hy:evR R y=some (kv k)) (hv:(f k).getD zv=u) (hb':(f k).isSome=bb):Ev P w0 n d R H o (.tuple #[vv u,.bool bb]):=fun a w q=>by
 obtain ⟨l,c,hb,hl,rfl⟩:=hm.below q.below
 have:=zFn (P:=P) (T1:=T1) (kt:=kt) (et:=et) (s:=s) (g:=g) (zv:=zv) true k hT hz hb
 unfold execOp;rw [hop]
 simp only [Sem.run_bind,q.ev hx,q.ev hy,this,Result.andThen_ok,Sem.run_pure,hv,hb',if_true]
theorem zIV {T1 kt et:TypeId} {s m c:Nat} {g:Bool} {l:List (K × V × Nat)} (hm:w0.heap[m]?=some (.map (l.map (zAc kv vv)).toArray c)) (hop:o.op = .range T1 x) [i1:TyI P T1 (.map kt et) s g] (hrd:rdy R ops n o=some t) (hx:evR R x=some (.map (some m)))
  (h:∀ r,U w0 n d ((t,.pointer (some ⟨r,0,none⟩))::R) (.itl r m c []::H) (wpL ro P ops Q rest)):U w0 n d R H (wpL ro P ops Q (o::rest)) :=
 zCh (rW hrd) fun a w q K' hK=>by
  have e1:=run_underlying i1.und w
  have e2:=zDx hm q.below
  have hrun:(Instr.range T1 (.map (some m))).run P w = .ok (.pointer (some ⟨w.heap.size,0,none⟩)) (w.alloc (.mapIter (some m) c #[] c)):=by
   simp [Instr.range,Sem.run_bind,e1,getObj,Sem.run,e2]
  unfold Oper.wp execOp;rw [hop]
  simp only [Sem.run_bind,q.ev hx,hrun,Result.andThen_ok,Sem.run_pure,Oper.upon_value,(rD hrd)]
  exact hK _ _ (h w.heap.size _ _ ((q.call (zAK w _) (zIN w m c)).put (rT hrd)))
theorem u_nextMO {m r c:Nat} {seen:List Nat} {l:List (K × V × Nat)} (hop:o.op = .next x false) (hrd:rdy R ops n o=some t) (hx:evR R x=some (.pointer (some ⟨r,0,none⟩))) (htk:Take H (.itl r m c seen) H') (hm:w0.heap[m]?=some (.map (l.map (zAc kv vv)).toArray c)) (hl:MOk l c)
  (h1:(∀ x∈l,x.2.2∈seen)→U w0 n d ((t,.tuple #[.bool false])::R) H (wpL ro P ops Q rest))
  (h2:∀ x∈l,x.2.2 ∉ seen→U w0 n d ((t,.tuple #[.bool true,kv x.1,vv x.2.1])::R) (.itl r m c (seen++[x.2.2])::H') (wpL ro P ops Q rest)):U w0 n d R H (wpL ro P ops Q (o::rest)) :=
 zCh (rW hrd) fun a w q K' hK=>by
  have e2:w.heap[m]?=some (.map (l.map (zAc kv vv)).toArray c):=zDx hm q.below
  have ho:=q.own.take htk
  have hr:w.heap[r]?=some (.mapIter (some m) c seen.toArray c):=ho.here (.itl r m c seen) (by simp)
  have hfoot:=ho.foot (.itl r m c seen) (by simp) r rfl
  have hold:∀ x∈((l.map (zAc kv vv)).toArray).toList,x.born<c:=fun x hx=>by
   simp only [List.mem_map] at hx
   obtain ⟨y,hy,rfl⟩:=hx
   exact hl.lt y hy
  unfold Oper.wp execOp;rw [hop]
  rcases run_next_at (P:=P) w o.type r m c c seen.toArray (l.map (zAc kv vv)).toArray c hr e2 hold (Nat.le_refl _) with ⟨h0,hrun⟩ | ⟨e,he,w1,hw1,hrun⟩
  ·simp only [Sem.run_bind,q.ev hx,hrun,Result.andThen_ok,Sem.run_pure,Oper.upon_value,(rD hrd)]
   refine hK _ _ (h1 (fun y hy=>?_) _ _ (q.put (rT hrd)))
   have h9:leftOf (l.map (zAc kv vv)).toArray seen.toArray=#[]:=Array.eq_empty_of_size_eq_zero h0
   unfold leftOf at h9
   rw [Array.filter_eq_empty_iff] at h9
   have:=h9 (zAc kv vv y) (by simp only [List.mem_toArray,List.mem_map];exact ⟨y,hy,rfl⟩)
   simpa [zAc] using this
  ·have he':e∈l.map (zAc kv vv)∧e.born ∉ seen:=by
    unfold leftOf at he
    simpa using he
   obtain ⟨y,hy,rfl⟩:=List.mem_map.1 he'.1
   simp only [Sem.run_bind,q.ev hx,hrun,Result.andThen_ok,Sem.run_pure,Oper.upon_value,(rD hrd)]
   refine hK _ _ (h2 y hy he'.2 _ _ ((q.heap (q.below.trans ?_) (ho.turn ?_ ?_ q.base ?_ ?_)).put (rT hrd)))
   ·rcases hw1 with rfl|rfl<;>exact ⟨rfl,rfl,rfl,by simp [setBlock],fun b hb=>by
     simp only [setBlock]
     rw [Array.getElem?_setIfInBounds_ne (by have:=hfoot.1;omega)]
     try rfl⟩
   ·rcases hw1 with rfl|rfl<;>simp [setBlock]
   ·intro b hb hn
    have hne:r≠b:=fun e=>hn e.symm
    rcases hw1 with rfl|rfl<;>(simp only [setBlock];rw [Array.getElem?_setIfInBounds_ne hne];try rfl)
   ·rcases hw1 with rfl|rfl<;>simp [Ent.itl,setBlock,zAc,hfoot.2]
   ·intro b hb
    cases hb
    refine ⟨.inl rfl,?_⟩
    rcases hw1 with rfl|rfl<;>simp [setBlock,hfoot.2]
theorem zIW {m r c:Nat} {seen:List Nat} {l:List (K × V × Nat)} {p:K × V × Nat} (hop:o.op = .entry x) (hrd:rdy R ops n o=some t) (hx:evR R x=some (.pointer (some ⟨r,0,none⟩))) (htk:Take H (.itl r m c (seen++[p.2.2])) H') (hm:w0.heap[m]?=some (.map (l.map (zAc kv vv)).toArray c)) (hl:MOk l c) (hp:p∈l)
  (h:U w0 n d ((t,.tuple #[kv p.1,vv p.2.1])::R) H (wpL ro P ops Q rest)):U w0 n d R H (wpL ro P ops Q (o::rest)) :=
 zAg hrd (fun a w q=>by
  have e2:w.heap[m]?=some (.map (l.map (zAc kv vv)).toArray c):=zDx hm q.below
  have hr:w.heap[r]?=some (.mapIter (some m) c (seen++[p.2.2]).toArray c):=(q.own.take htk).here (.itl r m c (seen++[p.2.2])) (by simp)
  have e3:(seen++[p.2.2]).toArray=seen.toArray.push (zAc kv vv p).born:=by simp [zAc]
  rw [e3] at hr
  have hnd:(((l.map (zAc kv vv)).toArray).toList.map (·.born)).Nodup:=by
   have:=hl.born
   simpa [Function.comp_def,zAc] using this
  have:=run_entry_at (P:=P) w r m c seen.toArray (l.map (zAc kv vv)).toArray c (zAc kv vv p) hr e2 (by simp only [List.mem_map];exact ⟨p,hp,rfl⟩) hnd
  unfold execOp;rw [hop]
  simp only [Sem.run_bind,q.ev hx,this,Result.andThen_ok,Sem.run_pure]
  rfl) h
end
set_option maxHeartbeats 1000000 in
theorem zHO (l:List TrM) (A:Option Addr) (cap:Nat) (kf:FuncId) [zi Tryz.prog kf] (cs:Array Value) (p:TrM→Bool) (w:World) (hk:zAB zBz 2 w A l) (hl:l.length≤1000000)
  (hp:∀ x W,x∈l→Below w.heap.size w W→Gv Tryz.prog kf ([vTr x]++cs.toList) W (.bool (p x))) :
  Gv Tryz.prog 155 [.slice A l.length cap,.func (.func kf) #[] cs] w (.int .i64 (zCB p l)):=by
 unfold Gv
 (refine ze (n:=19) Tryz.func155 rfl rfl rfl ?_)
 (repeat' (first|((with_reducible refine zV ?_);first|refine zO rfl rfl rfl ?_|refine zD rfl rfl rfl ?_|(refine zQ rfl rfl rfl ?_;refine ⟨_,rfl,?_⟩)|(refine zd rfl rfl rfl rfl rfl (fun h=>?_) (fun h=>?_)<;>(dsimp only [cmpP] at h;(try (exfalso;omega))))|refine zb rfl rfl rfl rfl (by omega) ?_|refine zm rfl rfl rfl rfl (IntWalk.i64_in _ (by omega)) ?_|refine zK rfl rfl rfl rfl rfl (by omega) ?_|refine zL rfl rfl rfl rfl rfl (by first|decide|omega) ?_|refine zj rfl rfl rfl ?_)|(with_reducible first|refine zW ?_|refine zC ?_|refine zU ?_|refine zB ?_|refine zX ?_|refine zT ?_|refine zF ?_|refine zf ?_|refine zP ?_|refine zZ ?_|refine zY ?_|refine za ?_|refine zG ?_|refine zJ ?_)|((with_reducible refine zE ?_ ?_);(· exact rfl))|((with_reducible refine zI ?_ ?_);(· exact rfl))|((with_reducible refine zH ?_ ?_);(· exact rfl))))
 refine zAC (ι:=Nat) [0,1,7] rfl (fun i=>i≤l.length∧∀ j y,j<i→l[j]?=some y→p y=false) (fun i=>[(8,.int .i64 (i:Int))]) (fun _=>[]) (fun i=>l.length - i) 0 ⟨Nat.zero_le _,fun j y h=>by omega⟩ (by (repeat first|exact lK1|refine zp rfl ?_)) (by (repeat constructor)) ?_
 rintro i ⟨hi,hb⟩
 simp only [zAm,List.cons_append,List.nil_append]
 by_cases hlt:i<l.length
 ·have hx:l[i]?=some l[i]:=by simp [hlt]
  obtain ⟨b,o,rfl,hblt,hc⟩:=hk.at_ hlt
  have:InS w b o zBz 2 l:=⟨hk⟩
  have:zAZ l i l[i]:=⟨hx⟩
  (repeat' (first|((with_reducible refine zV ?_);first|refine zO rfl rfl rfl ?_|refine zD rfl rfl rfl ?_|(refine zQ rfl rfl rfl ?_;refine ⟨_,rfl,?_⟩)|(refine zd rfl rfl rfl rfl rfl (fun h=>?_) (fun h=>?_)<;>(dsimp only [cmpP] at h;(try (exfalso;omega))))|(refine zBN rfl rfl rfl rfl (fun _ _ q=>hp _ _ (List.getElem_mem hlt) q.below) (fun h=>?_) (fun h=>?_)<;>(try (exfalso;omega)))|refine zb rfl rfl rfl rfl (by omega) ?_|refine zm rfl rfl rfl rfl (IntWalk.i64_in _ (by omega)) ?_|refine zK rfl rfl rfl rfl rfl (by omega) ?_|refine zL rfl rfl rfl rfl rfl (by first|decide|omega) ?_|refine zj rfl rfl rfl ?_)|(with_reducible first|refine zW ?_|refine zC ?_|refine zU ?_|refine zB ?_|refine zX ?_|refine zT ?_|refine zF ?_|refine zf ?_|refine zP ?_|refine zZ ?_|refine zY ?_|refine za ?_|refine zG ?_|refine zJ ?_)|((with_reducible refine zE ?_ ?_);(· exact rfl))|((with_reducible refine zI ?_ ?_);(· exact rfl))|((with_reducible refine zH ?_ ?_);(· exact rfl))))
  ·have e1:=zDH hlt h hb
   exact zk (by exact rTm rfl) () trivial (by rw [e1];rfl) (fun _ h=>h.sub (by (repeat constructor)))
  ·refine z6 (i+1) ⟨by omega,fun j y hj hy=>?_⟩ (by omega) (by (repeat first|exact lK1|refine zp rfl ?_)) (by (repeat constructor))
   by_cases e:j=i
   ·subst e;rw [hx] at hy;cases hy;exact h
   ·exact hb j y (by omega) hy
 ·obtain rfl:i=l.length:=by omega
  have e1:=zCS (p:=p) (l:=l) (fun y hy=>by
   obtain ⟨j,hj⟩:=List.mem_iff_getElem?.1 hy
   exact hb j y (List.getElem?_eq_some_iff.1 hj).1 hj)
  (repeat' (first|((with_reducible refine zV ?_);first|refine zO rfl rfl rfl ?_|refine zD rfl rfl rfl ?_|(refine zQ rfl rfl rfl ?_;refine ⟨_,rfl,?_⟩)|(refine zd rfl rfl rfl rfl rfl (fun h=>?_) (fun h=>?_)<;>(dsimp only [cmpP] at h;(try (exfalso;omega))))|refine zb rfl rfl rfl rfl (by omega) ?_|refine zm rfl rfl rfl rfl (IntWalk.i64_in _ (by omega)) ?_|refine zK rfl rfl rfl rfl rfl (by omega) ?_|refine zL rfl rfl rfl rfl rfl (by first|decide|omega) ?_|refine zj rfl rfl rfl ?_)|(with_reducible first|refine zW ?_|refine zC ?_|refine zU ?_|refine zB ?_|refine zX ?_|refine zT ?_|refine zF ?_|refine zf ?_|refine zP ?_|refine zZ ?_|refine zY ?_|refine za ?_|refine zG ?_|refine zJ ?_)|((with_reducible refine zE ?_ ?_);(· exact rfl))|((with_reducible refine zI ?_ ?_);(· exact rfl))|((with_reducible refine zH ?_ ?_);(· exact rfl))))
  exact zk (by exact rTm rfl) () trivial (by rw [e1];rfl) (fun _ h=>h.sub (by (repeat constructor)))
theorem ctr_con (l:List TrM) (A:Option Addr) (cap:Nat) (kf:FuncId) [zi Tryz.prog kf] (cs:Array Value) (p:TrM→Bool) (w:World) (hk:zAB zBz 2 w A l) (hl:l.length≤1000000)
  (hp:∀ x W,x∈l→Below w.heap.size w W→Gv Tryz.prog kf ([vTr x]++cs.toList) W (.bool (p x))) :
  Gv Tryz.prog 138 [.slice A l.length cap,.func (.func kf) #[] cs] w (.bool (l.any p)):=by
 unfold Gv
 have hf:=zCn p l
 (refine ze (n:=9) Tryz.func138 rfl rfl rfl ?_)
 (repeat' (first|((with_reducible refine zV ?_);first|refine zO rfl rfl rfl ?_|refine zD rfl rfl rfl ?_|(refine zd rfl rfl rfl rfl rfl (fun h=>?_) (fun h=>?_)<;>(dsimp only [cmpP] at h;(try (exfalso;omega))))|refine zn rfl rfl rfl rfl (fun _ _ q=>zHO l A cap kf cs p _ (hk.below q.below) hl (fun x W hx hW=>hp x W hx (q.below.trans (hW.mono q.base)))) ?_)|(with_reducible first|refine zW ?_|refine zC ?_|refine zU ?_|refine zB ?_|refine zX ?_|refine zT ?_|refine zF ?_|refine zf ?_)))
 all_goals exact zk (by exact rTm rfl) () trivial (by simp only [resV];rw [← hf];simp;omega) (fun _ h=>h.sub (by (repeat constructor)))
set_option maxHeartbeats 1000000 in
theorem zHS (l:List LdM) (A:Option Addr) (cap:Nat) (kf:FuncId) [zi Tryz.prog kf] (cs:Array Value) (p:LdM→Bool) (w:World) (hk:zAB zB9 2 w A l) (hl:l.length≤1000000)
  (hp:∀ x W,x∈l→Below w.heap.size w W→Gv Tryz.prog kf ([vLd x]++cs.toList) W (.bool (p x))) :
  Gv Tryz.prog 139 [.slice A l.length cap,.func (.func kf) #[] cs] w (.int .i64 (zCB p l)):=by
 unfold Gv
 (refine ze (n:=19) Tryz.func139 rfl rfl rfl ?_)
 (repeat' (first|((with_reducible refine zV ?_);first|refine zO rfl rfl rfl ?_|refine zD rfl rfl rfl ?_|(refine zQ rfl rfl rfl ?_;refine ⟨_,rfl,?_⟩)|(refine zd rfl rfl rfl rfl rfl (fun h=>?_) (fun h=>?_)<;>(dsimp only [cmpP] at h;(try (exfalso;omega))))|refine zb rfl rfl rfl rfl (by omega) ?_|refine zm rfl rfl rfl rfl (IntWalk.i64_in _ (by omega)) ?_|refine zK rfl rfl rfl rfl rfl (by omega) ?_|refine zL rfl rfl rfl rfl rfl (by first|decide|omega) ?_|refine zj rfl rfl rfl ?_)|(with_reducible first|refine zW ?_|refine zC ?_|refine zU ?_|refine zB ?_|refine zX ?_|refine zT ?_|refine zF ?_|refine zf ?_|refine zP ?_|refine zZ ?_|refine zY ?_|refine za ?_|refine zG ?_|refine zJ ?_)|((with_reducible refine zE ?_ ?_);(· exact rfl))|((with_reducible refine zI ?_ ?_);(· exact rfl))|((with_reducible refine zH ?_ ?_);(· exact rfl))))
 refine zAC (ι:=Nat) [0,1,7] rfl (fun i=>i≤l.length∧∀ j y,j<i→l[j]?=some y→p y=false) (fun i=>[(8,.int .i64 (i:Int))]) (fun _=>[]) (fun i=>l.length - i) 0 ⟨Nat.zero_le _,fun j y h=>by omega⟩ (by (repeat first|exact lK1|refine zp rfl ?_)) (by (repeat constructor)) ?_
 rintro i ⟨hi,hb⟩
 simp only [zAm,List.cons_append,List.nil_append]
 by_cases hlt:i<l.length
 ·have hx:l[i]?=some l[i]:=by simp [hlt]
  obtain ⟨b,o,rfl,hblt,hc⟩:=hk.at_ hlt
  have:InS w b o zB9 2 l:=⟨hk⟩
  have:zAZ l i l[i]:=⟨hx⟩
  (repeat' (first|((with_reducible refine zV ?_);first|refine zO rfl rfl rfl ?_|refine zD rfl rfl rfl ?_|(refine zQ rfl rfl rfl ?_;refine ⟨_,rfl,?_⟩)|(refine zd rfl rfl rfl rfl rfl (fun h=>?_) (fun h=>?_)<;>(dsimp only [cmpP] at h;(try (exfalso;omega))))|(refine zBN rfl rfl rfl rfl (fun _ _ q=>hp _ _ (List.getElem_mem hlt) q.below) (fun h=>?_) (fun h=>?_)<;>(try (exfalso;omega)))|refine zb rfl rfl rfl rfl (by omega) ?_|refine zm rfl rfl rfl rfl (IntWalk.i64_in _ (by omega)) ?_|refine zK rfl rfl rfl rfl rfl (by omega) ?_|refine zL rfl rfl rfl rfl rfl (by first|decide|omega) ?_|refine zj rfl rfl rfl ?_)|(with_reducible first|refine zW ?_|refine zC ?_|refine zU ?_|refine zB ?_|refine zX ?_|refine zT ?_|refine zF ?_|refine zf ?_|refine zP ?_|refine zZ ?_|refine zY ?_|refine za ?_|refine zG ?_|refine zJ ?_)|((with_reducible refine zE ?_ ?_);(· exact rfl))|((with_reducible refine zI ?_ ?_);(· exact rfl))|((with_reducible refine zH ?_ ?_);(· exact rfl))))
  ·have e1:=zDH hlt h hb
   exact zk (by exact rTm rfl) () trivial (by rw [e1];rfl) (fun _ h=>h.sub (by (repeat constructor)))
  ·refine z6 (i+1) ⟨by omega,fun j y hj hy=>?_⟩ (by omega) (by (repeat first|exact lK1|refine zp rfl ?_)) (by (repeat constructor))
   by_cases e:j=i
   ·subst e;rw [hx] at hy;cases hy;exact h
   ·exact hb j y (by omega) hy
 ·obtain rfl:i=l.length:=by omega
  have e1:=zCS (p:=p) (l:=l) (fun y hy=>by
   obtain ⟨j,hj⟩:=List.mem_iff_getElem?.1 hy
   exact hb j y (List.getElem?_eq_some_iff.1 hj).1 hj)
  (repeat' (first|((with_reducible refine zV ?_);first|refine zO rfl rfl rfl ?_|refine zD rfl rfl rfl ?_|(refine zQ rfl rfl rfl ?_;refine ⟨_,rfl,?_⟩)|(refine zd rfl rfl rfl rfl rfl (fun h=>?_) (fun h=>?_)<;>(dsimp only [cmpP] at h;(try (exfalso;omega))))|refine zb rfl rfl rfl rfl (by omega) ?_|refine zm rfl rfl rfl rfl (IntWalk.i64_in _ (by omega)) ?_|refine zK rfl rfl rfl rfl rfl (by omega) ?_|refine zL rfl rfl rfl rfl rfl (by first|decide|omega) ?_|refine zj rfl rfl rfl ?_)|(with_reducible first|refine zW ?_|refine zC ?_|refine zU ?_|refine zB ?_|refine zX ?_|refine zT ?_|refine zF ?_|refine zf ?_|refine zP ?_|refine zZ ?_|refine zY ?_|refine za ?_|refine zG ?_|refine zJ ?_)|((with_reducible refine zE ?_ ?_);(· exact rfl))|((with_reducible refine zI ?_ ?_);(· exact rfl))|((with_reducible refine zH ?_ ?_);(· exact rfl))))
  exact zk (by exact rTm rfl) () trivial (by rw [e1];rfl) (fun _ h=>h.sub (by (repeat constructor)))
theorem cld_con (l:List LdM) (A:Option Addr) (cap:Nat) (kf:FuncId) [zi Tryz.prog kf] (cs:Array Value) (p:LdM→Bool) (w:World) (hk:zAB zB9 2 w A l) (hl:l.length≤1000000)
  (hp:∀ x W,x∈l→Below w.heap.size w W→Gv Tryz.prog kf ([vLd x]++cs.toList) W (.bool (p x))) :
  Gv Tryz.prog 116 [.slice A l.length cap,.func (.func kf) #[] cs] w (.bool (l.any p)):=by
 unfold Gv
 have hf:=zCn p l
 (refine ze (n:=9) Tryz.func116 rfl rfl rfl ?_)
 (repeat' (first|((with_reducible refine zV ?_);first|refine zO rfl rfl rfl ?_|refine zD rfl rfl rfl ?_|(refine zd rfl rfl rfl rfl rfl (fun h=>?_) (fun h=>?_)<;>(dsimp only [cmpP] at h;(try (exfalso;omega))))|refine zn rfl rfl rfl rfl (fun _ _ q=>zHS l A cap kf cs p _ (hk.below q.below) hl (fun x W hx hW=>hp x W hx (q.below.trans (hW.mono q.base)))) ?_)|(with_reducible first|refine zW ?_|refine zC ?_|refine zU ?_|refine zB ?_|refine zX ?_|refine zT ?_|refine zF ?_|refine zf ?_)))
 all_goals exact zk (by exact rTm rfl) () trivial (by simp only [resV];rw [← hf];simp;omega) (fun _ h=>h.sub (by (repeat constructor)))
theorem cin_n (lo hi a:Int) (c:Nat) (A:Option Addr) (w:World) (hk:zAB encI 1 w A [a]) (h:inB lo hi a=false):Gv Tryz.prog 42 [.int .i64 lo,.int .i64 hi,.slice A 1 c] w (.bool false):=h ▸ cin_1 lo hi a c A w hk
theorem cin_2 (lo hi a b:Int) (c:Nat) (A:Option Addr) (w:World) (hk:zAB encI 1 w A [a,b]):Gv Tryz.prog 42 [.int .i64 lo,.int .i64 hi,.slice A 2 c] w (.bool (inB lo hi a && inB lo hi b)):=by
 have:=zGj lo hi [a,b] A c w hk (by simp)
 simpa using this
theorem zFP (n step:Int) (w:World) (h:1≤step):Gv Tryz.prog 115 [.int .i64 n,.int .i64 step] w (.bool (zBb n step)):=by
 unfold Gv zBb
 cases hb:inB (-2000000) 2000000 n
 ·(refine ze (n:=14) Tryz.func115 rfl rfl rfl ?_)
  (repeat' (first|((with_reducible refine zV ?_);first|refine zO rfl rfl rfl ?_|refine zD rfl rfl rfl ?_|refine zr rfl rfl rfl rfl ?_|refine zN rfl rfl rfl ?_|refine zM rfl rfl ?_|(refine zd rfl rfl rfl rfl rfl (fun h=>?_) (fun h=>?_)<;>(dsimp only [cmpP] at h;(try (exfalso;omega))))|refine zn rfl rfl rfl rfl (fun _ _ q=>cin_n _ _ _ _ _ _ (zAO (enc:=encI) (by exact rfl) _ q.below q.own) hb) ?_|(refine zR rfl rfl rfl ?_;refine ⟨rfl,_,rfl,fun b=>?_⟩)|refine zBZ rfl rfl rfl rfl (by omega) (by omega) ?_)|(with_reducible first|refine zW ?_|refine zC ?_|refine zU ?_|refine zB ?_|refine zX ?_|refine zT ?_|refine zF ?_|refine zf ?_)))
  exact zk (by exact rTm rfl) () trivial rfl (fun _ h=>h.sub (by (repeat constructor)))
 ·(refine ze (n:=14) Tryz.func115 rfl rfl rfl ?_)
  (repeat' (first|((with_reducible refine zV ?_);first|refine zO rfl rfl rfl ?_|refine zD rfl rfl rfl ?_|refine zr rfl rfl rfl rfl ?_|refine zN rfl rfl rfl ?_|refine zM rfl rfl ?_|(refine zd rfl rfl rfl rfl rfl (fun h=>?_) (fun h=>?_)<;>(dsimp only [cmpP] at h;(try (exfalso;omega))))|refine zn rfl rfl rfl rfl (fun _ _ q=>zEk _ _ _ _ _ _ (zAO (enc:=encI) (by exact rfl) _ q.below q.own) hb) ?_|refine zHc rfl rfl rfl rfl (by omega) ?_|(refine zR rfl rfl rfl ?_;refine ⟨rfl,_,rfl,fun b=>?_⟩)|refine zBZ rfl rfl rfl rfl (by omega) (by omega) ?_)|(with_reducible first|refine zW ?_|refine zC ?_|refine zU ?_|refine zB ?_|refine zX ?_|refine zT ?_|refine zF ?_|refine zf ?_)))
  all_goals first|exact zk (by exact rTm rfl) () trivial (by first|rw [decide_eq_true (show n.tmod step=0 by assumption)];rfl|rw [decide_eq_false (show ¬ n.tmod step=0 by assumption)];rfl) (fun _ h=>h.sub (by (repeat constructor)))
theorem zFQ (s:Sp) (lo hi:Int) (w:World) (h:lo≤s.lo∧s.lo≤s.hi∧s.hi≤hi):Gv Tryz.prog 136 [.agg #[.int .i64 s.lo,.int .i64 s.hi],.int .i64 lo,.int .i64 hi] w (.bool true):=by
 have hY:=fun c A W hk=>cin_2 lo hi s.lo s.hi c A W hk
 rw [zAu.2 ⟨by omega,by omega⟩,zAu.2 ⟨by omega,by omega⟩,Bool.and_self] at hY
 unfold Gv
 (refine ze (n:=22) Tryz.func136 rfl rfl rfl ?_)
 (repeat' (first|((with_reducible refine zV ?_);first|refine zO rfl rfl rfl ?_|refine zD rfl rfl rfl ?_|(refine zQ rfl rfl rfl ?_;refine ⟨_,rfl,?_⟩)|refine zS rfl rfl rfl ?_|refine zr rfl rfl rfl rfl ?_|refine zN rfl rfl rfl ?_|refine zM rfl rfl ?_|(refine zd rfl rfl rfl rfl rfl (fun h=>?_) (fun h=>?_)<;>(dsimp only [cmpP] at h;(try (exfalso;omega))))|refine zn rfl rfl rfl rfl (fun _ _ q=>hY _ _ _ (zGz (enc:=encI) [s.lo,s.hi] (by exact rfl) _ q.below q.own)) ?_|(refine zl rfl rfl rfl rfl (fun b=>?_))|(refine zR rfl rfl rfl ?_;refine ⟨rfl,_,rfl,fun b=>?_⟩))|(with_reducible first|refine zW ?_|refine zC ?_|refine zU ?_|refine zB ?_|refine zX ?_|refine zT ?_|refine zF ?_|refine zf ?_)))
 exact zk (by exact rTm rfl) () trivial rfl (fun _ h=>h.sub (by (repeat constructor)))
end Go.Proofs.YtcpdjamlhhfbhaaGreat
namespace Go.Proofs.YtcpdjamlhhfbhaaGreat
variable {ro : Option Nat}
open Go.RowKit
set_option maxRecDepth 20000
theorem zHQ (s:ScM) (t:TrM) (g:Nat) (w:World) (hg:InC w g 0 (zAW s)) (h:1≤s.step):Gv Tryz.prog 137 ([vTr t] ++ #[.pointer (some ⟨g,0,none⟩)].toList) w (.bool (!trB s.step t)):=by
 have hS:=fun W=>zFP t.shown s.step W h
 obtain ⟨tw,ts⟩:=t
 obtain ⟨id,step,⟨g1,g2⟩,⟨o1,o2⟩,A,tr,c⟩:=s
 simp only at hS h
 unfold zAW at hg
 unfold Gv vTr trB
 simp only at *
 cases e1:inB 0 1000000 tw
 ·(refine ze (n:=17) Tryz.func137 rfl rfl rfl ?_)
  (repeat' (first|((with_reducible refine zV ?_);first|refine zO rfl rfl rfl ?_|refine zD rfl rfl rfl ?_|(refine zQ rfl rfl rfl ?_;refine ⟨_,rfl,?_⟩)|refine zS rfl rfl rfl ?_|refine zr rfl rfl rfl rfl ?_|refine zN rfl rfl rfl ?_|refine zM rfl rfl ?_|refine zn rfl rfl rfl rfl (fun _ _ q=>cin_n _ _ _ _ _ _ (zAO (enc:=encI) (by exact rfl) _ q.below q.own) e1) ?_|refine zt rfl rfl rfl ?_|(refine zl rfl rfl rfl rfl (fun b=>?_))|(refine zR rfl rfl rfl ?_;refine ⟨rfl,_,rfl,fun b=>?_⟩))|(with_reducible first|refine zW ?_|refine zC ?_|refine zU ?_|refine zB ?_|refine zX ?_|refine zT ?_|refine zF ?_|refine zf ?_)))
  exact zk (by exact rTm rfl) () trivial rfl (fun _ h=>h.sub (by (repeat constructor)))
 cases e2:zBb ts step
 ·rw [e2] at hS
  (refine ze (n:=17) Tryz.func137 rfl rfl rfl ?_)
  (repeat' (first|((with_reducible refine zV ?_);first|refine zO rfl rfl rfl ?_|refine zD rfl rfl rfl ?_|(refine zQ rfl rfl rfl ?_;refine ⟨_,rfl,?_⟩)|refine zS rfl rfl rfl ?_|refine zr rfl rfl rfl rfl ?_|refine zN rfl rfl rfl ?_|refine zM rfl rfl ?_|refine zn rfl rfl rfl rfl (fun _ _ q=>zEk _ _ _ _ _ _ (zAO (enc:=encI) (by exact rfl) _ q.below q.own) e1) ?_|refine zn rfl rfl rfl rfl (fun _ _ q=>hS _) ?_|refine zt rfl rfl rfl ?_|(refine zl rfl rfl rfl rfl (fun b=>?_))|(refine zR rfl rfl rfl ?_;refine ⟨rfl,_,rfl,fun b=>?_⟩))|(with_reducible first|refine zW ?_|refine zC ?_|refine zU ?_|refine zB ?_|refine zX ?_|refine zT ?_|refine zF ?_|refine zf ?_)))
  exact zk (by exact rTm rfl) () trivial rfl (fun _ h=>h.sub (by (repeat constructor)))
 ·rw [e2] at hS
  (refine ze (n:=17) Tryz.func137 rfl rfl rfl ?_)
  (repeat' (first|((with_reducible refine zV ?_);first|refine zO rfl rfl rfl ?_|refine zD rfl rfl rfl ?_|(refine zQ rfl rfl rfl ?_;refine ⟨_,rfl,?_⟩)|refine zS rfl rfl rfl ?_|refine zr rfl rfl rfl rfl ?_|refine zN rfl rfl rfl ?_|refine zM rfl rfl ?_|refine zn rfl rfl rfl rfl (fun _ _ q=>zEk _ _ _ _ _ _ (zAO (enc:=encI) (by exact rfl) _ q.below q.own) e1) ?_|refine zn rfl rfl rfl rfl (fun _ _ q=>hS _) ?_|refine zt rfl rfl rfl ?_|(refine zl rfl rfl rfl rfl (fun b=>?_))|(refine zR rfl rfl rfl ?_;refine ⟨rfl,_,rfl,fun b=>?_⟩))|(with_reducible first|refine zW ?_|refine zC ?_|refine zU ?_|refine zB ?_|refine zX ?_|refine zT ?_|refine zF ?_|refine zf ?_)))
  exact zk (by exact rTm rfl) () trivial rfl (fun _ h=>h.sub (by (repeat constructor)))
theorem zI2 {α:Type} {l:List α} {p:α→Bool} (h:∀ x∈l,p x=true):(l.any fun x=>!p x)=false:=by
 rw [List.any_eq_false]
 intro x hx
 simp [h x hx]
set_option maxHeartbeats 1000000 in
theorem cright_y (s:ScM) (w:World) (h:ScF s) (ht:zAB zBz 2 w s.tA s.tr):Gv Tryz.prog 113 [vSc s] w (.bool true):=by
 have hC:=fun W g (hW:Below w.heap.size w W) (hg:∀ W',Below W.heap.size W W'→InC W' g 0 (zAW s))=>ctr_con s.tr s.tA s.tc 137 #[.pointer (some ⟨g,0,none⟩)] (fun t=>!trB s.step t) W (ht.below hW) (by have:=h.len;omega) (fun x W' _ hW'=>zHQ s x g W' (hg W' hW') h.step.1)
 rw [zI2 h.tr] at hC
 have hG:=fun W=>zFQ s.gain (-10) 10 W h.gain
 have hF:=fun W=>zFQ s.off (-100) 100 W h.off
 have e1:inB 0 9999 s.id=true:=zAu.2 h.id
 have e2:inB 1 500 s.step=true:=zAu.2 h.step
 have hlen:=h.len
 clear h ht
 obtain ⟨id,step,⟨g1,g2⟩,⟨o1,o2⟩,A,tr,c⟩:=s
 unfold zAW at hC
 unfold Gv vSc
 simp only at *
 (refine ze (n:=40) Tryz.func113 rfl rfl rfl ?_)
 (repeat' (first|((with_reducible refine zV ?_);first|refine zO rfl rfl rfl ?_|refine zD rfl rfl rfl ?_|(refine zQ rfl rfl rfl ?_;refine ⟨_,rfl,?_⟩)|refine zS rfl rfl rfl ?_|refine zr rfl rfl rfl rfl ?_|refine zN rfl rfl rfl ?_|refine zM rfl rfl ?_|(refine zd rfl rfl rfl rfl rfl (fun h=>?_) (fun h=>?_)<;>(dsimp only [cmpP] at h;(try (exfalso;omega))))|refine zn rfl rfl rfl rfl (fun _ _ q=>zEk 0 9999 id _ _ _ (zAO (enc:=encI) (by exact rfl) _ q.below q.own) e1) ?_|refine zn rfl rfl rfl rfl (fun _ _ q=>zEk 1 500 step _ _ _ (zAO (enc:=encI) (by exact rfl) _ q.below q.own) e2) ?_|refine zn rfl rfl rfl rfl (fun _ _ q=>hG _) ?_|refine zn rfl rfl rfl rfl (fun _ _ q=>hF _) ?_|refine zn rfl rfl rfl rfl (fun _ _ q=>hC _ _ q.below (fun _ hW=>zBC q.own hW rfl)) ?_|refine zt rfl rfl rfl ?_|refine zj rfl rfl rfl ?_|(refine zl rfl rfl rfl rfl (fun b=>?_))|(refine zR rfl rfl rfl ?_;refine ⟨rfl,_,rfl,fun b=>?_⟩)|refine zz rfl rfl rfl rfl ?_)|(with_reducible first|refine zW ?_|refine zC ?_|refine zU ?_|refine zB ?_|refine zX ?_|refine zT ?_|refine zF ?_|refine zf ?_)|((with_reducible refine zI ?_ ?_);(· exact rfl))|((with_reducible refine zH ?_ ?_);(· exact rfl))))
 all_goals exact zk (by exact rTm rfl) () trivial rfl (fun _ h=>h.sub (by (repeat constructor)))
def zCF (scs:List ScM) (i:Nat):Int→Option ScM:=fun k=>(scs.take i).find? fun s=>decide (s.id=k)
theorem zIk {scs:List ScM}:zCF scs 0=fun _=>none:=by funext k;simp [zCF]
theorem zHw {scs:List ScM} (h:zC3 scs):∀ (d i:Nat) (s t:ScM),scs[i]?=some s→scs[i+d+1]?=some t→s.id<t.id
 | 0,i,s,t,h1,h2=>h.ord i s t h1 h2
 | d+1,i,s,t,h1,h2=>by
  obtain ⟨u,hu⟩:∃ u,scs[i+d+1]?=some u:=⟨_,List.getElem?_eq_getElem (by have:=(List.getElem?_eq_some_iff.1 h2).1;omega)⟩
  have:=zHw h d i s u h1 hu
  have:=h.ord (i+d+1) u t hu h2
  omega
theorem ids_ne {scs:List ScM} (h:zC3 scs) {i j:Nat} {s t:ScM} (h1:scs[i]?=some s) (h2:scs[j]?=some t) (he:s.id=t.id):i=j:=by
 rcases Nat.lt_trichotomy i j with h3|h3|h3
 ·have:=zHw h (j - i - 1) i s t h1 (by rw [show i+(j - i - 1)+1=j by omega];exact h2);omega
 ·exact h3
 ·have:=zHw h (i - j - 1) j t s h2 (by rw [show j+(i - j - 1)+1=i by omega];exact h1);omega
theorem zIl {scs:List ScM} (h:zC3 scs) {i:Nat} {s:ScM} (hs:scs[i]?=some s):zB1 (zCF scs i) s.id (some s)=zCF scs (i+1):=by
 funext k
 unfold zB1 zCF
 rw [List.take_add_one,hs,List.find?_append]
 by_cases hk:k=s.id
 ·subst hk
  rw [if_pos rfl]
  have hn:(scs.take i).find? (fun s_1=>decide (s_1.id=s.id))=none:=by
   rw [List.find?_eq_none]
   intro x hx
   obtain ⟨j,hj⟩:=List.mem_iff_getElem?.1 hx
   have hji:j<i:=by have:=(List.getElem?_eq_some_iff.1 hj).1;rw [List.length_take] at this;omega
   rw [List.getElem?_take_of_lt hji] at hj
   intro h9
   have:=ids_ne h hj hs (by simpa using h9)
   omega
  rw [hn]
  simp
 ·rw [if_neg hk]
  cases hf:(scs.take i).find? (fun s_1=>decide (s_1.id=k)) with
  | some z=>simp
  | none =>
   have:decide (s.id=k)=false:=by simp;omega
   simp [this]
theorem idTo_all {scs:List ScM} {k:Nat} {id:Int} {s:ScM} (h:atI scs id=some k) (hs:scs[k]?=some s):zCF scs scs.length id=some s:=by
 unfold zCF atI at *
 rw [List.take_length]
 obtain ⟨h1,h2,h3⟩:=List.findIdx?_eq_some_iff_getElem.1 h
 rw [List.find?_eq_some_iff_getElem]
 have e:scs[k]=s:=(List.getElem?_eq_some_iff.1 hs).2
 exact ⟨by rw [← e];exact h2,k,h1,e,fun j hj=>by simpa using h3 j hj⟩
theorem idTo_mem {scs:List ScM} {id:Int} {s:ScM} (h:zCF scs scs.length id=some s):s∈scs∧s.id=id:=by
 unfold zCF at h
 rw [List.take_length] at h
 exact ⟨List.mem_of_find?_eq_some h,by have:=List.find?_some h;simpa using this⟩
theorem zIm {scs:List ScM} (h:zC3 scs) {s:ScM} (hs:s∈scs):zCF scs scs.length s.id=some s:=by
 obtain ⟨i,hi⟩:=List.mem_iff_getElem?.1 hs
 have hlt:=(List.getElem?_eq_some_iff.1 hi).1
 unfold zCF
 rw [List.take_length,List.find?_eq_some_iff_getElem]
 refine ⟨by simp,i,hlt,(List.getElem?_eq_some_iff.1 hi).2,fun j hj=>?_⟩
 have hj2:scs[j]?=some (scs[j]'(by omega)):=List.getElem?_eq_getElem (by omega)
 simp only [Bool.not_eq_true',decide_eq_false_iff_not]
 intro he
 have:=ids_ne h hj2 hi he
 omega
end Go.Proofs.YtcpdjamlhhfbhaaGreat
namespace Go.Proofs.YtcpdjamlhhfbhaaGreat.Two
variable {ro : Option Nat}
open Go.RowKit
set_option maxRecDepth 20000
def sc0 : ScM:=⟨0,0,⟨0,0⟩,⟨0,0⟩,none,[],0⟩
theorem zIB : ∀ w,(zeroValue 96).run Tryz.prog w = .ok (vSc sc0) w:=fun w=>Tryz.zeroValue96 w
def zF6 (A:Option Addr) (c:Nat) (scs:List ScM) (h m:Nat):List Ent:=[.blk h [.slice A scs.length c,.map (some m)],.fm m vI vSc (zCF scs scs.length)]
structure zCW (w:World) (A:Option Addr) (c:Nat) (scs:List ScM) (h m:Nat):Prop where
 blk:InC w h 0 [.slice A scs.length c,.map (some m)]
 map:zGM w m vI vSc (zCF scs scs.length)
theorem zCW.below {w W:World} {A:Option Addr} {c:Nat} {scs:List ScM} {h m:Nat} (hh:zCW w A c scs h m) (hB:Below w.heap.size w W):zCW W A c scs h m:=⟨hh.blk.below hB,hh.map.below hB⟩
set_option maxHeartbeats 2000000 in
theorem zIx (scs:List ScM) (A:Option Addr) (c:Nat) (w:World) (h:zCX w A scs) (hB:zC3 scs):Ret Tryz.prog 70 [.agg #[.slice A scs.length c]] w (fun p:Nat × Nat=>.tuple #[.pointer (some ⟨p.1,0,none⟩),.int .i64 0]) (fun p=>zF6 A c scs p.1 p.2) (fun _=>True):=by
 have hR:=fun (s:ScM) (hs:s∈scs) W (hW:Below w.heap.size w W)=>cright_y s W (zCd.1 (hB.ok s hs)) ((h.tr s hs).below hW)
 have hS:=fun i s (hs:scs[i]?=some s)=>zIl hB hs
 have h0:=zIk (scs:=scs)
 have hord:=hB.ord
 have hid:=fun (s:ScM) (hs:s∈scs)=>(zCd.1 (hB.ok s hs)).id
 have hlen:=hB.len
 have h1:=h.sl
 clear hB h
 unfold zF6
 generalize zCF scs=fT at *
 (refine ze (n:=43) Tryz.func70 rfl rfl rfl ?_)
 (repeat' (first|((with_reducible refine zV ?_);first|refine zO rfl rfl rfl ?_|refine zD rfl rfl rfl ?_|(refine zQ rfl rfl rfl ?_;refine ⟨_,rfl,?_⟩)|refine zS rfl rfl rfl ?_|refine zr rfl rfl rfl rfl ?_|refine zN rfl rfl rfl ?_|refine zM rfl rfl ?_|(refine zd rfl rfl rfl rfl rfl (fun h=>?_) (fun h=>?_)<;>(dsimp only [cmpP] at h;(try (exfalso;omega))))|refine zDr Int ScM vI vSc rfl rfl (fun m=>?_)|refine zt rfl rfl rfl ?_|refine zb rfl rfl rfl rfl (by omega) ?_|refine zm rfl rfl rfl rfl (IntWalk.i64_in _ (by omega)) ?_|refine zK rfl rfl rfl rfl rfl (by omega) ?_|refine zL rfl rfl rfl rfl rfl (by first|decide|omega) ?_|refine zj rfl rfl rfl ?_|(refine zg rfl rfl rfl rfl rfl ?_;refine ⟨rfl,by first|decide|exact Nat.le_of_ble_eq_true rfl|(simp;omega),_,rfl,?_⟩)|(refine zh rfl rfl (fun b=>?_))|(refine zl rfl rfl rfl rfl (fun b=>?_))|(refine zy rfl rfl rfl ?_;refine ⟨_,rfl,?_⟩)|refine zx rfl rfl rfl ?_)|(with_reducible first|refine zW ?_|refine zC ?_|refine zU ?_|refine zB ?_|refine zX ?_|refine zT ?_|refine zF ?_|refine zf ?_|refine zP ?_|refine zZ ?_|refine zY ?_|refine za ?_|refine zG ?_|refine zJ ?_)|((with_reducible refine zE ?_ ?_);(· exact rfl))|((with_reducible refine zI ?_ ?_);(· exact rfl))|((with_reducible refine zH ?_ ?_);(· exact rfl))))
 obtain ⟨bh,hbh⟩:∃ y,y=b:=⟨_,rfl⟩
 subst hbh
 obtain ⟨b1,hb1⟩:∃ y,y=b:=⟨_,rfl⟩
 subst hb1
 rw [← h0]
 refine zAC (ι:=Nat × Int) [1,4,13,14] rfl (fun q=>q.1≤scs.length∧-1≤q.2∧∀ s,scs[q.1]?=some s→q.2<s.id) (fun q=>[(15,.int .i64 (q.1:Int)),(5,.int .i64 q.2)]) (fun q=>[.blk bh [.slice A scs.length c,.map (some m)],.fm m vI vSc (fT q.1),.blk b1 [.slice A scs.length c]]) (fun q=>scs.length - q.1) (0,-1) ⟨Nat.zero_le _,by simp,fun s hs=>by have:=hid s (List.mem_of_getElem? hs);simp only;omega⟩ (by (repeat first|exact lK1|refine zp rfl ?_)) (by (repeat constructor)) ?_
 rintro ⟨i,la⟩ ⟨hi,hla,hlt1⟩
 simp only at hi hla hlt1
 simp only [zAm,List.cons_append,List.nil_append]
 by_cases hlt:i<scs.length
 ·obtain ⟨x,hx⟩:∃ x,scs[i]?=some x:=⟨_,List.getElem?_eq_getElem hlt⟩
  have hxm:=List.mem_of_getElem? hx
  have:zAZ scs i x:=⟨hx⟩
  obtain ⟨bA,oA,hAe,_,_⟩:=h1.at_ hlt
  subst hAe
  have:InS w bA oA zAW 7 scs:=⟨h1⟩
  have hR1:=hR x hxm
  have hS1:=hS i x hx
  have hid1:=hid x hxm
  have hl1:=hlt1 x hx
  have ho1:=fun t (ht:scs[i+1]?=some t)=>hord i x t hx ht
  obtain ⟨xi,xst,⟨xg1,xg2⟩,⟨xo1,xo2⟩,xA,xt,xc⟩:=x
  unfold vSc at hR1
  simp only at hR1 hS1 hid1 hl1 ho1
  (repeat' (first|((with_reducible refine zV ?_);first|refine zO rfl rfl rfl ?_|refine zD rfl rfl rfl ?_|(refine zQ rfl rfl rfl ?_;refine ⟨_,rfl,?_⟩)|refine zS rfl rfl rfl ?_|refine zr rfl rfl rfl rfl ?_|refine zN rfl rfl rfl ?_|refine zM rfl rfl ?_|(refine zd rfl rfl rfl rfl rfl (fun h=>?_) (fun h=>?_)<;>(dsimp only [cmpP] at h;(try (exfalso;omega))))|refine zK (I:=i) rfl rfl rfl rfl rfl (by omega) ?_|refine zn rfl rfl rfl rfl (fun _ _ q=>hR1 _ q.below) ?_|refine zt rfl rfl rfl ?_|refine zb rfl rfl rfl rfl (by omega) ?_|refine zm rfl rfl rfl rfl (IntWalk.i64_in _ (by omega)) ?_|refine zK rfl rfl rfl rfl rfl (by omega) ?_|refine zL rfl rfl rfl rfl rfl (by first|decide|omega) ?_|refine zj rfl rfl rfl ?_|(refine zg rfl rfl rfl rfl rfl ?_;refine ⟨rfl,by first|decide|exact Nat.le_of_ble_eq_true rfl|(simp;omega),_,rfl,?_⟩)|(refine zh rfl rfl (fun b=>?_))|(refine zl rfl rfl rfl rfl (fun b=>?_))|(refine zy rfl rfl rfl ?_;refine ⟨_,rfl,?_⟩)|refine zx rfl rfl rfl ?_)|(with_reducible first|refine zW ?_|refine zC ?_|refine zU ?_|refine zB ?_|refine zX ?_|refine zT ?_|refine zF ?_|refine zf ?_|refine zP ?_|refine zZ ?_|refine zY ?_|refine za ?_|refine zG ?_|refine zJ ?_)|((with_reducible refine zE ?_ ?_);(· exact rfl))|((with_reducible refine zI ?_ ?_);(· exact rfl))|((with_reducible refine zH ?_ ?_);(· exact rfl))))
  (refine zA9 [] [] [] rfl (show ([]:List Nat).Nodup by decide) (fun _ h=>h) (by kernel_rfl) [[],[Z],[Z,Z],[Z,Z,Z],[Y,Y,Y,Y],[Z,Y,Y,Y,Y],[Y,Y,Y,Y,Y,Y],[Z,Z,Z,Z,Z,Z,Z]] (by kernel_rfl) (by kernel_rfl) (by kernel_rfl) (by kernel_rfl) (by kernel_rfl) ?_)
  (repeat' (first|(((with_reducible refine zDU ?_ ?_);(· exact rfl);refine ⟨_,fun G=>(by (try simp (decide:=true) only [vis,see,fltT,zAV,Nat.reduceAdd,Nat.reduceSub,if_true,if_false,List.set_cons_zero,List.set_cons_succ,List.set_nil,List.nil_append,List.cons_append]);rfl),?_⟩);first|refine zw _ (fun _=>zAT rfl rfl) (fun _=>rfl) rfl (by intro G G' h;simp (decide:=true) only [h]) ?_|refine zw _ (fun _=>zAF rfl rfl (by exact rfl)) (fun _=>rfl) rfl (by intro G G' h;simp (decide:=true) only [h]) ?_|(refine zBp rfl ?_;refine zw _ (fun _=>zAQ rfl rfl) (fun _=>rfl) rfl (by intro G G' h;simp (decide:=true) only [h]) ?_)|fail|refine zw _ (fun _=>zAE rfl rfl) (fun _=>rfl) rfl (by intro G G' h;simp (decide:=true) only [h]) ?_)|((with_reducible refine zBk ?_ ?_);(· exact rfl))|(with_reducible refine zCb ?_)))
  (intro G;simp only [regsT,zAV,zBY,ini,List.nil_append,List.cons_append])
  (repeat' (first|((with_reducible refine zV ?_);first|refine zO rfl rfl rfl ?_|refine zD rfl rfl rfl ?_|(refine zQ rfl rfl rfl ?_;refine ⟨_,rfl,?_⟩)|refine zS rfl rfl rfl ?_|refine zr rfl rfl rfl rfl ?_|refine zN rfl rfl rfl ?_|refine zM rfl rfl ?_|(refine zd rfl rfl rfl rfl rfl (fun h=>?_) (fun h=>?_)<;>(dsimp only [cmpP] at h;(try (exfalso;omega))))|refine zEp (kv:=vI) (vv:=vSc) xi ⟨xi,xst,⟨xg1,xg2⟩,⟨xo1,xo2⟩,xA,xt,xc⟩ rfl zBt rfl rfl rfl rfl rfl (by (repeat constructor)) ?_|refine zt rfl rfl rfl ?_|refine zb rfl rfl rfl rfl (by omega) ?_|refine zm rfl rfl rfl rfl (IntWalk.i64_in _ (by omega)) ?_|refine zK rfl rfl rfl rfl rfl (by omega) ?_|refine zL rfl rfl rfl rfl rfl (by first|decide|omega) ?_|refine zj rfl rfl rfl ?_|(refine zg rfl rfl rfl rfl rfl ?_;refine ⟨rfl,by first|decide|exact Nat.le_of_ble_eq_true rfl|(simp;omega),_,rfl,?_⟩)|(refine zh rfl rfl (fun b=>?_))|(refine zl rfl rfl rfl rfl (fun b=>?_))|(refine zy rfl rfl rfl ?_;refine ⟨_,rfl,?_⟩)|refine zx rfl rfl rfl ?_)|(with_reducible first|refine zW ?_|refine zC ?_|refine zU ?_|refine zB ?_|refine zX ?_|refine zT ?_|refine zF ?_|refine zf ?_|refine zP ?_|refine zZ ?_|refine zY ?_|refine za ?_|refine zG ?_|refine zJ ?_)|((with_reducible refine zE ?_ ?_);(· exact rfl))|((with_reducible refine zI ?_ ?_);(· exact rfl))|((with_reducible refine zH ?_ ?_);(· exact rfl))))
  rw [hS1]
  exact z6 (ι:=Nat × Int) (i+1,xi) ⟨by simp only;omega,by simp only;omega,fun t ht=>ho1 t ht⟩ (by simp only;omega) (by (repeat first|exact lK1|refine zp rfl ?_)) (by (repeat constructor))
 ·obtain rfl:i=scs.length:=by omega
  (repeat' (first|((with_reducible refine zV ?_);first|refine zO rfl rfl rfl ?_|refine zD rfl rfl rfl ?_|(refine zQ rfl rfl rfl ?_;refine ⟨_,rfl,?_⟩)|refine zS rfl rfl rfl ?_|refine zr rfl rfl rfl rfl ?_|refine zN rfl rfl rfl ?_|refine zM rfl rfl ?_|(refine zd rfl rfl rfl rfl rfl (fun h=>?_) (fun h=>?_)<;>(dsimp only [cmpP] at h;(try (exfalso;omega))))|refine zt rfl rfl rfl ?_|refine zb rfl rfl rfl rfl (by omega) ?_|refine zm rfl rfl rfl rfl (IntWalk.i64_in _ (by omega)) ?_|refine zK rfl rfl rfl rfl rfl (by omega) ?_|refine zL rfl rfl rfl rfl rfl (by first|decide|omega) ?_|refine zj rfl rfl rfl ?_|(refine zg rfl rfl rfl rfl rfl ?_;refine ⟨rfl,by first|decide|exact Nat.le_of_ble_eq_true rfl|(simp;omega),_,rfl,?_⟩)|(refine zh rfl rfl (fun b=>?_))|(refine zl rfl rfl rfl rfl (fun b=>?_))|(refine zy rfl rfl rfl ?_;refine ⟨_,rfl,?_⟩)|refine zx rfl rfl rfl ?_)|(with_reducible first|refine zW ?_|refine zC ?_|refine zU ?_|refine zB ?_|refine zX ?_|refine zT ?_|refine zF ?_|refine zf ?_|refine zP ?_|refine zZ ?_|refine zY ?_|refine za ?_|refine zG ?_|refine zJ ?_)|((with_reducible refine zE ?_ ?_);(· exact rfl))|((with_reducible refine zI ?_ ?_);(· exact rfl))|((with_reducible refine zH ?_ ?_);(· exact rfl))))
  exact zk (by (exact zAX.cons (by exact zBv.tmp rfl) (zAX.cons (by exact zBv.tmp rfl) zAX.nil))) (bh,m) trivial rfl (fun _ h=>h.sub (by (repeat constructor)))
end Go.Proofs.YtcpdjamlhhfbhaaGreat.Two
