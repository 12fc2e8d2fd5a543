/- ZQ15 -/
import Derived.Test.YtcpdjamlhhfbhaaGreatZQ14
set_option linter.unusedSimpArgs false
set_option linter.unusedVariables false
namespace Go.Proofs.YtcpdjamlhhfbhaaGreat.Two
variable {ro : Option Nat}
open Go.RowKit
set_option maxRecDepth 20000
section
variable {P : Program} {w0:World} {n:Nat} {d:List Deferred} {R:List (Nat × Value)} {H H':List Ent} {Q:Exit→Act→World→Prop} {ops:Array Oper} {rest:List Oper} {o:Oper} {t:Tmp} {x y:Operand} {v:Value}
theorem zB2 {α:Type} {enc:α→List Value} {k e T bytes:Nat} [el:ElI P T e k bytes] [ei:zBX enc k] {xs:List α} (ys:List α) {A:Option Addr} {m c:Nat} (hop:o.op = .call { callee:=.builtin .append,args:=#[x,y],argTypes:=#[T,T] }) (hrd:rdy R ops n o=some t) (hx:evR R x=some v) (hr:Take H (.row enc k e v xs) H')
  (hy:evR R y=some (.slice A m c)) (hm:m=ys.length) (hs:∀ w,Below w0.heap.size w0 w→Own w0.heap.size w H→zAB enc k w A ys) (hl:xs.length+ys.length≤100000000000∧bytes≤1000)
  (h:∀ A' c',U w0 n d ((t,.slice A' (xs++ys).length c')::R) (.row enc k e (.slice A' (xs++ys).length c') (xs++ys)::H') (wpL ro P ops Q rest)):U w0 n d R H (wpL ro P ops Q (o::rest)) :=
 zCh (rW hrd) fun a w q K hK=>by
  subst hm
  obtain ⟨z,hE⟩:=el.el
  obtain ⟨i,i1,i2,i3,i4⟩:=hE.info
  have ho:=q.own.take hr
  have hrow:Row enc k e 0 w v xs:=ho.here (.row enc k e v xs) (by simp)
  have hsl:=hs w q.below q.own
  have hlen:(ys.flatMap enc).length=ys.length * k:=by
   simp [List.length_flatMap,ei.len,List.map_const',List.sum_replicate_nat]
  have hmul:(xs.length+ys.length) * bytes≤140737488355328:=by
   have:=Nat.mul_le_mul hl.1 hl.2;omega
  have key:∃ v' w',(Builtin.append_ #[T,T] o.type #[v,.slice A ys.length c]).run P w = .ok v' w'∧Row enc k e 0 w' v' (xs++ys)∧w.grownBy w' v.ownBlock∧(v'.ownBlock=v.ownBlock∨v'.ownBlock=some w.heap.size):=by
   cases hA:A with
   | none =>
    have hys:ys=[]:=by
     cases ys with
     | nil=>rfl
     | cons y r =>
      obtain ⟨b,o,hb,_⟩:=hsl 0 y (by simp)
      rw [hA] at hb;cases hb
    subst hys hA
    refine ⟨v,w,?_,by simpa using hrow,World.grownBy.refl w _,.inl rfl⟩
    rcases hrow.2 with ⟨rfl,_⟩ | ⟨g,cap,cur,rfl,_,_,hnc,_⟩
    ·simp [Builtin.append_,run_underlying hE.under,sizeOf,typeInfo,i1,Builtin.lenOf,Builtin.firstCells]
    ·simp [Builtin.append_,run_underlying hE.under,sizeOf,typeInfo,i1,Builtin.lenOf,Builtin.firstCells,hnc,storeCells]
   | some ad =>
    subst hA
    obtain ⟨v',w',r1,r2,r3,_,r5⟩:=run_append_own_at (P:=P) w 0 T o.type e i z k bytes hE.under i1 i2 i3 i4 hE.zs hE.pos v xs.length (xs.flatMap enc) hrow ad ys.length c (ys.flatMap enc) hlen
     (fun j u hu=>by
      obtain ⟨i,y,l,hi,hl,rfl⟩:=zFN ei.len ys j u hu
      obtain ⟨b,o,hb,hlt,hc⟩:=hsl i y hi
      cases hb
      have e1:(⟨b,o,none⟩:Addr).add (i * k+l)=⟨b,o+i * k+l,none⟩:=by rw [zBg];congr 1;omega
      rw [e1];exact hc l u hl)
     (fun u hu=>by
      obtain ⟨y,_,hy'⟩:=List.mem_flatMap.1 hu
      exact ei.one y u hy') (by unfold maxLen;omega) hmul (Nat.zero_le _)
    exact ⟨v',w',r1,by unfold Row;simpa using r2,r3,r5⟩
  obtain ⟨v',w',k1,k2,k3,k4⟩:=key
  obtain ⟨A',c',rfl⟩:=k2.form
  unfold Oper.wp execOp
  simp only [hop,resolve,invoke,builtin,Sem.run_bind,Sem.run_pure,Result.andThen_ok,List.map_toArray,List.map_cons,List.map_nil,q.ev hx,q.ev hy,k1,Oper.upon_value,(rD hrd)]
  have hfoot:∀ b,v.ownBlock=some b→w0.heap.size≤b∧b<w.heap.size:=fun b hb=>ho.foot (.row enc k e v xs) (by simp) b hb
  refine hK _ _ (h A' c' _ _ (Kn.put (q.heap ?_ ?_) (rT hrd)))
  ·exact q.below.trans ⟨k3.os,k3.tape,k3.output,k3.size,fun b hb=>k3.block b (by have:=q.base;omega) (fun e=>by have:=(hfoot b e.symm).1;omega)⟩
  ·refine ho.turn k3.size (fun b hb hn=>k3.block b hb (fun e=>hn e.symm)) q.base k2 (fun b hb=>?_)
   have hb':(Value.slice A' (xs++ys).length c').ownBlock=some b:=hb
   have hlt:=k2.lt b hb'
   rcases k4 with h4|h4
   ·exact ⟨.inl (h4.symm.trans hb'),hlt.2⟩
   ·rw [h4] at hb';cases hb';exact ⟨.inr (Nat.le_refl _),hlt.2⟩
theorem zE0 {α:Type} {enc:α→List Value} {T e:TypeId} {len s s':Nat} {g g':Bool} {td:TypeDesc} {ps:Array (Nat × Operand)} {z:List Value} {qs:List (Nat × Value)} (ys:List α) (hop:o.op = .buildSlice T len ps) [i1:TyI P T (.slice e) s g] [i2:TyI P e td s' g'] [i3:TyZ P e z] [ei:zBX enc s'] (hrd:rdy R ops n o=some t) (hp:evp R ps.toList=some qs) (hz:Nat.beq z.length s'=true) (hs0:Nat.blt 0 s'=true) (hl:Nat.ble (len * s') 16777216=true)
  (hn:len=ys.length) (hf:fillL (fun i=>some (i * s',s')) (zCM z len) qs=some (ys.flatMap enc)) (h:∀ b,U w0 n d ((t,.slice (some ⟨b,0,none⟩) ys.length ys.length)::R) (.row enc s' e (.slice (some ⟨b,0,none⟩) ys.length ys.length) ys::H) (wpL ro P ops Q rest)):U w0 n d R H (wpL ro P ops Q (o::rest)) :=
 zCh (rW hrd) fun a w q K hK=>by
  subst hn
  have hrun:=zBs (P:=P) (w:=w) (o:=o) (a:=a) hop i1 i2 i3 (q.evp hp) hz hs0 hl hf
  have hflat:(ys.flatMap enc).length=ys.length * s':=by
   simp [List.length_flatMap,ei.len,List.map_const',List.sum_replicate_nat]
  have h0:0<s':=Nat.le_of_ble_eq_true hs0
  have hl1:ys.length * s'≤16777216:=Nat.le_of_ble_eq_true hl
  have hl2:ys.length≤16777216:=Nat.le_trans (Nat.le_mul_of_pos_right _ h0) hl1
  unfold Oper.wp execOp;rw [hop]
  simp only [Sem.run_bind,hrun,Result.andThen_ok,Sem.run_pure,Oper.upon_value,(rD hrd)]
  refine hK _ _ (h w.heap.size _ _ ((q.call (E:=[.row enc s' e (.slice (some ⟨w.heap.size,0,none⟩) ys.length ys.length) ys]) (zAK w _) ⟨fun f hf'=>?_,fun f hf' b hb=>?_,by simp⟩).put (rT hrd)))
  ·simp only [List.mem_singleton] at hf';subst hf'
   exact ⟨hflat,.inr ⟨w.heap.size,ys.length,(ys.flatMap enc).toArray,rfl,Nat.zero_le _,heap_alloc_new w _,Nat.le_refl _,by unfold maxLen;omega,by simp [hflat],by show (ys.flatMap enc).take (ys.length * s')=_;rw [← hflat,List.take_length]⟩⟩
  ·simp only [List.mem_singleton] at hf';subst hf'
   cases hb;simp
end
theorem look_at {scs:List ScM} {id:Int} {k:Nat} {s:ScM} (h1:atI scs id=some k) (h2:scs[k]?=some s):zCF scs scs.length id=some s:=idTo_all h1 h2
set_option maxHeartbeats 2000000 in
theorem zH2 (scs:List ScM) (A:Option Addr) (c hh m gb:Nat) (l:LdM) (s:ScM) (w:World) (hb:InC w gb 0 [.pointer (some ⟨hh,0,none⟩)]) (hH:zCW w A c scs hh m) (hs:zCF scs scs.length l.scale=some s) (h1:1≤s.step) (h2:zBb l.shown s.step=true) :
  Gv Tryz.prog 114 ([vLd l] ++ #[.pointer (some ⟨gb,0,none⟩)].toList) w (.bool false):=by
 have hS:=fun W=>zFP l.shown s.step W h1
 rw [h2] at hS
 obtain ⟨hH1,hH2⟩:=hH
 generalize zCF scs scs.length=f at *
 obtain ⟨ls,ln⟩:=l
 obtain ⟨id,step,⟨g1,g2⟩,⟨o1,o2⟩,sA,tr,tc⟩:=s
 simp only at hs h1 hS
 unfold Gv vLd
 simp only
 (refine ze (n:=26) Tryz.func114 rfl rfl rfl ?_)
 (repeat' (first|((with_reducible refine zV ?_);first|refine zO rfl rfl rfl ?_|refine zD rfl rfl rfl ?_|(refine zQ rfl rfl rfl ?_;refine ⟨_,rfl,?_⟩)|refine zS rfl rfl rfl ?_|refine zr rfl rfl rfl rfl ?_|refine zN rfl rfl rfl ?_|refine zM rfl rfl ?_|refine zq rfl rfl rfl rfl ?_|refine zt rfl rfl rfl ?_|(refine zg rfl rfl rfl rfl rfl ?_;refine ⟨rfl,by first|decide|exact Nat.le_of_ble_eq_true rfl|(simp;omega),_,rfl,?_⟩)|(refine zh rfl rfl (fun b=>?_))|(refine zl rfl rfl rfl rfl (fun b=>?_))|refine zx rfl rfl rfl ?_)|(with_reducible first|refine zW ?_|refine zC ?_|refine zU ?_|refine zB ?_|refine zX ?_|refine zT ?_|refine zF ?_|refine zf ?_)))
 (refine zA9 [(10,11)] [] [] rfl (by decide) (fun _ h=>h) (by kernel_rfl) [[],[Z],[Z,Z],[Z,Z,Z],[Y,Y,Y,Y],[Z,Y,Y,Y,Y],[Z,Z,Z,Z,Z,Z],[Z,Z,Z,Z,Z,Z,Z],[Z,Z,Z,Z,Z,Z,Z,Z],[Y,Z,Z,Z,Z,Z,Z,Z,Z],[Y,Y,Y,Y,Y,Y,Y,Y,Y,Y],[Z,Y,Z,Z,Z,Z,Z,Z,Z,Z,Z],[Z,Z,Z,Z,Z,Z,Z,Z,Z,Z,Z,Z]] (by kernel_rfl) (by kernel_rfl) (by kernel_rfl) (by kernel_rfl) (by kernel_rfl) ?_)
 (repeat' (first|(((with_reducible refine zDU ?_ ?_);(· exact rfl);refine ⟨_,fun G=>(by (try simp (decide:=true) only [vis,see,fltT,zAV,Nat.reduceAdd,Nat.reduceSub,if_true,if_false,List.set_cons_zero,List.set_cons_succ,List.set_nil,List.nil_append,List.cons_append]);rfl),?_⟩);first|refine zw _ (fun _=>zAT rfl rfl) (fun _=>rfl) rfl (by intro G G' h;simp (decide:=true) only [h]) ?_|refine zw _ (fun _=>zAF rfl rfl (by exact rfl)) (fun _=>rfl) rfl (by intro G G' h;simp (decide:=true) only [h]) ?_|(refine zBp rfl ?_;refine zw _ (fun _=>zAQ rfl rfl) (fun _=>rfl) rfl (by intro G G' h;simp (decide:=true) only [h]) ?_)|refine zw _ (fun _=>zAS rfl rfl) (fun _=>rfl) rfl (by intro G G' h;simp (decide:=true) only [h]) ?_|refine zw _ (fun _=>zIt (kv:=vI) (vv:=vSc) (f:=f) hH2 ls ⟨id,step,⟨g1,g2⟩,⟨o1,o2⟩,sA,tr,tc⟩ true rfl zBt zIB rfl rfl (by rw [hs];rfl) (by rw [hs];rfl)) (fun _=>rfl) rfl (by exact fun _ _ _=>rfl) ?_|refine zw _ (fun _=>zAM rfl rfl rfl) (fun _=>rfl) rfl (by intro G G' h;simp (decide:=true) only [h]) ?_|refine zw _ (fun _=>zAE rfl rfl) (fun _=>rfl) rfl (by intro G G' h;simp (decide:=true) only [h]) ?_|refine zGl rfl (fun _=>rfl) rfl ?_)|(refine zFS (gx:=fun G=>(G 10).g) (cs:=fun _=>[.int .i64 0,.int .i64 0,.int .i64 0,.int .i64 0,.int .i64 0,.int .i64 0,.slice none 0 0]) (cs':=fun _=>[.int .i64 id,.int .i64 step,.int .i64 g1,.int .i64 g2,.int .i64 o1,.int .i64 o2,.slice sA tr.length tc]) 10 (by decide) rfl rfl (fun _=>rfl) rfl (fun _=>rfl) (fun _=>rfl) (fun _=>rfl) (fun _=>rfl) (fun _=>rfl) (fun _=>rfl) (fun _=>rfl) (by intro G G' h;simp (decide:=true) only [h]) (by exact fun _ _ _=>rfl) ?_)|((with_reducible refine zBk ?_ ?_);(· exact rfl))|(with_reducible refine zCb ?_)))
 intro G
 simp only [regsT,Nat.reduceAdd,List.nil_append,List.cons_append]
 generalize hg9:(G 10).g=bk
 refine zBx (H':=[.blk bk [.int .i64 id,.int .i64 step,.int .i64 g1,.int .i64 g2,.int .i64 o1,.int .i64 o2,.slice sA tr.length tc],.blk b [.int .i64 ls,.int .i64 ln]]) (fun _ h=>by first|exact h|exact hg9 ▸ h) ?_
 (repeat' (first|((with_reducible refine zV ?_);first|refine zO rfl rfl rfl ?_|refine zD rfl rfl rfl ?_|(refine zQ rfl rfl rfl ?_;refine ⟨_,rfl,?_⟩)|refine zS rfl rfl rfl ?_|refine zr rfl rfl rfl rfl ?_|refine zN rfl rfl rfl ?_|refine zM rfl rfl ?_|refine zn rfl rfl rfl rfl (fun _ _ q=>hS _) ?_|refine zq rfl rfl rfl rfl ?_|refine zt rfl rfl rfl ?_|(refine zg rfl rfl rfl rfl rfl ?_;refine ⟨rfl,by first|decide|exact Nat.le_of_ble_eq_true rfl|(simp;omega),_,rfl,?_⟩)|(refine zh rfl rfl (fun b=>?_))|(refine zl rfl rfl rfl rfl (fun b=>?_))|refine zx rfl rfl rfl ?_)|(with_reducible first|refine zW ?_|refine zC ?_|refine zU ?_|refine zB ?_|refine zX ?_|refine zT ?_|refine zF ?_|refine zf ?_)))
 exact zk (by exact rTm rfl) () trivial rfl (fun _ h=>h.sub (by (repeat constructor)))
theorem all_true {l:List Int} {lo hi:Int} (h:∀ x∈l,inB lo hi x=true):l.all (inB lo hi)=true:=List.all_eq_true.2 h
set_option maxHeartbeats 2000000 in
theorem cbare_y (g:GrM) (w:World) (h:zDm w g) (hF:zHZ g):Gv Tryz.prog 117 [vGr g] w (.bool true):=by
 have hI:=fun lo hi (l:List Int) A c W (h1:zAB encI 1 W A l) (h2:l.length≤1000000) (h3:∀ x∈l,inB lo hi x=true)=>(by
  have:=zGj lo hi l A c W h1 h2
  rwa [all_true h3] at this:Gv Tryz.prog 42 [.int .i64 lo,.int .i64 hi,.slice A l.length c] W (.bool true))
 obtain ⟨f1,f2,f3,⟨f4,f5⟩,⟨f6,f7⟩,f8⟩:=hF
 obtain ⟨_,h2,h3⟩:=h
 obtain ⟨lA,loads,lc,ad,ba,ji,uA,run,uc,kA,str,kc,spd,stm⟩:=g
 simp only at f1 f2 f3 f4 f5 f6 f7 f8 h2 h3
 have g1:∀ x∈[ba]++run,inB (-1000) 1000 x=true:=fun x hx=>by
  rcases List.mem_append.1 hx with h9|h9
  ·rw [List.mem_singleton.1 h9];exact f2
  ·exact f5 x h9
 have g2:∀ x∈[spd]++str,inB 0 2000 x=true:=fun x hx=>by
  rcases List.mem_append.1 hx with h9|h9
  ·rw [List.mem_singleton.1 h9];exact f8
  ·exact f7 x h9
 unfold Gv vGr
 simp only
 (refine ze (n:=43) Tryz.func117 rfl rfl rfl ?_)
 have k1:([ba]++run).length≤1000000:=by simp only [List.length_append,List.length_cons,List.length_nil];omega
 have k2:([spd]++str).length≤1000000:=by simp only [List.length_append,List.length_cons,List.length_nil];omega
 (repeat' (first|((with_reducible refine zV ?_);first|refine zO rfl rfl rfl ?_|refine zD rfl rfl rfl ?_|(refine zQ rfl rfl rfl ?_;refine ⟨_,rfl,?_⟩)|refine zS rfl rfl rfl ?_|refine zr rfl rfl rfl rfl ?_|refine zN rfl rfl rfl ?_|refine zM rfl rfl ?_|(refine zd rfl rfl rfl rfl rfl (fun h=>?_) (fun h=>?_)<;>(dsimp only [cmpP] at h;(try (exfalso;omega))))|refine zn rfl rfl rfl rfl (fun _ _ q=>zEk 0 1000000 ad _ _ _ (zAO (enc:=encI) (by exact rfl) _ q.below q.own) f1) ?_|refine zn rfl rfl rfl rfl (fun _ _ q=>zEk 0 1000 ji _ _ _ (zAO (enc:=encI) (by exact rfl) _ q.below q.own) f3) ?_|(refine zE0 (enc:=encI) [ba] rfl rfl rfl rfl rfl rfl rfl rfl (fun b=>?_))|(refine zE0 (enc:=encI) [spd] rfl rfl rfl rfl rfl rfl rfl rfl (fun b=>?_))|(refine zBc (enc:=encI) run rfl rfl rfl (by (repeat constructor)) rfl rfl (src_in h2) (by refine ⟨?_,by decide⟩;(try simp only [List.length_append,List.length_cons,List.length_nil]);omega) (fun A' c'=>?_);refine zBx (fun _ h=>h.zCe (by (repeat constructor))) ?_)|(refine zBc (enc:=encI) str rfl rfl rfl (by (repeat constructor)) rfl rfl (src_in h3) (by refine ⟨?_,by decide⟩;(try simp only [List.length_append,List.length_cons,List.length_nil]);omega) (fun A' c'=>?_);refine zBx (fun _ h=>h.zCe (by (repeat constructor))) ?_)|refine zn rfl rfl rfl rfl (fun _ _ q=>hI (-1000) 1000 ([ba]++run) _ _ _ (zDD q.own (Below.refl _ _)) k1 g1) ?_|refine zn rfl rfl rfl rfl (fun _ _ q=>hI 0 2000 ([spd]++str) _ _ _ (zDD q.own (Below.refl _ _)) k2 g2) ?_|refine zj rfl rfl rfl ?_|(refine zl rfl rfl rfl rfl (fun b=>?_))|(refine zR rfl rfl rfl ?_;refine ⟨rfl,_,rfl,fun b=>?_⟩))|(with_reducible first|refine zW ?_|refine zC ?_|refine zU ?_|refine zB ?_|refine zX ?_|refine zT ?_|refine zF ?_|refine zf ?_)))
 exact zk (by exact rTm rfl) () trivial rfl (fun _ h=>h.sub (by (repeat constructor)))
theorem any_none {α:Type} (l:List α):(l.any fun _=>false)=false:=by simp
set_option maxHeartbeats 1000000 in
theorem cfits_y (scs:List ScM) (A:Option Addr) (c hh m:Nat) (g:GrM) (w:World) (hH:zCW w A c scs hh m) (hg:zDm w g) (hB:zC3 scs) (hG:GrF scs g):Gv Tryz.prog 71 [.pointer (some ⟨hh,0,none⟩),vGr g] w (.bool true):=by
 have hC:=fun W gb (hW:Below w.heap.size w W) (hgb:∀ W',Below W.heap.size W W'→InC W' gb 0 [.pointer (some ⟨hh,0,none⟩)])=>cld_con g.loads g.lA g.lc 114 #[.pointer (some ⟨gb,0,none⟩)] (fun _=>false) W (hg.loads.below hW) (by have:=hG.len;omega) (fun x W' hx hW'=>by
  obtain ⟨k,s,h1,h2,h3⟩:=hG.ok x hx
  exact zH2 scs A c hh m gb x s W' (hgb W' hW') ((hH.below hW).below hW') (look_at h1 h2) (zCd.1 (hB.ok s (List.mem_of_getElem? h2))).step.1 h3)
 rw [any_none] at hC
 have hBa:=fun W (hW:Below w.heap.size w W)=>cbare_y g W (hg.below hW) hG.bare
 have hlen:=hG.len
 clear hG hB hg hH
 obtain ⟨lA,loads,lc,ad,ba,ji,uA,run,uc,kA,str,kc,spd,stm⟩:=g
 unfold Gv
 unfold vGr at *
 simp only at *
 (refine ze (n:=22) Tryz.func71 rfl rfl rfl ?_)
 (repeat' (first|((with_reducible refine zV ?_);first|refine zO rfl rfl rfl ?_|refine zD rfl rfl rfl ?_|(refine zQ rfl rfl rfl ?_;refine ⟨_,rfl,?_⟩)|refine zS rfl rfl rfl ?_|refine zr rfl rfl rfl rfl ?_|refine zN rfl rfl rfl ?_|refine zM rfl rfl ?_|(refine zd rfl rfl rfl rfl rfl (fun h=>?_) (fun h=>?_)<;>(dsimp only [cmpP] at h;(try (exfalso;omega))))|refine zn rfl rfl rfl rfl (fun _ _ q=>hC _ _ q.below (fun _ hW=>zBC q.own hW rfl)) ?_|refine zn rfl rfl rfl rfl (fun _ _ q=>hBa _ q.below) ?_|refine zt rfl rfl rfl ?_|refine zj rfl rfl rfl ?_|(refine zl rfl rfl rfl rfl (fun b=>?_))|refine zz rfl rfl rfl rfl ?_)|(with_reducible first|refine zW ?_|refine zC ?_|refine zU ?_|refine zB ?_|refine zX ?_|refine zT ?_|refine zF ?_|refine zf ?_)))
 exact zk (by exact rTm rfl) () trivial rfl (fun _ h=>h.sub (by (repeat constructor)))
set_option maxHeartbeats 1000000 in
theorem zFR (scs:List ScM) (A:Option Addr) (c:Nat) (g:GrM) (gA:Option Addr) (w:World) (h:zCX w A scs) (hg:zDm w g) (hB:zC3 scs) (hG:GrF scs g) (hA:zAB zB0 8 w gA [g]):Ret Tryz.prog 38 [.agg #[.slice A scs.length c],.slice gA 1 1] w (fun p:Nat × Nat=>.tuple #[.pointer (some ⟨p.1,0,none⟩),.int .i64 0]) (fun p=>zF6 A c scs p.1 p.2) (fun _=>True):=by
 have hO:=fun W (hW:Below w.heap.size w W)=>zIx scs A c W (h.below hW) hB
 have hF:=fun hh m W (hW:Below w.heap.size w W) (hH:zCW W A c scs hh m)=>cfits_y scs A c hh m g W hH (hg.below hW) hB hG
 obtain ⟨bA,oA,rfl,_,_⟩:=hA.at_ (show 0 < [g].length by simp)
 have:InS w bA oA zB0 8 [g]:=⟨hA⟩
 have:zAZ [g] 0 g:=⟨rfl⟩
 have hlen:=hB.len
 clear hB hG hg h
 obtain ⟨lA,loads,lc,ad,ba,ji,uA,run,uc,kA,str,kc,spd,stm⟩:=g
 unfold vGr at hF
 unfold zF6 at *
 simp only at *
 (refine ze (n:=30) Tryz.func38 rfl rfl rfl ?_)
 (repeat' (first|((with_reducible refine zV ?_);first|refine zO rfl rfl rfl ?_|refine zD rfl rfl rfl ?_|(refine zQ rfl rfl rfl ?_;refine ⟨_,rfl,?_⟩)|(refine zd rfl rfl rfl rfl rfl (fun h=>?_) (fun h=>?_)<;>(dsimp only [cmpP] at h;(try (exfalso;omega))))|(refine zAU rfl rfl rfl rfl (fun _ _ q=>hO _ q.below) ?_;rintro ⟨bh,m⟩ -;dsimp only [List.cons_append,List.nil_append])|refine zq rfl rfl rfl rfl ?_|refine zt rfl rfl rfl ?_|refine zb rfl rfl rfl rfl (by omega) ?_|refine zm rfl rfl rfl rfl (IntWalk.i64_in _ (by omega)) ?_|refine zK rfl rfl rfl rfl rfl (by omega) ?_|refine zL rfl rfl rfl rfl rfl (by first|decide|omega) ?_|refine zj rfl rfl rfl ?_|(refine zg rfl rfl rfl rfl rfl ?_;refine ⟨rfl,by first|decide|exact Nat.le_of_ble_eq_true rfl|(simp;omega),_,rfl,?_⟩)|(refine zh rfl rfl (fun b=>?_))|(refine zl rfl rfl rfl rfl (fun b=>?_)))|(with_reducible first|refine zW ?_|refine zC ?_|refine zU ?_|refine zB ?_|refine zX ?_|refine zT ?_|refine zF ?_|refine zf ?_|refine zP ?_|refine zZ ?_|refine zY ?_|refine za ?_|refine zG ?_|refine zJ ?_)|((with_reducible refine zE ?_ ?_);(· exact rfl))|((with_reducible refine zI ?_ ?_);(· exact rfl))|((with_reducible refine zH ?_ ?_);(· exact rfl))))
 refine zAC (ι:=Nat) [6,18,19] rfl (fun i=>i≤1) (fun i=>[(20,.int .i64 (i:Int))]) (fun _=>[.blk bh [.slice A scs.length c,.map (some m)],.fm m vI vSc (zCF scs scs.length)]) (fun i=>1 - i) 0 (by omega) (by (repeat first|exact lK1|refine zp rfl ?_)) (by (repeat constructor)) ?_
 rintro i hi
 simp only [zAm,List.cons_append,List.nil_append]
 by_cases hlt:i<1
 ·obtain rfl:i=0:=by omega
  (repeat' (first|((with_reducible refine zV ?_);first|refine zO rfl rfl rfl ?_|refine zD rfl rfl rfl ?_|(refine zQ rfl rfl rfl ?_;refine ⟨_,rfl,?_⟩)|(refine zd rfl rfl rfl rfl rfl (fun h=>?_) (fun h=>?_)<;>(dsimp only [cmpP] at h;(try (exfalso;omega))))|refine zK (I:=0) rfl rfl rfl rfl rfl (by decide) ?_|refine zn rfl rfl rfl rfl (fun _ _ q=>hF bh m _ q.below ⟨zBC q.own (Below.refl _ _) rfl,zGd q.own (by (repeat constructor))⟩) ?_|refine zq rfl rfl rfl rfl ?_|refine zt rfl rfl rfl ?_|refine zb rfl rfl rfl rfl (by omega) ?_|refine zm rfl rfl rfl rfl (IntWalk.i64_in _ (by omega)) ?_|refine zK rfl rfl rfl rfl rfl (by omega) ?_|refine zL rfl rfl rfl rfl rfl (by first|decide|omega) ?_|refine zj rfl rfl rfl ?_|(refine zg rfl rfl rfl rfl rfl ?_;refine ⟨rfl,by first|decide|exact Nat.le_of_ble_eq_true rfl|(simp;omega),_,rfl,?_⟩)|(refine zh rfl rfl (fun b=>?_))|(refine zl rfl rfl rfl rfl (fun b=>?_)))|(with_reducible first|refine zW ?_|refine zC ?_|refine zU ?_|refine zB ?_|refine zX ?_|refine zT ?_|refine zF ?_|refine zf ?_|refine zP ?_|refine zZ ?_|refine zY ?_|refine za ?_|refine zG ?_|refine zJ ?_)|((with_reducible refine zE ?_ ?_);(· exact rfl))|((with_reducible refine zI ?_ ?_);(· exact rfl))|((with_reducible refine zH ?_ ?_);(· exact rfl))))
  exact z6 (ι:=Nat) 1 (by omega) (by omega) (by (repeat first|exact lK1|refine zp rfl ?_)) (by (repeat constructor))
 ·obtain rfl:i=1:=by omega
  (repeat' (first|((with_reducible refine zV ?_);first|refine zO rfl rfl rfl ?_|refine zD rfl rfl rfl ?_|(refine zQ rfl rfl rfl ?_;refine ⟨_,rfl,?_⟩)|(refine zd rfl rfl rfl rfl rfl (fun h=>?_) (fun h=>?_)<;>(dsimp only [cmpP] at h;(try (exfalso;omega))))|refine zq rfl rfl rfl rfl ?_|refine zt rfl rfl rfl ?_|refine zb rfl rfl rfl rfl (by omega) ?_|refine zm rfl rfl rfl rfl (IntWalk.i64_in _ (by omega)) ?_|refine zK rfl rfl rfl rfl rfl (by omega) ?_|refine zL rfl rfl rfl rfl rfl (by first|decide|omega) ?_|refine zj rfl rfl rfl ?_|(refine zg rfl rfl rfl rfl rfl ?_;refine ⟨rfl,by first|decide|exact Nat.le_of_ble_eq_true rfl|(simp;omega),_,rfl,?_⟩)|(refine zh rfl rfl (fun b=>?_))|(refine zl rfl rfl rfl rfl (fun b=>?_)))|(with_reducible first|refine zW ?_|refine zC ?_|refine zU ?_|refine zB ?_|refine zX ?_|refine zT ?_|refine zF ?_|refine zf ?_|refine zP ?_|refine zZ ?_|refine zY ?_|refine za ?_|refine zG ?_|refine zJ ?_)|((with_reducible refine zE ?_ ?_);(· exact rfl))|((with_reducible refine zI ?_ ?_);(· exact rfl))|((with_reducible refine zH ?_ ?_);(· exact rfl))))
  exact zk (by (exact zAX.cons (by exact zBv.tmp rfl) (zAX.cons (by exact zBv.tmp rfl) zAX.nil))) (bh,m) trivial rfl (fun _ h=>h.sub (by (repeat constructor)))
end Go.Proofs.YtcpdjamlhhfbhaaGreat.Two
namespace Go.Proofs.YtcpdjamlhhfbhaaGreat.Two
variable {ro : Option Nat}
open Go.RowKit
set_option maxRecDepth 20000
theorem elem_sc : Elem Tryz.prog 46 96 7 72 (.agg #[.int .i64 0,.int .i64 0,.int .i64 0,.int .i64 0,.int .i64 0,.int .i64 0,.slice none 0 0]) :=
 ⟨Tryz.underlying46,⟨Tryz.t96,rfl,rfl,rfl,rfl⟩,rfl,by decide⟩
instance elI_sc : ElI Tryz.prog 46 96 7 72:=⟨⟨_,elem_sc⟩⟩
def vBo (b:Bool):Value:=.bool b
theorem zFd : ∀ w,(zeroValue 4).run Tryz.prog w = .ok (vBo false) w:=fun w=>Tryz.zeroValue4 w
def usedP (g:GrM) (s:ScM):Bool:=g.loads.any fun l=>decide (l.scale=s.id)
def zAb (scs:List ScM) (g:GrM):List ScM:=scs.filter (usedP g)
def zFJ (loads:List LdM) (i:Nat) (s:ScM):Option Bool:=if (loads.take i).any (fun l=>decide (l.scale=s.id)) then none else some true
theorem zHx {loads:List LdM} {i:Nat} {l:LdM} {s:ScM} (h:loads[i]?=some l):zFJ loads (i+1) s=if l.scale=s.id then none else zFJ loads i s:=by
 unfold zFJ
 rw [List.take_add_one,h,List.any_append]
 by_cases h1:l.scale=s.id
 ·simp [h1]
 ·simp [h1]
theorem zHJ {α:Type} {l:List α} {i:Nat} {x:α} {p:α→Bool} (h:l[i]?=some x):(l.take (i+1)).filter p=(l.take i).filter p++if p x then [x] else []:=by
 rw [List.take_add_one,h,List.filter_append]
 simp [List.filter_cons]
set_option maxHeartbeats 4000000 in
theorem zGC (scs:List ScM) (A:Option Addr) (c hh m:Nat) (g:GrM) (w:World) (h:zCX w A scs) (hH:zCW w A c scs hh m) (hg:zDm w g) (hB:zC3 scs) (hG:GrF scs g):zCV zAW 7 (zAb scs g) (fun v=>v) Tryz.prog 43 [.pointer (some ⟨hh,0,none⟩),vGr g] w:=by
 have hself:=fun s hs=>zIm (scs:=scs) hB (s:=s) hs
 obtain ⟨hb1,l0,c0,hm,hlo,hle⟩:=hH
 have h1:=h.sl
 have h2:=hg.loads
 have hlen:=hB.len
 have hlen2:=hG.len
 have hU:zAb scs g=(scs.take scs.length).filter (usedP g):=by rw [List.take_length];rfl
 have hP:∀ s,usedP g s=g.loads.any (fun l=>decide (l.scale=s.id)):=fun s=>rfl
 rw [hU]
 generalize usedP g=up at *
 clear hB hG hg h hU
 obtain ⟨lA,loads,lc,ad,ba,ji,uA,run,uc,kA,str,kc,spd,stm⟩:=g
 simp only at h2 hlen2 hP
 unfold zCV vGr
 simp only
 (refine ze (n:=56) Tryz.func43 rfl rfl rfl ?_)
 (repeat' (first|((with_reducible refine zV ?_);first|refine zO rfl rfl rfl ?_|refine zD rfl rfl rfl ?_|(refine zQ rfl rfl rfl ?_;refine ⟨_,rfl,?_⟩)|refine zS rfl rfl rfl ?_|(refine zd rfl rfl rfl rfl rfl (fun h=>?_) (fun h=>?_)<;>(dsimp only [cmpP] at h;(try (exfalso;omega))))|refine zDr Int Bool vI vBo rfl rfl (fun mi=>?_)|refine zIV (kv:=vI) (vv:=vSc) hm rfl rfl rfl (fun r=>?_)|refine zq rfl rfl rfl rfl ?_|refine zt rfl rfl rfl ?_|refine zb rfl rfl rfl rfl (by omega) ?_|refine zm rfl rfl rfl rfl (IntWalk.i64_in _ (by omega)) ?_|refine zK rfl rfl rfl rfl rfl (by omega) ?_|refine zL rfl rfl rfl rfl rfl (by first|decide|omega) ?_|refine zj rfl rfl rfl ?_|(refine zg rfl rfl rfl rfl rfl ?_;refine ⟨rfl,by first|decide|exact Nat.le_of_ble_eq_true rfl|(simp;omega),_,rfl,?_⟩)|(refine zh rfl rfl (fun b=>?_))|(refine zl rfl rfl rfl rfl (fun b=>?_))|(refine zR rfl rfl rfl ?_;refine ⟨rfl,_,rfl,fun b=>?_⟩)|refine zx rfl rfl rfl ?_)|(with_reducible first|refine zW ?_|refine zC ?_|refine zU ?_|refine zB ?_|refine zX ?_|refine zT ?_|refine zF ?_|refine zf ?_|refine zP ?_|refine zZ ?_|refine zY ?_|refine za ?_|refine zG ?_|refine zJ ?_)|((with_reducible refine zE ?_ ?_);(· exact rfl))|((with_reducible refine zI ?_ ?_);(· exact rfl))|((with_reducible refine zH ?_ ?_);(· exact rfl))))
 obtain ⟨bG,hbG⟩:∃ y,y=b:=⟨_,rfl⟩
 subst hbG
 obtain ⟨bR,hbR⟩:∃ y,y=r:=⟨_,rfl⟩
 subst hbR
 refine zAC (ι:=List Nat × (Int→Option Bool)) [0,3,5,17] rfl (fun q=>∀ p∈l0,p.2.2∈q.1→q.2 p.1=some true) (fun q=>[]) (fun q=>[.itl bR m c0 q.1,.fm mi vI vBo q.2,.blk bG [.slice lA loads.length lc,.int .i64 ad,.int .i64 ba,.int .i64 ji,.slice uA run.length uc,.slice kA str.length kc,.int .i64 spd,.bool stm]]) (fun q=>zEf l0 q.1) ([],fun _=>none) (fun p _ hp=>by cases hp) (by (repeat first|exact lK1|refine zp rfl ?_)) (by (repeat constructor)) ?_
 rintro ⟨seen,f⟩ hsee
 simp only at hsee
 simp only [zAm,List.cons_append,List.nil_append]
 (repeat' (first|((with_reducible refine zV ?_);first|refine zO rfl rfl rfl ?_|refine zD rfl rfl rfl ?_|(refine zQ rfl rfl rfl ?_;refine ⟨_,rfl,?_⟩)|refine zS rfl rfl rfl ?_|(refine zd rfl rfl rfl rfl rfl (fun h=>?_) (fun h=>?_)<;>(dsimp only [cmpP] at h;(try (exfalso;omega))))|(refine u_nextMO (kv:=vI) (vv:=vSc) rfl rfl rfl (by (repeat constructor)) hm hlo (fun hend=>?_) (fun p hp hpn=>?_)<;>skip)|refine zq rfl rfl rfl rfl ?_|refine zt rfl rfl rfl ?_|refine zb rfl rfl rfl rfl (by omega) ?_|refine zm rfl rfl rfl rfl (IntWalk.i64_in _ (by omega)) ?_|refine zK rfl rfl rfl rfl rfl (by omega) ?_|refine zL rfl rfl rfl rfl rfl (by first|decide|omega) ?_|refine zj rfl rfl rfl ?_|(refine zg rfl rfl rfl rfl rfl ?_;refine ⟨rfl,by first|decide|exact Nat.le_of_ble_eq_true rfl|(simp;omega),_,rfl,?_⟩)|(refine zh rfl rfl (fun b=>?_))|(refine zl rfl rfl rfl rfl (fun b=>?_))|(refine zR rfl rfl rfl ?_;refine ⟨rfl,_,rfl,fun b=>?_⟩)|refine zx rfl rfl rfl ?_)|(with_reducible first|refine zW ?_|refine zC ?_|refine zU ?_|refine zB ?_|refine zX ?_|refine zT ?_|refine zF ?_|refine zf ?_|refine zP ?_|refine zZ ?_|refine zY ?_|refine za ?_|refine zG ?_|refine zJ ?_)|((with_reducible refine zE ?_ ?_);(· exact rfl))|((with_reducible refine zI ?_ ?_);(· exact rfl))|((with_reducible refine zH ?_ ?_);(· exact rfl))))
 rotate_left
 ·have hN:=zHD (seen:=seen) hp hpn
  obtain ⟨k,s,bn⟩:=p
  simp only at hN
  (repeat' (first|((with_reducible refine zV ?_);first|refine zO rfl rfl rfl ?_|refine zD rfl rfl rfl ?_|(refine zQ rfl rfl rfl ?_;refine ⟨_,rfl,?_⟩)|refine zS rfl rfl rfl ?_|(refine zd rfl rfl rfl rfl rfl (fun h=>?_) (fun h=>?_)<;>(dsimp only [cmpP] at h;(try (exfalso;omega))))|refine zIW (kv:=vI) (vv:=vSc) (p:=(k,s,bn)) rfl rfl rfl (by (repeat constructor)) hm hlo hp ?_|refine zEp (kv:=vI) (vv:=vBo) k true rfl zBt rfl rfl rfl rfl rfl (by (repeat constructor)) ?_|refine zq rfl rfl rfl rfl ?_|refine zt rfl rfl rfl ?_|refine zb rfl rfl rfl rfl (by omega) ?_|refine zm rfl rfl rfl rfl (IntWalk.i64_in _ (by omega)) ?_|refine zK rfl rfl rfl rfl rfl (by omega) ?_|refine zL rfl rfl rfl rfl rfl (by first|decide|omega) ?_|refine zj rfl rfl rfl ?_|(refine zg rfl rfl rfl rfl rfl ?_;refine ⟨rfl,by first|decide|exact Nat.le_of_ble_eq_true rfl|(simp;omega),_,rfl,?_⟩)|(refine zh rfl rfl (fun b=>?_))|(refine zl rfl rfl rfl rfl (fun b=>?_))|(refine zR rfl rfl rfl ?_;refine ⟨rfl,_,rfl,fun b=>?_⟩)|refine zx rfl rfl rfl ?_)|(with_reducible first|refine zW ?_|refine zC ?_|refine zU ?_|refine zB ?_|refine zX ?_|refine zT ?_|refine zF ?_|refine zf ?_|refine zP ?_|refine zZ ?_|refine zY ?_|refine za ?_|refine zG ?_|refine zJ ?_)|((with_reducible refine zE ?_ ?_);(· exact rfl))|((with_reducible refine zI ?_ ?_);(· exact rfl))|((with_reducible refine zH ?_ ?_);(· exact rfl))))
  refine z6 (ι:=List Nat × (Int→Option Bool)) (seen++[bn],zB1 f k (some true)) (fun p' hp' hs'=>?_) hN (by (repeat first|exact lK1|refine zp rfl ?_)) (by (repeat constructor))
  simp only
  by_cases he:p'.1=k
  ·rw [he,zEE]
  ·rw [zGO he]
   rcases List.mem_append.1 hs' with h9|h9
   ·exact hsee p' hp' h9
   ·exact absurd (by rw [zF0 hlo hp' hp (by simpa using h9)]) he
 have hfull:∀ s∈scs,f s.id=zFJ loads 0 s:=fun s hs=>by
  have h4:=hself s hs
  rw [← hle] at h4
  obtain ⟨j,bn,_,h5⟩:=zB3 0 h4
  have h6:=List.mem_of_getElem? h5
  rw [hsee _ h6 (hend _ h6)]
  simp [zFJ]
 (repeat' (first|((with_reducible refine zV ?_);first|refine zO rfl rfl rfl ?_|refine zD rfl rfl rfl ?_|(refine zQ rfl rfl rfl ?_;refine ⟨_,rfl,?_⟩)|refine zS rfl rfl rfl ?_|(refine zd rfl rfl rfl rfl rfl (fun h=>?_) (fun h=>?_)<;>(dsimp only [cmpP] at h;(try (exfalso;omega))))|refine zq rfl rfl rfl rfl ?_|refine zt rfl rfl rfl ?_|refine zb rfl rfl rfl rfl (by omega) ?_|refine zm rfl rfl rfl rfl (IntWalk.i64_in _ (by omega)) ?_|refine zK rfl rfl rfl rfl rfl (by omega) ?_|refine zL rfl rfl rfl rfl rfl (by first|decide|omega) ?_|refine zj rfl rfl rfl ?_|(refine zg rfl rfl rfl rfl rfl ?_;refine ⟨rfl,by first|decide|exact Nat.le_of_ble_eq_true rfl|(simp;omega),_,rfl,?_⟩)|(refine zh rfl rfl (fun b=>?_))|(refine zl rfl rfl rfl rfl (fun b=>?_))|(refine zR rfl rfl rfl ?_;refine ⟨rfl,_,rfl,fun b=>?_⟩)|refine zx rfl rfl rfl ?_)|(with_reducible first|refine zW ?_|refine zC ?_|refine zU ?_|refine zB ?_|refine zX ?_|refine zT ?_|refine zF ?_|refine zf ?_|refine zP ?_|refine zZ ?_|refine zY ?_|refine za ?_|refine zG ?_|refine zJ ?_)|((with_reducible refine zE ?_ ?_);(· exact rfl))|((with_reducible refine zI ?_ ?_);(· exact rfl))|((with_reducible refine zH ?_ ?_);(· exact rfl))))
 refine zAC (ι:=Nat × (Int→Option Bool)) [0,3,5,25,26] rfl (fun q=>q.1≤loads.length∧∀ s∈scs,q.2 s.id=zFJ loads q.1 s) (fun q=>[(27,.int .i64 (q.1:Int))]) (fun q=>[.fm mi vI vBo q.2,.blk bG [.slice lA loads.length lc,.int .i64 ad,.int .i64 ba,.int .i64 ji,.slice uA run.length uc,.slice kA str.length kc,.int .i64 spd,.bool stm]]) (fun q=>loads.length - q.1) (0,f) ⟨Nat.zero_le _,hfull⟩ (by (repeat first|exact lK1|refine zp rfl ?_)) (by (repeat constructor)) ?_
 rintro ⟨i,f⟩ ⟨hi,hfi⟩
 simp only at hi hfi
 simp only [zAm,List.cons_append,List.nil_append]
 by_cases hlt:i<loads.length
 ·obtain ⟨x,hx⟩:∃ x,loads[i]?=some x:=⟨_,List.getElem?_eq_getElem hlt⟩
  have:zAZ loads i x:=⟨hx⟩
  obtain ⟨bL,oL,hLe,_,_⟩:=h2.at_ hlt
  subst hLe
  have:InS w bL oL zB9 2 loads:=⟨h2⟩
  have hsu:=fun s=>zHx (s:=s) hx
  obtain ⟨xs,xn⟩:=x
  simp only at hsu
  (repeat' (first|((with_reducible refine zV ?_);first|refine zO rfl rfl rfl ?_|refine zD rfl rfl rfl ?_|(refine zQ rfl rfl rfl ?_;refine ⟨_,rfl,?_⟩)|refine zS rfl rfl rfl ?_|(refine zd rfl rfl rfl rfl rfl (fun h=>?_) (fun h=>?_)<;>(dsimp only [cmpP] at h;(try (exfalso;omega))))|refine zK (I:=i) rfl rfl rfl rfl rfl (by omega) ?_|refine zIG (kv:=vI) (vv:=vBo) xs rfl zBt rfl rfl rfl rfl (by (repeat constructor)) ?_|refine zq rfl rfl rfl rfl ?_|refine zt rfl rfl rfl ?_|refine zb rfl rfl rfl rfl (by omega) ?_|refine zm rfl rfl rfl rfl (IntWalk.i64_in _ (by omega)) ?_|refine zK rfl rfl rfl rfl rfl (by omega) ?_|refine zL rfl rfl rfl rfl rfl (by first|decide|omega) ?_|refine zj rfl rfl rfl ?_|(refine zg rfl rfl rfl rfl rfl ?_;refine ⟨rfl,by first|decide|exact Nat.le_of_ble_eq_true rfl|(simp;omega),_,rfl,?_⟩)|(refine zh rfl rfl (fun b=>?_))|(refine zl rfl rfl rfl rfl (fun b=>?_))|(refine zR rfl rfl rfl ?_;refine ⟨rfl,_,rfl,fun b=>?_⟩)|refine zx rfl rfl rfl ?_)|(with_reducible first|refine zW ?_|refine zC ?_|refine zU ?_|refine zB ?_|refine zX ?_|refine zT ?_|refine zF ?_|refine zf ?_|refine zP ?_|refine zZ ?_|refine zY ?_|refine za ?_|refine zG ?_|refine zJ ?_)|((with_reducible refine zE ?_ ?_);(· exact rfl))|((with_reducible refine zI ?_ ?_);(· exact rfl))|((with_reducible refine zH ?_ ?_);(· exact rfl))))
  refine z6 (ι:=Nat × (Int→Option Bool)) (i+1,zB1 f xs none) ⟨by simp only;omega,fun s hs=>?_⟩ (by simp only;omega) (by (repeat first|exact lK1|refine zp rfl ?_)) (by (repeat constructor))
  simp only
  rw [hsu s]
  by_cases he:xs=s.id
  ·subst he;rw [zEE,if_pos rfl]
  ·rw [zGO (fun h=>he h.symm),if_neg he];exact hfi s hs
 obtain rfl:i=loads.length:=by omega
 have hfin:∀ s∈scs,f s.id=if up s then none else some true:=fun s hs=>by
  rw [hfi s hs,hP s];unfold zFJ;rw [List.take_length]
 clear hfi hfull hsee
 (repeat' (first|((with_reducible refine zV ?_);first|refine zO rfl rfl rfl ?_|refine zD rfl rfl rfl ?_|(refine zQ rfl rfl rfl ?_;refine ⟨_,rfl,?_⟩)|refine zS rfl rfl rfl ?_|(refine zd rfl rfl rfl rfl rfl (fun h=>?_) (fun h=>?_)<;>(dsimp only [cmpP] at h;(try (exfalso;omega))))|refine zq rfl rfl rfl rfl ?_|refine zt rfl rfl rfl ?_|refine zb rfl rfl rfl rfl (by omega) ?_|refine zm rfl rfl rfl rfl (IntWalk.i64_in _ (by omega)) ?_|refine zK rfl rfl rfl rfl rfl (by omega) ?_|refine zL rfl rfl rfl rfl rfl (by first|decide|omega) ?_|refine zj rfl rfl rfl ?_|(refine zg rfl rfl rfl rfl rfl ?_;refine ⟨rfl,by first|decide|exact Nat.le_of_ble_eq_true rfl|(simp;omega),_,rfl,?_⟩)|(refine zh rfl rfl (fun b=>?_))|(refine zl rfl rfl rfl rfl (fun b=>?_))|(refine zR rfl rfl rfl ?_;refine ⟨rfl,_,rfl,fun b=>?_⟩)|refine zx rfl rfl rfl ?_)|(with_reducible first|refine zW ?_|refine zC ?_|refine zU ?_|refine zB ?_|refine zX ?_|refine zT ?_|refine zF ?_|refine zf ?_|refine zP ?_|refine zZ ?_|refine zY ?_|refine za ?_|refine zG ?_|refine zJ ?_)|((with_reducible refine zE ?_ ?_);(· exact rfl))|((with_reducible refine zI ?_ ?_);(· exact rfl))|((with_reducible refine zH ?_ ?_);(· exact rfl))))
 refine zAw zAW 7 96 ?_
 refine zAC (ι:=Nat × Value) [5,39,40] rfl (fun q=>q.1≤scs.length) (fun q=>[(9,q.2),(41,.int .i64 (q.1:Int))]) (fun q=>[.row zAW 7 96 q.2 ((scs.take q.1).filter up),.fm mi vI vBo f]) (fun q=>scs.length - q.1) (0,.slice none 0 0) (Nat.zero_le _) (by (repeat first|exact lK1|refine zp rfl ?_)) (by (repeat constructor)) ?_
 rintro ⟨i,v⟩ hi
 simp only at hi
 simp only [zAm,List.cons_append,List.nil_append]
 by_cases hlt:i<scs.length
 ·obtain ⟨x,hx⟩:∃ x,scs[i]?=some x:=⟨_,List.getElem?_eq_getElem hlt⟩
  have:zAZ scs i x:=⟨hx⟩
  obtain ⟨bA,oA,hAe,_,_⟩:=h1.at_ hlt
  subst hAe
  have:InS w bA oA zAW 7 scs:=⟨h1⟩
  have hfx:=hfin x (List.mem_of_getElem? hx)
  have hsu:=zHJ (p:=up) hx
  have hfl:((scs.take i).filter up).length≤i:=Nat.le_trans (List.length_filter_le _ _) (by rw [List.length_take];omega)
  cases hux:up x
  ·rw [hux] at hfx hsu
   simp only [Bool.false_eq_true,if_false,List.append_nil] at hfx hsu
   obtain ⟨xi,xst,⟨xg1,xg2⟩,⟨xo1,xo2⟩,xA,xt,xc⟩:=x
   simp only at hfx
   (repeat' (first|((with_reducible refine zV ?_);first|refine zO rfl rfl rfl ?_|refine zD rfl rfl rfl ?_|(refine zQ rfl rfl rfl ?_;refine ⟨_,rfl,?_⟩)|refine zS rfl rfl rfl ?_|(refine zd rfl rfl rfl rfl rfl (fun h=>?_) (fun h=>?_)<;>(dsimp only [cmpP] at h;(try (exfalso;omega))))|refine zK (I:=i) rfl rfl rfl rfl rfl (by omega) ?_|refine zAg rfl (zEu (kv:=vI) (vv:=vBo) (f:=f) xi true rfl zBt zFd rfl rfl (by rw [hfx];rfl)) ?_|refine zq rfl rfl rfl rfl ?_|refine zt rfl rfl rfl ?_|refine zb rfl rfl rfl rfl (by omega) ?_|refine zm rfl rfl rfl rfl (IntWalk.i64_in _ (by omega)) ?_|refine zK rfl rfl rfl rfl rfl (by omega) ?_|refine zL rfl rfl rfl rfl rfl (by first|decide|omega) ?_|refine zj rfl rfl rfl ?_|(refine zg rfl rfl rfl rfl rfl ?_;refine ⟨rfl,by first|decide|exact Nat.le_of_ble_eq_true rfl|(simp;omega),_,rfl,?_⟩)|(refine zh rfl rfl (fun b=>?_))|(refine zl rfl rfl rfl rfl (fun b=>?_))|(refine zR rfl rfl rfl ?_;refine ⟨rfl,_,rfl,fun b=>?_⟩)|refine zx rfl rfl rfl ?_)|(with_reducible first|refine zW ?_|refine zC ?_|refine zU ?_|refine zB ?_|refine zX ?_|refine zT ?_|refine zF ?_|refine zf ?_|refine zP ?_|refine zZ ?_|refine zY ?_|refine za ?_|refine zG ?_|refine zJ ?_)|((with_reducible refine zE ?_ ?_);(· exact rfl))|((with_reducible refine zI ?_ ?_);(· exact rfl))|((with_reducible refine zH ?_ ?_);(· exact rfl))))
   exact z6 (ι:=Nat × Value) (i+1,v) (by simp only;omega) (by simp only;omega) (by (repeat first|exact lK1|refine zp rfl ?_)) (by rw [hsu];(repeat constructor))
  ·rw [hux] at hfx hsu
   simp only [if_true] at hfx hsu
   obtain ⟨xi,xst,⟨xg1,xg2⟩,⟨xo1,xo2⟩,xA,xt,xc⟩:=x
   simp only at hfx
   (repeat' (first|((with_reducible refine zV ?_);first|refine zO rfl rfl rfl ?_|refine zD rfl rfl rfl ?_|(refine zQ rfl rfl rfl ?_;refine ⟨_,rfl,?_⟩)|refine zS rfl rfl rfl ?_|(refine zd rfl rfl rfl rfl rfl (fun h=>?_) (fun h=>?_)<;>(dsimp only [cmpP] at h;(try (exfalso;omega))))|refine zK (I:=i) rfl rfl rfl rfl rfl (by omega) ?_|refine zAg rfl (zEu (kv:=vI) (vv:=vBo) (f:=f) xi false rfl zBt zFd rfl rfl (by rw [hfx];rfl)) ?_|(refine zBc (enc:=zAW) [⟨xi,xst,⟨xg1,xg2⟩,⟨xo1,xo2⟩,xA,xt,xc⟩] rfl rfl rfl (by (repeat constructor)) rfl rfl (zAO (enc:=zAW) (by exact rfl)) (by refine ⟨?_,by decide⟩;(try simp only [List.length_append,List.length_cons,List.length_nil]);omega) (fun A' c'=>?_))|refine zq rfl rfl rfl rfl ?_|refine zt rfl rfl rfl ?_|refine zb rfl rfl rfl rfl (by omega) ?_|refine zm rfl rfl rfl rfl (IntWalk.i64_in _ (by omega)) ?_|refine zK rfl rfl rfl rfl rfl (by omega) ?_|refine zL rfl rfl rfl rfl rfl (by first|decide|omega) ?_|refine zj rfl rfl rfl ?_|(refine zg rfl rfl rfl rfl rfl ?_;refine ⟨rfl,by first|decide|exact Nat.le_of_ble_eq_true rfl|(simp;omega),_,rfl,?_⟩)|(refine zh rfl rfl (fun b=>?_))|(refine zl rfl rfl rfl rfl (fun b=>?_))|(refine zR rfl rfl rfl ?_;refine ⟨rfl,_,rfl,fun b=>?_⟩)|refine zx rfl rfl rfl ?_)|(with_reducible first|refine zW ?_|refine zC ?_|refine zU ?_|refine zB ?_|refine zX ?_|refine zT ?_|refine zF ?_|refine zf ?_|refine zP ?_|refine zZ ?_|refine zY ?_|refine za ?_|refine zG ?_|refine zJ ?_)|((with_reducible refine zE ?_ ?_);(· exact rfl))|((with_reducible refine zI ?_ ?_);(· exact rfl))|((with_reducible refine zH ?_ ?_);(· exact rfl))))
   exact z6 (ι:=Nat × Value) (i+1,.slice A' ((scs.take i).filter up++[(⟨xi,xst,⟨xg1,xg2⟩,⟨xo1,xo2⟩,xA,xt,xc⟩:ScM)]).length c') (by simp only;omega) (by simp only;omega) (by (repeat first|exact lK1|refine zp rfl ?_)) (by rw [hsu];(repeat constructor))
 ·obtain rfl:i=scs.length:=by omega
  (repeat' (first|((with_reducible refine zV ?_);first|refine zO rfl rfl rfl ?_|refine zD rfl rfl rfl ?_|(refine zQ rfl rfl rfl ?_;refine ⟨_,rfl,?_⟩)|refine zS rfl rfl rfl ?_|(refine zd rfl rfl rfl rfl rfl (fun h=>?_) (fun h=>?_)<;>(dsimp only [cmpP] at h;(try (exfalso;omega))))|refine zq rfl rfl rfl rfl ?_|refine zt rfl rfl rfl ?_|refine zb rfl rfl rfl rfl (by omega) ?_|refine zm rfl rfl rfl rfl (IntWalk.i64_in _ (by omega)) ?_|refine zK rfl rfl rfl rfl rfl (by omega) ?_|refine zL rfl rfl rfl rfl rfl (by first|decide|omega) ?_|refine zj rfl rfl rfl ?_|(refine zg rfl rfl rfl rfl rfl ?_;refine ⟨rfl,by first|decide|exact Nat.le_of_ble_eq_true rfl|(simp;omega),_,rfl,?_⟩)|(refine zh rfl rfl (fun b=>?_))|(refine zl rfl rfl rfl rfl (fun b=>?_))|(refine zR rfl rfl rfl ?_;refine ⟨rfl,_,rfl,fun b=>?_⟩)|refine zx rfl rfl rfl ?_)|(with_reducible first|refine zW ?_|refine zC ?_|refine zU ?_|refine zB ?_|refine zX ?_|refine zT ?_|refine zF ?_|refine zf ?_|refine zP ?_|refine zZ ?_|refine zY ?_|refine za ?_|refine zG ?_|refine zJ ?_)|((with_reducible refine zE ?_ ?_);(· exact rfl))|((with_reducible refine zI ?_ ?_);(· exact rfl))|((with_reducible refine zH ?_ ?_);(· exact rfl))))
  refine zAp (xs:=(scs.take scs.length).filter up) (enc:=zAW) (by (repeat constructor)) ?_
  rintro A9 c9 rfl
  exact zk (by exact rTm rfl) (A9,c9) trivial rfl (fun _ h=>(h.zCe (xs:=(scs.take scs.length).filter up) (enc:=zAW) (by (repeat constructor))).sub (by (repeat constructor)))
end Go.Proofs.YtcpdjamlhhfbhaaGreat.Two
namespace Go.Proofs.YtcpdjamlhhfbhaaGreat
theorem down_val {n b:Int} (h:0<b):(if n.tmod b<0 then n.tdiv b - 1 else n.tdiv b)=n / b:=by
 have h1:=Int.mul_tdiv_add_tmod n b
 have h2:=Int.tmod_lt_of_pos n h
 have h3:-b<n.tmod b:=by
  have:=Int.lt_tmod_of_pos n h
  omega
 split
 ·have:=(Int.ediv_emod_unique h (a:=n) (q:=n.tdiv b - 1) (r:=n.tmod b+b)).2 ⟨by rw [Int.mul_sub];omega,by omega,by omega⟩
  exact this.1.symm
 ·have:=(Int.ediv_emod_unique h (a:=n) (q:=n.tdiv b) (r:=n.tmod b)).2 ⟨by omega,by omega,by omega⟩
  exact this.1.symm
theorem tdiv_in {n b B:Int} (h:-B≤n∧n≤B):-B≤n.tdiv b∧n.tdiv b≤B:=by
 have:=Int.natAbs_tdiv_le_natAbs n b
 omega
def wgI (step t0 t1 n:Int):Sp:=⟨max 0 (-((-1000 * (n - t1)) / (1000+t0))),min 1000000 ((1000 * (n+step - t1) - 1) / (1000+t0))⟩
theorem zD2 {n b B:Int} (hb:1≤b) (h:-B≤n∧n≤B):-B≤n / b∧n / b≤B:=by
 have h1:n / b≤B:=by
  refine Int.le_trans (Int.ediv_le_ediv (by omega) h.2) ?_
  have:0≤B:=by omega
  exact Int.ediv_le_self b this
 refine ⟨?_,h1⟩
 have:-B * b≤n:=by
  have hB:0≤B:=by omega
  have:B * 1≤B * b:=Int.mul_le_mul_of_nonneg_left hb hB
  rw [Int.neg_mul];omega
 exact (Int.le_ediv_iff_mul_le (by omega)).2 this
namespace Two
variable {ro : Option Nat}
open Go.RowKit
set_option maxRecDepth 20000
theorem zDT (n b:Int) (w:World) (h:1≤b) (hn:-1000000000000≤n∧n≤1000000000000):Gv Tryz.prog 81 [.int .i64 n,.int .i64 b] w (.int .i64 (n / b)):=by
 have h1:=tdiv_in (b:=b) hn
 rw [← down_val (by omega:0<b)]
 unfold Gv
 (refine ze (n:=16) Tryz.func81 rfl rfl rfl ?_)
 (repeat' (first|((with_reducible refine zV ?_);first|refine zO rfl rfl rfl ?_|refine zD rfl rfl rfl ?_|(refine zd rfl rfl rfl rfl rfl (fun h=>?_) (fun h=>?_)<;>(dsimp only [cmpP] at h;(try (exfalso;omega))))|refine u_quoT rfl rfl rfl rfl (by omega) (IntWalk.i64_in _ (by omega)) ?_|refine zHc rfl rfl rfl rfl (by omega) ?_|refine z7 rfl rfl rfl rfl (IntWalk.i64_in _ (by omega)) ?_|refine zFe rfl rfl rfl rfl (by omega) (by omega) (IntWalk.i64_in _ (by omega)) ?_|refine zBZ rfl rfl rfl rfl (by omega) (by omega) ?_)|(with_reducible first|refine zW ?_|refine zC ?_|refine zU ?_|refine zB ?_|refine zX ?_|refine zT ?_|refine zF ?_|refine zf ?_)|((with_reducible refine zI ?_ ?_);(· exact rfl))|((with_reducible refine zH ?_ ?_);(· exact rfl))))
 ·exact zk (by exact rTm rfl) () trivial (by rw [if_pos (by assumption)];rfl) (fun _ h=>h.sub (by (repeat constructor)))
 ·exact zk (by exact rTm rfl) () trivial (by rw [if_neg (by assumption)];rfl) (fun _ h=>h.sub (by (repeat constructor)))
set_option maxHeartbeats 1000000 in
theorem zD3 (s:ScM) (t0 t1 n:Int) (w:World) (h0:-10≤t0∧t0≤10) (h1:-100≤t1∧t1≤100) (hn:-2000000≤n∧n≤2000000) (hst:0≤s.step∧s.step≤500) :
  Gv Tryz.prog 51 [vSc s,.agg #[.int .i64 t0,.int .i64 t1],.int .i64 n] w (.agg #[.int .i64 (wgI s.step t0 t1 n).lo,.int .i64 (wgI s.step t0 t1 n).hi]):=by
 have hD1:=fun W=>zDT (-1000 * (n - t1)) (1000+t0) W (by omega) (by omega)
 have hD2:=fun W=>zDT (1000 * (n+s.step - t1) - 1) (1000+t0) W (by omega) (by omega)
 have e1:=zD2 (n:=-1000 * (n - t1)) (b:=1000+t0) (B:=3000000000) (by omega) (by omega)
 have e2:=zD2 (n:=1000 * (n+s.step - t1) - 1) (b:=1000+t0) (B:=3000000000) (by omega) (by omega)
 unfold wgI
 simp only
 generalize (-1000 * (n - t1)) / (1000+t0)=d1 at *
 generalize (1000 * (n+s.step - t1) - 1) / (1000+t0)=d2 at *
 obtain ⟨id,step,⟨g1,g2⟩,⟨o1,o2⟩,A,tr,c⟩:=s
 simp only at *
 unfold Gv vSc
 (refine ze (n:=33) Tryz.func51 rfl rfl rfl ?_)
 (repeat' (first|((with_reducible refine zV ?_);first|refine zO rfl rfl rfl ?_|refine zD rfl rfl rfl ?_|(refine zQ rfl rfl rfl ?_;refine ⟨_,rfl,?_⟩)|refine zS rfl rfl rfl ?_|refine zL (I:=0) rfl rfl rfl rfl rfl (by decide) ?_|refine zb rfl rfl rfl rfl (by omega) ?_|refine zm rfl rfl rfl rfl (IntWalk.i64_in _ (by omega)) ?_|refine z7 rfl rfl rfl rfl (IntWalk.i64_in _ (by omega)) ?_|refine zCO rfl rfl rfl rfl (IntWalk.i64_in _ (by omega)) ?_|refine zK rfl rfl rfl rfl rfl (by omega) ?_|refine zL rfl rfl rfl rfl rfl (by first|decide|omega) ?_|(refine zg rfl rfl rfl rfl rfl ?_;refine ⟨rfl,by first|decide|exact Nat.le_of_ble_eq_true rfl|(simp;omega),_,rfl,?_⟩)|(refine zh rfl rfl (fun b=>?_))|(refine zl rfl rfl rfl rfl (fun b=>?_))|(refine zy rfl rfl rfl ?_;refine ⟨_,rfl,?_⟩)|refine zDq rfl rfl rfl (by rw [Int.zero_sub];exact IntWalk.i64_in _ (by omega)) ?_|refine zA5 rfl rfl rfl rfl ?_|refine zAd rfl rfl rfl rfl ?_)|(with_reducible first|refine zW ?_|refine zC ?_|refine zU ?_|refine zB ?_|refine zX ?_|refine zT ?_|refine zF ?_|refine zf ?_)))
 (refine zA9 [] [] [] rfl (show ([]:List Nat).Nodup by decide) (fun _ h=>h) (by kernel_rfl) [[],[Y],[Z,Y],[Z,Z,Z],[Z,Z,Z,Z],[Y,Y,Y,Y,Y],[Z,Z,Z,Z,Z,Z],[Z,Z,Z,Z,Z,Z,Z],[Z,Z,Z,Z,Z,Z,Z,Z],[Y,Y,Y,Y,Y,Y,Y,Y,Y],[Y,Y,Y,Y,Y,Y,Y,Y,Y,Y],[Z,Y,Y,Y,Y,Y,Y,Y,Y,Y,Y],[Z,Z,Z,Y,Y,Y,Y,Y,Y,Y,Y,Y],[Y,Y,Y,Y,Y,Y,Y,Y,Y,Y,Y,Y,Y],[Z,Y,Y,Y,Y,Y,Y,Y,Y,Y,Y,Y,Y,Y],[Z,Z,Z,Z,Z,Z,Y,Y,Y,Y,Y,Y,Y,Y,Y],[Z,Z,Z,Z,Z,Z,Z,Y,Y,Y,Y,Y,Y,Y,Y,Y],[Z,Z,Z,Z,Z,Z,Z,Z,Y,Y,Y,Y,Y,Y,Y,Y,Y],[Y,Y,Y,Y,Y,Y,Y,Y,Y,Y,Y,Y,Y,Y,Y,Y,Y,Y],[Z,Z,Z,Z,Z,Z,Z,Z,Z,Z,Y,Y,Z,Z,Z,Z,Z,Z,Z],[Z,Z,Z,Z,Z,Z,Z,Z,Z,Z,Z,Y,Y,Z,Z,Z,Z,Z,Z,Z],[Z,Z,Z,Z,Z,Z,Z,Z,Z,Z,Z,Z,Z,Z,Z,Z,Z,Z,Z,Z,Z],[Z,Z,Z,Z,Z,Z,Z,Z,Z,Z,Z,Z,Z,Z,Z,Z,Z,Z,Z,Z,Z,Z]] (by kernel_rfl) (by kernel_rfl) (by kernel_rfl) (by kernel_rfl) (by kernel_rfl) ?_)
 (repeat' (first|(((with_reducible refine zDU ?_ ?_);(· exact rfl);refine ⟨_,fun G=>(by (try simp (decide:=true) only [vis,see,fltT,zAV,Nat.reduceAdd,Nat.reduceSub,if_true,if_false,List.set_cons_zero,List.set_cons_succ,List.set_nil,List.nil_append,List.cons_append]);rfl),?_⟩);first|refine zw _ (fun _=>zAT rfl rfl) (fun _=>rfl) rfl (by intro G G' h;simp (decide:=true) only [h]) ?_|refine zw _ (fun _=>zAF rfl rfl (by exact rfl)) (fun _=>rfl) rfl (by intro G G' h;simp (decide:=true) only [h]) ?_|(refine zBp rfl ?_;refine zw _ (fun _=>zAQ rfl rfl) (fun _=>rfl) rfl (by intro G G' h;simp (decide:=true) only [h]) ?_)|refine zw _ (fun _=>zAJ (I:=1) rfl rfl rfl rfl (by decide)) (fun _=>rfl) rfl (by exact fun _ _ _=>rfl) ?_|refine zCI _ rfl (fun _=>rfl) rfl (fun _=>rfl) (fun _=>rfl) (fun _ _ _ q=>hD1 _) (by intro G G' h;simp (decide:=true) only [h]) ?_|refine zCI _ rfl (fun _=>rfl) rfl (fun _=>rfl) (fun _=>rfl) (fun _ _ _ q=>hD2 _) (by intro G G' h;simp (decide:=true) only [h]) ?_|refine zw _ (fun _=>zAl rfl rfl rfl (by omega)) (fun _=>rfl) rfl (by intro G G' h;simp (decide:=true) only [h]) ?_|refine zw _ (fun _=>zA8 rfl rfl rfl (IntWalk.i64_in _ (by omega))) (fun _=>rfl) rfl (by intro G G' h;simp (decide:=true) only [h]) ?_|refine zw _ (fun _=>zBB rfl rfl rfl (IntWalk.i64_in _ (by omega))) (fun _=>rfl) rfl (by intro G G' h;simp (decide:=true) only [h]) ?_|refine zw _ (fun _=>zA6 rfl rfl rfl (IntWalk.i64_in _ (by omega))) (fun _=>rfl) rfl (by intro G G' h;simp (decide:=true) only [h]) ?_|refine zw _ (fun _=>zu rfl rfl rfl rfl (by omega)) (fun _=>rfl) rfl (by intro G G' h;simp (decide:=true) only [h]) ?_|refine zw _ (fun _=>zAJ rfl rfl rfl rfl (by first|decide|omega)) (fun _=>rfl) rfl (by intro G G' h;simp (decide:=true) only [h]) ?_|refine zw _ (fun _=>e_neg rfl rfl (by rw [Int.zero_sub];exact IntWalk.i64_in _ (by omega))) (fun _=>rfl) rfl (by intro G G' h;simp (decide:=true) only [h]) ?_|refine zw _ (fun _=>zBF rfl rfl rfl) (fun _=>rfl) rfl (by intro G G' h;simp (decide:=true) only [h]) ?_|refine zw _ (fun _=>zA7 rfl rfl rfl) (fun _=>rfl) rfl (by intro G G' h;simp (decide:=true) only [h]) ?_|refine zw _ (fun _=>zAN rfl rfl (by exact rfl)) (fun _=>rfl) rfl (by intro G G' h;simp (decide:=true) only [h]) ?_)|((with_reducible refine zBk ?_ ?_);(· exact rfl))|(with_reducible refine zCb ?_)))
 (intro G;simp only [regsT,zAV,zBY,ini,List.nil_append,List.cons_append])
 (repeat' (first|((with_reducible refine zV ?_);first|refine zO rfl rfl rfl ?_|refine zD rfl rfl rfl ?_|(refine zQ rfl rfl rfl ?_;refine ⟨_,rfl,?_⟩)|refine zS rfl rfl rfl ?_|refine zb rfl rfl rfl rfl (by omega) ?_|refine zm rfl rfl rfl rfl (IntWalk.i64_in _ (by omega)) ?_|refine z7 rfl rfl rfl rfl (IntWalk.i64_in _ (by omega)) ?_|refine zCO rfl rfl rfl rfl (IntWalk.i64_in _ (by omega)) ?_|refine zK rfl rfl rfl rfl rfl (by omega) ?_|refine zL rfl rfl rfl rfl rfl (by first|decide|omega) ?_|(refine zg rfl rfl rfl rfl rfl ?_;refine ⟨rfl,by first|decide|exact Nat.le_of_ble_eq_true rfl|(simp;omega),_,rfl,?_⟩)|(refine zh rfl rfl (fun b=>?_))|(refine zl rfl rfl rfl rfl (fun b=>?_))|(refine zy rfl rfl rfl ?_;refine ⟨_,rfl,?_⟩)|refine zDq rfl rfl rfl (by rw [Int.zero_sub];exact IntWalk.i64_in _ (by omega)) ?_|refine zA5 rfl rfl rfl rfl ?_|refine zAd rfl rfl rfl rfl ?_)|(with_reducible first|refine zW ?_|refine zC ?_|refine zU ?_|refine zB ?_|refine zX ?_|refine zT ?_|refine zF ?_|refine zf ?_)))
 exact zk (by (exact zAX.cons (by exact res1c rfl (by exact rfl)) zAX.nil)) () trivial rfl (fun _ h=>h.sub (by (repeat constructor)))
end Two
end Go.Proofs.YtcpdjamlhhfbhaaGreat
