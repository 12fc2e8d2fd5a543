/- B11 -/
import Derived.Test.YtcpdjamlhhfbhaaDoorB10
import Derived.Test.YtcpdjamlhhfbhaaDoorB9
set_option linter.unusedSimpArgs false
set_option linter.unusedVariables false
namespace Go.Proofs.YtcpdjamlhhfbhaaDoor
variable {ro : Option Nat}
open Go.RowKit
open Go.ChangeMaps (setBlock)
set_option maxRecDepth 20000
theorem zGU (s t:St) (w:World):(binOp .neq 62 (vSt s) (vSt t)).run Tryd.prog w = .ok (.bool (!eqSt s t)) w:=by
 have:=zC3 9997 s t w
 unfold vSt at this ⊢
 rw [run_neq_struct,this];rfl
namespace Two
section
variable {S : List (Nat × Nat)} {I:List (Nat × Nat × Nat × List Ent)} {w0:World} {n:Nat} {d:List Deferred} {R0:List (Nat × Value)} {H0:List Ent} {Q:Exit→Act→World→Prop} {ops:Array Oper} {bs:List (List Bool)} {b:List Bool} {k:Nat} {o:Oper} {rest:List Oper} {T:List Rw} {t:Tmp} {Hk:zAC→List Ent} {x y:Operand}
theorem c_nest (s u:St) {T':TypeId} (hop:o.op = .binOp .neq 62 x y T') (hw:∀ G,want (Rk R0 ops b o T G) ops o=some true) (hd:o.dst=some t) (hx:∀ G,evR (Rk R0 ops b o T G) x=some (vSt s)) (hy:∀ G,evR (Rk R0 ops b o T G) y=some (vSt u))
  (h1:s=u→zAG ro S I Tryd.prog w0 n d ops R0 H0 Q bs (k+1) rest (⟨k,some t,fun _=>(.bool false,[])⟩::T)) (h2:¬ s=u→zAG ro S I Tryd.prog w0 n d ops R0 H0 Q bs (k+1) rest (⟨k,some t,fun _=>(.bool true,[])⟩::T)):CAt ro S I Tryd.prog w0 n d ops R0 H0 Q b bs k o rest T Hk :=
 c_eql hop hw hd hx hy (fun w=>gd_st _ _ _ _ _ w) (fun w=>zGU s u w) (fun h=>h2 (by simpa [eqSt] using h)) (fun h=>h1 (by simpa [eqSt] using h))
end
end Two
set_option maxHeartbeats 1000000 in
theorem zH7 (a b:List St) (A B:Option Addr) (c d:Nat) (w:World) (ha:zS zO 9 w A a) (hb:zS zO 9 w B b) (hla:a.length≤1000000) (hlb:b.length≤1000000) :
  Gv Tryd.prog 33 [.slice A a.length c,.slice B b.length d] w (.bool (decide (a=b))):=by
 unfold Gv
 by_cases hl:a.length=b.length
 rotate_left
 ·have e:decide (a=b)=false:=decide_eq_false (fun h=>hl (by rw [h]))
  rw [e]
  (refine zH (n:=26) Tryd.func33 rfl rfl rfl ?_)
  (repeat' (first|((with_reducible refine zI ?_);first|refine zF rfl rfl rfl ?_|refine zD rfl rfl rfl ?_|(refine zT rfl rfl rfl rfl rfl (fun h=>?_) (fun h=>?_)<;>(dsimp only [cmpP] at h;(try (exfalso;omega))))|refine zAx rfl rfl rfl ?_)|(with_reducible first|refine zJ ?_|refine zC ?_|refine zG ?_|refine zA ?_|refine zg ?_|refine zq ?_)|((with_reducible refine zM ?_ ?_);(· exact rfl))))
  exact zP (by exact rTm rfl) () trivial rfl (fun _ h=>h.sub (by (repeat constructor)))
 (refine zH (n:=26) Tryd.func33 rfl rfl rfl ?_)
 (repeat' (first|((with_reducible refine zI ?_);first|refine zF rfl rfl rfl ?_|refine zD rfl rfl rfl ?_|(refine zT rfl rfl rfl rfl rfl (fun h=>?_) (fun h=>?_)<;>(dsimp only [cmpP] at h;(try (exfalso;omega))))|refine zAx rfl rfl rfl ?_)|(with_reducible first|refine zJ ?_|refine zC ?_|refine zG ?_|refine zA ?_|refine ze ?_|refine zb ?_)|((with_reducible refine zL ?_ ?_);(· exact rfl))))
 refine zAc (ι:=Nat) (fun i=>i≤a.length∧a.take i=b.take i) (fun i=>[(0,.slice A a.length c),(1,.slice B b.length d),(12,.int .i64 (a.length:Int)),(13,.int .i64 (i:Int))]) (fun _=>[]) (fun i=>a.length - i) 0 ⟨Nat.zero_le _,by simp⟩ (by (repeat first|exact lK1|refine zW rfl ?_)) (by (repeat constructor)) ?_
 rintro i ⟨hi,hF⟩
 by_cases hlt:i<a.length
 ·have hltb:i<b.length:=by omega
  obtain ⟨b1,o1,rfl,_⟩:=ha.at_ hlt
  obtain ⟨b2,o2,rfl,_⟩:=hb.at_ hltb
  have:InS w b1 o1 zO 9 a:=⟨ha⟩
  have:InS w b2 o2 zO 9 b:=⟨hb⟩
  have:zCG a i a[i]:=⟨by simp⟩
  have:zCG b i b[i]:=⟨by simp⟩
  (repeat' (first|((with_reducible refine zI ?_);first|refine zF rfl rfl rfl ?_|refine zD rfl rfl rfl ?_|(refine zT rfl rfl rfl rfl rfl (fun h=>?_) (fun h=>?_)<;>(dsimp only [cmpP] at h;(try (exfalso;omega)))))|(with_reducible first|refine zJ ?_|refine zC ?_|refine zG ?_|refine zA ?_|refine ze ?_|refine zb ?_)|((with_reducible refine zM ?_ ?_);(· exact rfl))))
  (refine Two.zAU [] [] [] rfl (show ([]:List Nat).Nodup by decide) (fun _ h=>h) (by kernel_rfl) [[],[Y],[Z,Z],[Z,Z,Z],[Y,Y,Y,Y],[Y,Y,Y,Y,Y],[Z,Z,Y,Y,Y,Y],[Z,Z,Z,Y,Y,Y,Y],[Z,Z,Z,Z,Z,Z,Z,Z]] (by kernel_rfl) (by kernel_rfl) (by kernel_rfl) (by kernel_rfl) (by kernel_rfl) ?_)
  (repeat' (first|(((with_reducible refine Two.zB0 ?_ ?_);(· exact rfl);refine ⟨_,fun G=>(by (try simp (decide:=true) only [Two.vis,Two.see,fltT,zc,Nat.reduceAdd,Nat.reduceSub,if_true,if_false,List.set_cons_zero,List.set_cons_succ,List.set_nil,List.nil_append,List.cons_append]);rfl),?_⟩);first|refine Two.zK _ (fun _=>zA5 rfl rfl) (fun _=>rfl) rfl (by intro G G' h;simp (decide:=true) only [h]) ?_|refine Two.zK _ (fun _=>zAA rfl rfl (by exact rfl)) (fun _=>rfl) rfl (by intro G G' h;simp (decide:=true) only [h]) ?_|(refine Two.c_nest a[i] b[i] rfl (fun _=>rfl) rfl (fun _=>rfl) (fun _=>rfl) (fun h=>?_) (fun h=>?_))|refine Two.zK _ (fun _=>zBU rfl rfl rfl rfl (by omega)) (fun _=>rfl) rfl (by intro G G' h;simp (decide:=true) only [h]) ?_)|(with_reducible refine Two.zEd ?_)))
  all_goals
   (intro G;simp only [regsT,zc,Two.zAR,Two.ini,List.nil_append,List.cons_append])
   (repeat' (first|((with_reducible refine zI ?_);first|refine zF rfl rfl rfl ?_|refine zD rfl rfl rfl ?_|refine zAY rfl rfl rfl rfl (by omega) ?_)|(with_reducible first|refine zJ ?_|refine zC ?_|refine zG ?_|refine zA ?_|refine zg ?_|refine ze ?_|refine zq ?_|refine zAL ?_|refine zD7 ?_)|((with_reducible refine zM ?_ ?_);(· exact rfl))|((with_reducible refine zL ?_ ?_);(· exact rfl))))
  ·exact zm (i+1) ⟨by omega,zBw hF hlt hltb h⟩ (by omega) (by (repeat first|exact lK1|refine zW rfl ?_)) (by (repeat constructor))
  ·have e:decide (a=b)=false:=decide_eq_false (by exact zBh hlt hltb h)
   rw [e]
   exact zP (by exact rTm rfl) () trivial rfl (fun _ h=>h.sub (by (repeat constructor)))
 ·obtain rfl:i=a.length:=by omega
  have e:decide (a=b)=true:=decide_eq_true (by
   rw [List.take_length,hl,List.take_length] at hF;exact hF)
  rw [e]
  (repeat' (first|((with_reducible refine zI ?_);first|refine zD rfl rfl rfl ?_|(refine zT rfl rfl rfl rfl rfl (fun h=>?_) (fun h=>?_)<;>(dsimp only [cmpP] at h;(try (exfalso;omega)))))|(with_reducible first|refine zJ ?_|refine zC ?_|refine zG ?_|refine zA ?_|refine zg ?_|refine zAd ?_|refine zo ?_|refine zx ?_)|((with_reducible refine zL ?_ ?_);(· exact rfl))))
  exact zP (by exact rTm rfl) () trivial rfl (fun _ h=>h.sub (by (repeat constructor)))
theorem zGM (a:List St) (A B:Option Addr) (c d:Nat) (w:World) (ha:zS zO 9 w A a) (hb:zS zO 9 w B a) (hl:a.length≤1000000):Gv Tryd.prog 25 [.agg #[.slice A a.length c],.agg #[.slice B a.length d]] w (.bool true) :=
 ((same_any a a A B c d w ha hb hl hl).of (by simp)).gv
section
variable {P : Program} {w0:World} {n:Nat} {d:List Deferred} {R:List (Nat × Value)} {H H':List Ent} {Q:Exit→Act→World→Prop} {ops:Array Oper} {rest:List Oper} {o:Oper} {t:Tmp} {x y z:Operand} {v:Value}
theorem u_delete {T1 T2 kt et:TypeId} {s m c j:Nat} {g:Bool} {kd:IntKind} {es:Array MapEntry} {i:Int} {e:MapEntry} (hop:o.op = .call { callee:=.builtin .delete,args:=#[x,y],argTypes:=#[T1,T2] }) [i1:TyI P T1 (.map kt et) s g] (hkt:P.underlying kt=some (.int kd)) (hw:want R ops o=some true) (hd:o.dst=none) (hx:evR R x=some (.map (some m))) (hy:evR R y=some (.int kd i)) (ht:Take H (.map m es c) H')
  (hk:∀ e∈es.toList,∃ l,e.key = .int kd l) (hj:es.toList[j]?=some e) (hje:e.key = .int kd i) (hjf:∀ k' y,k'<j→es.toList[k']?=some y→y.key≠.int kd i) (h:U w0 n d R (.map m (es.eraseIdxIfInBounds j) c::H') (wpL ro P ops Q rest)):U w0 n d R H (wpL ro P ops Q (o::rest)) :=
 zDQ hw fun a w q K hK=>by
  have ho:=q.own.take ht
  have hb:w.heap[m]?=some (.map es c):=ho.here (.map m es c) (by simp)
  have hf:=ho.foot (.map m es c) (by simp) m rfl
  have e1:=run_underlying i1.und w
  have e2:=zBb (P:=P) (w:=w) (e:=es.isEmpty) (N:=9999) (i:=i) hkt
  have e3:(Instr.findKey kt (.int kd i) es.toList).run P w = .ok (some (0+j,e.val)) w:=by
   have:=run_underlying hkt w
   simp only [Instr.findKey,Sem.run_bind,this,Result.andThen_ok,zDu es.toList 0 j e hk hj hje hjf,Sem.run_pure]
  have hrun:(Builtin.delete_ #[T1,T2] o.type #[.map (some m),.int kd i]).run P w = .ok (.tuple #[]) (setBlock w m (.map (es.eraseIdxIfInBounds j) c)):=by
   simp [Builtin.delete_,Sem.run_bind,e1,getObj,Sem.run,hb,e2,e3,setObj,setBlock]
  unfold Oper.wp execOp
  simp only [hop,resolve,invoke,builtin,Sem.run_bind,Sem.run_pure,Result.andThen_ok,List.map_toArray,List.map_cons,List.map_nil,q.ev hx,q.ev hy,hrun,Oper.upon_value,hd]
  exact hK _ _ (h _ _ (q.heap (q.below.trans (zD1 hf.1)) (zE4 ho q.base)))
end
end Go.Proofs.YtcpdjamlhhfbhaaDoor
namespace Go.Proofs.YtcpdjamlhhfbhaaDoor
open Go.RowKit
set_option maxRecDepth 20000
set_option maxHeartbeats 4000000 in
theorem left_k1 (t:List St) (A:Option Addr) (cap:Nat) (kb:KB) (ms:List Me) (m:Nat) (w:World) (ht:zS zO 9 w A t) (hv:valid t=true) (hok:∀ x∈ms,zDb t.length x=true) (hkb:kb.ok ms.length) (hm:w.heap[m]?=some (.map (zh kb ms) kb.c)) (b4 b6 b8 g c':Nat) (c:Code) (hc:Tryd.f30.body.bind zBO=some c) (AG:Act→World→Prop) (Q:Exit→Act→World→Prop)
  (hag:fine1 t ms→U w 164 [] (zFC m b4 b6 b8 t.length 2) (zFD b4 b6 b8 g t.length c' (stg t ms 2)) AG)
  (hret:zAr t ms=false→∀ a W,Kn w 164 [] [(4,.pointer (some ⟨b4,0,none⟩)),(5,.bool false)] [.blk b4 [.slice none 0 0]] a W→Q .ret a W) :
  U w 164 [] (zFC m b4 b6 b8 t.length 1) (zFD b4 b6 b8 g t.length c' (stg t ms 1)) (c.wpI none Tryd.prog (Exit.then AG Q)):=by
 obtain rfl:_=c:=Option.some.inj ((rfl:Tryd.f30.body.bind zBO=some _).symm.trans hc)
 clear hc
 have ho:=zAi hv
 have hlen:=zAl hv
 have hmlt:m<w.heap.size:=(Array.getElem?_eq_some_iff.1 hm).1
 have hmap:∀ W,Below w.heap.size w W→W.heap[m]?=some (.map (zh kb ms) kb.c):=fun W h=>(h.block m hmlt).trans hm
 have bd1:∀ s∈t,-400000≤s.long.lo∧s.long.lo≤400000:=fun s hs=>by have:=ho s hs;have:=this.l0;have:=(ho s hs).l1;have:=(ho s hs).l2;omega
 have okS1:zC8 (longs t):=fun i=>by
  unfold zCF longs
  rw [List.getD_eq_getElem?_getD,List.getElem?_map]
  cases h:t[i]? with
  | none=>simp
  | some z =>
   have hz:=ho z (List.mem_of_getElem? h)
   have:=hz.l0;have:=hz.l1;have:=hz.l2
   simp only [Option.map_some,Option.getD_some];omega
 unfold zFC zFD
 have tlen:t.length=t.length:=rfl
 ·rw [show stg t ms 1=t from rfl]
  (repeat' (first|((with_reducible refine zI ?_);first|refine zF rfl rfl rfl ?_|(refine zT rfl rfl rfl rfl rfl (fun h=>?_) (fun h=>?_)<;>(dsimp only [cmpP] at h;(try (exfalso;omega))))|(refine zV rfl rfl (fun b=>?_)))|(with_reducible first|refine zJ ?_|refine zC ?_|refine zG ?_|refine zA ?_|refine ze ?_|refine zb ?_)|((with_reducible refine zM ?_ ?_);(· exact rfl))))
  rw [zFY]
  obtain ⟨bm,hbm⟩:∃ x,x=b:=⟨b,rfl⟩
  subst hbm
  refine zAc (ι:=Nat × Mat) (fun j=>j.1≤t.length+1∧zC0 (t.length+1) j.1 0 j.2) (fun j=>[(1,.map (some m)),(4,.pointer (some ⟨b4,0,none⟩)),(6,.pointer (some ⟨b6,0,none⟩)),(7,.int .i64 ((t.length+1:Nat):Int)),(8,.pointer (some ⟨b8,0,none⟩)),(9,.int .i64 (1:Int)),(10,.pointer (some ⟨bm,0,none⟩)),(32,.int .i64 ((t.length+1:Nat):Int)),(33,.int .i64 (j.1:Int))]) (fun j=>[.blk bm (zk j.2),.blk b4 [.slice none 0 0],.blk b6 [.slice (some ⟨g,0,none⟩) t.length c'],.blk b8 [.nilFunc,.func (.func 62) #[] #[],.func (.func 63) #[] #[]],.arr zO 9 g (t)]) (fun j=>t.length+1 - j.1) (0,fun _ _=>0) ⟨Nat.zero_le _,zEb _⟩ (by (repeat first|exact lK1|refine zW rfl ?_)) (by (repeat constructor)) ?_
  rintro ⟨i,M⟩ ⟨hi,hM⟩
  simp only at hi hM ⊢
  by_cases hlt:i<t.length+1
  ·(repeat' (first|((with_reducible refine zI ?_);first|refine zF rfl rfl rfl ?_|refine zD rfl rfl rfl ?_|(refine zT rfl rfl rfl rfl rfl (fun h=>?_) (fun h=>?_)<;>(dsimp only [cmpP] at h;(try (exfalso;omega)))))|(with_reducible first|refine zJ ?_|refine zC ?_|refine zG ?_|refine zA ?_|refine ze ?_|refine zb ?_)|((with_reducible refine zM ?_ ?_);(· exact rfl))))
   refine zAc (ι:=Nat × Mat) (fun j=>j.1≤t.length+1∧zC0 (t.length+1) i j.1 j.2) (fun j=>[(1,.map (some m)),(4,.pointer (some ⟨b4,0,none⟩)),(6,.pointer (some ⟨b6,0,none⟩)),(7,.int .i64 ((t.length+1:Nat):Int)),(8,.pointer (some ⟨b8,0,none⟩)),(9,.int .i64 (1:Int)),(10,.pointer (some ⟨bm,0,none⟩)),(32,.int .i64 ((t.length+1:Nat):Int)),(33,.int .i64 (i:Int)),(11,.int .i64 (i:Int)),(36,.int .i64 ((t.length+1:Nat):Int)),(37,.int .i64 (j.1:Int))]) (fun j=>[.blk bm (zk j.2),.blk b4 [.slice none 0 0],.blk b6 [.slice (some ⟨g,0,none⟩) t.length c'],.blk b8 [.nilFunc,.func (.func 62) #[] #[],.func (.func 63) #[] #[]],.arr zO 9 g (t)]) (fun j=>t.length+1 - j.1) (0,M) ⟨Nat.zero_le _,hM⟩ (by (repeat first|exact lK1|refine zW rfl ?_)) (by (repeat constructor)) ?_
   clear hM M
   rintro ⟨k,M⟩ ⟨hk,hM⟩
   simp only at hk hM ⊢
   by_cases hlk:k<t.length+1
   ·have m3:zCr i k:=⟨by omega,by omega⟩
    (repeat' (first|((with_reducible refine zI ?_);first|refine zF rfl rfl rfl ?_|refine zD rfl rfl rfl ?_|(refine zT rfl rfl rfl rfl rfl (fun h=>?_) (fun h=>?_)<;>(dsimp only [cmpP] at h;(try (exfalso;omega))))|refine zBR rfl rfl rfl rfl rfl ?_|refine zAY rfl rfl rfl rfl (by omega) ?_|refine zEs rfl rfl rfl rfl rfl (by first|decide|omega) ?_)|(with_reducible first|refine zJ ?_|refine zC ?_|refine zG ?_|refine zA ?_|refine ze ?_|refine zb ?_|refine zAL ?_)|((with_reducible refine zM ?_ ?_);(· exact rfl))|((with_reducible refine zL ?_ ?_);(· exact rfl))))
    ·exact zm (k+1,zAv M i k far) ⟨by omega,zFq hM (by omega)⟩ (by simp only;omega) (by (repeat first|exact lK1|refine zW rfl ?_)) (by (repeat constructor))
    ·obtain rfl:i=k:=by omega
     exact zm (i+1,M) ⟨by omega,zFK hM⟩ (by simp only;omega) (by (repeat first|exact lK1|refine zW rfl ?_)) (by (repeat constructor))
   ·obtain rfl:k=t.length+1:=by omega
    (repeat' (first|((with_reducible refine zI ?_);first|refine zF rfl rfl rfl ?_|(refine zT rfl rfl rfl rfl rfl (fun h=>?_) (fun h=>?_)<;>(dsimp only [cmpP] at h;(try (exfalso;omega))))|refine zAY rfl rfl rfl rfl (by omega) ?_)|(with_reducible first|refine zJ ?_|refine zC ?_|refine zG ?_|refine zA ?_|refine zAd ?_|refine zAL ?_|refine zo ?_|refine zx ?_)|((with_reducible refine zL ?_ ?_);(· exact rfl))))
    exact zm (i+1,M) ⟨by omega,zFr hM⟩ (by simp only;omega) (by (repeat first|exact lK1|refine zW rfl ?_)) (by (repeat constructor))
  obtain rfl:i=t.length+1:=by omega
  (repeat' (first|((with_reducible refine zI ?_);first|refine zF rfl rfl rfl ?_|(refine zf rfl rfl rfl ?_;refine ⟨_,rfl,?_⟩)|refine zAQ rfl rfl rfl ?_|(refine zT rfl rfl rfl rfl rfl (fun h=>?_) (fun h=>?_)<;>(dsimp only [cmpP] at h;(try (exfalso;omega))))|refine zAx rfl rfl rfl ?_)|(with_reducible first|refine zJ ?_|refine zC ?_|refine zG ?_|refine zA ?_|refine zb ?_|refine zAd ?_|refine zo ?_|refine zx ?_)|((with_reducible refine zL ?_ ?_);(· exact rfl))))
  refine zAc (ι:=Nat × Mat) (fun j=>j.1≤t.length∧SpTo (t.length+1) (longs t) j.1 j.2) (fun j=>[(1,.map (some m)),(4,.pointer (some ⟨b4,0,none⟩)),(6,.pointer (some ⟨b6,0,none⟩)),(7,.int .i64 ((t.length+1:Nat):Int)),(8,.pointer (some ⟨b8,0,none⟩)),(9,.int .i64 (1:Int)),(10,.pointer (some ⟨bm,0,none⟩)),(51,.int .i64 (t.length:Int)),(52,.int .i64 (j.1:Int))]) (fun j=>[.blk bm (zk j.2),.blk b4 [.slice none 0 0],.blk b6 [.slice (some ⟨g,0,none⟩) t.length c'],.blk b8 [.nilFunc,.func (.func 62) #[] #[],.func (.func 63) #[] #[]],.arr zO 9 g (t)]) (fun j=>t.length - j.1) (0,M) ⟨Nat.zero_le _,zEw hM⟩ (by (repeat first|exact lK1|refine zW rfl ?_)) (by (repeat constructor)) ?_
  clear hM M hi hlt
  rintro ⟨i,M⟩ ⟨hi,hM⟩
  simp only at hi hM ⊢
  by_cases hlt:i<t.length
  ·have hz:(t)[i]?=some ((t)[i]'(by rw [tlen];exact hlt)):=by simp
   have:zCG (t) i ((t)[i]'(by rw [tlen];exact hlt)):=⟨hz⟩
   have hsp:zCF (longs t) i=((t)[i]'(by rw [tlen];exact hlt)).long:=by
    rw [zCF,List.getD_eq_getElem?_getD,longs,List.getElem?_map,hz];rfl
   have hbz:=bd1 _ (List.getElem_mem (by rw [tlen];exact hlt:i<(t).length))
   generalize (t)[i]'(by rw [tlen];exact hlt)=z at *
   have m1:zCr i (i+1):=⟨by omega,by omega⟩
   have m2:zCr (i+1) i:=⟨by omega,by omega⟩
   (repeat' (first|((with_reducible refine zI ?_);first|refine zF rfl rfl rfl ?_|refine zD rfl rfl rfl ?_|(refine zT rfl rfl rfl rfl rfl (fun h=>?_) (fun h=>?_)<;>(dsimp only [cmpP] at h;(try (exfalso;omega)))))|(with_reducible first|refine zJ ?_|refine zC ?_|refine zG ?_|refine zA ?_|refine ze ?_|refine zb ?_)|((with_reducible refine zM ?_ ?_);(· exact rfl))))
   (refine Two.zAU [] [] [] rfl (show ([]:List Nat).Nodup by decide) (fun _ h=>h) (by kernel_rfl) [[],[Z],[Z,Z],[Z,Z,Z],[Y,Y,Y,Y],[Z,Y,Y,Y,Y],[Y,Y,Y,Y,Y,Y],[Z,Z,Z,Y,Y,Y,Y],[Z,Z,Z,Z,Z,Z,Z,Z],[Z,Z,Z,Z,Z,Z,Z,Z,Z],[Z,Z,Z,Z,Z,Z,Z,Z,Z,Z],[Y,Y,Y,Y,Y,Y,Y,Y,Y,Y,Y],[Z,Z,Z,Z,Z,Z,Z,Z,Z,Z,Z,Z]] (by kernel_rfl) (by kernel_rfl) (by kernel_rfl) (by kernel_rfl) (by kernel_rfl) ?_)
   (repeat' (first|(((with_reducible refine Two.zB0 ?_ ?_);(· exact rfl);refine ⟨_,fun G=>(by (try simp (decide:=true) only [Two.vis,Two.see,fltT,zc,Nat.reduceAdd,Nat.reduceSub,if_true,if_false,List.set_cons_zero,List.set_cons_succ,List.set_nil,List.nil_append,List.cons_append]);rfl),?_⟩);first|refine Two.zK _ (fun _=>zA5 rfl rfl) (fun _=>rfl) rfl (by intro G G' h;simp (decide:=true) only [h]) ?_|refine Two.zK _ (fun _=>zAA rfl rfl (by exact rfl)) (fun _=>rfl) rfl (by intro G G' h;simp (decide:=true) only [h]) ?_|(refine Two.zAE rfl ?_;refine Two.zK _ (fun _=>zAb rfl rfl) (fun _=>rfl) rfl (by intro G G' h;simp (decide:=true) only [h]) ?_)|refine Two.zAB _ rfl (fun _=>rfl) rfl (fun _=>rfl) (fun _=>rfl) (fun _ _ _ q=>zFm _ _ _) (by intro G G' h;simp (decide:=true) only [h]) ?_|refine Two.zK _ (fun _=>zBU rfl rfl rfl rfl (by omega)) (fun _=>rfl) rfl (by intro G G' h;simp (decide:=true) only [h]) ?_|refine Two.zK _ (fun _=>zA6 rfl rfl rfl rfl (by first|decide|omega)) (fun _=>rfl) rfl (by intro G G' h;simp (decide:=true) only [h]) ?_|refine Two.zK _ (fun _=>zB9 rfl rfl) (fun _=>rfl) rfl (by intro G G' h;simp (decide:=true) only [h]) ?_|refine Two.zHf rfl (fun _=>rfl) rfl ?_)|((with_reducible refine Two.zBE ?_ ?_);(· exact rfl))))
   (intro G;simp only [regsT,zc,Two.zAR,Two.ini,List.nil_append,List.cons_append])
   (repeat' (first|((with_reducible refine zI ?_);first|(refine zQ rfl rfl rfl rfl rfl ?_;refine ⟨rfl,by first|decide|exact Nat.le_of_ble_eq_true rfl|(simp;omega),_,rfl,?_⟩))|(with_reducible first|refine zG ?_|refine zA ?_)))
   (refine zDj ⟨13,[.blk bm (zk M)],[.blk bm (zk (zAv M i (i+1) z.long.hi))]⟩ (H0:=_) (fun _ h=>(h.take (by (repeat constructor)))) (by kernel_rfl) [[],[Y],[Z,Y],[Y,Y,Y],[Z,Y,Y,Y],[Y,Y,Y,Y,Y],[Y,Y,Y,Y,Y,Y],[Z,Y,Y,Y,Y,Y,Y],[Y,Y,Y,Y,Y,Y,Y,Y],[Z,Y,Y,Y,Y,Y,Y,Y,Y],[Z,Z,Y,Y,Y,Y,Y,Y,Y,Y],[Y,Y,Y,Y,Y,Y,Y,Y,Y,Y,Z],[Z,Y,Y,Y,Z,Z,Y,Y,Y,Z,Z,Z],[Z,Z,Y,Y,Y,Z,Z,Y,Y,Y,Z,Z,Z],[Y,Y,Y,Y,Y,Y,Y,Y,Y,Z,Z,Y,Y,Y],[Z,Z,Z,Z,Z,Z,Z,Z,Z,Z,Z,Z,Z,Z,Z],[Z,Z,Z,Z,Z,Z,Z,Z,Z,Z,Z,Z,Z,Z,Z,Z]] (by kernel_rfl) (by kernel_rfl) (by kernel_rfl) ?_)
   (repeat' (first|(((with_reducible refine zB0 ?_ ?_);(· exact rfl);refine ⟨_,fun G=>(by (try simp only [fltT,zc,List.nil_append,List.cons_append]);rfl),?_⟩);first|refine zK _ (fun _=>zA5 rfl rfl) (fun _=>rfl) rfl (by intro G G' h;simp (decide:=true) only [h]) ?_|refine zK _ (fun _=>zAA rfl rfl (by exact rfl)) (fun _=>rfl) rfl (by intro G G' h;simp (decide:=true) only [h]) ?_|(refine zAE rfl ?_;refine zK _ (fun _=>zAb rfl rfl) (fun _=>rfl) rfl (by intro G G' h;simp (decide:=true) only [h]) ?_)|refine zK _ (fun _=>zEN rfl rfl rfl (by omega)) (fun _=>rfl) rfl (by intro G G' h;simp (decide:=true) only [h]) ?_|refine zK _ (fun _=>zA6 rfl rfl rfl rfl (by first|decide|omega)) (fun _=>rfl) rfl (by intro G G' h;simp (decide:=true) only [h]) ?_|refine zK _ (fun _=>zFu rfl rfl (by rw [Int.zero_sub];exact IntWalk.i64_in _ (by omega))) (fun _=>rfl) rfl (by intro G G' h;simp (decide:=true) only [h]) ?_)|(refine zHe (cs:=zk M) (cs':=zk (zAv M i (i+1) z.long.hi)) rfl (fun _=>rfl) rfl rfl rfl rfl (fun _=>rfl) (fun _=>rfl) rfl rfl (Nat.ble_eq_true_of_le (by simp [zk];omega)) (zDf m1.lt _) ?_)|((with_reducible refine zBE ?_ ?_);(· exact rfl))))
   (intro G;simp only [regsT,zc,Pend.zEp,List.nil_append,List.cons_append])
   simp (decide:=true) only [Pend.at_lt,List.nil_append,List.cons_append]
   (repeat' (first|((with_reducible refine zI ?_);first|refine zF rfl rfl rfl ?_|refine zBR rfl rfl rfl rfl rfl ?_|refine zAY rfl rfl rfl rfl (by omega) ?_)|(with_reducible first|refine zC ?_|refine zG ?_|refine zA ?_|refine zAL ?_)))
   refine zm (i+1,zAv (zAv M i (i+1) z.long.hi) (i+1) i (-z.long.lo)) ⟨by omega,?_⟩ (by simp only;omega) (by (repeat first|exact lK1|refine zW rfl ?_)) (by (repeat constructor))
   exact zGP hM (by rw [hsp]) (by rw [hsp])
  obtain rfl:i=t.length:=by omega
  have hA:=zGQ hM rfl
  clear hM hi hlt
  (repeat' (first|((with_reducible refine zI ?_);first|refine zF rfl rfl rfl ?_|(refine zT rfl rfl rfl rfl rfl (fun h=>?_) (fun h=>?_)<;>(dsimp only [cmpP] at h;(try (exfalso;omega))))|refine zGG rfl rfl rfl hmap ?_;intro r)|(with_reducible first|refine zJ ?_|refine zC ?_|refine zG ?_|refine zA ?_|refine zb ?_|refine zAd ?_|refine zo ?_|refine zx ?_)|((with_reducible refine zL ?_ ?_);(· exact rfl))))
  refine zAc (ι:=List Nat × Mat) (fun j=>j.1.Nodup∧(∀ i∈j.1,i<ms.length)∧zCE (t.length+1) j.2 (meas 1 (T0 (longs t)) (gotten ms j.1))) (fun j=>[(1,.map (some m)),(4,.pointer (some ⟨b4,0,none⟩)),(6,.pointer (some ⟨b6,0,none⟩)),(7,.int .i64 ((t.length+1:Nat):Int)),(8,.pointer (some ⟨b8,0,none⟩)),(9,.int .i64 (1:Int)),(10,.pointer (some ⟨bm,0,none⟩)),(83,.pointer (some ⟨r,0,none⟩))]) (fun j=>[.it r m kb j.1,.blk bm (zk j.2),.blk b4 [.slice none 0 0],.blk b6 [.slice (some ⟨g,0,none⟩) t.length c'],.blk b8 [.nilFunc,.func (.func 62) #[] #[],.func (.func 63) #[] #[]],.arr zO 9 g (t)]) (fun j=>ms.length - j.1.length) ([],M) ⟨List.nodup_nil,by simp,hA⟩ (by (repeat first|exact lK1|refine zW rfl ?_)) (by (repeat constructor)) ?_
  clear hA M
  rintro ⟨seen,M⟩ ⟨hnd,hsl,hA⟩
  simp only at hnd hsl hA ⊢
  (repeat' (first|((with_reducible refine zI ?_);first|refine zF rfl rfl rfl ?_|refine u_next rfl rfl rfl (by (repeat constructor)) hmap hkb hsl (fun hall=>?_) (fun i me hi hni=>?_)|refine zZ rfl rfl rfl rfl ?_)|(with_reducible first|refine zJ ?_|refine zC ?_|refine zG ?_|refine zA ?_|refine ze ?_|refine zb ?_|refine zAd ?_|refine zo ?_|refine zx ?_)|((with_reducible refine zM ?_ ?_);(· exact rfl))|((with_reducible refine zL ?_ ?_);(· exact rfl))))
  ·have hokm:∀ x∈ms,zCh (t.length+1) x:=fun x hx=>zB1 (hok x hx)
   have hsame:=zCg (s:=longs t) hokm (zFH hall) 1
   have hdg:zCD (t.length+1) M:=fun a ha=>(hA a a ha ha).trans (zBg _ _ (zDN hokm) (zD2 _ _) a ha)
   have hbm:BdM (t.length+1) M:=fun i k hi hk=>by
    rw [hA i k hi hk];exact zF6 _ _ (zDN hokm) (T0_bd okS1 _) i k hi hk
   (repeat' (first|((with_reducible refine zI ?_);first|refine zF rfl rfl rfl ?_|refine zD rfl rfl rfl ?_|(refine zf rfl rfl rfl ?_;refine ⟨_,rfl,?_⟩)|refine zAQ rfl rfl rfl ?_|(refine zHR rfl rfl rfl rfl (by (repeat constructor)) (fun W hB=>zEx (t.length+1) M bm W hB (by omega) hdg hbm) ?_;rintro ⟨fl,D⟩ ⟨hy,hn⟩;cases fl)|refine zCR rfl rfl rfl ?_|refine zAx rfl rfl rfl ?_|(refine zQ rfl rfl rfl rfl rfl ?_;refine ⟨rfl,by first|decide|exact Nat.le_of_ble_eq_true rfl|(simp;omega),_,rfl,?_⟩)|(refine zAH rfl rfl rfl ?_;refine ⟨_,rfl,?_⟩))|(with_reducible first|refine zJ ?_|refine zC ?_|refine zG ?_|refine zA ?_|refine zg ?_|refine ze ?_|refine zq ?_|refine zb ?_|refine zD7 ?_)|((with_reducible refine zM ?_ ?_);(· exact rfl))|((with_reducible refine zL ?_ ?_);(· exact rfl))))
   ·have hnf:¬ zBP 1 (longs t) ms (t.length+1):=fun hf=>hn rfl (zDt hA.symm (Nat.le_refl _) (hsame.1.2 hf))
    exact fun a W q=>hret (zH0 hnf) a W (q.sub (by (repeat first|exact lK1|refine zW rfl ?_)) (by (repeat constructor)))
   ·obtain ⟨hf1,hD⟩:=hy rfl
    simp only at hD
    have hfi:zBP 1 (longs t) ms (t.length+1):=hsame.1.1 (zDt hA (Nat.le_refl _) hf1)
    have hDE:zCE (t.length+1) D (dist 1 (longs t) ms (t.length+1)):=fun a b ha hb=>by
     rw [hD a b ha hb]
     exact (zDr hA _ (Nat.le_refl _) a b ha hb).trans (hsame.2 (hsame.1.2 hfi) a b ha hb)
    have hDb:∀ a b,a<t.length+1→b<t.length+1→-8796093022208≤D a b∧D a b≤8796093022208:=fun a b ha hb=>by
     rw [hD a b ha hb];exact zEn hbm (by omega) (Nat.le_refl _) ha hb
    refine zAc (ι:=Nat) (fun i=>i≤t.length) (fun i=>[(1,.map (some m)),(4,.pointer (some ⟨b4,0,none⟩)),(6,.pointer (some ⟨b6,0,none⟩)),(7,.int .i64 ((t.length+1:Nat):Int)),(8,.pointer (some ⟨b8,0,none⟩)),(9,.int .i64 (1:Int)),(10,.pointer (some ⟨bm,0,none⟩)),(134,.int .i64 (t.length:Int)),(135,.int .i64 (i:Int))]) (fun i=>[.blk bm (zk D),.blk b4 [.slice none 0 0],.blk b6 [.slice (some ⟨g,0,none⟩) t.length c'],.blk b8 [.nilFunc,.func (.func 62) #[] #[],.func (.func 63) #[] #[]],.arr zO 9 g (zBF (zA8 D) (t) i)]) (fun i=>t.length - i) 0 (Nat.zero_le _) (by (repeat first|exact lK1|refine zW rfl ?_)) (by (try simp only [zEr]);(repeat constructor)) ?_
    intro i hi
    by_cases hlt:i<t.length
    ·have hz:(t)[i]?=some ((t)[i]'(by rw [tlen];exact hlt)):=by simp
     generalize (t)[i]'(by rw [tlen];exact hlt)=z at hz
     have hz2:(zBF (zA8 D) (t) i)[i]?=some z:=by rw [zAe,hz];simp
     have:zCG (zBF (zA8 D) (t) i) i z:=⟨hz2⟩
     have m1:zCr i (i+1):=⟨by omega,by omega⟩
     have m2:zCr (i+1) i:=⟨by omega,by omega⟩
     have hb1:=hDb (i+1) i (by omega) (by omega)
     have hb2:=hDb i (i+1) (by omega) (by omega)
     (repeat' (first|((with_reducible refine zI ?_);first|refine zF rfl rfl rfl ?_|refine zD rfl rfl rfl ?_|(refine zT rfl rfl rfl rfl rfl (fun h=>?_) (fun h=>?_)<;>(dsimp only [cmpP] at h;(try (exfalso;omega)))))|(with_reducible first|refine zJ ?_|refine zC ?_|refine zG ?_|refine zA ?_|refine ze ?_|refine zb ?_)|((with_reducible refine zM ?_ ?_);(· exact rfl))))
     (refine Two.zAU [] [] [] rfl (show ([]:List Nat).Nodup by decide) (fun _ h=>h) (by kernel_rfl) [[],[Z],[Z,Z],[Z,Z,Z],[Y,Y,Y,Y],[Z,Y,Y,Y,Y],[Y,Y,Y,Y,Y,Y],[Z,Z,Z,Y,Y,Y,Y],[Z,Z,Z,Z,Z,Z,Z,Z],[Y,Y,Y,Y,Y,Y,Y,Y,Y],[Z,Y,Y,Y,Y,Y,Y,Y,Y,Y],[Y,Y,Y,Y,Y,Y,Y,Y,Y,Y,Y],[Y,Z,Z,Y,Y,Y,Y,Y,Y,Y,Y,Y],[Z,Z,Z,Z,Y,Y,Y,Y,Y,Y,Y,Y,Y],[Z,Z,Z,Z,Z,Y,Y,Y,Y,Y,Y,Y,Y,Y],[Z,Z,Z,Z,Z,Z,Y,Y,Y,Y,Y,Y,Y,Y,Y],[Y,Y,Y,Y,Y,Y,Y,Y,Y,Y,Y,Y,Y,Y,Y,Y],[Y,Y,Y,Y,Y,Y,Y,Y,Y,Y,Y,Y,Y,Y,Y,Y,Y],[Z,Y,Y,Y,Y,Y,Y,Y,Y,Y,Y,Y,Y,Y,Y,Y,Y,Y],[Y,Y,Z,Y,Y,Y,Y,Y,Y,Y,Y,Y,Y,Y,Y,Y,Y,Y,Y],[Z,Z,Z,Z,Y,Y,Y,Y,Y,Y,Y,Y,Y,Y,Y,Y,Y,Y,Y,Y],[Z,Z,Z,Z,Z,Y,Y,Y,Y,Y,Y,Y,Y,Y,Y,Y,Y,Y,Y,Y,Y],[Z,Z,Z,Z,Z,Z,Z,Z,Z,Z,Z,Z,Z,Y,Y,Y,Y,Y,Y,Y,Y,Y],[Z,Z,Z,Z,Z,Z,Z,Z,Z,Z,Z,Z,Z,Z,Z,Z,Z,Z,Z,Z,Z,Z,Z],[Z,Z,Z,Z,Z,Z,Z,Z,Z,Z,Z,Z,Z,Z,Z,Z,Z,Z,Z,Z,Z,Z,Z,Z]] (by kernel_rfl) (by kernel_rfl) (by kernel_rfl) (by kernel_rfl) (by kernel_rfl) ?_)
     (repeat' (first|(((with_reducible refine Two.zB0 ?_ ?_);(· exact rfl);refine ⟨_,fun G=>(by (try simp (decide:=true) only [Two.vis,Two.see,fltT,zc,Nat.reduceAdd,Nat.reduceSub,if_true,if_false,List.set_cons_zero,List.set_cons_succ,List.set_nil,List.nil_append,List.cons_append]);rfl),?_⟩);first|refine Two.zK _ (fun _=>zA5 rfl rfl) (fun _=>rfl) rfl (by intro G G' h;simp (decide:=true) only [h]) ?_|refine Two.zK _ (fun _=>zAA rfl rfl (by exact rfl)) (fun _=>rfl) rfl (by intro G G' h;simp (decide:=true) only [h]) ?_|(refine Two.zAE rfl ?_;refine Two.zK _ (fun _=>zAb rfl rfl) (fun _=>rfl) rfl (by intro G G' h;simp (decide:=true) only [h]) ?_)|refine Two.zAB _ rfl (fun _=>rfl) rfl (fun _=>rfl) (fun _=>rfl) (fun _ _ _ q=>zFm _ _ _) (by intro G G' h;simp (decide:=true) only [h]) ?_|refine Two.zK _ (fun _=>zEN rfl rfl rfl (by omega)) (fun _=>rfl) rfl (by intro G G' h;simp (decide:=true) only [h]) ?_|refine Two.zK _ (fun _=>zBU rfl rfl rfl rfl (by omega)) (fun _=>rfl) rfl (by intro G G' h;simp (decide:=true) only [h]) ?_|refine Two.zK _ (fun _=>zA6 rfl rfl rfl rfl (by first|decide|omega)) (fun _=>rfl) rfl (by intro G G' h;simp (decide:=true) only [h]) ?_|refine Two.zK _ (fun _=>zB9 rfl rfl) (fun _=>rfl) rfl (by intro G G' h;simp (decide:=true) only [h]) ?_|refine Two.zK _ (fun _=>zFu rfl rfl (by rw [Int.zero_sub];exact IntWalk.i64_in _ (by omega))) (fun _=>rfl) rfl (by intro G G' h;simp (decide:=true) only [h]) ?_|refine Two.zK _ (fun _=>zGq rfl rfl (by exact rfl)) (fun _=>rfl) rfl (by intro G G' h;simp (decide:=true) only [h]) ?_)|((with_reducible refine Two.zBE ?_ ?_);(· exact rfl))))
     (intro G;simp only [regsT,zc,Two.zAR,Two.ini,List.nil_append,List.cons_append])
     (repeat' (first|((with_reducible refine zI ?_);first|refine zF rfl rfl rfl ?_|refine zDi (zA8 D i z) rfl rfl rfl rfl rfl rfl rfl rfl (by decide) ?_|refine zAY rfl rfl rfl rfl (by omega) ?_)|(with_reducible first|refine zC ?_|refine zG ?_|refine zA ?_|refine zAL ?_)))
     rw [zFZ hz rfl]
     exact zm (i+1) (by omega) (by omega) (by (repeat first|exact lK1|refine zW rfl ?_)) (by (repeat constructor))
    ·obtain rfl:i=t.length:=by omega
     have e:zBF (zA8 D) (t) t.length=stg t ms (1+1):=(zDF (F:=zA8) (fun j s hj=>by unfold zA8;rw [zDI hDE hj]) (by rw [tlen]) _).trans rfl
     rw [e]
     (repeat' (first|((with_reducible refine zI ?_);first|refine zF rfl rfl rfl ?_|refine zD rfl rfl rfl ?_|(refine zT rfl rfl rfl rfl rfl (fun h=>?_) (fun h=>?_)<;>(dsimp only [cmpP] at h;(try (exfalso;omega))))|refine zGI rfl rfl rfl rfl (IntWalk.i64_in _ (by omega)) ?_)|(with_reducible first|refine zJ ?_|refine zC ?_|refine zG ?_|refine zA ?_|refine zAd ?_|refine zAL ?_|refine zo ?_|refine zx ?_)|((with_reducible refine zL ?_ ?_);(· exact rfl))))
     exact U.sub (by (repeat first|exact lK1|refine zW rfl ?_)) (by (repeat constructor)) (hag hfi)
  ·have hme:=hok me (List.mem_of_getElem? hi)
   have hme':=of_decide_eq_true hme
   have hN:=zE7 hnd hni
   have hS:∀ x∈seen++[i],x<ms.length:=fun x hx=>by
    rcases List.mem_append.1 hx with h|h
    ·exact hsl x h
    ·simp at h;subst h;exact (List.getElem?_eq_some_iff.1 hi).1
   have hL:=zDH ms.length _ hN hS
   simp only [List.length_append,List.length_singleton] at hL
   have hmu:ms.length - (seen++[i]).length<ms.length - seen.length:=by simp only [List.length_append,List.length_singleton];omega
   have hG:=zEa (seen:=seen) hi
   have hP:=zFc (kind:=1) (zB1 hme) hA
   rw [← zFi,← hG] at hP
   obtain ⟨kd,fr,to_,vl⟩:=me
   simp only at hme'
   obtain ⟨F,rfl⟩:∃ F:Nat,fr=F:=⟨fr.toNat,by omega⟩
   obtain ⟨Zt,rfl⟩:∃ Zt:Nat,to_=Zt:=⟨to_.toNat,by omega⟩
   have hk1:1≤(Me.mk kd F Zt vl).kind∧(Me.mk kd F Zt vl).kind≤2:=⟨hme'.1,hme'.2.1⟩
   have hv1:0≤(Me.mk kd F Zt vl).value.lo∧(Me.mk kd F Zt vl).value.lo≤360000:=⟨hme'.2.2.2.2.2.2.2.1,by simp only;omega⟩
   have m1:zCr F Zt:=⟨by omega,by omega⟩
   have m2:zCr Zt F:=⟨by omega,by omega⟩
   (repeat' (first|((with_reducible refine zI ?_);first|refine zF rfl rfl rfl ?_|(refine zf rfl rfl rfl ?_;refine ⟨_,rfl,?_⟩)|refine zAQ rfl rfl rfl ?_|(refine zT rfl rfl rfl rfl rfl (fun h=>?_) (fun h=>?_)<;>(dsimp only [cmpP] at h;(try (exfalso;omega))))|refine zHO rfl rfl rfl (by (repeat constructor)) hmap hkb hi ?_|refine zZ rfl rfl rfl rfl ?_|(refine zQ rfl rfl rfl rfl rfl ?_;refine ⟨rfl,by first|decide|exact Nat.le_of_ble_eq_true rfl|(simp;omega),_,rfl,?_⟩)|(refine zV rfl rfl (fun b=>?_))|refine zD8 rfl rfl rfl (IntWalk.i64_in _ (by omega)) ?_)|(with_reducible first|refine zJ ?_|refine zC ?_|refine zG ?_|refine zA ?_|refine ze ?_|refine zAL ?_)|((with_reducible refine zM ?_ ?_);(· exact rfl))|((with_reducible refine zL ?_ ?_);(· exact rfl))))
   ·(refine Two.zAU [] [] [] rfl (show ([]:List Nat).Nodup by decide) (fun _ h=>h) (by kernel_rfl) [[],[Z],[Y,Y],[Z,Y,Y],[Y,Y,Y,Y],[Z,Y,Y,Y,Y],[Y,Y,Y,Y,Y,Y],[Z,Y,Y,Y,Y,Y,Y],[Y,Y,Z,Z,Y,Y,Y,Y],[Z,Z,Z,Z,Z,Y,Y,Y,Y],[Z,Z,Z,Z,Z,Z,Y,Y,Y,Y],[Y,Y,Y,Y,Y,Y,Y,Y,Y,Y,Y],[Z,Y,Y,Y,Y,Y,Y,Y,Y,Y,Y,Y],[Z,Z,Y,Y,Y,Y,Y,Y,Y,Y,Y,Y,Y],[Z,Z,Z,Z,Z,Z,Z,Z,Z,Z,Y,Y,Y,Y],[Y,Y,Y,Y,Y,Y,Y,Y,Y,Y,Y,Y,Y,Z,Z],[Z,Z,Z,Z,Z,Z,Z,Z,Z,Z,Z,Z,Z,Z,Z,Z],[Z,Z,Z,Z,Z,Z,Z,Z,Z,Z,Z,Z,Z,Z,Z,Z,Z]] (by kernel_rfl) (by kernel_rfl) (by kernel_rfl) (by kernel_rfl) (by kernel_rfl) ?_)
    (repeat' (first|(((with_reducible refine Two.zB0 ?_ ?_);(· exact rfl);refine ⟨_,fun G=>(by (try simp (decide:=true) only [Two.vis,Two.see,fltT,zc,Nat.reduceAdd,Nat.reduceSub,if_true,if_false,List.set_cons_zero,List.set_cons_succ,List.set_nil,List.nil_append,List.cons_append]);rfl),?_⟩);first|refine Two.zK _ (fun _=>zAA rfl rfl (by exact rfl)) (fun _=>rfl) rfl (by intro G G' h;simp (decide:=true) only [h]) ?_|(refine Two.zAE rfl ?_;refine Two.zK _ (fun _=>zAb rfl rfl) (fun _=>rfl) rfl (by intro G G' h;simp (decide:=true) only [h]) ?_)|refine Two.zK _ (fun _=>zA6 rfl rfl rfl rfl (by first|decide|omega)) (fun _=>rfl) rfl (by intro G G' h;simp (decide:=true) only [h]) ?_|refine Two.zK _ (fun _=>e_min rfl rfl rfl) (fun _=>rfl) rfl (by intro G G' h;simp (decide:=true) only [h]) ?_)|((with_reducible refine Two.zBE ?_ ?_);(· exact rfl))))
    (intro G;simp only [regsT,zc,Two.zAR,Two.ini,List.nil_append,List.cons_append])
    (repeat' (first|((with_reducible refine zI ?_);first|refine zBR rfl rfl rfl rfl rfl ?_)|(with_reducible first|refine zG ?_|refine zA ?_)))
    (refine Two.zAU [] [] [] rfl (show ([]:List Nat).Nodup by decide) (fun _ h=>h) (by kernel_rfl) [[],[Z],[Y,Y],[Z,Y,Y],[Y,Y,Y,Y],[Z,Y,Y,Y,Y],[Y,Y,Y,Y,Y,Y],[Z,Y,Y,Y,Y,Y,Y],[Y,Y,Z,Z,Y,Y,Y,Y],[Z,Z,Z,Z,Z,Y,Y,Y,Y],[Z,Z,Z,Z,Z,Z,Y,Y,Y,Y],[Y,Y,Y,Y,Y,Y,Y,Y,Y,Y,Y],[Z,Y,Y,Y,Y,Y,Y,Y,Y,Y,Y,Y],[Z,Z,Y,Y,Y,Y,Y,Y,Y,Y,Y,Y,Y],[Z,Z,Z,Y,Y,Y,Y,Y,Y,Y,Y,Y,Y,Y],[Z,Z,Z,Z,Z,Z,Z,Z,Z,Z,Z,Y,Y,Y,Y],[Y,Y,Y,Y,Y,Y,Y,Y,Y,Y,Y,Y,Y,Y,Z,Z],[Z,Z,Z,Z,Z,Z,Z,Z,Z,Z,Z,Z,Z,Z,Z,Z,Z],[Z,Z,Z,Z,Z,Z,Z,Z,Z,Z,Z,Z,Z,Z,Z,Z,Z,Z]] (by kernel_rfl) (by kernel_rfl) (by kernel_rfl) (by kernel_rfl) (by kernel_rfl) ?_)
    (repeat' (first|(((with_reducible refine Two.zB0 ?_ ?_);(· exact rfl);refine ⟨_,fun G=>(by (try simp (decide:=true) only [Two.vis,Two.see,fltT,zc,Nat.reduceAdd,Nat.reduceSub,if_true,if_false,List.set_cons_zero,List.set_cons_succ,List.set_nil,List.nil_append,List.cons_append]);rfl),?_⟩);first|refine Two.zK _ (fun _=>zAA rfl rfl (by exact rfl)) (fun _=>rfl) rfl (by intro G G' h;simp (decide:=true) only [h]) ?_|(refine Two.zAE rfl ?_;refine Two.zK _ (fun _=>zAb rfl rfl) (fun _=>rfl) rfl (by intro G G' h;simp (decide:=true) only [h]) ?_)|refine Two.zK _ (fun _=>zA6 rfl rfl rfl rfl (by first|decide|omega)) (fun _=>rfl) rfl (by intro G G' h;simp (decide:=true) only [h]) ?_|refine Two.zK _ (fun _=>zFu rfl rfl (by rw [Int.zero_sub];exact IntWalk.i64_in _ (by omega))) (fun _=>rfl) rfl (by intro G G' h;simp (decide:=true) only [h]) ?_|refine Two.zK _ (fun _=>e_min rfl rfl rfl) (fun _=>rfl) rfl (by intro G G' h;simp (decide:=true) only [h]) ?_)|((with_reducible refine Two.zBE ?_ ?_);(· exact rfl))))
    (intro G;simp only [regsT,zc,Two.zAR,Two.ini,List.nil_append,List.cons_append])
    (repeat' (first|((with_reducible refine zI ?_);first|refine zBR rfl rfl rfl rfl rfl ?_)|(with_reducible first|refine zG ?_|refine zA ?_|refine zAL ?_)))
    refine zm (seen++[i],_) ⟨hN,hS,?_⟩ hmu (by (repeat first|exact lK1|refine zW rfl ?_)) (by (repeat constructor))
    have e:zBD 1 M ⟨kd,F,Zt,vl⟩=zAv (zAv M F Zt (min (M F Zt) vl.hi)) Zt F (min (zAv M F Zt (min (M F Zt) vl.hi) Zt F) (-vl.lo)):=by
     unfold zBD;rw [if_pos (by first|exact h|omega)];rfl
    rw [e] at hP
    exact hP
   ·refine zm (seen++[i],M) ⟨hN,hS,?_⟩ hmu (by (repeat first|exact lK1|refine zW rfl ?_)) (by (repeat constructor))
    have e:zBD 1 M ⟨kd,F,Zt,vl⟩=M:=by
     unfold zBD;rw [if_neg (by first|exact h|omega)]
    rw [e] at hP
    exact hP
end Go.Proofs.YtcpdjamlhhfbhaaDoor
