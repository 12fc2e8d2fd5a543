/- S8 -/
import Derived.Test.YtcpdjamlhhfbhaaGreatS4
import Derived.Test.YtcpdjamlhhfbhaaGreatS5
import Derived.Maps.RangeRun
import Derived.Lib.SliceRun
import Derived.RangeFuncIn
import Derived.RangeFuncRecord
import Derived.RangeFuncSeq
import Derived.Deep.Quiet
import Derived.Test.YtcpdjamlhhfbhaaGreatS7
import Derived.Test.YtcpdjamlhhfbhaaGreatS1
set_option linter.unusedSimpArgs false
set_option linter.unusedVariables false
namespace Go.Proofs.YtcpdjamlhhfbhaaGreat
variable {ro : Option Nat}
open Go.RowKit
open Go.ChangeMaps (setBlock)
set_option maxRecDepth 20000
def Ent.arr {α:Type} (enc:α→List Value) (k:Nat) (g:Nat) (xs:List α):Ent :=
 ⟨(· = g),fun w=>∃ tail:List Value,Blk w g (xs.flatMap enc++tail).toArray,fun _ _ _ h ⟨tl,hp⟩=>⟨tl,hp.same (h g rfl)⟩⟩
class TakeA (H:List Ent) (g:Nat) {α:outParam Type} (enc:outParam (α→List Value)) (k:outParam Nat) (xs:outParam (List α)) (H':outParam (List Ent)):Prop where tk:Take H (.arr enc k g xs) H'
instance (priority := high) takeA_here {H:List Ent} {g:Nat} {α:Type} {enc:α→List Value} {k:Nat} {xs:List α}:TakeA (.arr enc k g xs::H) g enc k xs H:=⟨Take.here _ _⟩
instance takeA_there {H H':List Ent} {e:Ent} {g:Nat} {α:Type} {enc:α→List Value} {k:Nat} {xs:List α} [i:TakeA H g enc k xs H']:TakeA (e::H) g enc k xs (e::H'):=⟨Take.there _ i.tk⟩
section
variable {P : Program} {w0:World} {n:Nat} {d:List Deferred} {R:List (Nat × Value)} {H H':List Ent} {Q:Exit→Act→World→Prop} {ops:Array Oper} {rest:List Oper} {o:Oper} {t:Tmp} {x y:Operand} {X:Act→World→Prop}
instance srcI_arr {g i k:Nat} {α:Type} {enc:α→List Value} {xs:List α} {z:α} [ei:zDA enc k] [i1:TakeA H g enc k xs H'] [i2:zA5 xs i z]:SrcI w0 H g (0+i * k) (enc z):=⟨fun w hb ho j v hv=>by
 obtain ⟨tl,hB⟩:=(ho.here _ i1.tk.mem:∃ tail:List Value,Blk w g (xs.flatMap enc++tail).toArray)
 have h1:=zD9 ei.len xs i z i2.get j v hv
 rw [hB.cell]
 have hlt:=(List.getElem?_eq_some_iff.1 h1).1
 rw [show 0+i * k+j=i * k+j by omega]
 simp only [List.getElem?_toArray]
 rw [List.getElem?_append_left hlt]
 exact h1⟩
end
open Go.RowKit
open Go.ChangeMaps (setBlock)
def feet (H:List Ent) (b:Nat):Prop:=∃ e∈H,e.S b
def Ent.oldx (w:World) (lo:Nat) (S:Nat→Prop):Ent :=
 ⟨fun b=>(lo≤b∧b<w.heap.size)∧¬ S b,fun w'=>w.heap.size≤w'.heap.size∧∀ b,(lo≤b∧b<w.heap.size)∧¬ S b→w'.heap[b]?=w.heap[b]?,fun _ _ hs h hp=>⟨Nat.le_trans hp.1 hs,fun b hb=>(h b hb).trans (hp.2 b hb)⟩⟩
def zC3 {α:Type} (w:World) (H:List Ent) (V:α→Value) (C:α→List Ent) (p:α→Prop) (e:Ending) (w':World):Prop :=
 ∃ x,p x∧e = .returned (V x)∧(w'.os=w.os∧w'.tape=w.tape∧w'.output=w.output∧w.heap.size≤w'.heap.size)∧(∀ b,b<w.heap.size→¬ feet H b→w'.heap[b]?=w.heap[b]?)∧Own 0 w' (C x)∧∀ b,feet (C x) b→feet H b∨w.heap.size≤b
def zEg (P:Program) (f:FuncId) (args:List Value) (w:World) (H:List Ent) {α:Type} (V:α→Value) (C:α→List Ent) (p:α→Prop):Prop :=
 Calls P f args.toArray w (zC3 w H V C p)
theorem zEg.calls {P:Program} {f:FuncId} {args:List Value} {w:World} {H:List Ent} {α:Type} {V:α→Value} {C:α→List Ent} {p:α→Prop} (h:zEg P f args w H V C p):Calls P f args.toArray w (zC3 w H V C p):=h
theorem zEg.of {P:Program} {f:FuncId} {args:List Value} {w:World} {H:List Ent} {α:Type} {V:α→Value} {C:α→List Ent} {p:α→Prop} (h:Calls P f args.toArray w (zC3 w H V C p)):zEg P f args w H V C p:=h
attribute [irreducible] zEg
theorem Own.base {base base':Nat} {w:World} {H:List Ent} (h:Own base w H) (hb:∀ b,feet H b→base'≤b):Own base' w H :=
 ⟨h.here,fun e he b hS=>⟨hb b ⟨e,he,hS⟩,(h.foot e he b hS).2⟩,h.apart⟩
section
variable {P : Program} {w0:World} {n:Nat} {d:List Deferred} {R:List (Nat × Value)} {H H' H1 H2:List Ent} {Q:Exit→Act→World→Prop} {ops:Array Oper} {rest:List Oper} {o:Oper} {t:Tmp} {x y z:Operand} {v:Value}
theorem zET {base:Nat} {w w':World} {H2 H' E:List Ent} (hH:Own base w (H2++H')) (hB:base≤w.heap.size) (h4:w.heap.size≤w'.heap.size) (h5:∀ b,b<w.heap.size→¬ feet H2 b→w'.heap[b]?=w.heap[b]?) (h6:Own 0 w' E) (h7:∀ b,feet E b→feet H2 b∨w.heap.size≤b):Own base w' (E++H'):=by
 obtain ⟨a1,a2,a3⟩:=Own.append.1 hH
 refine Own.append.2 ⟨⟨h6.here,fun e he b hS=>⟨?_,(h6.foot e he b hS).2⟩,h6.apart⟩,a2.past h4 (fun e he b hS=>h5 b (a2.foot e he b hS).2 ?_),fun e he f hf b hb hb'=>?_⟩
 ·rcases h7 b ⟨e,he,hS⟩ with ⟨f,hf,hS'⟩|h
  ·exact (a1.foot f hf b hS').1
  ·omega
 ·rintro ⟨f,hf,hS'⟩
  exact a3 f hf e he b hS' hS
 ·rcases h7 b ⟨e,he,hb⟩ with ⟨g,hg,hS'⟩|h
  ·exact a3 g hg f hf b hS' hb'
  ·have:=(a2.foot f hf b hb').2;omega
theorem zGl {f:FuncId} {fx:Operand} {xs:Array Operand} {ts:Array TypeId} {vs:List Value} {cap:Array Value} {α:Type} {V:α→Value} {C:α→List Ent} {p:α→Prop} (H2 H':List Ent) (hop:o.op = .call ⟨.value fx,xs,ts⟩) (hrd:rdy R ops n o=some t) (hf:evR R fx=some (.func (.func f) #[] cap)) (hx:evs R xs.toList=some vs) [ci:zJ P f] (hs:Out H (H2++H'))
  (hc:∀ a w,Kn w0 n d R (H2++H') a w→zEg P f (vs++cap.toList) w H2 V C p) (h:∀ x,p x→U w0 n d ((t,V x)::R) (C x++H') (wpL ro P ops Q rest)):U w0 n d R H (wpL ro P ops Q (o::rest)) :=
 zEE (rW hrd) fun a w q K hK=>by
  unfold Oper.wp execOp;rw [hop]
  have e1:xs.map a.eval=vs.toArray:=by apply Array.ext';simpa using q.evs hx
  have e2:vs.toArray++cap=(vs++cap.toList).toArray:=by apply Array.ext';simp
  simp only [resolve,q.ev hf,e1,Deferred.ofValue,Sem.run_bind,Sem.run_pure,Result.andThen_ok,invoke,Array.empty_append,e2,ci.ent,Oper.upon_enter,(rD hrd)]
  have q2:=q.sub (fun _ _ h=>h) hs
  refine Calls.mono (hc a w q2).calls ?_
  rintro e w' ⟨z,hp,rfl,⟨h1,h2,h3,h4⟩,h5,h6,h7⟩
  refine hK _ _ (h z hp _ _ ((q.heap (q.below.trans ⟨h1,h2,h3,h4,fun b hb=>h5 b (by have:=q.base;omega) ?_⟩) (zET q2.own q.base h4 h5 h6 h7)).put (rT hrd)))
  rintro ⟨e,he,hS⟩
  have:=(q2.own.foot e (List.mem_append_left _ he) b hS).1
  omega
end
def Ent.map (m:Nat) (es:Array MapEntry) (c:Nat):Ent:=⟨(· = m),fun w=>w.heap[m]?=some (.map es c),fun _ _ _ h hp=>(h m rfl).trans hp⟩
section
variable {P : Program} {w0:World} {n:Nat} {d:List Deferred} {R:List (Nat × Value)} {H H' H1 H2:List Ent} {Q:Exit→Act→World→Prop} {ops:Array Oper} {rest:List Oper} {o:Oper} {t:Tmp} {x y z:Operand} {v:Value}
theorem zEp {T1:TypeId} (hop:o.op = .makeMap T1 none) (hrd:rdy R ops n o=some t) (h:∀ m,U w0 n d ((t,.map (some m))::R) (.map m #[] 0::H) (wpL ro P ops Q rest)):U w0 n d R H (wpL ro P ops Q (o::rest)) :=
 zEE (rW hrd) fun a w q K hK=>by
  unfold Oper.wp execOp;rw [hop]
  have hrun:(Instr.makeMap T1 none).run P w = .ok (.map (some w.heap.size)) (w.alloc (.map #[] 0)):=rfl
  simp only [Option.map_none,Sem.run_bind,hrun,Result.andThen_ok,Sem.run_pure,Oper.upon_value,(rD hrd)]
  exact hK _ _ (h w.heap.size _ _ ((q.call (E:=[.map w.heap.size #[] 0]) (zk w _) ⟨fun e he=>by simp only [List.mem_singleton] at he;subst he;exact heap_alloc_new w _,fun e he b hb=>by simp only [List.mem_singleton] at he;subst he;cases hb;simp,by simp⟩).put (rT hrd)))
end
end Go.Proofs.YtcpdjamlhhfbhaaGreat
namespace Go.Proofs.YtcpdjamlhhfbhaaGreat
variable {ro : Option Nat}
open Go.RowKit
def dL (bs:List Nat):List Deferred:=bs.map fun b=>{ target:=.collected b,args:=#[] }
def Ent.dfr (bs:List Nat):Ent:=⟨fun b=>b∈bs,fun w=>bs.Nodup∧∀ b,b∈bs→w.heap[b]?=some (.deferred (some [])),fun _ _ _ h hp=>⟨hp.1,fun b hb=>(h b hb).trans (hp.2 b hb)⟩⟩
def Ent.lrec (l:Nat) (r:Loop):Ent:=⟨(· = l),fun w=>w.heap[l]?=some (.loop r),fun _ _ _ h hp=>(h l rfl).trans hp⟩
def Ent.all (L:List Ent):Ent:=⟨feet L,fun w=>Own 0 w L,fun _ _ hs h hp=>hp.past hs fun e he b hb=>h b ⟨e,he,hb⟩⟩
theorem zGr {base:Nat} {w:World} {L B:List Ent}:Own base w (L++B)↔Own base w (.all L::B):=by
 constructor
 ·intro h
  obtain ⟨h1,h2,h3⟩:=Own.append.1 h
  refine ⟨fun e he=>?_,fun e he b hb=>?_,List.pairwise_cons.2 ⟨fun f hf b hb hb'=>?_,h2.apart⟩⟩
  ·rcases List.mem_cons.1 he with rfl|he
   ·exact ⟨h1.here,fun e he b hb=>⟨Nat.zero_le _,(h1.foot e he b hb).2⟩,h1.apart⟩
   ·exact h2.here e he
  ·rcases List.mem_cons.1 he with rfl|he
   ·obtain ⟨f,hf,hS⟩:=hb
    exact h1.foot f hf b hS
   ·exact h2.foot e he b hb
  ·obtain ⟨e,he,hS⟩:=hb
   exact h3 e he f hf b hS hb'
 ·intro h
  have h0:Own 0 w L:=h.here (.all L) (by simp)
  obtain ⟨a1,a2⟩:=List.pairwise_cons.1 h.apart
  exact Own.append.2 ⟨⟨h0.here,fun e he b hb=>⟨(h.foot (.all L) (by simp) b ⟨e,he,hb⟩).1,(h0.foot e he b hb).2⟩,h0.apart⟩,h.tail,fun e he f hf b hb hb'=>a1 f hf b ⟨e,he,hb⟩ hb'⟩
theorem zCS {base:Nat} {w:World} {D L B:List Ent}:Own base w ((D++L)++B)↔Own base w (D ++ .all L::B):=by
 rw [List.append_assoc]
 constructor
 ·intro h
  obtain ⟨h1,h2,h3⟩:=Own.append.1 h
  refine Own.append.2 ⟨h1,zGr.1 h2,fun e he f hf b hb hb'=>?_⟩
  rcases List.mem_cons.1 hf with rfl|hf
  ·obtain ⟨g,hg,hS⟩:=hb'
   exact h3 e he g (List.mem_append_left _ hg) b hb hS
  ·exact h3 e he f (List.mem_append_right _ hf) b hb hb'
 ·intro h
  obtain ⟨h1,h2,h3⟩:=Own.append.1 h
  refine Own.append.2 ⟨h1,zGr.2 h2,fun e he f hf b hb hb'=>?_⟩
  rcases List.mem_append.1 hf with hf|hf
  ·exact h3 e he (.all L) (by simp) b hb ⟨f,hf,hb'⟩
  ·exact h3 e he f (List.mem_cons_of_mem _ hf) b hb hb'
def YieldF (P:Program) (l:Nat) (args:List Value) (w:World) (H:List Ent) (go:Bool) {ι:Type} (C:ι→List Ent) (p:ι→Prop):Prop :=
 YieldAt Fence.wide 8 P l args.toArray w (zC3 w H (fun _:ι=>.bool go) C p)
section
variable {P : Program} {w0:World} {n:Nat} {d:List Deferred} {R:List (Nat × Value)} {H H' H1 H2:List Ent} {Q:Exit→Act→World→Prop} {ops:Array Oper} {rest:List Oper} {o:Oper} {t:Tmp} {x y z:Operand} {v:Value}
theorem zC5 {α:Type} {f:FuncId} {fn:Func} {c:Code} {args:List Value} {w:World} {V:α→Value} {C:α→List Ent} {p:α→Prop} {n:Nat} {wb:World} (hwb:Below wb.heap.size wb w) (hO:Own wb.heap.size w H) (hf:P.funcs[f]?=some fn) (hb:fn.body=some c) (hnn:fn.ntmps=n) (hn:Nat.ble args.length n=true)
  (h:U wb n [] (zF8 0 args) (H++[.oldx w wb.heap.size (feet H)]) (c.wpI none P (zDP P fn (zC3 w H V C p)))):zEg P f args w H V C p :=
 zEg.of <| (callsIn_wide (n:=9)).1 <| callsIn_of_wp_marks hf hb trivial (h _ _ ⟨by have:=Nat.le_of_ble_eq_true hn;simp;omega,rfl,fun t v ht=>by
  have:=zDm args 0 t v ht
  obtain ⟨_,h2⟩:=this
  simp only [Nat.sub_zero] at h2
  have hlt:t<args.length:=by
   rcases Nat.lt_or_ge t args.length with h|h
   ·exact h
   ·rw [List.getElem?_eq_none h] at h2;cases h2
  rw [Array.getD_eq_getD_getElem?,Array.getElem?_append_left (by simpa using hlt)]
  simp [h2],hwb,by
  refine Own.append.2 ⟨hO,⟨fun e he=>?_,fun e he b hb=>?_,by simp⟩,fun e he f hf b hb hb'=>?_⟩
  ·simp only [List.mem_singleton] at he;subst he;exact ⟨Nat.le_refl _,fun b _=>rfl⟩
  ·simp only [List.mem_singleton] at he;subst he;exact hb.1
  ·simp only [List.mem_singleton] at hf;subst hf;exact hb'.2 ⟨e,he,hb⟩⟩)
theorem zFI {α:Type} {fn:Func} {V:α→Value} {C:α→List Ent} {p:α→Prop} {vs:List Value} {w wb:World} {H0:List Ent} (hres:zi P wb R H fn.results.toList vs) (z:α) (hp:p z) (hV:V z=resV vs) (hwb:Below wb.heap.size wb w)
  (ho:∀ w',Own wb.heap.size w' H→Own wb.heap.size w' (C z++[.oldx w wb.heap.size (feet H0)])):U wb n [] R H (zDP P fn (zC3 w H0 V C p) .ret):=fun a w' q=>by
 have hq:=q.own
 have hH:=ho _ hq
 obtain ⟨hc,hol,hap⟩:=Own.append.1 hH
 have hsz:w.heap.size≤w'.heap.size:=(hol.here (.oldx w wb.heap.size (feet H0)) (by simp)).1
 show LeavesInM Fence.wide 9 P fn a.tmps _ a.defers .returning w'
 rw [q.defers]
 refine ⟨resV vs,zDr q hres,z,hp,by rw [hV],⟨q.below.os.trans hwb.os.symm,q.below.tape.trans hwb.tape.symm,q.below.output.trans hwb.output.symm,hsz⟩,fun b hb hne=>?_,⟨hc.here,fun e he b hS=>⟨Nat.zero_le _,(hc.foot e he b hS).2⟩,hc.apart⟩,fun b hb=>?_⟩
 ·rcases Nat.lt_or_ge b wb.heap.size with h|h
  ·exact (q.below.block b h).trans (hwb.block b h).symm
  ·exact (hol.here (.oldx w wb.heap.size (feet H0)) (by simp)).2 b ⟨⟨h,hb⟩,hne⟩
 ·rcases Nat.lt_or_ge b w.heap.size with h|h
  ·refine .inl (Classical.byContradiction fun hn=>?_)
   obtain ⟨e,he,hS⟩:=hb
   exact hap e he (.oldx w wb.heap.size (feet H0)) (by simp) b hS ⟨⟨(hc.foot e he b hS).1,h⟩,hn⟩
  ·exact .inr h
theorem u_endG {α:Type} {fn:Func} {V:α→Value} {C:α→List Ent} {p:α→Prop} {w wb:World} {H0:List Ent} (h:U wb n d R H (zDP P fn (zC3 w H0 V C p) .ret)):U wb n d R H (zDP P fn (zC3 w H0 V C p) .normal):=h
theorem zGh {ι:Type} {C:ι→List Ent} {p:ι→Prop} {l:Nat} {go:Bool} {D L:List Ent} {fx:Operand} {xs:Array Operand} {ts:Array TypeId} {vs:List Value} (hop:o.op = .call ⟨.value fx,xs,ts⟩) (hrd:rdy R ops n o=some t) (hf:evR R fx=some (.func (.yield l) #[] #[])) (hx:evs R xs.toList=some vs) (H':List Ent) (hs:Out H (D ++ .all L::H'))
  (hc:∀ a w,Kn w0 n d R (D ++ .all L::H') a w→YieldF P l vs w (D++L) go (fun s=>D++C s) p) (h:∀ s,p s→U w0 n d ((t,.bool go)::R) (D ++ .all (C s)::H') (wpL ro P ops Q rest)):U w0 n d R H (wpL ro P ops Q (o::rest)):=fun a w k =>
 wpListIn_step fun K hK=>by
  rw [zBF k (rW hrd),if_pos rfl]
  have q:=k.sub (fun _ _ h=>h) hs
  obtain ⟨f,tmps,assign,body,hy,hR⟩:=hc a w q
  refine ⟨fun _ _=>trivial,?_⟩
  rw [Oper.semAt_plain (FW ro) _ _ (fun c hc=>by rw [hop] at hc;cases hc)]
  have e1:xs.map a.eval=vs.toArray:=by apply Array.ext';simpa using k.evs hx
  unfold execOp;rw [hop]
  simp only [resolve,k.ev hf,e1,Deferred.ofValue,Sem.run_bind,Sem.run_pure,Result.andThen_ok,invoke,Array.empty_append,Array.append_empty,hy,Oper.uponIn_round,(rD hrd)]
  refine ⟨fun h=>(by cases h),?_⟩
  refine RoundIn.mono (F:=FW ro) ⟨trivial,fun c cs hr=>hR.2 c cs (room_wide _)⟩ ?_
  rintro e w' ⟨z,hp,rfl,⟨h1,h2,h3,h4⟩,h5,h6,h7⟩
  have h8:=zET (zCS.2 q.own) q.base h4 h5 h6 h7
  refine hK _ _ (h z hp _ _ ((q.heap (q.below.trans ⟨h1,h2,h3,h4,fun b hb=>h5 b (by have:=q.base;omega) ?_⟩) (zCS.1 h8)).put (rT hrd)))
  rintro ⟨e,he,hS⟩
  have:=((zCS.2 q.own).foot e (List.mem_append_left _ he) b hS).1
  omega
def rndB (P:Program) (l:Nat) (W:World) (H:List Ent) (go:Bool) {ι:Type} (C:ι→List Ent) (p:ι→Prop):Exit→Act→World→Prop:=roundPost P l (zC3 W H (fun _:ι=>.bool go) C p)
def rndA (P:Program) (l:Nat) (body:Code) (Q:Exit→Act→World→Prop):Exit→Act→World→Prop:=Exit.then (fun a₁ w₁=>∃ w₂,(Instr.beginRound l).run P w₁ = .ok () w₂∧body.wpIn (FW (some l)) 8 P Q a₁ w₂) (fun _ _ _=>False)
theorem zES {base l:Nat} {w:World} {r r':Loop} (h:Own base w (.lrec l r::H)) (hB:base≤w.heap.size):Own base (w.putObj l (.loop r')) (.lrec l r'::H):=by
 have hf:=h.foot (.lrec l r) (by simp) l rfl
 exact h.turn (by simp) (fun b _ hn=>World.putObj_heap_other (fun e=>hn e)) hB (World.putObj_heap_same hf.2) (fun b hb=>by cases hb;exact ⟨.inl rfl,by simpa using hf.2⟩)
theorem zCX {w:World} {l B:Nat} (ob:Obj) (hl:B≤l):Below B w (w.putObj l ob):=⟨rfl,rfl,rfl,by simp,fun b hb=>World.putObj_heap_other (by omega)⟩
theorem zGm {l:Nat} {r:Loop} {body:Code} (ht:Take H (.lrec l r) H') (hr:r.state = .ready) (h:U w0 n d R (.lrec l { r with state:=.busy } :: H') (body.wpI (some l) P Q)):U w0 n d R H (rndA P l body Q .normal):=fun a w q=>by
 have ho:=q.own.take ht
 have hl:w.heap[l]?=some (.loop r):=ho.here (.lrec l r) (by simp)
 exact ⟨_,run_beginRound hl hr,wpFW (h _ _ (q.heap (q.below.trans (zCX _ (ho.foot (.lrec l r) (by simp) l rfl).1)) (zES ho q.base)))⟩
theorem zFc {ι:Type} {C:ι→List Ent} {p:ι→Prop} {l:Nat} {r:Loop} {W:World} {H2:List Ent} (j:Option Code) {e:Exit} (he:(e = .normal∧j=none)∨(e = .ret∧j=some .ret)∨∃ id,e = .exit id∧j=some (.exit id)) {go:Bool} (hgo:go=j.isNone) (ht:Take H (.lrec l r) H') (s:ι) (hp:p s) (hW:Below w0.heap.size w0 W)
  (ho:∀ w',Own w0.heap.size w' (.lrec l { r with state:=if j.isNone then .ready else .done,pending:=j } :: H')→Own w0.heap.size w' (C s++[.oldx W w0.heap.size (feet H2)])):U w0 n d R H (rndB P l W H2 go C p e):=fun a w q=>by
 have ho1:=q.own.take ht
 have hl:w.heap[l]?=some (.loop r):=ho1.here (.lrec l r) (by simp)
 have hrun:=run_endRound (P:=P) j hl
 have hfl:=(ho1.foot (.lrec l r) (by simp) l rfl).1
 have hO:=ho _ (zES (r':={ r with state:=if j.isNone then .ready else .done,pending:=j }) ho1 q.base)
 have hB:=q.below.trans (zCX (w:=w) (.loop { r with state:=if j.isNone then .ready else .done,pending:=j }) hfl)
 obtain ⟨hc,hol,hap⟩:=Own.append.1 hO
 have key:zC3 W H2 (fun _:ι=>Value.bool go) C p (.returned (.bool j.isNone)) (w.putObj l (.loop { r with state:=if j.isNone then .ready else .done,pending:=j })):=by
  refine ⟨s,hp,by rw [hgo],⟨hB.os.trans hW.os.symm,hB.tape.trans hW.tape.symm,hB.output.trans hW.output.symm,(hol.here (.oldx W w0.heap.size (feet H2)) (by simp)).1⟩,fun b hb hne=>?_,⟨hc.here,fun e he b hS=>⟨Nat.zero_le _,(hc.foot e he b hS).2⟩,hc.apart⟩,fun b hb=>?_⟩
  ·rcases Nat.lt_or_ge b w0.heap.size with h|h
   ·exact (hB.block b h).trans (hW.block b h).symm
   ·exact (hol.here (.oldx W w0.heap.size (feet H2)) (by simp)).2 b ⟨⟨h,hb⟩,hne⟩
  ·rcases Nat.lt_or_ge b W.heap.size with h|h
   ·refine .inl (Classical.byContradiction fun hn=>?_)
    obtain ⟨e,he,hS⟩:=hb
    exact hap e he (.oldx W w0.heap.size (feet H2)) (by simp) b hS ⟨⟨(hc.foot e he b hS).1,h⟩,hn⟩
   ·exact .inr h
 unfold rndB
 rcases he with ⟨rfl,rfl⟩ | ⟨rfl,rfl⟩ | ⟨id,rfl,rfl⟩
 ·exact ⟨_,_,hrun,key⟩
 ·exact ⟨_,_,hrun,key⟩
 ·exact ⟨_,_,hrun,key⟩
def parR : List Tmp→List Value→List (Nat × Value)
 | p::ps,v::vs=>parR ps vs++[(p,v)]
 | _,_=>[]
theorem zHF {A B:List (Nat × Value)} {t:Nat}:lk (A++B) t=(lk A t).or (lk B t):=by
 induction A with
 | nil=>simp [lk]
 | cons p A ih =>
  obtain ⟨u,v⟩:=p
  simp only [List.cons_append,lk]
  cases Nat.beq u t<;>simp [ih]
theorem zE1 {R:List (Nat × Value)}:∀ (ps:List Tmp) (vs:List Value) (tm:Array Value),(∀ p∈ps,p<tm.size)→(∀ t v,lk R t=some v→tm.getD t undef=v)→∀ t v,lk (parR ps vs++R) t=some v→((ps.zip vs).foldl (fun t (p,v)=>t.setIfInBounds p v) tm).getD t undef=v
 | [],vs,tm,_,h,t,v,hl=>h t v (by simpa [parR] using hl)
 | p::ps,[],tm,_,h,t,v,hl=>h t v (by simpa [parR] using hl)
 | p::ps,x::vs,tm,hp,h,t,v,hl=>by
  simp only [List.zip_cons_cons,List.foldl_cons]
  refine zE1 (R:=(p,x)::R) ps vs (tm.setIfInBounds p x) (fun q hq=>by simpa using hp q (List.mem_cons_of_mem _ hq)) (fun t v hl=>?_) t v (by simpa [parR] using hl)
  have hlt:=hp p (by simp)
  by_cases e:p=t
  ·subst e;rw [zA2] at hl;cases hl;simp [hlt]
  ·rw [zA1 e] at hl
   have:=h t v hl
   simp only [Array.getD_eq_getD_getElem?] at this ⊢
   rw [Array.getElem?_setIfInBounds_ne e];exact this
theorem zFu : ∀ (l:List (Tmp × Value)) (tm:Array Value),(l.foldl (fun t (p,v)=>t.setIfInBounds p v) tm).size=tm.size
 | [],_=>rfl
 | (p,v)::l,tm=>by rw [List.foldl_cons,zFu l];simp
theorem u_dfr0 {X:Act→World→Prop} (h:U w0 n (dL []) R (.dfr []::H) X):U w0 n [] R H X:=fun a w q=>h a w (q.heap q.below ⟨fun e he=>by
 rcases List.mem_cons.1 he with rfl|he
 ·exact ⟨List.nodup_nil,fun b hb=>by cases hb⟩
 ·exact q.own.here e he,fun e he b hb=>by
 rcases List.mem_cons.1 he with rfl|he
 ·cases hb
 ·exact q.own.foot e he b hb,List.pairwise_cons.2 ⟨(fun f _ b hb=>by cases hb),q.own.apart⟩⟩)
theorem zDJ {fn:Func} {tmps:Array Value} {RR:Ending→World→Prop}:∀ (bs:List Nat) (w:World),bs.Nodup→(∀ b,b∈bs→w.heap[b]?=some (.deferred (some [])))→(∀ w',w'.heap.size=w.heap.size→w'.os=w.os→w'.tape=w.tape→w'.output=w.output→(∀ b,b ∉ bs→w'.heap[b]?=w.heap[b]?)→LeavesInM Fence.wide 9 P fn tmps RR [] .returning w')→LeavesInM Fence.wide 9 P fn tmps RR (dL bs) .returning w
 | [],w,_,_,h=>h w rfl rfl rfl rfl (fun _ _=>rfl)
 | b::bs,w,hn,hb,h=>by
  obtain ⟨h1,h2⟩:=List.nodup_cons.1 hn
  have hlt:b<w.heap.size:=(Array.getElem?_eq_some_iff.1 (hb b (by simp))).1
  refine ⟨by simp,.inl ⟨b,_,rfl,run_takeDeferred (hb b (by simp)),?_⟩⟩
  refine zDJ bs _ h2 (fun c hc=>?_) (fun w' e1 e2 e3 e4 e5=>h w' (by rw [e1];simp) e2 e3 e4 (fun c hc=>?_))
  ·have e:(w.putObj b (.deferred none)).heap[c]?=w.heap[c]?:=World.putObj_heap_other (by rintro rfl;exact h1 hc)
   rw [e]
   exact hb c (List.mem_cons_of_mem _ hc)
  ·simp only [List.mem_cons,not_or] at hc
   have e:(w.putObj b (.deferred none)).heap[c]?=w.heap[c]?:=World.putObj_heap_other (fun e=>hc.1 (by first|exact e|exact e.symm))
   rw [e5 c hc.2,e]
theorem Kn.unmark {a:Act} {w w':World} {bs:List Nat} (q:Kn w0 n d R H a w) (ht:Take H (.dfr bs) H') (e1:w'.heap.size=w.heap.size) (e2:w'.os=w.os) (e3:w'.tape=w.tape) (e4:w'.output=w.output) (e5:∀ b,b ∉ bs→w'.heap[b]?=w.heap[b]?):Kn w0 n d R H' a w':=by
 have ho:=q.own.take ht
 have hf:=ho.foot (.dfr bs) (by simp)
 obtain ⟨a1,a2⟩:=List.pairwise_cons.1 ho.apart
 exact q.heap (q.below.trans ⟨e2,e3,e4,by omega,fun b hb=>e5 b (fun hm=>by have:=(hf b hm).1;omega)⟩) (ho.tail.past (by omega) (fun e he b hb=>e5 b (fun hm=>a1 e he b hm hb)))
theorem zGk {bs:List Nat} {α:Type} {fn:Func} {V:α→Value} {E:α→List Ent} {p:α→Prop} {vs:List Value} (ht:Take H (.dfr bs) H') (hres:zi P w0 R H' fn.results.toList vs) (z:α) (hp:p z) (hV:V z=resV vs) (hO:∀ w,Own w0.heap.size w H'→Own w0.heap.size w (E z)):U w0 n (dL bs) R H (zDP P fn (zEf w0 V E p) .ret):=fun a w q=>by
 show LeavesInM Fence.wide 9 P fn a.tmps (zEf w0 V E p) a.defers .returning w
 rw [q.defers]
 have hd:=(q.own.take ht).here (.dfr bs) (by simp)
 exact zDJ bs w hd.1 hd.2 (fun w' e1 e2 e3 e4 e5=>zDw (q.unmark ht e1 e2 e3 e4 e5) hres z hp hV hO)
end
end Go.Proofs.YtcpdjamlhhfbhaaGreat
namespace Go.Proofs.YtcpdjamlhhfbhaaGreat
variable {ro : Option Nat}
open Go.RowKit
theorem zBp {base b:Nat} {cs cs':List Value} {H H':List Ent} {w W:World} (ho:Own base w H) [i:zDR H b cs H'] (hW:Below w.heap.size w W) (e:cs=cs'):InC W b 0 cs':=e ▸ zF5 ho hW
def zF1 (R:List (Nat × Value)):List Nat→Option (List Value)
 | []=>some []
 | t::K=>match lk R t,zF1 R K with|some v,some vs=>some (v::vs) | _,_=>none
def zAu : List Nat→List Value→List (Nat × Value)
 | t::K,v::vs=>(t,v)::zAu K vs
 | _,_=>[]
theorem lk_zip {R:List (Nat × Value)}:∀ {K:List Nat} {vs:List Value},zF1 R K=some vs→∀ t v,lk (zAu K vs) t=some v→lk R t=some v
 | [],vs,h,t,v,hl=>by simp [zAu,lk] at hl
 | k::K,vs,h,t,v,hl=>by
  simp only [zF1] at h
  cases h1:lk R k with
  | none=>rw [h1] at h;simp at h
  | some x =>
   cases h2:zF1 R K with
   | none=>rw [h1,h2] at h;simp at h
   | some ys =>
    rw [h1,h2] at h
    simp only [Option.some.injEq] at h
    subst h
    simp only [zAu] at hl
    by_cases e:k=t
    ·subst e;rw [zA2] at hl;cases hl;exact h1
    ·rw [zA1 e] at hl;exact lk_zip h2 t v hl
section
variable {P : Program} {w0:World} {n:Nat} {d:List Deferred} {R:List (Nat × Value)} {H H':List Ent} {Q:Exit→Act→World→Prop}
theorem z9 {ι:Type} {c:Code} (K:List Nat) {vs:List Value} (hK:zF1 R K=some vs) (I:ι→Prop) (ex:ι→List (Nat × Value)) (Hf:ι→List Ent) (μ:ι→Nat) (i0:ι) (h0:I i0) (hR:∀ t v,lk (ex i0) t=some v→lk R t=some v) (hH:Out H (Hf i0))
  (body:∀ i,I i→U w0 n d (ex i++zAu K vs) (Hf i) (c.wpI ro P (Exit.then (fun a w=>∃ j,I j∧μ j<μ i∧Kn w0 n d (ex j++zAu K vs) (Hf j) a w) Q))):U w0 n d R H ((Code.loop c).wpI ro P Q) :=
 zGE I (fun i=>ex i++zAu K vs) Hf μ i0 h0 (fun t v h=>by
  rw [zHF] at h
  cases h1:lk (ex i0) t with
  | none=>rw [h1] at h;exact lk_zip hK t v (by simpa using h)
  | some x=>rw [h1] at h;simp at h;subst h;exact hR t _ h1) hH body
end
end Go.Proofs.YtcpdjamlhhfbhaaGreat
namespace Go.Proofs.YtcpdjamlhhfbhaaGreat
variable {ro : Option Nat}
open Go.RowKit
section
variable {S : Pend} {P:Program} {w0:World} {n:Nat} {d:List Deferred} {R R0:List (Nat × Value)} {H H' H0:List Ent} {Q:Exit→Act→World→Prop} {ops:Array Oper} {bs:List (List Bool)} {b:List Bool} {k:Nat} {o:Oper} {rest:List Oper} {T:List Rw} {t:Tmp} {x y:Operand} {v:Value} {X:Act→World→Prop}
theorem zBk (hs:∀ w,Own w0.heap.size w H→Own w0.heap.size w H') (h:U w0 n d R H' X):U w0 n d R H X:=fun a w q=>h a w (q.heap q.below (hs w q.own))
theorem zEr {T1:TypeId} {td:TypeDesc} {s bm off:Nat} {g:Bool} {cs cs':List Value} {L:List Ent} {F:List Ent} {a:Act} {w:World} (hop:o.op = .store T1 x y) [i1:TyI P T1 td s g] (hw:want R ops o=some true) (hd:o.dst=none) (hx:evR R x=some (.pointer (some ⟨bm,off,none⟩))) (hy:evR R y=some v)
  (hv:Nat.beq v.cells.toList.length s=true) (hv1:v.cells.toList.all Value.oneCell'=true) (hl:Nat.ble (off+s) cs.length=true) (hc:put1 cs off v.cells.toList=cs') (q:Kn w0 n d R F a w) (ho:Own w0.heap.size w (.blk bm cs::L)) {K:Act→World→Prop}
  (hK:∀ w',Below w0.heap.size w0 w'→Own w0.heap.size w' (.blk bm cs'::L)→K a w'):if Region.wanted o (yielded ops a.tmps)=true then o.wp P a w K (fun _ _ _=>False) else K (a.put o.dst undef) w:=by
 rw [zBF q hw,if_pos rfl]
 have hb:Blk w bm cs.toArray:=ho.here (.blk bm cs) (by simp)
 have hs:v.cells.toList.length=s:=Nat.eq_of_beq_eq_true hv
 have hlen:=Nat.le_of_ble_eq_true hl
 have e1:=i1.siz w
 obtain ⟨g1,g2,g3,g4,g5,g6⟩:=zB9 bm v.cells.toList off w cs hb
 have hfoot:w0.heap.size≤bm:=(ho.foot (.blk bm cs) (by simp) bm rfl).1
 have hrun:(Instr.storeAt T1 (.pointer (some ⟨bm,off,none⟩)) v).run P w = .ok () (w.setCells bm off v.cells.toList):=by
  have:=run_storeCells_cells (P:=P) bm off v.cells.toList 0 w (fun j hj=>by have h9:off+j<cs.length:=(by omega);rw [hb.cell];simp [h9]) (fun j hj=>hb.frozen _) (fun u hu=>List.all_eq_true.1 hv1 u hu)
  simp only [Nat.add_zero] at this
  have hsz:¬ v.cells.size≠s:=by simpa using hs
  unfold Instr.storeAt storeVar
  simp only [Sem.run_bind,Instr.sureAddr,Sem.run_pure,Result.andThen_ok,e1,Sem.run_ite,hsz,if_false,this]
 unfold Oper.wp execOp;rw [hop]
 simp only [Sem.run_bind,q.ev hx,q.ev hy,hrun,Result.andThen_ok,Sem.run_pure,Oper.upon_skip,hd]
 refine hK _ ?_ ?_
 ·exact q.below.trans ⟨g2,g3,g4,by omega,fun k hk=>g6 k (by omega)⟩
 ·exact ho.turn (by omega) (fun k hk hn=>g6 k hn) q.base (hc ▸ g1) (fun k hk=>by
   cases hk
   exact ⟨.inl rfl,by rw [g5];exact (ho.foot (.blk bm cs) (by simp) bm rfl).2⟩)
end
end Go.Proofs.YtcpdjamlhhfbhaaGreat
namespace Go.Proofs.YtcpdjamlhhfbhaaGreat
variable {ro : Option Nat}
open Go.RowKit
def ClsH (w0:World) (H:List Ent) (w:World):Prop:=Below w0.heap.size w0 w∧Own w0.heap.size w H
def UQ (P:Program) (w0:World) (n:Nat) (d:List Deferred) (R:List (Nat × Value)) (H:List Ent) (ops:Array Oper) (K:Act→Prop) (rest:List Oper):Prop :=
 ∀ a:Act,a.tmps.size=n→a.defers=d→(∀ t v,lk R t=some v→a.tmps.getD t undef=v)→wpQuiet P ops (ClsH w0 H) K rest a
section
variable {P : Program} {w0:World} {n:Nat} {d:List Deferred} {R:List (Nat × Value)} {H H':List Ent} {Q:Exit→Act→World→Prop} {K:Act→Prop} {ops:Array Oper} {rest:List Oper} {o:Oper} {t:Tmp} {x y:Operand} {v:Value} {C:World→Prop}
theorem zEk {i:Nat} {a:Act} {K:Act→Prop} {K':Act→World→Prop} {Q':Exit→Act→World→Prop} {w:World} (hdf:∀ o∈ops.toList,zC2 o=false) (hC:C w) (h:∀ a w',C w'→K a→K' a w') (hh:qOp P ops C i K a):wpOpIn (FW ro) 9 P ops Q' i K' a w:=by
 unfold qOp at hh
 unfold wpOpIn
 split
 ·rename_i ho;simp only [ho] at hh;exact h _ _ hC hh
 ·rename_i o ho
  simp only [ho] at hh
  split
  ·rename_i hw;simp only [hw,if_true] at hh;exact opIn (hdf o (by have:=Array.mem_of_getElem? ho;simpa using this)) (Oper.wp_of_quiet hC h hh)
  ·rename_i hw;simp only [hw] at hh;exact ⟨fun _ _=>trivial,h _ _ hC hh⟩
theorem zCB {Q:Act→Prop} {Q':Exit→Act→World→Prop} (hdf:∀ o∈ops.toList,zC2 o=false) (hQ:∀ a w,C w→Q a→Q' .normal a w):∀ (fuel:Nat) (listed:Array Bool) (a:Act) (w:World),C w →
  wpAnyQ P .any ops C Q fuel listed a→wpAnyIn (FW ro) 9 P .any ops Q' fuel listed a w
 | 0,_,_,_,hw,h=>⟨h.1,hQ _ _ hw h.2⟩
 | fuel+1,_,_,_,hw,h=>⟨fun h0=>hQ _ _ hw (h.1 h0),fun i hi=>zEk hdf hw (fun a' w' hw'=>zCB hdf hQ fuel _ a' w' hw') (h.2 i hi)⟩
theorem zBv {id:Nat} {l:List Oper} (hm:P.follows .mixedOrders=true) (hB:Region.lexB .any l.toArray=true) (hDf:(l.all fun o=>!zC2 o)=true) (h:UQ P w0 n d R H l.toArray (fun a'=>∀ w',ClsH w0 H w'→Q .normal a' w') l):U w0 n d R H ((Code.region id l.toArray true).wpI ro P Q):=fun a w q=>by
 have h1:=h a q.size q.defers q.regs
 simp only [Region.lexB,Bool.and_eq_true] at hB
 have hC:ClsH w0 H { w with drawn:=w.drawn+1 }:=⟨⟨q.below.os,q.below.tape,q.below.output,q.below.size,q.below.block⟩,q.own.past (Nat.le_refl _) (fun _ _ _ _=>rfl)⟩
 refine wpIn_region_any hm (zCB (C:=ClsH w0 H) (Q:=fun a'=>∀ w',ClsH w0 H w'→Q .normal a' w') (fun o ho=>by have:=List.all_eq_true.1 hDf o (by simpa using ho);simpa using this) (fun _ w' hw' h=>h w' hw') _ _ _ _ hC ?_)
 have:=wpAnyQ_lex (C:=ClsH w0 H) (md:=.any) hB.1 l 0 (Array.replicate l.toArray.size false) a (by simp) (by simpa using hB.2) h1
 simpa using this
theorem zDt (h:U w0 n d R H (Q .normal)):UQ P w0 n d R H ops (fun a'=>∀ w',ClsH w0 H w'→Q .normal a' w') []:=fun a h1 h2 h3=>wpQuiet_nil (fun w' hw=>h a w' ⟨h1,h2,h3,hw.1,hw.2⟩)
theorem zEP {a:Act} (h1:a.tmps.size=n) (h3:∀ t v,lk R t=some v→a.tmps.getD t undef=v) (ht:Nat.blt t n=true):∀ u x,lk ((t,v)::R) u=some x→(a.put (some t) v).tmps.getD u undef=x:=fun u x hx=>by
 have hlt:t<a.tmps.size:=by rw [h1];exact Nat.le_of_ble_eq_true ht
 by_cases hu:t=u
 ·subst hu
  rw [zA2] at hx
  cases hx
  simp [Act.put,hlt]
 ·rw [zA1 hu] at hx
  have:=h3 u x hx
  simp only [Act.put,Array.getD_eq_getD_getElem?] at this ⊢
  rw [Array.getElem?_setIfInBounds_ne hu]
  exact this
theorem zEC {a:Act} {b:Bool} (h3:∀ t v,lk R t=some v→a.tmps.getD t undef=v) (hw:want R ops o=some b):Region.wanted o (yielded ops a.tmps)=b :=
 zBF (R:=R) (H:=[]) (n:=a.tmps.size) (d:=a.defers) (w0:=(default:World)) (w:=default) ⟨rfl,rfl,h3,Below.refl _ _,Own.nil _ _⟩ hw
theorem zp (he:Ev P w0 n d R H o v) (hrd:rdy R ops n o=some t) (h:UQ P w0 n d ((t,v)::R) H ops K rest):UQ P w0 n d R H ops K (o::rest):=fun a h1 h2 h3 =>
 wpQuiet_step fun K' hK=>by
  rw [zEC h3 (rW hrd),if_pos rfl]
  refine ⟨v,fun w hC=>?_,?_⟩
  ·unfold Oper.quietAt
   rw [he a w ⟨h1,h2,h3,hC.1,hC.2⟩]
   exact ⟨rfl,rfl⟩
  ·rw [(rD hrd)]
   exact hK _ (h _ (by simp [Act.put,h1]) h2 (zEP h1 h3 (rT hrd)))
theorem zBd (hw:want R ops o=some false) (hd:o.dst=some t) (ht:Nat.blt t n=true) (h:UQ P w0 n d ((t,undef)::R) H ops K rest):UQ P w0 n d R H ops K (o::rest):=fun a h1 h2 h3 =>
 wpQuiet_step fun K' hK=>by
  rw [zEC h3 hw,hd]
  simp only [Bool.false_eq_true,if_false]
  exact hK _ (h _ (by simp [Act.put,h1]) h2 (zEP h1 h3 ht))
theorem q_cmp {T1 T2:TypeId} {c:BinOp} {k:IntKind} {i j:Int} (hop:o.op = .binOp c T1 x y T2) (hc:zEW c=true) (hrd:rdy R ops n o=some t) (hx:evR R x=some (.int k i)) (hy:evR R y=some (.int k j))
  (h1:cmpP c i j→UQ P w0 n d ((t,.bool true)::R) H ops K rest) (h2:¬ cmpP c i j→UQ P w0 n d ((t,.bool false)::R) H ops K rest):UQ P w0 n d R H ops K (o::rest):=by
 by_cases hp:cmpP c i j
 ·exact zp (fun a w q=>zDc hc hop (q.ev hx) (q.ev hy) hp) hrd (h1 hp)
 ·exact zp (fun a w q=>zDd hc hop (q.ev hx) (q.ev hy) hp) hrd (h2 hp)
theorem zBy {f:FuncId} {fx:Operand} {xs:Array Operand} {ts:Array TypeId} {vs:List Value} {cap:Array Value} (hop:o.op = .call ⟨.value fx,xs,ts⟩) (hrd:rdy R ops n o=some t) (hf:evR R fx=some (.func (.func f) #[] cap)) (hx:evs R xs.toList=some vs) [ci:zJ P f]
  (hc:∀ a w,Kn w0 n d R H a w→Gv P f (vs++cap.toList) w v) (h:UQ P w0 n d ((t,v)::R) H ops K rest):UQ P w0 n d R H ops K (o::rest):=fun a h1 h2 h3 =>
 wpQuiet_step fun K' hK=>by
  rw [zEC h3 (rW hrd),if_pos rfl]
  refine ⟨v,fun w hC=>?_,?_⟩
  ·have q:Kn w0 n d R H a w:=⟨h1,h2,h3,hC.1,hC.2⟩
   unfold Oper.quietAt execOp;rw [hop]
   have e1:xs.map a.eval=vs.toArray:=by apply Array.ext';simpa using q.evs hx
   have e2:vs.toArray++cap=(vs++cap.toList).toArray:=by apply Array.ext';simp
   simp only [resolve,q.ev hf,e1,Deferred.ofValue,Sem.run_bind,Sem.run_pure,Result.andThen_ok,invoke,Array.empty_append,e2,ci.ent]
   refine ⟨rfl,Calls.mono (hc a w q).ret.calls ?_⟩
   rintro e w' ⟨_,_,rfl,hb,_⟩
   exact ⟨rfl,q.below.trans (hb.mono q.base),q.own.below hb⟩
  ·rw [(rD hrd)]
   exact hK _ (h _ (by simp [Act.put,h1]) h2 (zEP h1 h3 (rT hrd)))
theorem zDH {b:Bool} {f:FuncId} {fx:Operand} {xs:Array Operand} {ts:Array TypeId} {vs:List Value} {cap:Array Value} (hop:o.op = .call ⟨.value fx,xs,ts⟩) (hrd:rdy R ops n o=some t) (hf:evR R fx=some (.func (.func f) #[] cap)) (hx:evs R xs.toList=some vs) [ci:zJ P f]
  (hc:∀ a w,Kn w0 n d R H a w→Gv P f (vs++cap.toList) w (.bool b)) (h1:b=true→UQ P w0 n d ((t,.bool true)::R) H ops K rest) (h2:b=false→UQ P w0 n d ((t,.bool false)::R) H ops K rest):UQ P w0 n d R H ops K (o::rest):=by
 cases b
 ·exact zBy hop hrd hf hx hc (h2 rfl)
 ·exact zBy hop hrd hf hx hc (h1 rfl)
theorem zCj (h:UQ P w0 n d R H ops K (o::rest)):UQ P w0 n d R H ops K (o::rest):=h
end
end Go.Proofs.YtcpdjamlhhfbhaaGreat
namespace Go.Proofs.YtcpdjamlhhfbhaaGreat
open Go.RowKit
theorem zDK {α:Type} (l:List α) (i j:Nat) (hi:i≤j) (hj:j<l.length):l.extract i (j+1)=l.extract i j++[l[j]]:=by
 simp only [List.extract_eq_take_drop]
 rw [show j+1 - i=(j - i)+1 by omega,List.take_succ_eq_append_getElem (by simp;omega)]
 simp [show i+(j - i)=j by omega]
theorem zEH (l:List Sp) (x:Sp):zDo (l++[x])=zAG (zDo l) x:=by simp [zDo]
theorem zBT {t:List St} {i j:Nat} (hi:i≤j) (hj:j<t.length):zQ t i (j+1)=zAG (zQ t i j) t[j].long:=by
 unfold zQ
 rw [zDK _ _ _ hi (by simpa [longs] using hj),zEH];simp [longs]
theorem zBU {t:List St} {i j:Nat} (hi:i≤j) (hj:j<t.length):zY t i (j+1)=zAG (zY t i j) t[j].fall:=by
 unfold zY
 rw [zDK _ _ _ hi (by simpa [falls] using hj),zEH];simp [falls]
theorem zA6 (t:List St) (i:Nat):zQ t i i=⟨0,0⟩:=by simp [zQ,zDo,List.extract_eq_take_drop]
theorem zA9 (t:List St) (i:Nat):zY t i i=⟨0,0⟩:=by simp [zY,zDo,List.extract_eq_take_drop]
theorem zAb {t : List St} (h : ∀ s ∈ t, zDS s) : ∀ {i j : Nat}, i ≤ j → j ≤ t.length →
    0≤(zQ t i j).lo∧(zQ t i j).lo≤(zQ t i j).hi∧(zQ t i j).hi≤30000 * (j - i:Int) ∧
    0≤(zY t i j).lo∧(zY t i j).lo≤(zY t i j).hi∧(zY t i j).hi≤5000 * (j - i:Int):=by
  intro i j hij
  induction j with
  | zero => intro _; obtain rfl : i = 0 := by omega
            simp [zA6,zA9]
  | succ j ih =>
    intro hj
    by_cases hji:i=j+1
    · subst hji;simp [zA6,zA9]
    · have:=ih (by omega) (by omega)
      have ho:=h t[j] (List.getElem_mem (by omega))
      rw [zBT (by omega) (by omega),zBU (by omega) (by omega)]
      have:=ho.l0;have:=ho.l1;have:=ho.l2;have:=ho.f0;have:=ho.f1;have:=ho.f2
      simp only [zAG]
      omega
set_option maxHeartbeats 4000000 in
theorem zEy (t : List St) (A : Option Addr) (cap : Nat) (i j : Nat) (w : World) (ht : zg zq 9 w A t) (ho : ∀ s ∈ t, zDS s) (hij : i ≤ j) (hj : j ≤ t.length) (hl : t.length ≤ 1000) :
    zAE 153 #[vT A t.length cap,.int .i64 i,.int .i64 j] w (.tuple #[vSp (zQ t i j),vSp (zY t i j)]):=by
  unfold zAE vT vSp
  have HT:=Lib.hid ht
  clear ht
  go_enter Tryz.func153,Tryz.ntmps153
  go_wp2
  go_loopw [10] (fun v wr => ∃ (k : Nat), i ≤ k ∧ k ≤ j ∧ v = .int .i64 k ∧ Blk wr w.heap.size #[.slice A t.length cap] ∧ Blk wr (w.heap.size + 1) #[.int .i64 0, .int .i64 0] ∧ Blk wr (w.heap.size + 2) #[.int .i64 0, .int .i64 0]
     ∧ Blk wr (w.heap.size+3) #[.int .i64 (zQ t i k).lo,.int .i64 (zQ t i k).hi]∧Blk wr (w.heap.size+4) #[.int .i64 (zY t i k).lo,.int .i64 (zY t i k).hi]∧Below w.heap.size w wr) (fun v _=>j - (intOf v).toNat)
  case atStart =>
    refine ⟨i,Nat.le_refl _,hij,rfl,((((Blk.new _ _ _).alloc _).alloc _).alloc _).alloc _,(((Blk.new' (by simp)).alloc _).alloc _).alloc _,((Blk.new' (by simp)).alloc _).alloc _,Blk.cast ((Blk.new' (by simp)).alloc _) (by simp [zA6]),Blk.cast (Blk.new' (by simp)) (by simp [zA9]),zAL (zAL (zAL (zAL (zk _ _) _) _) _) _⟩
  case round =>
    obtain ⟨k,hk1,hk2,rfl,k0,k1,k2,k3,k4,hB⟩:=hrel
    obtain ⟨c0,f0,l0⟩:=k0.facts
    obtain ⟨c1,f1,l1⟩:=k1.facts
    obtain ⟨c2,f2,l2⟩:=k2.facts
    obtain ⟨c3,f3,l3⟩:=k3.facts
    obtain ⟨c4,f4,l4⟩:=k4.facts
    by_cases hlt:k<j
    · obtain ⟨b,o,rfl,hblt,hc⟩:=(HT.out.below hB).at_ (show k<t.length by omega)
      have bd:=zAb ho hk1 (show k≤t.length by omega)
      have hl1:=Lib.hid (zBT hk1 (show k<t.length by omega))
      have hf1:=Lib.hid (zBU hk1 (show k<t.length by omega))
      have hok:=ho t[k] (List.getElem_mem (show k<t.length by omega))
      generalize t[k]=s at hc hl1 hf1 hok
      generalize zQ t i k=p at *
      generalize zY t i k=q at *
      obtain ⟨q1,q2,q3,q4,q5,q6⟩:=bd
      have:=hok.l0;have:=hok.l1;have:=hok.l2;have:=hok.f0;have:=hok.f1;have:=hok.f2
      have e0:=hc 0 _ rfl
      have e1:=hc 1 _ rfl
      have e2:=hc 2 _ rfl
      have e3:=hc 3 _ rfl
      have e4:=hc 4 _ rfl
      have e5:=hc 5 _ rfl
      have e6:=hc 6 _ rfl
      have e7:=hc 7 _ rfl
      have e8:=hc 8 _ rfl
      simp only [Nat.add_zero] at e0
      clear hc
      have hi0:(0:Int)≤k:=by omega
      have hi1:(k:Int)<t.length:=by omega
      have hkj:(k:Int)<j:=by omega
      go_wp2
      go_roundw
      case rel =>
        go_light
        refine ⟨k+1,by omega,by omega,by go_num,?_,?_,?_,?_,?_,?_⟩
        · (refine zAt ?_;repeat (first|(with_reducible refine zL.zAs (by first|(simp;done)|(simp;omega)|omega) ?_;(first|rfl|(simp;done)))|(with_reducible refine zL.alloc ?_ _)|(with_reducible refine zL.far ?_ _ (by first|(simp;done)|(simp;omega)|omega))|(with_reducible refine zL.zAg ?_ (by first|(simp;done)|(simp;omega)|omega))|(with_reducible refine zL.drew ?_)|(with_reducible refine zL.drewN ?_ _)|(refine zL.leaf (by assumption) ?_;(first|rfl|(simp;done)))))
        · (refine zAt ?_;repeat (first|(with_reducible refine zL.zAs (by first|(simp;done)|(simp;omega)|omega) ?_;(first|rfl|(simp;done)))|(with_reducible refine zL.alloc ?_ _)|(with_reducible refine zL.far ?_ _ (by first|(simp;done)|(simp;omega)|omega))|(with_reducible refine zL.zAg ?_ (by first|(simp;done)|(simp;omega)|omega))|(with_reducible refine zL.drew ?_)|(with_reducible refine zL.drewN ?_ _)|(refine zL.leaf (by assumption) ?_;(first|rfl|(simp;done)))))
        · (refine zAt ?_;repeat (first|(with_reducible refine zL.zAs (by first|(simp;done)|(simp;omega)|omega) ?_;(first|rfl|(simp;done)))|(with_reducible refine zL.alloc ?_ _)|(with_reducible refine zL.far ?_ _ (by first|(simp;done)|(simp;omega)|omega))|(with_reducible refine zL.zAg ?_ (by first|(simp;done)|(simp;omega)|omega))|(with_reducible refine zL.drew ?_)|(with_reducible refine zL.drewN ?_ _)|(refine zL.leaf (by assumption) ?_;(first|rfl|(simp;done)))))
        · rw [hl1.out];(refine zAt ?_;repeat (first|(with_reducible refine zL.zAs (by first|(simp;done)|(simp;omega)|omega) ?_;(first|rfl|(simp [zAG];done)))|(with_reducible refine zL.alloc ?_ _)|(with_reducible refine zL.far ?_ _ (by first|(simp;done)|(simp;omega)|omega))|(with_reducible refine zL.zAg ?_ (by first|(simp;done)|(simp;omega)|omega))|(with_reducible refine zL.drew ?_)|(with_reducible refine zL.drewN ?_ _)|(refine zL.leaf (by assumption) ?_;(first|rfl|(simp [zAG];done)))))
        · rw [hf1.out];(refine zAt ?_;repeat (first|(with_reducible refine zL.zAs (by first|(simp;done)|(simp;omega)|omega) ?_;(first|rfl|(simp [zAG];done)))|(with_reducible refine zL.alloc ?_ _)|(with_reducible refine zL.far ?_ _ (by first|(simp;done)|(simp;omega)|omega))|(with_reducible refine zL.zAg ?_ (by first|(simp;done)|(simp;omega)|omega))|(with_reducible refine zL.drew ?_)|(with_reducible refine zL.drewN ?_ _)|(refine zL.leaf (by assumption) ?_;(first|rfl|(simp [zAG];done)))))
        · (repeat (first|(with_reducible refine zAL ?_ _)|(with_reducible refine zAX ?_ (by first|(simp;done)|(simp;omega)|omega))|(with_reducible refine zA4 ?_)|(with_reducible refine below_drewN ?_ _)|(with_reducible assumption)|(with_reducible exact Below.refl _ _)))
      case measure=>simp [intOf];omega
    · obtain rfl:k=j:=by omega
      go_wp2
      go_region
      all_goals go_wp2
      refine bodyPost_ret (zDq (x:=.int .i64 (zQ t i k).lo) (y:=.int .i64 (zQ t i k).hi) (x':=.int .i64 (zY t i k).lo) (y':=.int .i64 (zY t i k).hi) rfl rfl ?_ rfl ?_) rfl ⟨rfl,?_⟩
      · (refine zAt ?_;repeat (first|(with_reducible refine zL.zAs (by first|(simp;done)|(simp;omega)|omega) ?_;(first|rfl|(simp;done)))|(with_reducible refine zL.alloc ?_ _)|(with_reducible refine zL.far ?_ _ (by first|(simp;done)|(simp;omega)|omega))|(with_reducible refine zL.zAg ?_ (by first|(simp;done)|(simp;omega)|omega))|(with_reducible refine zL.drew ?_)|(with_reducible refine zL.drewN ?_ _)|(refine zL.leaf (by assumption) ?_;(first|rfl|(simp;done)))))
      · (refine zAt ?_;repeat (first|(with_reducible refine zL.zAs (by first|(simp;done)|(simp;omega)|omega) ?_;(first|rfl|(simp;done)))|(with_reducible refine zL.alloc ?_ _)|(with_reducible refine zL.far ?_ _ (by first|(simp;done)|(simp;omega)|omega))|(with_reducible refine zL.zAg ?_ (by first|(simp;done)|(simp;omega)|omega))|(with_reducible refine zL.drew ?_)|(with_reducible refine zL.drewN ?_ _)|(refine zL.leaf (by assumption) ?_;(first|rfl|(simp;done)))))
      · (repeat (first|(with_reducible refine zAL ?_ _)|(with_reducible refine zAX ?_ (by first|(simp;done)|(simp;omega)|omega))|(with_reducible refine zA4 ?_)|(with_reducible refine below_drewN ?_ _)|(with_reducible assumption)|(with_reducible exact Below.refl _ _)))
end Go.Proofs.YtcpdjamlhhfbhaaGreat
