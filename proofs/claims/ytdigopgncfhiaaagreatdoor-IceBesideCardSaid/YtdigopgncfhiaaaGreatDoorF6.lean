/- F6 -/
import Derived.Test.YtdigopgncfhiaaaGreatDoorF4
import Derived.Test.YtdigopgncfhiaaaGreatDoorF5
import Derived.Maps.RangeRun
import Derived.Lib.SliceRun
import Derived.RangeFuncIn
import Derived.RangeFuncRecord
import Derived.RangeFuncSeq
set_option linter.unusedSimpArgs false
set_option linter.unusedVariables false
namespace Go.Proofs.YtdigopgncfhiaaaGreatDoor
variable {ro : Option Nat}
open Go.RowKit
open Go.ChangeMaps (setBlock)
set_option maxRecDepth 20000
def zBR (w:World) (g:Nat):World:={ w with heap:=w.heap.extract 0 g }
theorem zJA : ∀ (vs a b:List Value) (off:Nat),off+vs.length≤a.length→put1 (a++b) off vs=put1 a off vs++b
 | [],_,_,_,_=>rfl
 | v::r,a,b,off,h=>by
  simp only [List.length_cons] at h
  simp only [put1]
  rw [List.set_append_left _ _ (by omega),zJA r _ b (off+1) (by simp;omega)]
theorem zH2 : ∀ (vs a b:List Value) (off:Nat),put1 (a++b) (a.length+off) vs=a++put1 b off vs
 | [],_,_,_=>rfl
 | v::r,a,b,off=>by
  simp only [put1]
  rw [List.set_append_right _ _ (by omega),show a.length+off - a.length=off by omega,show a.length+off+1=a.length+(off+1) by omega,zH2 r a _ (off+1)]
theorem zLK {α:Type} {enc:α→List Value} {k:Nat} (henc:∀ x,(enc x).length=k) (vs tail:List Value) (j:Nat) (x':α):∀ (xs:List α) (i:Nat) (x:α),xs[i]?=some x→put1 (enc x) j vs=enc x'→j+vs.length≤k→put1 (xs.flatMap enc++tail) (i * k+j) vs=(xs.set i x').flatMap enc++tail
 | [],i,x,h,_,_=>by simp at h
 | y::r,0,x,h,h1,h2=>by
  simp at h;subst h
  simp only [List.flatMap_cons,List.set_cons_zero,List.append_assoc,Nat.zero_mul,Nat.zero_add]
  rw [zJA _ _ _ _ (by rw [henc];exact h2),h1]
 | y::r,i+1,x,h,h1,h2=>by
  have ih:=zLK henc vs tail j x' r i x (by simpa using h) h1 h2
  simp only [List.flatMap_cons,List.set_cons_succ,List.append_assoc]
  rw [show (i+1) * k+j=(enc y).length+(i * k+j) by rw [henc,Nat.succ_mul];omega,zH2,ih]
def Ent.arr {α:Type} (enc:α→List Value) (k:Nat) (g:Nat) (xs:List α):Ent :=
 ⟨(· = g),fun w=>∃ tail:List Value,Blk w g (xs.flatMap enc++tail).toArray,fun _ _ _ h ⟨tl,hp⟩=>⟨tl,hp.same (h g rfl)⟩⟩
class zJh (H:List Ent) (g:Nat) {α:outParam Type} (enc:outParam (α→List Value)) (k:outParam Nat) (xs:outParam (List α)) (H':outParam (List Ent)):Prop where tk:Take H (.arr enc k g xs) H'
instance (priority := high) takeA_here {H:List Ent} {g:Nat} {α:Type} {enc:α→List Value} {k:Nat} {xs:List α}:zJh (.arr enc k g xs::H) g enc k xs H:=⟨Take.here _ _⟩
instance takeA_there {H H':List Ent} {e:Ent} {g:Nat} {α:Type} {enc:α→List Value} {k:Nat} {xs:List α} [i:zJh H g enc k xs H']:zJh (e::H) g enc k xs (e::H'):=⟨Take.there _ i.tk⟩
section
variable {P : Program} {w0:World} {n:Nat} {d:List Deferred} {R:List (Nat × Value)} {H H':List Ent} {Q:Exit→Act→World→Prop} {ops:Array Oper} {rest:List Oper} {o:Oper} {t:Tmp} {x y:Operand} {X:Act→World→Prop}
instance srcI_arr {g i k:Nat} {α:Type} {enc:α→List Value} {xs:List α} {z:α} [ei:zBw enc k] [i1:zJh H g enc k xs H'] [i2:zAT xs i z]:zFs w0 H g (0+i * k) (enc z):=⟨fun w hb ho j v hv=>by
 obtain ⟨tl,hB⟩:=(ho.here _ i1.tk.mem:∃ tail:List Value,Blk w g (xs.flatMap enc++tail).toArray)
 have h1:=zEY ei.len xs i z i2.get j v hv
 rw [hB.cell]
 have hlt:=(List.getElem?_eq_some_iff.1 h1).1
 rw [show 0+i * k+j=i * k+j by omega]
 simp only [List.getElem?_toArray]
 rw [List.getElem?_append_left hlt]
 exact h1⟩
theorem zHe {α:Type} {enc:α→List Value} {k g i j s:Nat} {T1:TypeId} {td:TypeDesc} {gg:Bool} {xs:List α} {z:α} {v:Value} (z':α) (hop:o.op = .store T1 x y) [i1:TyI P T1 td s gg] (hw:want R ops o=some true) (hd:o.dst=none) (hx:evR R x=some (.pointer (some ⟨g,0+i * k+j,none⟩))) (hy:evR R y=some v) [ei:zBw enc k] [i2:zJh H g enc k xs H'] [i3:zAT xs i z]
  (hc:put1 (enc z) j v.cells.toList=enc z') (hv:Nat.beq v.cells.toList.length s=true) (h1:v.cells.toList.all Value.oneCell'=true) (hj:j+s≤k)
  (h:U w0 n d R (.arr enc k g (xs.set i z')::H') (wpL ro P ops Q rest)):U w0 n d R H (wpL ro P ops Q (o::rest)):=fun a w q=>by
 have ho:=q.own.take i2.tk
 obtain ⟨tl,hB⟩:=(ho.here (.arr enc k g xs) (by simp):∃ tail:List Value,Blk w g (xs.flatMap enc++tail).toArray)
 have hs:v.cells.toList.length=s:=Nat.eq_of_beq_eq_true hv
 have q2:Kn w0 n d R (.blk g (xs.flatMap enc++tl)::H') a w:=q.heap q.below (ho.recast (fun _=>hB) (fun b hb=>hb))
 have hlen:i * k+k≤(xs.flatMap enc).length:=by
  have:(xs.flatMap enc).length=xs.length * k:=by simp [List.length_flatMap,ei.len,List.map_const',List.sum_replicate_nat]
  have hi:=(List.getElem?_eq_some_iff.1 i3.get).1
  rw [this,← Nat.succ_mul]
  exact Nat.mul_le_mul_right k hi
 refine zMj hop hw hd hx hy (Take.here _ _) hv h1 (Nat.ble_eq_true_of_le (by rw [List.length_append];omega)) (cs':=(xs.set i z').flatMap enc++tl) (by
  rw [show 0+i * k+j=i * k+j by omega]
  exact zLK ei.len _ tl j z' xs i z i3.get hc (by rw [hs];exact hj)) ?_ a w q2
 intro a' w' q'
 exact h a' w' (q'.heap q'.below (q'.own.recast (fun hp=>⟨tl,hp⟩) (fun b hb=>hb)))
theorem zDs {α:Type} {enc:α→List Value} {k e:Nat} {A:Option Addr} {m c:Nat} {xs:List α} (ht:Take H (.row enc k e (.slice A m c) xs) H') (h0:0<xs.length) (h:∀ g,A=some ⟨g,0,none⟩→U w0 n d R (.arr enc k g xs::H') X):U w0 n d R H X:=fun a w q=>by
 have ho:=q.own.take ht
 obtain ⟨h1,h2⟩:=(ho.here (.row enc k e (.slice A m c) xs) (by simp):Row enc k e 0 w (.slice A m c) xs)
 rcases h2 with ⟨_,h2⟩ | ⟨g,cap,cur,hv,_,hg,_,_,_,h8⟩
 ·omega
 ·cases hv
  have hB:Blk w g (xs.flatMap enc++cur.toList.drop (xs.length * k)).toArray:=by
   unfold Blk
   refine ⟨e,?_⟩
   rw [hg,← h8,List.take_append_drop]
  exact h g rfl a w (q.heap q.below (ho.recast (fun _=>⟨_,hB⟩) (fun b hb=>by cases hb;rfl)))
theorem Own.zMg {α:Type} {enc:α→List Value} {k base g:Nat} [ei:zBw enc k] {w:World} {xs:List α} (ht:Take H (.arr enc k g xs) H') (h:Own base w H):Own base w (.sl enc k (some ⟨g,0,none⟩) xs::H'):=by
 refine (h.take ht).recast (fun hp=>?_) ?_
 ·obtain ⟨tl,hB⟩:=hp
  intro i z hz
  refine ⟨g,0,rfl,hB.lt,fun j v hv=>?_⟩
  have h1:=zEY ei.len xs i z hz j v hv
  rw [hB.cell]
  have hlt:=(List.getElem?_eq_some_iff.1 h1).1
  simp only [List.getElem?_toArray,Nat.zero_add]
  rw [List.getElem?_append_left hlt]
  exact h1
 ·rintro b ⟨o,hA⟩
  cases hA
  rfl
end
open Go.RowKit
open Go.ChangeMaps (setBlock)
def feet (H:List Ent) (b:Nat):Prop:=∃ e∈H,e.S b
def Ent.oldx (w:World) (lo:Nat) (S:Nat→Prop):Ent :=
 ⟨fun b=>(lo≤b∧b<w.heap.size)∧¬ S b,fun w'=>w.heap.size≤w'.heap.size∧∀ b,(lo≤b∧b<w.heap.size)∧¬ S b→w'.heap[b]?=w.heap[b]?,fun _ _ hs h hp=>⟨Nat.le_trans hp.1 hs,fun b hb=>(h b hb).trans (hp.2 b hb)⟩⟩
def zC3 {α:Type} (w:World) (H:List Ent) (V:α→Value) (C:α→List Ent) (p:α→Prop) (e:Ending) (w':World):Prop :=
 ∃ x,p x∧e = .returned (V x)∧(w'.os=w.os∧w'.tape=w.tape∧w'.output=w.output∧w.heap.size≤w'.heap.size)∧(∀ b,b<w.heap.size→¬ feet H b→w'.heap[b]?=w.heap[b]?)∧Own 0 w' (C x)∧∀ b,feet (C x) b→feet H b∨w.heap.size≤b
def zFN (P:Program) (f:FuncId) (args:List Value) (w:World) (H:List Ent) {α:Type} (V:α→Value) (C:α→List Ent) (p:α→Prop):Prop :=
 Calls P f args.toArray w (zC3 w H V C p)
theorem zFN.calls {P:Program} {f:FuncId} {args:List Value} {w:World} {H:List Ent} {α:Type} {V:α→Value} {C:α→List Ent} {p:α→Prop} (h:zFN P f args w H V C p):Calls P f args.toArray w (zC3 w H V C p):=h
theorem zFN.of {P:Program} {f:FuncId} {args:List Value} {w:World} {H:List Ent} {α:Type} {V:α→Value} {C:α→List Ent} {p:α→Prop} (h:Calls P f args.toArray w (zC3 w H V C p)):zFN P f args w H V C p:=h
attribute [irreducible] zFN
theorem zCn {w:World} {g:Nat} (h:g≤w.heap.size):(zBR w g).heap.size=g:=by simp [zBR];omega
theorem zHH {w:World} {g:Nat} (h:g≤w.heap.size):Below (zBR w g).heap.size (zBR w g) w :=
 ⟨rfl,rfl,rfl,by rw [zCn h];omega,fun k hk=>by
  rw [zCn h] at hk
  simp only [zBR,Array.getElem?_extract]
  rw [if_pos (by omega)];simp⟩
theorem Own.base {base base':Nat} {w:World} {H:List Ent} (h:Own base w H) (hb:∀ b,feet H b→base'≤b):Own base' w H :=
 ⟨h.here,fun e he b hS=>⟨hb b ⟨e,he,hS⟩,(h.foot e he b hS).2⟩,h.apart⟩
section
variable {P : Program} {w0:World} {n:Nat} {d:List Deferred} {R:List (Nat × Value)} {H H' H1 H2:List Ent} {Q:Exit→Act→World→Prop} {ops:Array Oper} {rest:List Oper} {o:Oper} {t:Tmp} {x y z:Operand} {v:Value}
theorem zHz {α:Type} {f:FuncId} {fn:Func} {c:Code} {args:List Value} {w:World} {V:α→Value} {C:α→List Ent} {p:α→Prop} {n:Nat} (lo:Nat) (hlo:lo≤w.heap.size) (hO:Own lo w H) (hf:P.funcs[f]?=some fn) (hb:fn.body=some c) (hnn:fn.ntmps=n) (hn:Nat.ble args.length n=true)
  (h:U (zBR w lo) n [] (zJf 0 args) (H++[.oldx w lo (feet H)]) (c.wpI none P (zEF P fn (zC3 w H V C p)))):zFN P f args w H V C p :=
 zFN.of <| (callsIn_wide (n:=9)).1 <| callsIn_of_wp_marks hf hb trivial (h _ _ ⟨by have:=Nat.le_of_ble_eq_true hn;simp;omega,rfl,fun t v ht=>by
  have:=zFK args 0 t v ht
  obtain ⟨_,h2⟩:=this
  simp only [Nat.sub_zero] at h2
  have hlt:t<args.length:=by
   rcases Nat.lt_or_ge t args.length with h|h
   ·exact h
   ·rw [List.getElem?_eq_none h] at h2;cases h2
  rw [Array.getD_eq_getD_getElem?,Array.getElem?_append_left (by simpa using hlt)]
  simp [h2],zHH hlo,by
  rw [zCn hlo]
  refine Own.append.2 ⟨hO,⟨fun e he=>?_,fun e he b hb=>?_,by simp⟩,fun e he f hf b hb hb'=>?_⟩
  ·simp only [List.mem_singleton] at he;subst he;exact ⟨Nat.le_refl _,fun b _=>rfl⟩
  ·simp only [List.mem_singleton] at he;subst he;exact hb.1
  ·simp only [List.mem_singleton] at hf;subst hf;exact hb'.2 ⟨e,he,hb⟩⟩)
theorem zFx {α:Type} {fn:Func} {V:α→Value} {C:α→List Ent} {p:α→Prop} {vs:List Value} {w:World} {lo:Nat} {H0:List Ent} (hres:zi P (zBR w lo) R H fn.results.toList vs) (z:α) (hp:p z) (hV:V z=resV vs) (hlo:lo≤w.heap.size)
  (ho:∀ w',Own lo w' H→Own lo w' (C z++[.oldx w lo (feet H0)])):U (zBR w lo) n [] R H (zEF P fn (zC3 w H0 V C p) .ret):=fun a w' q=>by
 have hq:=q.own
 rw [zCn hlo] at hq
 have hH:=ho _ hq
 obtain ⟨hc,hol,hap⟩:=Own.append.1 hH
 have hsz:w.heap.size≤w'.heap.size:=(hol.here (.oldx w lo (feet H0)) (by simp)).1
 show LeavesInM Fence.wide 9 P fn a.tmps _ a.defers .returning w'
 rw [q.defers]
 refine ⟨resV vs,zEq q hres,z,hp,by rw [hV],⟨q.below.os,q.below.tape,q.below.output,hsz⟩,fun b hb hne=>?_,⟨hc.here,fun e he b hS=>⟨Nat.zero_le _,(hc.foot e he b hS).2⟩,hc.apart⟩,fun b hb=>?_⟩
 ·rcases Nat.lt_or_ge b lo with h|h
  ·have:=q.below.block b (by rw [zCn hlo];exact h)
   exact this.trans ((zHH hlo).block b (by rw [zCn hlo];exact h)).symm
  ·exact (hol.here (.oldx w lo (feet H0)) (by simp)).2 b ⟨⟨h,hb⟩,hne⟩
 ·rcases Nat.lt_or_ge b w.heap.size with h|h
  ·refine .inl (Classical.byContradiction fun hn=>?_)
   obtain ⟨e,he,hS⟩:=hb
   exact hap e he (.oldx w lo (feet H0)) (by simp) b hS ⟨⟨(hc.foot e he b hS).1,h⟩,hn⟩
  ·exact .inr h
theorem u_endF {α:Type} {fn:Func} {V:α→Value} {C:α→List Ent} {p:α→Prop} {w w0:World} {H0:List Ent} (h:U w0 n d R H (zEF P fn (zC3 w H0 V C p) .ret)):U w0 n d R H (zEF P fn (zC3 w H0 V C p) .normal):=h
theorem zH7 {base:Nat} {w w':World} {H2 H' E:List Ent} (hH:Own base w (H2++H')) (hB:base≤w.heap.size) (h4:w.heap.size≤w'.heap.size) (h5:∀ b,b<w.heap.size→¬ feet H2 b→w'.heap[b]?=w.heap[b]?) (h6:Own 0 w' E) (h7:∀ b,feet E b→feet H2 b∨w.heap.size≤b):Own base w' (E++H'):=by
 obtain ⟨a1,a2,a3⟩:=Own.append.1 hH
 refine Own.append.2 ⟨⟨h6.here,fun e he b hS=>⟨?_,(h6.foot e he b hS).2⟩,h6.apart⟩,a2.past h4 (fun e he b hS=>h5 b (a2.foot e he b hS).2 ?_),fun e he f hf b hb hb'=>?_⟩
 ·rcases h7 b ⟨e,he,hS⟩ with ⟨f,hf,hS'⟩|h
  ·exact (a1.foot f hf b hS').1
  ·omega
 ·rintro ⟨f,hf,hS'⟩
  exact a3 f hf e he b hS' hS
 ·rcases h7 b ⟨e,he,hb⟩ with ⟨g,hg,hS'⟩|h
  ·exact a3 g hg f hf b hS' hb'
  ·have:=(a2.foot f hf b hb').2;omega
theorem zEM {f:FuncId} {fx:Operand} {xs:Array Operand} {ts:Array TypeId} {vs:List Value} {cap:Array Value} {α:Type} {V:α→Value} {C:α→List Ent} {p:α→Prop} (H2 H':List Ent) (hop:o.op = .call ⟨.value fx,xs,ts⟩) (hrd:rdy R ops n o=some t) (hf:evR R fx=some (.func (.func f) #[] cap)) (hx:evs R xs.toList=some vs) [ci:zU P f] (hs:Out H (H2++H'))
  (hc:∀ a w,Kn w0 n d R (H2++H') a w→zFN P f (vs++cap.toList) w H2 V C p) (h:∀ x,p x→U w0 n d ((t,V x)::R) (C x++H') (wpL ro P ops Q rest)):U w0 n d R H (wpL ro P ops Q (o::rest)) :=
 zDh (rW hrd) fun a w q K hK=>by
  unfold Oper.wp execOp;rw [hop]
  have e1:xs.map a.eval=vs.toArray:=by apply Array.ext';simpa using q.evs hx
  have e2:vs.toArray++cap=(vs++cap.toList).toArray:=by apply Array.ext';simp
  simp only [resolve,q.ev hf,e1,Deferred.ofValue,Sem.run_bind,Sem.run_pure,Result.andThen_ok,invoke,Array.empty_append,e2,ci.ent,Oper.upon_enter,(rD hrd)]
  have q2:=q.sub (fun _ _ h=>h) hs
  refine Calls.mono (hc a w q2).calls ?_
  rintro e w' ⟨z,hp,rfl,⟨h1,h2,h3,h4⟩,h5,h6,h7⟩
  refine hK _ _ (h z hp _ _ ((q.heap (q.below.trans ⟨h1,h2,h3,h4,fun b hb=>h5 b (by have:=q.base;omega) ?_⟩) (zH7 q2.own q.base h4 h5 h6 h7)).put (rT hrd)))
  rintro ⟨e,he,hS⟩
  have:=(q2.own.foot e (List.mem_append_left _ he) b hS).1
  omega
end
def Ent.map (m:Nat) (es:Array MapEntry) (c:Nat):Ent:=⟨(· = m),fun w=>w.heap[m]?=some (.map es c),fun _ _ _ h hp=>(h m rfl).trans hp⟩
theorem zGh {P:Program} {w:World} {e:Bool} {N:Nat} {kt:TypeId} {kd:IntKind} {i:Int} (hk:P.underlying kt=some (.int kd)):(Instr.checkKey e (N+1) kt (.int kd i)).run P w = .ok () w:=by
 have e1:=run_underlying hk w
 simp [Instr.checkKey,e1,Sem.run_bind]
section
variable {P : Program} {w0:World} {n:Nat} {d:List Deferred} {R:List (Nat × Value)} {H H' H1 H2:List Ent} {Q:Exit→Act→World→Prop} {ops:Array Oper} {rest:List Oper} {o:Oper} {t:Tmp} {x y z:Operand} {v:Value}
theorem zBo {w:World} {r:Nat} {ob:Obj} {B:Nat} (hr:B≤r):Below B w (setBlock w r ob) :=
 ⟨rfl,rfl,rfl,by simp [setBlock],fun b hb=>by
  simp only [setBlock]
  rw [Array.getElem?_setIfInBounds_ne (by omega)]⟩
end
end Go.Proofs.YtdigopgncfhiaaaGreatDoor
namespace Go.Proofs.YtdigopgncfhiaaaGreatDoor
variable {ro : Option Nat}
open Go.RowKit
def dL (bs:List Nat):List Deferred:=bs.map fun b=>{ target:=.collected b,args:=#[] }
def Ent.dfr (bs:List Nat):Ent:=⟨fun b=>b∈bs,fun w=>bs.Nodup∧∀ b,b∈bs→w.heap[b]?=some (.deferred (some [])),fun _ _ _ h hp=>⟨hp.1,fun b hb=>(h b hb).trans (hp.2 b hb)⟩⟩
def Ent.lrec (l:Nat) (r:Loop):Ent:=⟨(· = l),fun w=>w.heap[l]?=some (.loop r),fun _ _ _ h hp=>(h l rfl).trans hp⟩
def Ent.all (L:List Ent):Ent:=⟨feet L,fun w=>Own 0 w L,fun _ _ hs h hp=>hp.past hs fun e he b hb=>h b ⟨e,he,hb⟩⟩
theorem zBI {base:Nat} {w:World} {L B:List Ent}:Own base w (L++B)↔Own base w (.all L::B):=by
 constructor
 ·intro h
  obtain ⟨h1,h2,h3⟩:=Own.append.1 h
  refine ⟨fun e he=>?_,fun e he b hb=>?_,List.pairwise_cons.2 ⟨fun f hf b hb hb'=>?_,h2.apart⟩⟩
  ·rcases List.mem_cons.1 he with rfl|he
   ·exact ⟨h1.here,fun e he b hb=>⟨Nat.zero_le _,(h1.foot e he b hb).2⟩,h1.apart⟩
   ·exact h2.here e he
  ·rcases List.mem_cons.1 he with rfl|he
   ·obtain ⟨f,hf,hS⟩:=hb
    exact h1.foot f hf b hS
   ·exact h2.foot e he b hb
  ·obtain ⟨e,he,hS⟩:=hb
   exact h3 e he f hf b hS hb'
 ·intro h
  have h0:Own 0 w L:=h.here (.all L) (by simp)
  obtain ⟨a1,a2⟩:=List.pairwise_cons.1 h.apart
  exact Own.append.2 ⟨⟨h0.here,fun e he b hb=>⟨(h.foot (.all L) (by simp) b ⟨e,he,hb⟩).1,(h0.foot e he b hb).2⟩,h0.apart⟩,h.tail,fun e he f hf b hb hb'=>a1 f hf b ⟨e,he,hb⟩ hb'⟩
theorem zBA {base:Nat} {w:World} {D L B:List Ent}:Own base w ((D++L)++B)↔Own base w (D ++ .all L::B):=by
 rw [List.append_assoc]
 constructor
 ·intro h
  obtain ⟨h1,h2,h3⟩:=Own.append.1 h
  refine Own.append.2 ⟨h1,zBI.1 h2,fun e he f hf b hb hb'=>?_⟩
  rcases List.mem_cons.1 hf with rfl|hf
  ·obtain ⟨g,hg,hS⟩:=hb'
   exact h3 e he g (List.mem_append_left _ hg) b hb hS
  ·exact h3 e he f (List.mem_append_right _ hf) b hb hb'
 ·intro h
  obtain ⟨h1,h2,h3⟩:=Own.append.1 h
  refine Own.append.2 ⟨h1,zBI.2 h2,fun e he f hf b hb hb'=>?_⟩
  rcases List.mem_append.1 hf with hf|hf
  ·exact h3 e he (.all L) (by simp) b hb ⟨f,hf,hb'⟩
  ·exact h3 e he f (List.mem_cons_of_mem _ hf) b hb hb'
def YieldF (P:Program) (l:Nat) (args:List Value) (w:World) (H:List Ent) (go:Bool) {ι:Type} (C:ι→List Ent) (p:ι→Prop):Prop :=
 YieldAt Fence.wide 8 P l args.toArray w (zC3 w H (fun _:ι=>.bool go) C p)
def Seq (P:Program) (gf:FuncId) (lb:List Value) (D:List Ent) {α:Type} (enc:α→List Value) (xs:List α) (wb:World):Prop :=
 ∀ (ι:Type) (l m:Nat) (I:Nat→ι→Prop) (C:ι→List Ent) (go:Nat→Bool) (s0:ι) (w:World),Below wb.heap.size wb w→I 0 s0→Own wb.heap.size w (D++C s0)→m≤xs.length→(∀ k,k+1<m→go k=true)→(m=xs.length∨(0<m∧go (m - 1)=false)) →
  (∀ k x s W,k<m→xs[k]?=some x→I k s→Below wb.heap.size wb W→Own wb.heap.size W (D++C s)→YieldF P l (enc x) W (D++C s) (go k) (fun s'=>D++C s') (I (k+1))) →
  zFN P gf (.func (.yield l) #[] #[]::lb) w (D++C s0) (fun _:ι=>.tuple #[]) (fun s=>D++C s) (I m)
section
variable {P : Program} {w0:World} {n:Nat} {d:List Deferred} {R:List (Nat × Value)} {H H' H1 H2:List Ent} {Q:Exit→Act→World→Prop} {ops:Array Oper} {rest:List Oper} {o:Oper} {t:Tmp} {x y z:Operand} {v:Value}
theorem zHy {α:Type} {f:FuncId} {fn:Func} {c:Code} {args:List Value} {w:World} {V:α→Value} {C:α→List Ent} {p:α→Prop} {n:Nat} {wb:World} (hwb:Below wb.heap.size wb w) (hO:Own wb.heap.size w H) (hf:P.funcs[f]?=some fn) (hb:fn.body=some c) (hnn:fn.ntmps=n) (hn:Nat.ble args.length n=true)
  (h:U wb n [] (zJf 0 args) (H++[.oldx w wb.heap.size (feet H)]) (c.wpI none P (zEF P fn (zC3 w H V C p)))):zFN P f args w H V C p :=
 zFN.of <| (callsIn_wide (n:=9)).1 <| callsIn_of_wp_marks hf hb trivial (h _ _ ⟨by have:=Nat.le_of_ble_eq_true hn;simp;omega,rfl,fun t v ht=>by
  have:=zFK args 0 t v ht
  obtain ⟨_,h2⟩:=this
  simp only [Nat.sub_zero] at h2
  have hlt:t<args.length:=by
   rcases Nat.lt_or_ge t args.length with h|h
   ·exact h
   ·rw [List.getElem?_eq_none h] at h2;cases h2
  rw [Array.getD_eq_getD_getElem?,Array.getElem?_append_left (by simpa using hlt)]
  simp [h2],hwb,by
  refine Own.append.2 ⟨hO,⟨fun e he=>?_,fun e he b hb=>?_,by simp⟩,fun e he f hf b hb hb'=>?_⟩
  ·simp only [List.mem_singleton] at he;subst he;exact ⟨Nat.le_refl _,fun b _=>rfl⟩
  ·simp only [List.mem_singleton] at he;subst he;exact hb.1
  ·simp only [List.mem_singleton] at hf;subst hf;exact hb'.2 ⟨e,he,hb⟩⟩)
theorem zHO {α:Type} {fn:Func} {V:α→Value} {C:α→List Ent} {p:α→Prop} {vs:List Value} {w wb:World} {H0:List Ent} (hres:zi P wb R H fn.results.toList vs) (z:α) (hp:p z) (hV:V z=resV vs) (hwb:Below wb.heap.size wb w)
  (ho:∀ w',Own wb.heap.size w' H→Own wb.heap.size w' (C z++[.oldx w wb.heap.size (feet H0)])):U wb n [] R H (zEF P fn (zC3 w H0 V C p) .ret):=fun a w' q=>by
 have hq:=q.own
 have hH:=ho _ hq
 obtain ⟨hc,hol,hap⟩:=Own.append.1 hH
 have hsz:w.heap.size≤w'.heap.size:=(hol.here (.oldx w wb.heap.size (feet H0)) (by simp)).1
 show LeavesInM Fence.wide 9 P fn a.tmps _ a.defers .returning w'
 rw [q.defers]
 refine ⟨resV vs,zEq q hres,z,hp,by rw [hV],⟨q.below.os.trans hwb.os.symm,q.below.tape.trans hwb.tape.symm,q.below.output.trans hwb.output.symm,hsz⟩,fun b hb hne=>?_,⟨hc.here,fun e he b hS=>⟨Nat.zero_le _,(hc.foot e he b hS).2⟩,hc.apart⟩,fun b hb=>?_⟩
 ·rcases Nat.lt_or_ge b wb.heap.size with h|h
  ·exact (q.below.block b h).trans (hwb.block b h).symm
  ·exact (hol.here (.oldx w wb.heap.size (feet H0)) (by simp)).2 b ⟨⟨h,hb⟩,hne⟩
 ·rcases Nat.lt_or_ge b w.heap.size with h|h
  ·refine .inl (Classical.byContradiction fun hn=>?_)
   obtain ⟨e,he,hS⟩:=hb
   exact hap e he (.oldx w wb.heap.size (feet H0)) (by simp) b hS ⟨⟨(hc.foot e he b hS).1,h⟩,hn⟩
  ·exact .inr h
theorem u_endG {α:Type} {fn:Func} {V:α→Value} {C:α→List Ent} {p:α→Prop} {w wb:World} {H0:List Ent} (h:U wb n d R H (zEF P fn (zC3 w H0 V C p) .ret)):U wb n d R H (zEF P fn (zC3 w H0 V C p) .normal):=h
theorem zE1 {ι:Type} {C:ι→List Ent} {p:ι→Prop} {l:Nat} {go:Bool} {D L:List Ent} {fx:Operand} {xs:Array Operand} {ts:Array TypeId} {vs:List Value} (hop:o.op = .call ⟨.value fx,xs,ts⟩) (hrd:rdy R ops n o=some t) (hf:evR R fx=some (.func (.yield l) #[] #[])) (hx:evs R xs.toList=some vs) (H':List Ent) (hs:Out H (D ++ .all L::H'))
  (hc:∀ a w,Kn w0 n d R (D ++ .all L::H') a w→YieldF P l vs w (D++L) go (fun s=>D++C s) p) (h:∀ s,p s→U w0 n d ((t,.bool go)::R) (D ++ .all (C s)::H') (wpL ro P ops Q rest)):U w0 n d R H (wpL ro P ops Q (o::rest)):=fun a w k =>
 wpListIn_step fun K hK=>by
  rw [zBO k (rW hrd),if_pos rfl]
  have q:=k.sub (fun _ _ h=>h) hs
  obtain ⟨f,tmps,assign,body,hy,hR⟩:=hc a w q
  refine ⟨fun _ _=>trivial,?_⟩
  rw [Oper.semAt_plain (FW ro) _ _ (fun c hc=>by rw [hop] at hc;cases hc)]
  have e1:xs.map a.eval=vs.toArray:=by apply Array.ext';simpa using k.evs hx
  unfold execOp;rw [hop]
  simp only [resolve,k.ev hf,e1,Deferred.ofValue,Sem.run_bind,Sem.run_pure,Result.andThen_ok,invoke,Array.empty_append,Array.append_empty,hy,Oper.uponIn_round,(rD hrd)]
  refine ⟨fun h=>(by cases h),?_⟩
  refine RoundIn.mono (F:=FW ro) ⟨trivial,fun c cs hr=>hR.2 c cs (room_wide _)⟩ ?_
  rintro e w' ⟨z,hp,rfl,⟨h1,h2,h3,h4⟩,h5,h6,h7⟩
  have h8:=zH7 (zBA.2 q.own) q.base h4 h5 h6 h7
  refine hK _ _ (h z hp _ _ ((q.heap (q.below.trans ⟨h1,h2,h3,h4,fun b hb=>h5 b (by have:=q.base;omega) ?_⟩) (zBA.1 h8)).put (rT hrd)))
  rintro ⟨e,he,hS⟩
  have:=((zBA.2 q.own).foot e (List.mem_append_left _ he) b hS).1
  omega
def rndB (P:Program) (l:Nat) (W:World) (H:List Ent) (go:Bool) {ι:Type} (C:ι→List Ent) (p:ι→Prop):Exit→Act→World→Prop:=roundPost P l (zC3 W H (fun _:ι=>.bool go) C p)
def rndA (P:Program) (l:Nat) (body:Code) (Q:Exit→Act→World→Prop):Exit→Act→World→Prop:=Exit.then (fun a₁ w₁=>∃ w₂,(Instr.beginRound l).run P w₁ = .ok () w₂∧body.wpIn (FW (some l)) 8 P Q a₁ w₂) (fun _ _ _=>False)
theorem zH5 {base l:Nat} {w:World} {r r':Loop} (h:Own base w (.lrec l r::H)) (hB:base≤w.heap.size):Own base (w.putObj l (.loop r')) (.lrec l r'::H):=by
 have hf:=h.foot (.lrec l r) (by simp) l rfl
 exact h.turn (by simp) (fun b _ hn=>World.putObj_heap_other (fun e=>hn e)) hB (World.putObj_heap_same hf.2) (fun b hb=>by cases hb;exact ⟨.inl rfl,by simpa using hf.2⟩)
theorem zEc {w:World} {l B:Nat} (ob:Obj) (hl:B≤l):Below B w (w.putObj l ob):=⟨rfl,rfl,rfl,by simp,fun b hb=>World.putObj_heap_other (by omega)⟩
theorem zJp {l:Nat} {r:Loop} {body:Code} (ht:Take H (.lrec l r) H') (hr:r.state = .ready) (h:U w0 n d R (.lrec l { r with state:=.busy } :: H') (body.wpI (some l) P Q)):U w0 n d R H (rndA P l body Q .normal):=fun a w q=>by
 have ho:=q.own.take ht
 have hl:w.heap[l]?=some (.loop r):=ho.here (.lrec l r) (by simp)
 exact ⟨_,run_beginRound hl hr,wpFW (h _ _ (q.heap (q.below.trans (zEc _ (ho.foot (.lrec l r) (by simp) l rfl).1)) (zH5 ho q.base)))⟩
theorem zEk {ι:Type} {C:ι→List Ent} {p:ι→Prop} {l:Nat} {r:Loop} {W:World} {H2:List Ent} (j:Option Code) {e:Exit} (he:(e = .normal∧j=none)∨(e = .ret∧j=some .ret)∨∃ id,e = .exit id∧j=some (.exit id)) {go:Bool} (hgo:go=j.isNone) (ht:Take H (.lrec l r) H') (s:ι) (hp:p s) (hW:Below w0.heap.size w0 W)
  (ho:∀ w',Own w0.heap.size w' (.lrec l { r with state:=if j.isNone then .ready else .done,pending:=j } :: H')→Own w0.heap.size w' (C s++[.oldx W w0.heap.size (feet H2)])):U w0 n d R H (rndB P l W H2 go C p e):=fun a w q=>by
 have ho1:=q.own.take ht
 have hl:w.heap[l]?=some (.loop r):=ho1.here (.lrec l r) (by simp)
 have hrun:=run_endRound (P:=P) j hl
 have hfl:=(ho1.foot (.lrec l r) (by simp) l rfl).1
 have hO:=ho _ (zH5 (r':={ r with state:=if j.isNone then .ready else .done,pending:=j }) ho1 q.base)
 have hB:=q.below.trans (zEc (w:=w) (.loop { r with state:=if j.isNone then .ready else .done,pending:=j }) hfl)
 obtain ⟨hc,hol,hap⟩:=Own.append.1 hO
 have key:zC3 W H2 (fun _:ι=>Value.bool go) C p (.returned (.bool j.isNone)) (w.putObj l (.loop { r with state:=if j.isNone then .ready else .done,pending:=j })):=by
  refine ⟨s,hp,by rw [hgo],⟨hB.os.trans hW.os.symm,hB.tape.trans hW.tape.symm,hB.output.trans hW.output.symm,(hol.here (.oldx W w0.heap.size (feet H2)) (by simp)).1⟩,fun b hb hne=>?_,⟨hc.here,fun e he b hS=>⟨Nat.zero_le _,(hc.foot e he b hS).2⟩,hc.apart⟩,fun b hb=>?_⟩
  ·rcases Nat.lt_or_ge b w0.heap.size with h|h
   ·exact (hB.block b h).trans (hW.block b h).symm
   ·exact (hol.here (.oldx W w0.heap.size (feet H2)) (by simp)).2 b ⟨⟨h,hb⟩,hne⟩
  ·rcases Nat.lt_or_ge b W.heap.size with h|h
   ·refine .inl (Classical.byContradiction fun hn=>?_)
    obtain ⟨e,he,hS⟩:=hb
    exact hap e he (.oldx W w0.heap.size (feet H2)) (by simp) b hS ⟨⟨(hc.foot e he b hS).1,h⟩,hn⟩
   ·exact .inr h
 unfold rndB
 rcases he with ⟨rfl,rfl⟩ | ⟨rfl,rfl⟩ | ⟨id,rfl,rfl⟩
 ·exact ⟨_,_,hrun,key⟩
 ·exact ⟨_,_,hrun,key⟩
 ·exact ⟨_,_,hrun,key⟩
def parR : List Tmp→List Value→List (Nat × Value)
 | p::ps,v::vs=>parR ps vs++[(p,v)]
 | _,_=>[]
theorem zJK {A B:List (Nat × Value)} {t:Nat}:lk (A++B) t=(lk A t).or (lk B t):=by
 induction A with
 | nil=>simp [lk]
 | cons p A ih =>
  obtain ⟨u,v⟩:=p
  simp only [List.cons_append,lk]
  cases Nat.beq u t<;>simp [ih]
theorem zJC {R:List (Nat × Value)}:∀ (ps:List Tmp) (vs:List Value) (tm:Array Value),(∀ p∈ps,p<tm.size)→(∀ t v,lk R t=some v→tm.getD t undef=v)→∀ t v,lk (parR ps vs++R) t=some v→((ps.zip vs).foldl (fun t (p,v)=>t.setIfInBounds p v) tm).getD t undef=v
 | [],vs,tm,_,h,t,v,hl=>h t v (by simpa [parR] using hl)
 | p::ps,[],tm,_,h,t,v,hl=>h t v (by simpa [parR] using hl)
 | p::ps,x::vs,tm,hp,h,t,v,hl=>by
  simp only [List.zip_cons_cons,List.foldl_cons]
  refine zJC (R:=(p,x)::R) ps vs (tm.setIfInBounds p x) (fun q hq=>by simpa using hp q (List.mem_cons_of_mem _ hq)) (fun t v hl=>?_) t v (by simpa [parR] using hl)
  have hlt:=hp p (by simp)
  by_cases e:p=t
  ·subst e;rw [zB0] at hl;cases hl;simp [hlt]
  ·rw [zBz e] at hl
   have:=h t v hl
   simp only [Array.getD_eq_getD_getElem?] at this ⊢
   rw [Array.getElem?_setIfInBounds_ne e];exact this
theorem zKp : ∀ (l:List (Tmp × Value)) (tm:Array Value),(l.foldl (fun t (p,v)=>t.setIfInBounds p v) tm).size=tm.size
 | [],_=>rfl
 | (p,v)::l,tm=>by rw [List.foldl_cons,zKp l];simp
theorem zMk {ι α:Type} {g:Operand} {ps:Array Tmp} {assign body:Code} {gf:FuncId} {lb:List Value} {bs:List Nat} (D:List Ent) (enc:α→List Value) (xs:List α) (m:Nat) (I:Nat→ι→Prop) (C:ι→List Ent) (go:Nat→Bool) (cx:Code) (s0:ι)
  (hg:evR R g=some (.func (.func gf) #[] lb.toArray)) [ci:zU P gf] (hs:Out H (D++(C s0++[.dfr bs]))) (h0:I 0 s0) (hm:m≤xs.length) (hgo:∀ k,k+1<m→go k=true) (hend:m=xs.length∨(0<m∧go (m - 1)=false))
  (hps:∀ x,(enc x).length=ps.size) (hpn:∀ p∈ps.toList,p<n) (hcx:cx = .ret∨∃ id,cx = .exit id)
  (hit:Seq P gf lb D enc xs w0)
  (hround:∀ (l k:Nat) (x:α) (s:ι) (r:Loop) (W:World),k<m→xs[k]?=some x→I k s→r.state = .ready→r.pending=none→Below w0.heap.size w0 W →
   U w0 n [] (parR ps.toList (enc x)++R) ((D++(C s++[.lrec l r,.dfr (r.defers::bs)]))++[.oldx W w0.heap.size (feet (D++(C s++[.lrec l r,.dfr (r.defers::bs)])))]) (assign.wpI (some l) P (rndA P l body (rndB P l W (D++(C s++[.lrec l r,.dfr (r.defers::bs)])) (go k) (fun s'=>D++(C s'++[.lrec l (if go k then r else { r with state:=.done,pending:=some cx }),.dfr (r.defers::bs)])) (I (k+1))))))
  (hdone:(m=0∨go (m - 1)=true)→∀ b s,I m s→U w0 n (dL (b::bs)) R (D++(C s++[.dfr (b::bs)])) (Q .normal))
  (hstop:0<m→go (m - 1)=false→∀ b s,I m s→U w0 n (dL (b::bs)) R (D++(C s++[.dfr (b::bs)])) (cx.wpI none P Q)):U w0 n (dL bs) R H ((Code.rangeFunc g ps assign body).wpI none P Q):=fun a w q0=>by
 have q:=q0.sub (fun _ _ h=>h) hs
 refine wpIn_rangeFunc ?_
 intro fn _
 obtain ⟨rec,hrec⟩:∃ rec:LoopState→Option Code→Loop,rec=fun st pe=>{ state:=st,pending:=pe,fn,tmps:=a.tmps,params:=ps,assign,body,defers:=w.heap.size }:=⟨_,rfl⟩
 obtain ⟨W1,hW1⟩:∃ W1,(w.alloc (.deferred (some []))).alloc (.loop (rec .ready none))=W1:=⟨_,rfl⟩
 have hs1:W1.heap.size=w.heap.size+2:=by rw [← hW1];simp
 have hL1:W1.heap[w.heap.size+1]?=some (.loop (rec .ready none)):=by
  rw [← hW1];have:=World.alloc_heap_new (w.alloc (.deferred (some []))) (.loop (rec .ready none));rwa [World.size_alloc] at this
 have hK1:W1.heap[w.heap.size]?=some (.deferred (some [])):=by
  rw [← hW1];exact (Below.heap_alloc _ _ _ (by simp)).trans (World.alloc_heap_new w _)
 have hB1:Below w.heap.size w W1:=by
  rw [← hW1];exact ⟨rfl,rfl,rfl,by simp;omega,fun b hb=>(Below.heap_alloc _ _ _ (by simp;omega)).trans (Below.heap_alloc _ _ _ hb)⟩
 have hBw:Below w0.heap.size w0 W1:=q.below.trans (hB1.mono q.base)
 have hO1:Own w0.heap.size W1 (D++(C s0++[.lrec (w.heap.size+1) (rec .ready none),.dfr (w.heap.size::bs)])):=by
  obtain ⟨p1,p2,p3⟩:=Own.append.1 q.own
  obtain ⟨p4,p5,p6⟩:=Own.append.1 p2
  have hd5:=p5.here (.dfr bs) (by simp)
  have hf5:=p5.foot (.dfr bs) (by simp)
  have b1:=p1.below hB1
  have b4:=p4.below hB1
  have hbs:∀ b,b∈bs→b<w.heap.size:=fun b hb=>(hf5 b hb).2
  refine Own.append.2 ⟨b1,Own.append.2 ⟨b4,⟨fun e he=>?_,fun e he b hb=>?_,?_⟩,fun e he f hf b hb hb'=>?_⟩,fun e he f hf b hb hb'=>?_⟩
  ·simp only [List.mem_cons,List.not_mem_nil,or_false] at he
   rcases he with rfl|rfl
   ·exact hL1
   ·refine ⟨List.nodup_cons.2 ⟨fun hm=>by have:=hbs _ hm;omega,hd5.1⟩,fun b hb=>?_⟩
    rcases List.mem_cons.1 hb with rfl|hb
    ·exact hK1
    ·exact (hB1.block b (hbs b hb)).trans (hd5.2 b hb)
  ·simp only [List.mem_cons,List.not_mem_nil,or_false] at he
   have:=q.base
   rcases he with rfl|rfl
   ·cases hb;omega
   ·rcases List.mem_cons.1 hb with rfl|hb
    ·omega
    ·have:=hf5 b hb;omega
  ·simp only [List.pairwise_cons,List.mem_singleton,forall_eq,List.not_mem_nil,false_implies,implies_true,List.Pairwise.nil,and_true]
   rintro b hb hb'
   cases hb
   rcases List.mem_cons.1 hb' with h|h
   ·omega
   ·have:=hbs _ h;omega
  ·have hlt:=(p4.foot e he b hb).2
   simp only [List.mem_cons,List.not_mem_nil,or_false] at hf
   rcases hf with rfl|rfl
   ·cases hb';omega
   ·rcases List.mem_cons.1 hb' with rfl|h
    ·omega
    ·exact p6 e he (.dfr bs) (by simp) b hb h
  ·have hlt:=(p1.foot e he b hb).2
   rcases List.mem_append.1 hf with hf|hf
   ·exact p3 e he f (List.mem_append_left _ hf) b hb hb'
   ·simp only [List.mem_cons,List.not_mem_nil,or_false] at hf
    rcases hf with rfl|rfl
    ·cases hb';omega
    ·rcases List.mem_cons.1 hb' with rfl|h
     ·omega
     ·exact p3 e he (.dfr bs) (by simp) b hb h
 -- the state of the record behind round k
 obtain ⟨st,hst⟩:∃ st:Nat→Loop,st=fun k=>if k=0 then rec .ready none else if go (k - 1) then rec .ready none else rec .done (some cx):=⟨_,rfl⟩
 have hst0:st 0=rec .ready none:=by rw [hst];simp
 have hstS:∀ k,st (k+1)=if go k then rec .ready none else rec .done (some cx):=fun k=>by rw [hst];simp
 have hstm:∀ k,k<m→st k=rec .ready none:=fun k hk=>by
  rw [hst]
  cases k with
  | zero=>simp
  | succ k=>simp [hgo k (by omega)]
 refine ⟨w.heap.size+1,[{ target:=.collected w.heap.size,args:=#[] }],W1,{ target:=.fn (.func gf) lb.toArray,args:=#[.func (.yield (w.heap.size+1)) #[] #[]] },W1,gf,
  #[.func (.yield (w.heap.size+1)) #[] #[]]++lb.toArray,W1,?_,?_,?_,?_,(fun h=>by cases h),?_⟩
 ·rw [← hW1,hrec];exact run_enterLoop_outer _ _ _ _ _
 ·simp only [resolve,q0.ev hg]
  simp [go_sem]
 ·intro f' _;trivial
 ·simp [invoke,go_sem,ci.ent]
 ·have hseq:=hit (Nat × ι) (w.heap.size+1) m (fun k s=>s.1=k∧I k s.2) (fun s=>C s.2++[.lrec (w.heap.size+1) (st s.1),.dfr (w.heap.size::bs)]) go (0,s0) W1 hBw ⟨rfl,h0⟩ (by rw [hst0];exact hO1) hm hgo hend ?_
  ·have hc:=hseq.calls
   have e9:(#[.func (.yield (w.heap.size+1)) #[] #[]]++lb.toArray:Array Value)=(.func (.yield (w.heap.size+1)) #[] #[]::lb:List Value).toArray:=by apply Array.ext';simp
   rw [e9]
   refine (zM7 (ro:=none) (n:=8) hc).mono ?_
   rintro e W2 ⟨⟨k,s⟩,⟨hk,hI⟩,rfl,⟨h1,h2,h3,h4⟩,h5,h6,h7⟩
   simp only at hk hI
   subst hk
   have h8:Own w0.heap.size W2 (D++(C s++[.lrec (w.heap.size+1) (st k),.dfr (w.heap.size::bs)])):=by
    have hO2:Own w0.heap.size W1 ((D++(C (0,s0).2++[.lrec (w.heap.size+1) (st (0,s0).1),.dfr (w.heap.size::bs)]))++[]):=by
     rw [List.append_nil];simp only [hst0];exact hO1
    have:=zH7 hO2 (by have:=q.base;omega) h4 h5 h6 h7
    rwa [List.append_nil] at this
   have hB2:Below w0.heap.size w0 W2:=hBw.trans ⟨h1,h2,h3,h4,fun b hb=>h5 b (by have:=q.base;omega) (by
    rintro ⟨e,he,hS⟩
    simp only [hst0] at he
    have:=(hO1.foot e he b hS).1
    omega)⟩
   have hl2:W2.heap[w.heap.size+1]?=some (.loop (st k)):=h8.here (.lrec (w.heap.size+1) (st k)) (by simp)
   have hnb:(st k).state≠.busy:=by
    rw [hst,hrec]
    simp only
    split
    ·simp
    ·split<;>simp
   have hend2:=run_endLoop (P:=P) hl2 hnb
   have h9:Own w0.heap.size (W2.putObj (w.heap.size+1) (.loop { st k with state:=.exhausted })) (D++(C s++[.dfr (w.heap.size::bs)])):=by
    have hlo:w0.heap.size≤w.heap.size+1:=by have:=q.base;omega
    obtain ⟨p1,p2,p3⟩:=Own.append.1 h8
    obtain ⟨p4,p5,p6⟩:=Own.append.1 p2
    have hne:∀ e∈D++(C s++[.dfr (w.heap.size::bs)]),∀ b,e.S b→b≠w.heap.size+1:=by
     rintro e he b hb rfl
     rcases List.mem_append.1 he with he|he
     ·exact p3 e he (.lrec (w.heap.size+1) (st k)) (by simp) _ hb rfl
     ·rcases List.mem_append.1 he with he|he
      ·exact p6 e he (.lrec (w.heap.size+1) (st k)) (by simp) _ hb rfl
      ·have:=(List.pairwise_cons.1 p5.apart).1 e (by simpa using he) (w.heap.size+1) rfl hb
       exact this
    have hsub:Own w0.heap.size W2 (D++(C s++[.dfr (w.heap.size::bs)])):=by
     refine Own.append.2 ⟨p1,Own.append.2 ⟨p4,p5.tail,fun e he f hf=>p6 e he f (List.mem_cons_of_mem _ hf)⟩,fun e he f hf=>p3 e he f ?_⟩
     rcases List.mem_append.1 hf with hf|hf
     ·exact List.mem_append_left _ hf
     ·exact List.mem_append_right _ (List.mem_cons_of_mem _ hf)
    exact hsub.past (by simp) (fun e he b hb=>World.putObj_heap_other (fun e'=>hne e he b hb e'))
   have hB3:=hB2.trans (zEc (w:=W2) (.loop { st k with state:=.exhausted }) (show w0.heap.size≤w.heap.size+1 by have:=q.base;omega))
   have hkn:Kn w0 n (dL (w.heap.size::bs)) R (D++(C s++[.dfr (w.heap.size::bs)])) { a with defers:=[{ target:=.collected w.heap.size,args:=#[] }]++a.defers } (W2.putObj (w.heap.size+1) (.loop { st k with state:=.exhausted })) :=
    ⟨q.size,by show _++a.defers=_;rw [q.defers];rfl,q.regs,hB3,h9⟩
   obtain ⟨X,hX⟩:∃ X,X=W2.putObj (w.heap.size+1) (.loop { st k with state:=.exhausted }):=⟨_,rfl⟩
   rw [← hX] at hend2 hkn
   by_cases hfin:k=0∨go (k - 1)=true
   ·have hpe:(st k).pending=none:=by
     rw [hst,hrec]
     rcases hfin with rfl|hfin
     ·simp
     ·simp [hfin]
    exact ⟨none,X,by rw [hend2,hpe],hdone hfin _ s hI _ _ hkn⟩
   ·have hk0:0<k:=by omega
    have hgf:go (k - 1)=false:=by
     cases hgk:go (k - 1) with
     | false=>rfl
     | true=>exact absurd (.inr hgk) hfin
    have hpe:(st k).pending=some cx:=by
     rw [hst,hrec]
     simp [show k≠0 by omega,hgf]
    exact ⟨some cx,X,by rw [hend2,hpe],wpFW (hstop hk0 hgf _ s hI _ _ hkn)⟩
  ·rintro k x ⟨k',s⟩ W hk hx ⟨hk',hI⟩ hBW hOW
   simp only at hk' hI
   subst hk'
   simp only [hstm k' hk] at hOW ⊢
   have hl:W.heap[w.heap.size+1]?=some (.loop (rec .ready none)):=hOW.here (.lrec (w.heap.size+1) (rec .ready none)) (by simp)
   have hBWw:Below w0.heap.size w0 W:=hBW
   have hy:=run_yield (P:=P) (args:=(enc x).toArray) hl (by rw [hrec];simp [hps])
   refine ⟨_,_,_,_,hy,roundIn_of_wpIn trivial ?_⟩
   have hr:=hround (w.heap.size+1) k' x s (rec .ready none) W hk hx hI (by rw [hrec]) (by rw [hrec]) hBWw { tmps:=(rec .ready none).params.zip (enc x).toArray |>.foldl (fun tmps (t,a)=>tmps.setIfInBounds t a) (rec .ready none).tmps,defers:=[] } W ?_
   ·have hdf:(rec .ready none).defers=w.heap.size:=by rw [hrec]
    have has:(rec .ready none).assign=assign:=by rw [hrec]
    have hbo:(rec .ready none).body=body:=by rw [hrec]
    rw [hdf] at hr
    rw [has,hbo]
    refine wpIn_mono (wpFW hr) ?_
    rintro e a1 W2 hq
    cases e with
    | normal =>
     obtain ⟨w2,hb1,hb2⟩:=hq
     refine ⟨w2,hb1,wpIn_mono hb2 ?_⟩
     intro e a2 W3 hq
     have conv:∀ rr,rr=rec .done (some cx)→∀ v W4,zC3 W (D++(C s++[.lrec (w.heap.size+1) (rec .ready none),.dfr (w.heap.size::bs)])) (fun _:ι=>Value.bool (go k')) (fun s'=>D++(C s'++[.lrec (w.heap.size+1) (if go k' then rec .ready none else rr),.dfr (w.heap.size::bs)])) (I (k'+1)) (.returned v) W4 →
       zC3 W (D++(C s++[.lrec (w.heap.size+1) (rec .ready none),.dfr (w.heap.size::bs)])) (fun _:Nat × ι=>Value.bool (go k')) (fun s'=>D++(C s'.2++[.lrec (w.heap.size+1) (st s'.1),.dfr (w.heap.size::bs)])) (fun s'=>s'.1=k'+1∧I (k'+1) s'.2) (.returned v) W4:=by
      rintro rr hrr v W4 ⟨z,hz,hv,h1,h2,h3,h4⟩
      have e7:(if go k' then rec .ready none else rr)=st (k'+1):=by
       rw [hstS,hrr]
      rw [e7] at h3 h4
      exact ⟨(k'+1,z),⟨rfl,hz⟩,hv,h1,h2,h3,h4⟩
     cases e with
     | normal=>obtain ⟨v,w4,h1,h2⟩:=hq;exact ⟨v,w4,h1,conv _ (by rw [hrec]) v w4 h2⟩
     | ret=>obtain ⟨v,w4,h1,h2⟩:=hq;exact ⟨v,w4,h1,conv _ (by rw [hrec]) v w4 h2⟩
     | exit id=>obtain ⟨v,w4,h1,h2⟩:=hq;exact ⟨v,w4,h1,conv _ (by rw [hrec]) v w4 h2⟩
     | goto l=>obtain ⟨v,w4,h1,h2⟩:=hq;exact ⟨v,w4,h1,conv _ (by rw [hrec]) v w4 h2⟩
     | panic c=>exact hq.elim
     | outgrown=>exact hq.elim
    | _=>exact hq.elim
   ·refine ⟨?_,rfl,?_,hBWw,?_⟩
    ·rw [hrec]
     simp only
     rw [← Array.foldl_toList,zKp];exact q.size
    ·rw [hrec]
     simp only
     rw [← Array.foldl_toList,Array.toList_zip]
     exact zJC _ _ _ (fun p hp=>by rw [q.size];exact hpn p hp) q.regs
    ·have hdf:(rec .ready none).defers=w.heap.size:=by rw [hrec]
     rw [hdf]
     refine Own.append.2 ⟨hOW,⟨fun e he=>?_,fun e he b hb=>?_,by simp⟩,fun e he f hf b hb hb'=>?_⟩
     ·simp only [List.mem_singleton] at he;subst he;exact ⟨Nat.le_refl _,fun b _=>rfl⟩
     ·simp only [List.mem_singleton] at he;subst he;exact hb.1
     ·simp only [List.mem_singleton] at hf;subst hf;exact hb'.2 ⟨e,he,hb⟩
theorem u_dfr0 {X:Act→World→Prop} (h:U w0 n (dL []) R (.dfr []::H) X):U w0 n [] R H X:=fun a w q=>h a w (q.heap q.below ⟨fun e he=>by
 rcases List.mem_cons.1 he with rfl|he
 ·exact ⟨List.nodup_nil,fun b hb=>by cases hb⟩
 ·exact q.own.here e he,fun e he b hb=>by
 rcases List.mem_cons.1 he with rfl|he
 ·cases hb
 ·exact q.own.foot e he b hb,List.pairwise_cons.2 ⟨(fun f _ b hb=>by cases hb),q.own.apart⟩⟩)
theorem zGE {fn:Func} {tmps:Array Value} {RR:Ending→World→Prop}:∀ (bs:List Nat) (w:World),bs.Nodup→(∀ b,b∈bs→w.heap[b]?=some (.deferred (some [])))→(∀ w',w'.heap.size=w.heap.size→w'.os=w.os→w'.tape=w.tape→w'.output=w.output→(∀ b,b ∉ bs→w'.heap[b]?=w.heap[b]?)→LeavesInM Fence.wide 9 P fn tmps RR [] .returning w')→LeavesInM Fence.wide 9 P fn tmps RR (dL bs) .returning w
 | [],w,_,_,h=>h w rfl rfl rfl rfl (fun _ _=>rfl)
 | b::bs,w,hn,hb,h=>by
  obtain ⟨h1,h2⟩:=List.nodup_cons.1 hn
  have hlt:b<w.heap.size:=(Array.getElem?_eq_some_iff.1 (hb b (by simp))).1
  refine ⟨by simp,.inl ⟨b,_,rfl,run_takeDeferred (hb b (by simp)),?_⟩⟩
  refine zGE bs _ h2 (fun c hc=>?_) (fun w' e1 e2 e3 e4 e5=>h w' (by rw [e1];simp) e2 e3 e4 (fun c hc=>?_))
  ·have e:(w.putObj b (.deferred none)).heap[c]?=w.heap[c]?:=World.putObj_heap_other (by rintro rfl;exact h1 hc)
   rw [e]
   exact hb c (List.mem_cons_of_mem _ hc)
  ·simp only [List.mem_cons,not_or] at hc
   have e:(w.putObj b (.deferred none)).heap[c]?=w.heap[c]?:=World.putObj_heap_other (fun e=>hc.1 (by first|exact e|exact e.symm))
   rw [e5 c hc.2,e]
theorem Kn.unmark {a:Act} {w w':World} {bs:List Nat} (q:Kn w0 n d R H a w) (ht:Take H (.dfr bs) H') (e1:w'.heap.size=w.heap.size) (e2:w'.os=w.os) (e3:w'.tape=w.tape) (e4:w'.output=w.output) (e5:∀ b,b ∉ bs→w'.heap[b]?=w.heap[b]?):Kn w0 n d R H' a w':=by
 have ho:=q.own.take ht
 have hf:=ho.foot (.dfr bs) (by simp)
 obtain ⟨a1,a2⟩:=List.pairwise_cons.1 ho.apart
 exact q.heap (q.below.trans ⟨e2,e3,e4,by omega,fun b hb=>e5 b (fun hm=>by have:=(hf b hm).1;omega)⟩) (ho.tail.past (by omega) (fun e he b hb=>e5 b (fun hm=>a1 e he b hm hb)))
theorem zMm {bs:List Nat} {α:Type} {fn:Func} {V:α→Value} {E:α→List Ent} {p:α→Prop} {vs:List Value} (ht:Take H (.dfr bs) H') (hres:zi P w0 R H' fn.results.toList vs) (z:α) (hp:p z) (hV:V z=resV vs) (hO:∀ w,Own w0.heap.size w H'→Own w0.heap.size w (E z)):U w0 n (dL bs) R H (zEF P fn (zIZ w0 V E p) .ret):=fun a w q=>by
 show LeavesInM Fence.wide 9 P fn a.tmps (zIZ w0 V E p) a.defers .returning w
 rw [q.defers]
 have hd:=(q.own.take ht).here (.dfr bs) (by simp)
 exact zGE bs w hd.1 hd.2 (fun w' e1 e2 e3 e4 e5=>zHD (q.unmark ht e1 e2 e3 e4 e5) hres z hp hV hO)
end
end Go.Proofs.YtdigopgncfhiaaaGreatDoor
namespace Go.Proofs.YtdigopgncfhiaaaGreatDoor
variable {ro : Option Nat}
open Go.RowKit
theorem zA5 {base b:Nat} {cs cs':List Value} {H H':List Ent} {w W:World} (ho:Own base w H) [i:zFX H b cs H'] (hW:Below w.heap.size w W) (e:cs=cs'):InC W b 0 cs':=e ▸ zGN ho hW
def zJL (R:List (Nat × Value)):List Nat→Option (List Value)
 | []=>some []
 | t::K=>match lk R t,zJL R K with|some v,some vs=>some (v::vs) | _,_=>none
def zAt : List Nat→List Value→List (Nat × Value)
 | t::K,v::vs=>(t,v)::zAt K vs
 | _,_=>[]
theorem zL8 {R:List (Nat × Value)}:∀ {K:List Nat} {vs:List Value},zJL R K=some vs→∀ t v,lk (zAt K vs) t=some v→lk R t=some v
 | [],vs,h,t,v,hl=>by simp [zAt,lk] at hl
 | k::K,vs,h,t,v,hl=>by
  simp only [zJL] at h
  cases h1:lk R k with
  | none=>rw [h1] at h;simp at h
  | some x =>
   cases h2:zJL R K with
   | none=>rw [h1,h2] at h;simp at h
   | some ys =>
    rw [h1,h2] at h
    simp only [Option.some.injEq] at h
    subst h
    simp only [zAt] at hl
    by_cases e:k=t
    ·subst e;rw [zB0] at hl;cases hl;exact h1
    ·rw [zBz e] at hl;exact zL8 h2 t v hl
section
variable {P : Program} {w0:World} {n:Nat} {d:List Deferred} {R:List (Nat × Value)} {H H':List Ent} {Q:Exit→Act→World→Prop}
theorem zw {ι:Type} {c:Code} (K:List Nat) {vs:List Value} (hK:zJL R K=some vs) (I:ι→Prop) (ex:ι→List (Nat × Value)) (Hf:ι→List Ent) (μ:ι→Nat) (i0:ι) (h0:I i0) (hR:∀ t v,lk (ex i0) t=some v→lk R t=some v) (hH:Out H (Hf i0))
  (body:∀ i,I i→U w0 n d (ex i++zAt K vs) (Hf i) (c.wpI ro P (Exit.then (fun a w=>∃ j,I j∧μ j<μ i∧Kn w0 n d (ex j++zAt K vs) (Hf j) a w) Q))):U w0 n d R H ((Code.loop c).wpI ro P Q) :=
 zJn I (fun i=>ex i++zAt K vs) Hf μ i0 h0 (fun t v h=>by
  rw [zJK] at h
  cases h1:lk (ex i0) t with
  | none=>rw [h1] at h;exact zL8 hK t v (by simpa using h)
  | some x=>rw [h1] at h;simp at h;subst h;exact hR t _ h1) hH body
theorem u_loopD {ι:Type} {c:Code} (K:List Nat) {vs:List Value} (hK:zJL R K=some vs) (I:ι→Prop) (Df:ι→List Deferred) (ex:ι→List (Nat × Value)) (Hf:ι→List Ent) (μ:ι→Nat) (i0:ι) (h0:I i0) (hD:Df i0=d) (hR:∀ t v,lk (ex i0) t=some v→lk R t=some v) (hH:Out H (Hf i0))
  (body:∀ i,I i→U w0 n (Df i) (ex i++zAt K vs) (Hf i) (c.wpI ro P (Exit.then (fun a w=>∃ j,I j∧μ j<μ i∧Kn w0 n (Df j) (ex j++zAt K vs) (Hf j) a w) Q))):U w0 n d R H ((Code.loop c).wpI ro P Q):=fun a w k=>by
 refine wpIn_loop_ghost (F:=FW ro) (rm:=9) (P:=P) (Q:=Q) (c:=c) (fun m a w=>∃ i,I i∧μ i=m∧Kn w0 n (Df i) (ex i++zAt K vs) (Hf i) a w) (μ i0) ⟨i0,h0,rfl,?_⟩ ?_
 ·rw [hD]
  exact k.sub (fun t v h=>by
   rw [zJK] at h
   cases h1:lk (ex i0) t with
   | none=>rw [h1] at h;exact zL8 hK t v (by simpa using h)
   | some x=>rw [h1] at h;simp at h;subst h;exact hR t _ h1) hH
 ·rintro m a w ⟨i,hi,hm,hk⟩
  refine Code.wpIn_mono ?_ (body i hi a w hk)
  intro e a' w' q
  cases e<;>first|exact q|skip
  obtain ⟨j,hj,hlt,hk'⟩:=q
  exact ⟨μ j,by omega,j,hj,rfl,hk'⟩
theorem u_againD {ι:Type} {I:ι→Prop} {Df:ι→List Deferred} {Rf:ι→List (Nat × Value)} {Hf:ι→List Ent} {μ:ι→Nat} {m:Nat} (j:ι) (hj:I j) (hm:μ j<m) (hD:Df j=d) (hR:∀ t v,lk (Rf j) t=some v→lk R t=some v) (hH:Out H (Hf j)) :
  U w0 n d R H (fun a w=>∃ j,I j∧μ j<m∧Kn w0 n (Df j) (Rf j) (Hf j) a w):=fun a w k=>⟨j,hj,hm,hD ▸ k.sub hR hH⟩
end
end Go.Proofs.YtdigopgncfhiaaaGreatDoor
namespace Go.Proofs.YtdigopgncfhiaaaGreatDoor
variable {ro : Option Nat}
open Go.RowKit
section
variable {S : Pend} {P:Program} {w0:World} {n:Nat} {d:List Deferred} {R R0:List (Nat × Value)} {H H' H0:List Ent} {Q:Exit→Act→World→Prop} {ops:Array Oper} {bs:List (List Bool)} {b:List Bool} {k:Nat} {o:Oper} {rest:List Oper} {T:List Rw} {t:Tmp} {x y:Operand} {v:Value} {X:Act→World→Prop}
theorem zEj (hs:∀ w,Own w0.heap.size w H→Own w0.heap.size w H') (h:U w0 n d R H' X):U w0 n d R H X:=fun a w q=>h a w (q.heap q.below (hs w q.own))
theorem u_slS {α:Type} {enc:α→List Value} {kk:Nat} {A:Option Addr} {xs:List α} (ht:Take H (.sl enc kk A xs) H') (h0:0<xs.length) (h:∀ b o,A=some ⟨b,o,none⟩→U w0 n d R H X):U w0 n d R H X:=fun a w q=>by
 have hs:zq enc kk w A xs:=q.own.here (.sl enc kk A xs) ht.mem
 obtain ⟨b,o,hA,_⟩:=hs.at_ h0
 exact h b o hA a w q
end
end Go.Proofs.YtdigopgncfhiaaaGreatDoor
