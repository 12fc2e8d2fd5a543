/- B6 -/
import Derived.Test.YtcpdjamlhhfbhaaDoorB4
import Derived.Test.YtcpdjamlhhfbhaaDoorB5
import Derived.Maps.RangeRun
import Derived.Lib.SliceRun
import Derived.RangeFuncIn
import Derived.RangeFuncRecord
import Derived.RangeFuncSeq
import Derived.Deep.Quiet
set_option linter.unusedSimpArgs false
set_option linter.unusedVariables false
namespace Go.Proofs.YtcpdjamlhhfbhaaDoor
variable {ro : Option Nat}
open Go.RowKit
open Go.ChangeMaps (setBlock)
set_option maxRecDepth 20000
def zBt (w:World) (g:Nat):World:={ w with heap:=w.heap.extract 0 g }
theorem zCZ {w:World} {g:Nat} (h:g<w.heap.size):(zBt w g).heap.size=g:=by simp [zBt];omega
theorem zFN {w:World} {g:Nat} (h:g<w.heap.size):Below (zBt w g).heap.size (zBt w g) w :=
 ⟨rfl,rfl,rfl,by rw [zCZ h];omega,fun k hk=>by
  rw [zCZ h] at hk
  simp only [zBt,Array.getElem?_extract]
  rw [if_pos (by omega)];simp⟩
theorem Pend.at_lt {j k:Nat} {e0 e1:List Ent} (h:Nat.blt j k=true):(Pend.mk j e0 e1).at k=e1:=by unfold Pend.at;rw [h];rfl
theorem zFd : ∀ (vs a b:List Value) (off:Nat),off+vs.length≤a.length→put1 (a++b) off vs=put1 a off vs++b
 | [],_,_,_,_=>rfl
 | v::r,a,b,off,h=>by
  simp only [List.length_cons] at h
  simp only [put1]
  rw [List.set_append_left _ _ (by omega),zFd r _ b (off+1) (by simp;omega)]
theorem zE0 : ∀ (vs a b:List Value) (off:Nat),put1 (a++b) (a.length+off) vs=a++put1 b off vs
 | [],_,_,_=>rfl
 | v::r,a,b,off=>by
  simp only [put1]
  rw [List.set_append_right _ _ (by omega),show a.length+off - a.length=off by omega,show a.length+off+1=a.length+(off+1) by omega,zE0 r a _ (off+1)]
theorem zFJ {α:Type} {enc:α→List Value} {k:Nat} (henc:∀ x,(enc x).length=k) (vs tail:List Value) (j:Nat) (x':α):∀ (xs:List α) (i:Nat) (x:α),xs[i]?=some x→put1 (enc x) j vs=enc x'→j+vs.length≤k→put1 (xs.flatMap enc++tail) (i * k+j) vs=(xs.set i x').flatMap enc++tail
 | [],i,x,h,_,_=>by simp at h
 | y::r,0,x,h,h1,h2=>by
  simp at h;subst h
  simp only [List.flatMap_cons,List.set_cons_zero,List.append_assoc,Nat.zero_mul,Nat.zero_add]
  rw [zFd _ _ _ _ (by rw [henc];exact h2),h1]
 | y::r,i+1,x,h,h1,h2=>by
  have ih:=zFJ henc vs tail j x' r i x (by simpa using h) h1 h2
  simp only [List.flatMap_cons,List.set_cons_succ,List.append_assoc]
  rw [show (i+1) * k+j=(enc y).length+(i * k+j) by rw [henc,Nat.succ_mul];omega,zE0,ih]
def Ent.arr {α:Type} (enc:α→List Value) (k:Nat) (g:Nat) (xs:List α):Ent :=
 ⟨(· = g),fun w=>∃ tail:List Value,Blk w g (xs.flatMap enc++tail).toArray,fun _ _ _ h ⟨tl,hp⟩=>⟨tl,hp.same (h g rfl)⟩⟩
class zGv (H:List Ent) (g:Nat) {α:outParam Type} (enc:outParam (α→List Value)) (k:outParam Nat) (xs:outParam (List α)) (H':outParam (List Ent)):Prop where tk:Take H (.arr enc k g xs) H'
instance (priority := high) takeA_here {H:List Ent} {g:Nat} {α:Type} {enc:α→List Value} {k:Nat} {xs:List α}:zGv (.arr enc k g xs::H) g enc k xs H:=⟨Take.here _ _⟩
instance takeA_there {H H':List Ent} {e:Ent} {g:Nat} {α:Type} {enc:α→List Value} {k:Nat} {xs:List α} [i:zGv H g enc k xs H']:zGv (e::H) g enc k xs (e::H'):=⟨Take.there _ i.tk⟩
section
variable {P : Program} {w0:World} {n:Nat} {d:List Deferred} {R:List (Nat × Value)} {H H':List Ent} {Q:Exit→Act→World→Prop} {ops:Array Oper} {rest:List Oper} {o:Oper} {t:Tmp} {x y:Operand} {X:Act→World→Prop}
instance srcI_arr {g i k:Nat} {α:Type} {enc:α→List Value} {xs:List α} {z:α} [ei:zDh enc k] [i1:zGv H g enc k xs H'] [i2:zCG xs i z]:zES w0 H g (0+i * k) (enc z):=⟨fun w hb ho j v hv=>by
 obtain ⟨tl,hB⟩:=(ho.here _ i1.tk.mem:∃ tail:List Value,Blk w g (xs.flatMap enc++tail).toArray)
 have h1:=zDs ei.len xs i z i2.get j v hv
 rw [hB.cell]
 have hlt:=(List.getElem?_eq_some_iff.1 h1).1
 rw [show 0+i * k+j=i * k+j by omega]
 simp only [List.getElem?_toArray]
 rw [List.getElem?_append_left hlt]
 exact h1⟩
theorem zDi {α:Type} {enc:α→List Value} {k g i j s:Nat} {T1:TypeId} {td:TypeDesc} {gg:Bool} {xs:List α} {z:α} {v:Value} (z':α) (hop:o.op = .store T1 x y) [i1:TyI P T1 td s gg] (hw:want R ops o=some true) (hd:o.dst=none) (hx:evR R x=some (.pointer (some ⟨g,0+i * k+j,none⟩))) (hy:evR R y=some v) [ei:zDh enc k] [i2:zGv H g enc k xs H'] [i3:zCG xs i z]
  (hc:put1 (enc z) j v.cells.toList=enc z') (hv:Nat.beq v.cells.toList.length s=true) (h1:v.cells.toList.all Value.oneCell'=true) (hj:j+s≤k)
  (h:U w0 n d R (.arr enc k g (xs.set i z')::H') (wpL ro P ops Q rest)):U w0 n d R H (wpL ro P ops Q (o::rest)):=fun a w q=>by
 have ho:=q.own.take i2.tk
 obtain ⟨tl,hB⟩:=(ho.here (.arr enc k g xs) (by simp):∃ tail:List Value,Blk w g (xs.flatMap enc++tail).toArray)
 have hs:v.cells.toList.length=s:=Nat.eq_of_beq_eq_true hv
 have q2:Kn w0 n d R (.blk g (xs.flatMap enc++tl)::H') a w:=q.heap q.below (ho.recast (fun _=>hB) (fun b hb=>hb))
 have hlen:i * k+k≤(xs.flatMap enc).length:=by
  have:(xs.flatMap enc).length=xs.length * k:=by simp [List.length_flatMap,ei.len,List.map_const',List.sum_replicate_nat]
  have hi:=(List.getElem?_eq_some_iff.1 i3.get).1
  rw [this,← Nat.succ_mul]
  exact Nat.mul_le_mul_right k hi
 refine zFz hop hw hd hx hy (Take.here _ _) hv h1 (Nat.ble_eq_true_of_le (by rw [List.length_append];omega)) (cs':=(xs.set i z').flatMap enc++tl) (by
  rw [show 0+i * k+j=i * k+j by omega]
  exact zFJ ei.len _ tl j z' xs i z i3.get hc (by rw [hs];exact hj)) ?_ a w q2
 intro a' w' q'
 exact h a' w' (q'.heap q'.below (q'.own.recast (fun hp=>⟨tl,hp⟩) (fun b hb=>hb)))
theorem zHl {α:Type} {enc:α→List Value} {k e:Nat} {A:Option Addr} {m c:Nat} {xs:List α} (ht:Take H (.row enc k e (.slice A m c) xs) H') (h0:0<xs.length) (h:∀ g,A=some ⟨g,0,none⟩→U w0 n d R (.arr enc k g xs::H') X):U w0 n d R H X:=fun a w q=>by
 have ho:=q.own.take ht
 obtain ⟨h1,h2⟩:=(ho.here (.row enc k e (.slice A m c) xs) (by simp):Row enc k e 0 w (.slice A m c) xs)
 rcases h2 with ⟨_,h2⟩ | ⟨g,cap,cur,hv,_,hg,_,_,_,h8⟩
 ·omega
 ·cases hv
  have hB:Blk w g (xs.flatMap enc++cur.toList.drop (xs.length * k)).toArray:=by
   unfold Blk
   refine ⟨e,?_⟩
   rw [hg,← h8,List.take_append_drop]
  exact h g rfl a w (q.heap q.below (ho.recast (fun _=>⟨_,hB⟩) (fun b hb=>by cases hb;rfl)))
theorem Own.zDg {α:Type} {enc:α→List Value} {k base g:Nat} [ei:zDh enc k] {w:World} {xs:List α} (ht:Take H (.arr enc k g xs) H') (h:Own base w H):Own base w (.sl enc k (some ⟨g,0,none⟩) xs::H'):=by
 refine (h.take ht).recast (fun hp=>?_) ?_
 ·obtain ⟨tl,hB⟩:=hp
  intro i z hz
  refine ⟨g,0,rfl,hB.lt,fun j v hv=>?_⟩
  have h1:=zDs ei.len xs i z hz j v hv
  rw [hB.cell]
  have hlt:=(List.getElem?_eq_some_iff.1 h1).1
  simp only [List.getElem?_toArray,Nat.zero_add]
  rw [List.getElem?_append_left hlt]
  exact h1
 ·rintro b ⟨o,hA⟩
  cases hA
  rfl
end
open Go.RowKit
open Go.ChangeMaps (setBlock)
def feet (H:List Ent) (b:Nat):Prop:=∃ e∈H,e.S b
def Ent.oldx (w:World) (lo:Nat) (S:Nat→Prop):Ent :=
 ⟨fun b=>(lo≤b∧b<w.heap.size)∧¬ S b,fun w'=>w.heap.size≤w'.heap.size∧∀ b,(lo≤b∧b<w.heap.size)∧¬ S b→w'.heap[b]?=w.heap[b]?,fun _ _ hs h hp=>⟨Nat.le_trans hp.1 hs,fun b hb=>(h b hb).trans (hp.2 b hb)⟩⟩
def zGx {α:Type} (w:World) (H:List Ent) (V:α→Value) (C:α→List Ent) (p:α→Prop) (e:Ending) (w':World):Prop :=
 ∃ x,p x∧e = .returned (V x)∧(w'.os=w.os∧w'.tape=w.tape∧w'.output=w.output∧w.heap.size≤w'.heap.size)∧(∀ b,b<w.heap.size→¬ feet H b→w'.heap[b]?=w.heap[b]?)∧Own 0 w' (C x)∧∀ b,feet (C x) b→feet H b∨w.heap.size≤b
def zEi (P:Program) (f:FuncId) (args:List Value) (w:World) (H:List Ent) {α:Type} (V:α→Value) (C:α→List Ent) (p:α→Prop):Prop :=
 Calls P f args.toArray w (zGx w H V C p)
theorem zEi.calls {P:Program} {f:FuncId} {args:List Value} {w:World} {H:List Ent} {α:Type} {V:α→Value} {C:α→List Ent} {p:α→Prop} (h:zEi P f args w H V C p):Calls P f args.toArray w (zGx w H V C p):=h
theorem zEi.of {P:Program} {f:FuncId} {args:List Value} {w:World} {H:List Ent} {α:Type} {V:α→Value} {C:α→List Ent} {p:α→Prop} (h:Calls P f args.toArray w (zGx w H V C p)):zEi P f args w H V C p:=h
attribute [irreducible] zEi
theorem zAZ {w:World} {g:Nat} (h:g≤w.heap.size):(zBt w g).heap.size=g:=by simp [zBt];omega
theorem zC9 {w:World} {g:Nat} (h:g≤w.heap.size):Below (zBt w g).heap.size (zBt w g) w :=
 ⟨rfl,rfl,rfl,by rw [zAZ h];omega,fun k hk=>by
  rw [zAZ h] at hk
  simp only [zBt,Array.getElem?_extract]
  rw [if_pos (by omega)];simp⟩
theorem Own.base {base base':Nat} {w:World} {H:List Ent} (h:Own base w H) (hb:∀ b,feet H b→base'≤b):Own base' w H :=
 ⟨h.here,fun e he b hS=>⟨hb b ⟨e,he,hS⟩,(h.foot e he b hS).2⟩,h.apart⟩
section
variable {P : Program} {w0:World} {n:Nat} {d:List Deferred} {R:List (Nat × Value)} {H H' H1 H2:List Ent} {Q:Exit→Act→World→Prop} {ops:Array Oper} {rest:List Oper} {o:Oper} {t:Tmp} {x y z:Operand} {v:Value}
theorem zEz {α:Type} {f:FuncId} {fn:Func} {c:Code} {args:List Value} {w:World} {V:α→Value} {C:α→List Ent} {p:α→Prop} {n:Nat} (lo:Nat) (hlo:lo≤w.heap.size) (hO:Own lo w H) (hf:P.funcs[f]?=some fn) (hb:fn.body=some c) (hnn:fn.ntmps=n) (hn:Nat.ble args.length n=true)
  (h:U (zBt w lo) n [] (zFv 0 args) (H++[.oldx w lo (feet H)]) (c.wpI none P (zEe P fn (zGx w H V C p)))):zEi P f args w H V C p :=
 zEi.of <| (callsIn_wide (n:=9)).1 <| callsIn_of_wp_marks hf hb trivial (h _ _ ⟨by have:=Nat.le_of_ble_eq_true hn;simp;omega,rfl,fun t v ht=>by
  have:=zDP args 0 t v ht
  obtain ⟨_,h2⟩:=this
  simp only [Nat.sub_zero] at h2
  have hlt:t<args.length:=by
   rcases Nat.lt_or_ge t args.length with h|h
   ·exact h
   ·rw [List.getElem?_eq_none h] at h2;cases h2
  rw [Array.getD_eq_getD_getElem?,Array.getElem?_append_left (by simpa using hlt)]
  simp [h2],zC9 hlo,by
  rw [zAZ hlo]
  refine Own.append.2 ⟨hO,⟨fun e he=>?_,fun e he b hb=>?_,by simp⟩,fun e he f hf b hb hb'=>?_⟩
  ·simp only [List.mem_singleton] at he;subst he;exact ⟨Nat.le_refl _,fun b _=>rfl⟩
  ·simp only [List.mem_singleton] at he;subst he;exact hb.1
  ·simp only [List.mem_singleton] at hf;subst hf;exact hb'.2 ⟨e,he,hb⟩⟩)
theorem zHQ {α:Type} {fn:Func} {V:α→Value} {C:α→List Ent} {p:α→Prop} {vs:List Value} {w:World} {lo:Nat} {H0:List Ent} (hres:zY P (zBt w lo) R H fn.results.toList vs) (z:α) (hp:p z) (hV:V z=resV vs) (hlo:lo≤w.heap.size)
  (ho:∀ w',Own lo w' H→Own lo w' (C z++[.oldx w lo (feet H0)])):U (zBt w lo) n [] R H (zEe P fn (zGx w H0 V C p) .ret):=fun a w' q=>by
 have hq:=q.own
 rw [zAZ hlo] at hq
 have hH:=ho _ hq
 obtain ⟨hc,hol,hap⟩:=Own.append.1 hH
 have hsz:w.heap.size≤w'.heap.size:=(hol.here (.oldx w lo (feet H0)) (by simp)).1
 show LeavesInM Fence.wide 9 P fn a.tmps _ a.defers .returning w'
 rw [q.defers]
 refine ⟨resV vs,zC4 q hres,z,hp,by rw [hV],⟨q.below.os,q.below.tape,q.below.output,hsz⟩,fun b hb hne=>?_,⟨hc.here,fun e he b hS=>⟨Nat.zero_le _,(hc.foot e he b hS).2⟩,hc.apart⟩,fun b hb=>?_⟩
 ·rcases Nat.lt_or_ge b lo with h|h
  ·have:=q.below.block b (by rw [zAZ hlo];exact h)
   exact this.trans ((zC9 hlo).block b (by rw [zAZ hlo];exact h)).symm
  ·exact (hol.here (.oldx w lo (feet H0)) (by simp)).2 b ⟨⟨h,hb⟩,hne⟩
 ·rcases Nat.lt_or_ge b w.heap.size with h|h
  ·refine .inl (Classical.byContradiction fun hn=>?_)
   obtain ⟨e,he,hS⟩:=hb
   exact hap e he (.oldx w lo (feet H0)) (by simp) b hS ⟨⟨(hc.foot e he b hS).1,h⟩,hn⟩
  ·exact .inr h
theorem own_call {base:Nat} {w w':World} {H2 H' E:List Ent} (hH:Own base w (H2++H')) (hB:base≤w.heap.size) (h4:w.heap.size≤w'.heap.size) (h5:∀ b,b<w.heap.size→¬ feet H2 b→w'.heap[b]?=w.heap[b]?) (h6:Own 0 w' E) (h7:∀ b,feet E b→feet H2 b∨w.heap.size≤b):Own base w' (E++H'):=by
 obtain ⟨a1,a2,a3⟩:=Own.append.1 hH
 refine Own.append.2 ⟨⟨h6.here,fun e he b hS=>⟨?_,(h6.foot e he b hS).2⟩,h6.apart⟩,a2.past h4 (fun e he b hS=>h5 b (a2.foot e he b hS).2 ?_),fun e he f hf b hb hb'=>?_⟩
 ·rcases h7 b ⟨e,he,hS⟩ with ⟨f,hf,hS'⟩|h
  ·exact (a1.foot f hf b hS').1
  ·omega
 ·rintro ⟨f,hf,hS'⟩
  exact a3 f hf e he b hS' hS
 ·rcases h7 b ⟨e,he,hb⟩ with ⟨g,hg,hS'⟩|h
  ·exact a3 g hg f hf b hS' hb'
  ·have:=(a2.foot f hf b hb').2;omega
theorem zF0 {f:FuncId} {fx:Operand} {xs:Array Operand} {ts:Array TypeId} {vs:List Value} {cap:Array Value} {α:Type} {V:α→Value} {C:α→List Ent} {p:α→Prop} (H2 H':List Ent) (hop:o.op = .call ⟨.value fx,xs,ts⟩) (hrd:rdy R ops n o=some t) (hf:evR R fx=some (.func (.func f) #[] cap)) (hx:evs R xs.toList=some vs) [ci:zR P f] (hs:Out H (H2++H'))
  (hc:∀ a w,Kn w0 n d R (H2++H') a w→zEi P f (vs++cap.toList) w H2 V C p) (h:∀ x,p x→U w0 n d ((t,V x)::R) (C x++H') (wpL ro P ops Q rest)):U w0 n d R H (wpL ro P ops Q (o::rest)) :=
 zDQ (rW hrd) fun a w q K hK=>by
  unfold Oper.wp execOp;rw [hop]
  have e1:xs.map a.eval=vs.toArray:=by apply Array.ext';simpa using q.evs hx
  have e2:vs.toArray++cap=(vs++cap.toList).toArray:=by apply Array.ext';simp
  simp only [resolve,q.ev hf,e1,Deferred.ofValue,Sem.run_bind,Sem.run_pure,Result.andThen_ok,invoke,Array.empty_append,e2,ci.ent,Oper.upon_enter,(rD hrd)]
  have q2:=q.sub (fun _ _ h=>h) hs
  refine Calls.mono (hc a w q2).calls ?_
  rintro e w' ⟨z,hp,rfl,⟨h1,h2,h3,h4⟩,h5,h6,h7⟩
  refine hK _ _ (h z hp _ _ ((q.heap (q.below.trans ⟨h1,h2,h3,h4,fun b hb=>h5 b (by have:=q.base;omega) ?_⟩) (own_call q2.own q.base h4 h5 h6 h7)).put (rT hrd)))
  rintro ⟨e,he,hS⟩
  have:=(q2.own.foot e (List.mem_append_left _ he) b hS).1
  omega
end
def Ent.map (m:Nat) (es:Array MapEntry) (c:Nat):Ent:=⟨(· = m),fun w=>w.heap[m]?=some (.map es c),fun _ _ _ h hp=>(h m rfl).trans hp⟩
theorem zCp {kd:IntKind} {i:Int}:∀ (es:List MapEntry) (j:Nat),(∀ e∈es,∃ l,e.key = .int kd l∧l≠i)→Instr.findNow (.int kd) (.int kd i) es j=some none
 | [],_,_=>rfl
 | e::r,j,h=>by
  obtain ⟨l,h1,h2⟩:=h e (by simp)
  have:(i == l)=false:=by simpa using fun e=>h2 e.symm
  simp only [Instr.findNow,h1,Instr.sameNow,if_true,this]
  exact zCp r (j+1) (fun x hx=>h x (List.mem_cons_of_mem _ hx))
theorem zDu {kd:IntKind} {i:Int}:∀ (es:List MapEntry) (j k:Nat) (x:MapEntry),(∀ e∈es,∃ l,e.key = .int kd l)→es[k]?=some x→x.key = .int kd i→(∀ k' y,k'<k→es[k']?=some y→y.key≠.int kd i)→Instr.findNow (.int kd) (.int kd i) es j=some (some (j+k,x.val))
 | [],_,_,_,_,h,_,_=>by simp at h
 | e::r,j,0,x,_,h1,h2,_=>by
  simp at h1;subst h1
  simp [Instr.findNow,h2,Instr.sameNow]
 | e::r,j,k+1,x,h,h1,h2,h3=>by
  obtain ⟨l,h4⟩:=h e (by simp)
  have h5:=h3 0 e (by omega) rfl
  rw [h4] at h5
  have:(i == l)=false:=by
   cases hb:i == l with
   | false=>rfl
   | true=>exact absurd (by rw [eq_of_beq hb]) h5
  simp only [Instr.findNow,h4,Instr.sameNow,if_true,this]
  rw [zDu r (j+1) k x (fun y hy=>h y (List.mem_cons_of_mem _ hy)) (by simpa using h1) h2 (fun k' y hk hy=>h3 (k'+1) y (by omega) (by simpa using hy))]
  congr 3;omega
theorem zBb {P:Program} {w:World} {e:Bool} {N:Nat} {kt:TypeId} {kd:IntKind} {i:Int} (hk:P.underlying kt=some (.int kd)):(Instr.checkKey e (N+1) kt (.int kd i)).run P w = .ok () w:=by
 have e1:=run_underlying hk w
 simp [Instr.checkKey,e1,Sem.run_bind]
section
variable {P : Program} {w0:World} {n:Nat} {d:List Deferred} {R:List (Nat × Value)} {H H' H1 H2:List Ent} {Q:Exit→Act→World→Prop} {ops:Array Oper} {rest:List Oper} {o:Oper} {t:Tmp} {x y z:Operand} {v:Value}
theorem zD1 {w:World} {r:Nat} {ob:Obj} {B:Nat} (hr:B≤r):Below B w (setBlock w r ob) :=
 ⟨rfl,rfl,rfl,by simp [setBlock],fun b hb=>by
  simp only [setBlock]
  rw [Array.getElem?_setIfInBounds_ne (by omega)]⟩
theorem zHm {T1:TypeId} (hop:o.op = .makeMap T1 none) (hrd:rdy R ops n o=some t) (h:∀ m,U w0 n d ((t,.map (some m))::R) (.map m #[] 0::H) (wpL ro P ops Q rest)):U w0 n d R H (wpL ro P ops Q (o::rest)) :=
 zDQ (rW hrd) fun a w q K hK=>by
  unfold Oper.wp execOp;rw [hop]
  have hrun:(Instr.makeMap T1 none).run P w = .ok (.map (some w.heap.size)) (w.alloc (.map #[] 0)):=rfl
  simp only [Option.map_none,Sem.run_bind,hrun,Result.andThen_ok,Sem.run_pure,Oper.upon_value,(rD hrd)]
  exact hK _ _ (h w.heap.size _ _ ((q.call (E:=[.map w.heap.size #[] 0]) (zl w _) ⟨fun e he=>by simp only [List.mem_singleton] at he;subst he;exact heap_alloc_new w _,fun e he b hb=>by simp only [List.mem_singleton] at he;subst he;cases hb;simp,by simp⟩).put (rT hrd)))
theorem zE4 {base:Nat} {w:World} {m c c':Nat} {es es':Array MapEntry} (h:Own base w (.map m es c::H')) (hB:base≤w.heap.size):Own base (setBlock w m (.map es' c')) (.map m es' c'::H'):=by
 have hf:=h.foot (.map m es c) (by simp) m rfl
 refine h.turn (by simp [setBlock]) (fun b hb hn=>?_) hB ?_ (fun b hb=>?_)
 ·have hne:m≠b:=fun e=>hn e.symm
  simp only [setBlock];rw [Array.getElem?_setIfInBounds_ne hne]
 ·simp [Ent.map,setBlock,hf.2]
 ·cases hb;exact ⟨.inl rfl,by simp [setBlock,hf.2]⟩
theorem u_mapNew {T1 kt et:TypeId} {s m c:Nat} {g:Bool} {kd:IntKind} {es:Array MapEntry} {i:Int} (hop:o.op = .mapUpdate T1 x y z) [i1:TyI P T1 (.map kt et) s g] (hkt:P.underlying kt=some (.int kd)) (hw:want R ops o=some true) (hd:o.dst=none) (hx:evR R x=some (.map (some m))) (hy:evR R y=some (.int kd i)) (hz:evR R z=some v) (ht:Take H (.map m es c) H')
  (hk:∀ e∈es.toList,∃ l,e.key = .int kd l∧l≠i) (h:U w0 n d R (.map m (es.push ⟨.int kd i,v,c⟩) (c+1)::H') (wpL ro P ops Q rest)):U w0 n d R H (wpL ro P ops Q (o::rest)) :=
 zDQ hw fun a w q K hK=>by
  have ho:=q.own.take ht
  have hb:w.heap[m]?=some (.map es c):=ho.here (.map m es c) (by simp)
  have hf:=ho.foot (.map m es c) (by simp) m rfl
  have e1:=run_underlying i1.und w
  have e2:=zBb (P:=P) (w:=w) (e:=false) (N:=9999) (i:=i) hkt
  have e3:(Instr.findKey kt (.int kd i) es.toList).run P w = .ok none w:=by
   have:=run_underlying hkt w
   simp [Instr.findKey,Sem.run_bind,this,zCp es.toList 0 hk]
  have hrun:(Instr.mapUpdate T1 (.map (some m)) (.int kd i) v).run P w = .ok () (setBlock w m (.map (es.push ⟨.int kd i,v,c⟩) (c+1))):=by
   simp [Instr.mapUpdate,Sem.run_bind,e1,getObj,Sem.run,hb,e2,e3,setObj,setBlock]
  unfold Oper.wp execOp;rw [hop]
  simp only [Sem.run_bind,q.ev hx,q.ev hy,q.ev hz,hrun,Result.andThen_ok,Sem.run_pure,Oper.upon_skip,hd]
  exact hK _ _ (h _ _ (q.heap (q.below.trans (zD1 hf.1)) (zE4 ho q.base)))
end
end Go.Proofs.YtcpdjamlhhfbhaaDoor
namespace Go.Proofs.YtcpdjamlhhfbhaaDoor
variable {ro : Option Nat}
open Go.RowKit
section
variable {S : Pend} {P:Program} {w0:World} {n:Nat} {d:List Deferred} {R R0:List (Nat × Value)} {H H' H0:List Ent} {Q:Exit→Act→World→Prop} {ops:Array Oper} {bs:List (List Bool)} {b:List Bool} {k:Nat} {o:Oper} {rest:List Oper} {T:List Rw} {t:Tmp} {x y:Operand} {v:Value} {X:Act→World→Prop}
theorem zGH (hs:∀ w,Own w0.heap.size w H→Own w0.heap.size w H') (h:U w0 n d R H' X):U w0 n d R H X:=fun a w q=>h a w (q.heap q.below (hs w q.own))
theorem zHo {T1:TypeId} {td:TypeDesc} {s bm off:Nat} {g:Bool} {cs cs':List Value} {L:List Ent} {F:List Ent} {a:Act} {w:World} (hop:o.op = .store T1 x y) [i1:TyI P T1 td s g] (hw:want R ops o=some true) (hd:o.dst=none) (hx:evR R x=some (.pointer (some ⟨bm,off,none⟩))) (hy:evR R y=some v)
  (hv:Nat.beq v.cells.toList.length s=true) (hv1:v.cells.toList.all Value.oneCell'=true) (hl:Nat.ble (off+s) cs.length=true) (hc:put1 cs off v.cells.toList=cs') (q:Kn w0 n d R F a w) (ho:Own w0.heap.size w (.blk bm cs::L)) {K:Act→World→Prop}
  (hK:∀ w',Below w0.heap.size w0 w'→Own w0.heap.size w' (.blk bm cs'::L)→K a w'):if Region.wanted o (yielded ops a.tmps)=true then o.wp P a w K (fun _ _ _=>False) else K (a.put o.dst undef) w:=by
 rw [zA7 q hw,if_pos rfl]
 have hb:Blk w bm cs.toArray:=ho.here (.blk bm cs) (by simp)
 have hs:v.cells.toList.length=s:=Nat.eq_of_beq_eq_true hv
 have hlen:=Nat.le_of_ble_eq_true hl
 have e1:=i1.siz w
 obtain ⟨g1,g2,g3,g4,g5,g6⟩:=zBi bm v.cells.toList off w cs hb
 have hfoot:w0.heap.size≤bm:=(ho.foot (.blk bm cs) (by simp) bm rfl).1
 have hrun:(Instr.storeAt T1 (.pointer (some ⟨bm,off,none⟩)) v).run P w = .ok () (w.setCells bm off v.cells.toList):=by
  have:=run_storeCells_cells (P:=P) bm off v.cells.toList 0 w (fun j hj=>by have h9:off+j<cs.length:=(by omega);rw [hb.cell];simp [h9]) (fun j hj=>hb.frozen _) (fun u hu=>List.all_eq_true.1 hv1 u hu)
  simp only [Nat.add_zero] at this
  have hsz:¬ v.cells.size≠s:=by simpa using hs
  unfold Instr.storeAt storeVar
  simp only [Sem.run_bind,Instr.sureAddr,Sem.run_pure,Result.andThen_ok,e1,Sem.run_ite,hsz,if_false,this]
 unfold Oper.wp execOp;rw [hop]
 simp only [Sem.run_bind,q.ev hx,q.ev hy,hrun,Result.andThen_ok,Sem.run_pure,Oper.upon_skip,hd]
 refine hK _ ?_ ?_
 ·exact q.below.trans ⟨g2,g3,g4,by omega,fun k hk=>g6 k (by omega)⟩
 ·exact ho.turn (by omega) (fun k hk hn=>g6 k hn) q.base (hc ▸ g1) (fun k hk=>by
   cases hk
   exact ⟨.inl rfl,by rw [g5];exact (ho.foot (.blk bm cs) (by simp) bm rfl).2⟩)
theorem zGt {α:Type} {enc:α→List Value} {kk g i j s:Nat} {T1:TypeId} {td:TypeDesc} {gg:Bool} {xs:List α} {z:α} (z':α) (hop:o.op = .store T1 x y) [i1:TyI P T1 td s gg] (hw:∀ G,want (Rk R0 ops b o T G) ops o=some true) (hd:o.dst=none) (hk:S.k=k) (h0:S.e0=[.arr enc kk g xs]) (h1:S.e1=[.arr enc kk g (xs.set i z')]) (hx:∀ G,evR (Rk R0 ops b o T G) x=some (.pointer (some ⟨g,0+i * kk+j,none⟩))) (hy:∀ G,evR (Rk R0 ops b o T G) y=some v) [ei:zDh enc kk] [i3:zCG xs i z]
  (hc:put1 (enc z) j v.cells.toList=enc z') (hv:Nat.beq v.cells.toList.length s=true) (hv1:v.cells.toList.all Value.oneCell'=true) (hj:j+s≤kk) (h:zAG ro S P w0 n d ops R0 H0 Q bs (k+1) rest (⟨k,none,fun _=>(undef,[])⟩::T)):zAG ro S P w0 n d ops R0 H0 Q (b::bs) k (o::rest) T :=
 .inl ⟨fun _=>(undef,[]),fun _ _ _=>rfl,.inr ⟨hk,hd,rfl,fun G F L a w q ho K hK=>by
  rw [h0] at ho
  rw [h1] at hK
  obtain ⟨tl,hB⟩:=(ho.here (.arr enc kk g xs) (by simp):∃ tail:List Value,Blk w g (xs.flatMap enc++tail).toArray)
  have hs:v.cells.toList.length=s:=Nat.eq_of_beq_eq_true hv
  have ho2:Own w0.heap.size w (.blk g (xs.flatMap enc++tl)::L):=ho.recast (fun _=>hB) (fun b hb=>hb)
  have hlen:i * kk+kk≤(xs.flatMap enc).length:=by
   have:(xs.flatMap enc).length=xs.length * kk:=by simp [List.length_flatMap,ei.len,List.map_const',List.sum_replicate_nat]
   have hi:=(List.getElem?_eq_some_iff.1 i3.get).1
   rw [this,← Nat.succ_mul]
   exact Nat.mul_le_mul_right kk hi
  exact zHo hop (hw G) hd (hx G) (hy G) hv hv1 (Nat.ble_eq_true_of_le (by rw [List.length_append];omega)) (cs':=(xs.set i z').flatMap enc++tl) (by
   rw [show 0+i * kk+j=i * kk+j by omega]
   exact zFJ ei.len _ tl j z' xs i z i3.get hc (by rw [hs];exact hj)) q ho2 (fun w' hB' hO=>hK w' hB' (hO.recast (fun hp=>⟨tl,hp⟩) (fun b hb=>hb)))⟩,by rw [hd];exact h⟩
end
end Go.Proofs.YtcpdjamlhhfbhaaDoor
namespace Go.Proofs.YtcpdjamlhhfbhaaDoor
variable {ro : Option Nat}
open Go.RowKit
def ClsH (w0:World) (H:List Ent) (w:World):Prop:=Below w0.heap.size w0 w∧Own w0.heap.size w H
def UQ (P:Program) (w0:World) (n:Nat) (d:List Deferred) (R:List (Nat × Value)) (H:List Ent) (ops:Array Oper) (K:Act→Prop) (rest:List Oper):Prop :=
 ∀ a:Act,a.tmps.size=n→a.defers=d→(∀ t v,lk R t=some v→a.tmps.getD t undef=v)→wpQuiet P ops (ClsH w0 H) K rest a
section
variable {P : Program} {w0:World} {n:Nat} {d:List Deferred} {R:List (Nat × Value)} {H H':List Ent} {Q:Exit→Act→World→Prop} {K:Act→Prop} {ops:Array Oper} {rest:List Oper} {o:Oper} {t:Tmp} {x y:Operand} {v:Value} {C:World→Prop}
theorem zFU {i:Nat} {a:Act} {K:Act→Prop} {K':Act→World→Prop} {Q':Exit→Act→World→Prop} {w:World} (hdf:∀ o∈ops.toList,zCv o=false) (hC:C w) (h:∀ a w',C w'→K a→K' a w') (hh:qOp P ops C i K a):wpOpIn (FW ro) 9 P ops Q' i K' a w:=by
 unfold qOp at hh
 unfold wpOpIn
 split
 ·rename_i ho;simp only [ho] at hh;exact h _ _ hC hh
 ·rename_i o ho
  simp only [ho] at hh
  split
  ·rename_i hw;simp only [hw,if_true] at hh;exact opIn (hdf o (by have:=Array.mem_of_getElem? ho;simpa using this)) (Oper.wp_of_quiet hC h hh)
  ·rename_i hw;simp only [hw] at hh;exact ⟨fun _ _=>trivial,h _ _ hC hh⟩
theorem zCP {Q:Act→Prop} {Q':Exit→Act→World→Prop} (hdf:∀ o∈ops.toList,zCv o=false) (hQ:∀ a w,C w→Q a→Q' .normal a w):∀ (fuel:Nat) (listed:Array Bool) (a:Act) (w:World),C w →
  wpAnyQ P .any ops C Q fuel listed a→wpAnyIn (FW ro) 9 P .any ops Q' fuel listed a w
 | 0,_,_,_,hw,h=>⟨h.1,hQ _ _ hw h.2⟩
 | fuel+1,_,_,_,hw,h=>⟨fun h0=>hQ _ _ hw (h.1 h0),fun i hi=>zFU hdf hw (fun a' w' hw'=>zCP hdf hQ fuel _ a' w' hw') (h.2 i hi)⟩
theorem zHN {id:Nat} {l:List Oper} (hm:P.follows .mixedOrders=true) (hB:Region.lexB .any l.toArray=true) (hDf:(l.all fun o=>!zCv o)=true) (h:UQ P w0 n d R H l.toArray (fun a'=>∀ w',ClsH w0 H w'→Q .normal a' w') l):U w0 n d R H ((Code.region id l.toArray true).wpI ro P Q):=fun a w q=>by
 have h1:=h a q.size q.defers q.regs
 simp only [Region.lexB,Bool.and_eq_true] at hB
 have hC:ClsH w0 H { w with drawn:=w.drawn+1 }:=⟨⟨q.below.os,q.below.tape,q.below.output,q.below.size,q.below.block⟩,q.own.past (Nat.le_refl _) (fun _ _ _ _=>rfl)⟩
 refine wpIn_region_any hm (zCP (C:=ClsH w0 H) (Q:=fun a'=>∀ w',ClsH w0 H w'→Q .normal a' w') (fun o ho=>by have:=List.all_eq_true.1 hDf o (by simpa using ho);simpa using this) (fun _ w' hw' h=>h w' hw') _ _ _ _ hC ?_)
 have:=wpAnyQ_lex (C:=ClsH w0 H) (md:=.any) hB.1 l 0 (Array.replicate l.toArray.size false) a (by simp) (by simpa using hB.2) h1
 simpa using this
theorem q_nil (h:U w0 n d R H (Q .normal)):UQ P w0 n d R H ops (fun a'=>∀ w',ClsH w0 H w'→Q .normal a' w') []:=fun a h1 h2 h3=>wpQuiet_nil (fun w' hw=>h a w' ⟨h1,h2,h3,hw.1,hw.2⟩)
theorem zGW {a:Act} (h1:a.tmps.size=n) (h3:∀ t v,lk R t=some v→a.tmps.getD t undef=v) (ht:Nat.blt t n=true):∀ u x,lk ((t,v)::R) u=some x→(a.put (some t) v).tmps.getD u undef=x:=fun u x hx=>by
 have hlt:t<a.tmps.size:=by rw [h1];exact Nat.le_of_ble_eq_true ht
 by_cases hu:t=u
 ·subst hu
  rw [zBe] at hx
  cases hx
  simp [Act.put,hlt]
 ·rw [zBd hu] at hx
  have:=h3 u x hx
  simp only [Act.put,Array.getD_eq_getD_getElem?] at this ⊢
  rw [Array.getElem?_setIfInBounds_ne hu]
  exact this
theorem zGD {a:Act} {b:Bool} (h3:∀ t v,lk R t=some v→a.tmps.getD t undef=v) (hw:want R ops o=some b):Region.wanted o (yielded ops a.tmps)=b :=
 zA7 (R:=R) (H:=[]) (n:=a.tmps.size) (d:=a.defers) (w0:=(default:World)) (w:=default) ⟨rfl,rfl,h3,Below.refl _ _,Own.nil _ _⟩ hw
theorem zBm (he:Ev P w0 n d R H o v) (hrd:rdy R ops n o=some t) (h:UQ P w0 n d ((t,v)::R) H ops K rest):UQ P w0 n d R H ops K (o::rest):=fun a h1 h2 h3 =>
 wpQuiet_step fun K' hK=>by
  rw [zGD h3 (rW hrd),if_pos rfl]
  refine ⟨v,fun w hC=>?_,?_⟩
  ·unfold Oper.quietAt
   rw [he a w ⟨h1,h2,h3,hC.1,hC.2⟩]
   exact ⟨rfl,rfl⟩
  ·rw [(rD hrd)]
   exact hK _ (h _ (by simp [Act.put,h1]) h2 (zGW h1 h3 (rT hrd)))
theorem zDm (hw:want R ops o=some false) (hd:o.dst=some t) (ht:Nat.blt t n=true) (h:UQ P w0 n d ((t,undef)::R) H ops K rest):UQ P w0 n d R H ops K (o::rest):=fun a h1 h2 h3 =>
 wpQuiet_step fun K' hK=>by
  rw [zGD h3 hw,hd]
  simp only [Bool.false_eq_true,if_false]
  exact hK _ (h _ (by simp [Act.put,h1]) h2 (zGW h1 h3 ht))
theorem q_cmp {T1 T2:TypeId} {c:BinOp} {k:IntKind} {i j:Int} (hop:o.op = .binOp c T1 x y T2) (hc:zFF c=true) (hrd:rdy R ops n o=some t) (hx:evR R x=some (.int k i)) (hy:evR R y=some (.int k j))
  (h1:cmpP c i j→UQ P w0 n d ((t,.bool true)::R) H ops K rest) (h2:¬ cmpP c i j→UQ P w0 n d ((t,.bool false)::R) H ops K rest):UQ P w0 n d R H ops K (o::rest):=by
 by_cases hp:cmpP c i j
 ·exact zBm (fun a w q=>zEC hc hop (q.ev hx) (q.ev hy) hp) hrd (h1 hp)
 ·exact zBm (fun a w q=>zED hc hop (q.ev hx) (q.ev hy) hp) hrd (h2 hp)
theorem isOpsQ (h:UQ P w0 n d R H ops K (o::rest)):UQ P w0 n d R H ops K (o::rest):=h
end
end Go.Proofs.YtcpdjamlhhfbhaaDoor
namespace Go.Proofs.YtcpdjamlhhfbhaaDoor
open Go.RowKit
set_option maxRecDepth 20000
instance : TyI Tryd.prog 0 (TypeDesc.tuple #[]) 1 false:=⟨Tryd.underlying0,Tryd.sizeOf0,Tryd.isAgg0⟩
instance : TyI Tryd.prog 1 (TypeDesc.func #[] #[] false) 1 false:=⟨Tryd.underlying1,Tryd.sizeOf1,Tryd.isAgg1⟩
instance : TyI Tryd.prog 2 (TypeDesc.int Go.IntKind.i64) 1 false:=⟨Tryd.underlying2,Tryd.sizeOf2,Tryd.isAgg2⟩
instance : TyI Tryd.prog 3 (TypeDesc.int Go.IntKind.i64) 1 false:=⟨Tryd.underlying3,Tryd.sizeOf3,Tryd.isAgg3⟩
instance : TyZ Tryd.prog 3 [Value.int Go.IntKind.i64 0]:=⟨fun w=>⟨_,Tryd.zeroValue3 w,rfl⟩⟩
instance : TyI Tryd.prog 4 TypeDesc.bool 1 false:=⟨Tryd.underlying4,Tryd.sizeOf4,Tryd.isAgg4⟩
instance : TyI Tryd.prog 5 (TypeDesc.int Go.IntKind.u8) 1 false:=⟨Tryd.underlying5,Tryd.sizeOf5,Tryd.isAgg5⟩
instance : TyZ Tryd.prog 5 [Value.int Go.IntKind.u8 0]:=⟨fun w=>⟨_,Tryd.zeroValue5 w,rfl⟩⟩
instance : TyI Tryd.prog 9 TypeDesc.string 1 false:=⟨Tryd.underlying9,Tryd.sizeOf9,Tryd.isAgg9⟩
instance : TyI Tryd.prog 23 (TypeDesc.struct #[{ name := "Lo",type:=3,offset:=0,embedded:=false,tag := "",pkgPath := "",byteOffset:=0 },{ name := "Hi",type:=3,offset:=1,embedded:=false,tag := "",pkgPath := "",byteOffset:=8 }]) 2 true:=⟨Tryd.underlying23,Tryd.sizeOf23,Tryd.isAgg23⟩
instance : TyZ Tryd.prog 23 [Value.int Go.IntKind.i64 0,Value.int Go.IntKind.i64 0]:=⟨fun w=>⟨_,Tryd.zeroValue23 w,rfl⟩⟩
instance : TyB Tryd.prog 23 [(0,1),(1,1)] [Value.int Go.IntKind.i64 0,Value.int Go.IntKind.i64 0]:=zA1 (zv:=Value.agg #[Value.int Go.IntKind.i64 0,Value.int Go.IntKind.i64 0]) (by kernel_rfl) rfl Tryd.underlying23 (by kernel_rfl)
instance : TyI Tryd.prog 26 (TypeDesc.struct #[{ name := "Kind",type:=5,offset:=0,embedded:=false,tag := "",pkgPath := "",byteOffset:=0 },{ name := "From",type:=3,offset:=1,embedded:=false,tag := "",pkgPath := "",byteOffset:=8 },{ name := "To",type:=3,offset:=2,embedded:=false,tag := "",pkgPath := "",byteOffset:=16 },{ name := "Value",type:=23,offset:=3,embedded:=false,tag := "",pkgPath := "",byteOffset:=24 }]) 5 true:=⟨Tryd.underlying26,Tryd.sizeOf26,Tryd.isAgg26⟩
instance : TyZ Tryd.prog 26 [Value.int Go.IntKind.u8 0,Value.int Go.IntKind.i64 0,Value.int Go.IntKind.i64 0,Value.int Go.IntKind.i64 0,Value.int Go.IntKind.i64 0]:=⟨fun w=>⟨_,Tryd.zeroValue26 w,rfl⟩⟩
instance : TyB Tryd.prog 26 [(0,1),(1,1),(2,1),(3,2)] [Value.int Go.IntKind.u8 0,Value.int Go.IntKind.i64 0,Value.int Go.IntKind.i64 0,Value.int Go.IntKind.i64 0,Value.int Go.IntKind.i64 0]:=zA1 (zv:=Value.agg #[Value.int Go.IntKind.u8 0,Value.int Go.IntKind.i64 0,Value.int Go.IntKind.i64 0,Value.int Go.IntKind.i64 0,Value.int Go.IntKind.i64 0]) (by kernel_rfl) rfl Tryd.underlying26 (by kernel_rfl)
instance : TyI Tryd.prog 27 (TypeDesc.int Go.IntKind.i64) 1 false:=⟨Tryd.underlying27,Tryd.sizeOf27,Tryd.isAgg27⟩
instance : TyI Tryd.prog 35 (TypeDesc.slice 62) 1 false:=⟨Tryd.underlying35,Tryd.sizeOf35,Tryd.isAgg35⟩
instance : TyZ Tryd.prog 35 [Value.slice none 0 0]:=⟨fun w=>⟨_,Tryd.zeroValue35 w,rfl⟩⟩
instance : TyI Tryd.prog 37 (TypeDesc.struct #[{ name := "Stretches",type:=35,offset:=0,embedded:=false,tag := "",pkgPath := "",byteOffset:=0 }]) 1 true:=⟨Tryd.underlying37,Tryd.sizeOf37,Tryd.isAgg37⟩
instance : TyZ Tryd.prog 37 [Value.slice none 0 0]:=⟨fun w=>⟨_,Tryd.zeroValue37 w,rfl⟩⟩
instance : TyB Tryd.prog 37 [(0,1)] [Value.slice none 0 0]:=zA1 (zv:=Value.agg #[Value.slice none 0 0]) (by kernel_rfl) rfl Tryd.underlying37 (by kernel_rfl)
instance : TyI Tryd.prog 39 (TypeDesc.slice 3) 1 false:=⟨Tryd.underlying39,Tryd.sizeOf39,Tryd.isAgg39⟩
instance : TyZ Tryd.prog 39 [Value.slice none 0 0]:=⟨fun w=>⟨_,Tryd.zeroValue39 w,rfl⟩⟩
instance : TyI Tryd.prog 42 (TypeDesc.slice 26) 1 false:=⟨Tryd.underlying42,Tryd.sizeOf42,Tryd.isAgg42⟩
instance : TyZ Tryd.prog 42 [Value.slice none 0 0]:=⟨fun w=>⟨_,Tryd.zeroValue42 w,rfl⟩⟩
instance : TyI Tryd.prog 46 (TypeDesc.struct #[{ name := "Stretch",type:=3,offset:=0,embedded:=false,tag := "",pkgPath := "",byteOffset:=0 },{ name := "Off",type:=23,offset:=1,embedded:=false,tag := "",pkgPath := "",byteOffset:=8 }]) 3 true:=⟨Tryd.underlying46,Tryd.sizeOf46,Tryd.isAgg46⟩
instance : TyZ Tryd.prog 46 [Value.int Go.IntKind.i64 0,Value.int Go.IntKind.i64 0,Value.int Go.IntKind.i64 0]:=⟨fun w=>⟨_,Tryd.zeroValue46 w,rfl⟩⟩
instance : TyB Tryd.prog 46 [(0,1),(1,2)] [Value.int Go.IntKind.i64 0,Value.int Go.IntKind.i64 0,Value.int Go.IntKind.i64 0]:=zA1 (zv:=Value.agg #[Value.int Go.IntKind.i64 0,Value.int Go.IntKind.i64 0,Value.int Go.IntKind.i64 0]) (by kernel_rfl) rfl Tryd.underlying46 (by kernel_rfl)
instance : TyI Tryd.prog 52 (TypeDesc.slice 23) 1 false:=⟨Tryd.underlying52,Tryd.sizeOf52,Tryd.isAgg52⟩
instance : TyZ Tryd.prog 52 [Value.slice none 0 0]:=⟨fun w=>⟨_,Tryd.zeroValue52 w,rfl⟩⟩
instance : TyI Tryd.prog 62 (TypeDesc.struct #[{ name := "Id",type:=3,offset:=0,embedded:=false,tag := "",pkgPath := "",byteOffset:=0 },{ name := "Long",type:=23,offset:=1,embedded:=false,tag := "",pkgPath := "",byteOffset:=8 },{ name := "Fall",type:=23,offset:=3,embedded:=false,tag := "",pkgPath := "",byteOffset:=24 },{ name := "Radius",type:=23,offset:=5,embedded:=false,tag := "",pkgPath := "",byteOffset:=40 },{ name := "Side",type:=5,offset:=7,embedded:=false,tag := "",pkgPath := "",byteOffset:=56 },{ name := "Wall",type:=3,offset:=8,embedded:=false,tag := "",pkgPath := "",byteOffset:=64 }]) 9 true:=⟨Tryd.underlying62,Tryd.sizeOf62,Tryd.isAgg62⟩
instance : TyZ Tryd.prog 62 [Value.int Go.IntKind.i64 0,Value.int Go.IntKind.i64 0,Value.int Go.IntKind.i64 0,Value.int Go.IntKind.i64 0,Value.int Go.IntKind.i64 0,Value.int Go.IntKind.i64 0,Value.int Go.IntKind.i64 0,Value.int Go.IntKind.u8 0,Value.int Go.IntKind.i64 0]:=⟨fun w=>⟨_,Tryd.zeroValue62 w,rfl⟩⟩
instance : TyB Tryd.prog 62 [(0,1),(1,2),(3,2),(5,2),(7,1),(8,1)] [Value.int Go.IntKind.i64 0,Value.int Go.IntKind.i64 0,Value.int Go.IntKind.i64 0,Value.int Go.IntKind.i64 0,Value.int Go.IntKind.i64 0,Value.int Go.IntKind.i64 0,Value.int Go.IntKind.i64 0,Value.int Go.IntKind.u8 0,Value.int Go.IntKind.i64 0]:=zA1 (zv:=Value.agg #[Value.int Go.IntKind.i64 0,Value.int Go.IntKind.i64 0,Value.int Go.IntKind.i64 0,Value.int Go.IntKind.i64 0,Value.int Go.IntKind.i64 0,Value.int Go.IntKind.i64 0,Value.int Go.IntKind.i64 0,Value.int Go.IntKind.u8 0,Value.int Go.IntKind.i64 0]) (by kernel_rfl) rfl Tryd.underlying62 (by kernel_rfl)
instance : TyI Tryd.prog 65 (TypeDesc.struct #[{ name := "Track",type:=37,offset:=0,embedded:=true,tag := "",pkgPath := "",byteOffset:=0 }]) 1 true:=⟨Tryd.underlying65,Tryd.sizeOf65,Tryd.isAgg65⟩
instance : TyZ Tryd.prog 65 [Value.slice none 0 0]:=⟨fun w=>⟨_,Tryd.zeroValue65 w,rfl⟩⟩
instance : TyB Tryd.prog 65 [(0,1)] [Value.slice none 0 0]:=zA1 (zv:=Value.agg #[Value.slice none 0 0]) (by kernel_rfl) rfl Tryd.underlying65 (by kernel_rfl)
instance : TyI Tryd.prog 71 (TypeDesc.map 3 26) 1 false:=⟨Tryd.underlying71,Tryd.sizeOf71,Tryd.isAgg71⟩
instance : TyZ Tryd.prog 71 [Value.map none]:=⟨fun w=>⟨_,Tryd.zeroValue71 w,rfl⟩⟩
instance : TyI Tryd.prog 78 (TypeDesc.func #[3,26] #[4] false) 1 false:=⟨Tryd.underlying78,Tryd.sizeOf78,Tryd.isAgg78⟩
instance : TyI Tryd.prog 82 (TypeDesc.func #[3,23] #[4] false) 1 false:=⟨Tryd.underlying82,Tryd.sizeOf82,Tryd.isAgg82⟩
instance : TyI Tryd.prog 89 (TypeDesc.func #[3,62] #[4] false) 1 false:=⟨Tryd.underlying89,Tryd.sizeOf89,Tryd.isAgg89⟩
instance : TyI Tryd.prog 92 (TypeDesc.func #[3] #[4] false) 1 false:=⟨Tryd.underlying92,Tryd.sizeOf92,Tryd.isAgg92⟩
instance : TyI Tryd.prog 95 (TypeDesc.func #[78] #[] false) 1 false:=⟨Tryd.underlying95,Tryd.sizeOf95,Tryd.isAgg95⟩
instance : TyI Tryd.prog 98 (TypeDesc.func #[107] #[106] false) 1 false:=⟨Tryd.underlying98,Tryd.sizeOf98,Tryd.isAgg98⟩
instance : TyI Tryd.prog 100 (TypeDesc.struct #[{ name := "of",type:=98,offset:=0,embedded:=false,tag := "",pkgPath := "kreisel/track",byteOffset:=0 }]) 1 true:=⟨Tryd.underlying100,Tryd.sizeOf100,Tryd.isAgg100⟩
instance : TyZ Tryd.prog 100 [Value.nilFunc]:=⟨fun w=>⟨_,Tryd.zeroValue100 w,rfl⟩⟩
instance : TyB Tryd.prog 100 [(0,1)] [Value.nilFunc]:=zA1 (zv:=Value.agg #[Value.nilFunc]) (by kernel_rfl) rfl Tryd.underlying100 (by kernel_rfl)
instance : TyI Tryd.prog 101 (TypeDesc.array 3 100) 3 true:=⟨Tryd.underlying101,Tryd.sizeOf101,Tryd.isAgg101⟩
instance : TyZ Tryd.prog 101 [Value.nilFunc,Value.nilFunc,Value.nilFunc]:=⟨fun w=>⟨_,Tryd.zeroValue101 w,rfl⟩⟩
instance : TyBA Tryd.prog 101 1 [Value.nilFunc,Value.nilFunc,Value.nilFunc]:=zBM (zv:=Value.agg #[Value.nilFunc,Value.nilFunc,Value.nilFunc]) (by kernel_rfl) rfl Tryd.underlying101 (by kernel_rfl)
instance : TyI Tryd.prog 103 (TypeDesc.array 13 3) 13 true:=⟨Tryd.underlying103,Tryd.sizeOf103,Tryd.isAgg103⟩
instance : TyZ Tryd.prog 103 [Value.int Go.IntKind.i64 0,Value.int Go.IntKind.i64 0,Value.int Go.IntKind.i64 0,Value.int Go.IntKind.i64 0,Value.int Go.IntKind.i64 0,Value.int Go.IntKind.i64 0,Value.int Go.IntKind.i64 0,Value.int Go.IntKind.i64 0,Value.int Go.IntKind.i64 0,Value.int Go.IntKind.i64 0,Value.int Go.IntKind.i64 0,Value.int Go.IntKind.i64 0,Value.int Go.IntKind.i64 0]:=⟨fun w=>⟨_,Tryd.zeroValue103 w,rfl⟩⟩
instance : TyBA Tryd.prog 103 1 [Value.int Go.IntKind.i64 0,Value.int Go.IntKind.i64 0,Value.int Go.IntKind.i64 0,Value.int Go.IntKind.i64 0,Value.int Go.IntKind.i64 0,Value.int Go.IntKind.i64 0,Value.int Go.IntKind.i64 0,Value.int Go.IntKind.i64 0,Value.int Go.IntKind.i64 0,Value.int Go.IntKind.i64 0,Value.int Go.IntKind.i64 0,Value.int Go.IntKind.i64 0,Value.int Go.IntKind.i64 0]:=zBM (zv:=Value.agg #[Value.int Go.IntKind.i64 0,Value.int Go.IntKind.i64 0,Value.int Go.IntKind.i64 0,Value.int Go.IntKind.i64 0,Value.int Go.IntKind.i64 0,Value.int Go.IntKind.i64 0,Value.int Go.IntKind.i64 0,Value.int Go.IntKind.i64 0,Value.int Go.IntKind.i64 0,Value.int Go.IntKind.i64 0,Value.int Go.IntKind.i64 0,Value.int Go.IntKind.i64 0,Value.int Go.IntKind.i64 0]) (by kernel_rfl) rfl Tryd.underlying103 (by kernel_rfl)
instance : TyI Tryd.prog 105 (TypeDesc.array 13 103) 169 true:=⟨Tryd.underlying105,Tryd.sizeOf105,Tryd.isAgg105⟩
instance : TyZ Tryd.prog 105 (Go.Proofs.Tryd.zeroCells105.toList):=⟨fun w=>⟨_,Tryd.zeroValue105 w,rfl⟩⟩
instance : TyBA Tryd.prog 105 13 (Go.Proofs.Tryd.zeroCells105.toList):=zBM (zv:=Value.agg Go.Proofs.Tryd.zeroCells105) (by kernel_rfl) rfl Tryd.underlying105 (by kernel_rfl)
instance : TyI Tryd.prog 107 (TypeDesc.pointer 62) 1 false:=⟨Tryd.underlying107,Tryd.sizeOf107,Tryd.isAgg107⟩
instance : TyI Tryd.prog 108 (TypeDesc.slice 46) 1 false:=⟨Tryd.underlying108,Tryd.sizeOf108,Tryd.isAgg108⟩
instance : TyZ Tryd.prog 108 [Value.slice none 0 0]:=⟨fun w=>⟨_,Tryd.zeroValue108 w,rfl⟩⟩
instance : TyI Tryd.prog 110 (TypeDesc.func #[3,46] #[4] false) 1 false:=⟨Tryd.underlying110,Tryd.sizeOf110,Tryd.isAgg110⟩
instance : TyI Tryd.prog 111 (TypeDesc.slice 35) 1 false:=⟨Tryd.underlying111,Tryd.sizeOf111,Tryd.isAgg111⟩
instance : TyZ Tryd.prog 111 [Value.slice none 0 0]:=⟨fun w=>⟨_,Tryd.zeroValue111 w,rfl⟩⟩
instance : TyI Tryd.prog 118 (TypeDesc.array 24 5) 24 true:=⟨Tryd.underlying118,Tryd.sizeOf118,Tryd.isAgg118⟩
instance : TyZ Tryd.prog 118 [Value.int Go.IntKind.u8 0,Value.int Go.IntKind.u8 0,Value.int Go.IntKind.u8 0,Value.int Go.IntKind.u8 0,Value.int Go.IntKind.u8 0,Value.int Go.IntKind.u8 0,Value.int Go.IntKind.u8 0,Value.int Go.IntKind.u8 0,Value.int Go.IntKind.u8 0,Value.int Go.IntKind.u8 0,Value.int Go.IntKind.u8 0,Value.int Go.IntKind.u8 0,Value.int Go.IntKind.u8 0,Value.int Go.IntKind.u8 0,Value.int Go.IntKind.u8 0,Value.int Go.IntKind.u8 0,Value.int Go.IntKind.u8 0,Value.int Go.IntKind.u8 0,Value.int Go.IntKind.u8 0,Value.int Go.IntKind.u8 0,Value.int Go.IntKind.u8 0,Value.int Go.IntKind.u8 0,Value.int Go.IntKind.u8 0,Value.int Go.IntKind.u8 0]:=⟨fun w=>⟨_,Tryd.zeroValue118 w,rfl⟩⟩
instance : TyBA Tryd.prog 118 1 [Value.int Go.IntKind.u8 0,Value.int Go.IntKind.u8 0,Value.int Go.IntKind.u8 0,Value.int Go.IntKind.u8 0,Value.int Go.IntKind.u8 0,Value.int Go.IntKind.u8 0,Value.int Go.IntKind.u8 0,Value.int Go.IntKind.u8 0,Value.int Go.IntKind.u8 0,Value.int Go.IntKind.u8 0,Value.int Go.IntKind.u8 0,Value.int Go.IntKind.u8 0,Value.int Go.IntKind.u8 0,Value.int Go.IntKind.u8 0,Value.int Go.IntKind.u8 0,Value.int Go.IntKind.u8 0,Value.int Go.IntKind.u8 0,Value.int Go.IntKind.u8 0,Value.int Go.IntKind.u8 0,Value.int Go.IntKind.u8 0,Value.int Go.IntKind.u8 0,Value.int Go.IntKind.u8 0,Value.int Go.IntKind.u8 0,Value.int Go.IntKind.u8 0]:=zBM (zv:=Value.agg #[Value.int Go.IntKind.u8 0,Value.int Go.IntKind.u8 0,Value.int Go.IntKind.u8 0,Value.int Go.IntKind.u8 0,Value.int Go.IntKind.u8 0,Value.int Go.IntKind.u8 0,Value.int Go.IntKind.u8 0,Value.int Go.IntKind.u8 0,Value.int Go.IntKind.u8 0,Value.int Go.IntKind.u8 0,Value.int Go.IntKind.u8 0,Value.int Go.IntKind.u8 0,Value.int Go.IntKind.u8 0,Value.int Go.IntKind.u8 0,Value.int Go.IntKind.u8 0,Value.int Go.IntKind.u8 0,Value.int Go.IntKind.u8 0,Value.int Go.IntKind.u8 0,Value.int Go.IntKind.u8 0,Value.int Go.IntKind.u8 0,Value.int Go.IntKind.u8 0,Value.int Go.IntKind.u8 0,Value.int Go.IntKind.u8 0,Value.int Go.IntKind.u8 0]) (by kernel_rfl) rfl Tryd.underlying118 (by kernel_rfl)
instance : TyI Tryd.prog 119 (TypeDesc.int Go.IntKind.u64) 1 false:=⟨Tryd.underlying119,Tryd.sizeOf119,Tryd.isAgg119⟩
instance : TyI Tryd.prog 122 (TypeDesc.slice 5) 1 false:=⟨Tryd.underlying122,Tryd.sizeOf122,Tryd.isAgg122⟩
instance : TyI Tryd.prog 127 (TypeDesc.array 20 119) 20 true:=⟨Tryd.underlying127,Tryd.sizeOf127,Tryd.isAgg127⟩
instance : TyBA Tryd.prog 127 1 [Value.int Go.IntKind.u64 0,Value.int Go.IntKind.u64 0,Value.int Go.IntKind.u64 0,Value.int Go.IntKind.u64 0,Value.int Go.IntKind.u64 0,Value.int Go.IntKind.u64 0,Value.int Go.IntKind.u64 0,Value.int Go.IntKind.u64 0,Value.int Go.IntKind.u64 0,Value.int Go.IntKind.u64 0,Value.int Go.IntKind.u64 0,Value.int Go.IntKind.u64 0,Value.int Go.IntKind.u64 0,Value.int Go.IntKind.u64 0,Value.int Go.IntKind.u64 0,Value.int Go.IntKind.u64 0,Value.int Go.IntKind.u64 0,Value.int Go.IntKind.u64 0,Value.int Go.IntKind.u64 0,Value.int Go.IntKind.u64 0]:=zBM (zv:=Value.agg #[Value.int Go.IntKind.u64 0,Value.int Go.IntKind.u64 0,Value.int Go.IntKind.u64 0,Value.int Go.IntKind.u64 0,Value.int Go.IntKind.u64 0,Value.int Go.IntKind.u64 0,Value.int Go.IntKind.u64 0,Value.int Go.IntKind.u64 0,Value.int Go.IntKind.u64 0,Value.int Go.IntKind.u64 0,Value.int Go.IntKind.u64 0,Value.int Go.IntKind.u64 0,Value.int Go.IntKind.u64 0,Value.int Go.IntKind.u64 0,Value.int Go.IntKind.u64 0,Value.int Go.IntKind.u64 0,Value.int Go.IntKind.u64 0,Value.int Go.IntKind.u64 0,Value.int Go.IntKind.u64 0,Value.int Go.IntKind.u64 0]) (by kernel_rfl) rfl Tryd.underlying127 (by kernel_rfl)
instance : TyI Tryd.prog 128 (TypeDesc.int Go.IntKind.u32) 1 false:=⟨Tryd.underlying128,Tryd.sizeOf128,Tryd.isAgg128⟩
instance : TyI Tryd.prog 129 (TypeDesc.array 65 5) 65 true:=⟨Tryd.underlying129,Tryd.sizeOf129,Tryd.isAgg129⟩
instance : TyZ Tryd.prog 129 (Go.Proofs.Tryd.zeroCells129.toList):=⟨fun w=>⟨_,Tryd.zeroValue129 w,rfl⟩⟩
instance : TyBA Tryd.prog 129 1 (Go.Proofs.Tryd.zeroCells129.toList):=zBM (zv:=Value.agg Go.Proofs.Tryd.zeroCells129) (by kernel_rfl) rfl Tryd.underlying129 (by kernel_rfl)
instance : TyI Tryd.prog 130 (TypeDesc.int Go.IntKind.u64) 1 false:=⟨Tryd.underlying130,Tryd.sizeOf130,Tryd.isAgg130⟩
instance : TyI Tryd.prog 133 (TypeDesc.array 32 5) 32 true:=⟨Tryd.underlying133,Tryd.sizeOf133,Tryd.isAgg133⟩
instance : TyBA Tryd.prog 133 1 [Value.int Go.IntKind.u8 0,Value.int Go.IntKind.u8 0,Value.int Go.IntKind.u8 0,Value.int Go.IntKind.u8 0,Value.int Go.IntKind.u8 0,Value.int Go.IntKind.u8 0,Value.int Go.IntKind.u8 0,Value.int Go.IntKind.u8 0,Value.int Go.IntKind.u8 0,Value.int Go.IntKind.u8 0,Value.int Go.IntKind.u8 0,Value.int Go.IntKind.u8 0,Value.int Go.IntKind.u8 0,Value.int Go.IntKind.u8 0,Value.int Go.IntKind.u8 0,Value.int Go.IntKind.u8 0,Value.int Go.IntKind.u8 0,Value.int Go.IntKind.u8 0,Value.int Go.IntKind.u8 0,Value.int Go.IntKind.u8 0,Value.int Go.IntKind.u8 0,Value.int Go.IntKind.u8 0,Value.int Go.IntKind.u8 0,Value.int Go.IntKind.u8 0,Value.int Go.IntKind.u8 0,Value.int Go.IntKind.u8 0,Value.int Go.IntKind.u8 0,Value.int Go.IntKind.u8 0,Value.int Go.IntKind.u8 0,Value.int Go.IntKind.u8 0,Value.int Go.IntKind.u8 0,Value.int Go.IntKind.u8 0]:=zBM (zv:=Value.agg #[Value.int Go.IntKind.u8 0,Value.int Go.IntKind.u8 0,Value.int Go.IntKind.u8 0,Value.int Go.IntKind.u8 0,Value.int Go.IntKind.u8 0,Value.int Go.IntKind.u8 0,Value.int Go.IntKind.u8 0,Value.int Go.IntKind.u8 0,Value.int Go.IntKind.u8 0,Value.int Go.IntKind.u8 0,Value.int Go.IntKind.u8 0,Value.int Go.IntKind.u8 0,Value.int Go.IntKind.u8 0,Value.int Go.IntKind.u8 0,Value.int Go.IntKind.u8 0,Value.int Go.IntKind.u8 0,Value.int Go.IntKind.u8 0,Value.int Go.IntKind.u8 0,Value.int Go.IntKind.u8 0,Value.int Go.IntKind.u8 0,Value.int Go.IntKind.u8 0,Value.int Go.IntKind.u8 0,Value.int Go.IntKind.u8 0,Value.int Go.IntKind.u8 0,Value.int Go.IntKind.u8 0,Value.int Go.IntKind.u8 0,Value.int Go.IntKind.u8 0,Value.int Go.IntKind.u8 0,Value.int Go.IntKind.u8 0,Value.int Go.IntKind.u8 0,Value.int Go.IntKind.u8 0,Value.int Go.IntKind.u8 0]) (by kernel_rfl) rfl Tryd.underlying133 (by kernel_rfl)
instance : TyI Tryd.prog 134 (TypeDesc.array 64 5) 64 true:=⟨Tryd.underlying134,Tryd.sizeOf134,Tryd.isAgg134⟩
instance : TyBA Tryd.prog 134 1 [Value.int Go.IntKind.u8 0,Value.int Go.IntKind.u8 0,Value.int Go.IntKind.u8 0,Value.int Go.IntKind.u8 0,Value.int Go.IntKind.u8 0,Value.int Go.IntKind.u8 0,Value.int Go.IntKind.u8 0,Value.int Go.IntKind.u8 0,Value.int Go.IntKind.u8 0,Value.int Go.IntKind.u8 0,Value.int Go.IntKind.u8 0,Value.int Go.IntKind.u8 0,Value.int Go.IntKind.u8 0,Value.int Go.IntKind.u8 0,Value.int Go.IntKind.u8 0,Value.int Go.IntKind.u8 0,Value.int Go.IntKind.u8 0,Value.int Go.IntKind.u8 0,Value.int Go.IntKind.u8 0,Value.int Go.IntKind.u8 0,Value.int Go.IntKind.u8 0,Value.int Go.IntKind.u8 0,Value.int Go.IntKind.u8 0,Value.int Go.IntKind.u8 0,Value.int Go.IntKind.u8 0,Value.int Go.IntKind.u8 0,Value.int Go.IntKind.u8 0,Value.int Go.IntKind.u8 0,Value.int Go.IntKind.u8 0,Value.int Go.IntKind.u8 0,Value.int Go.IntKind.u8 0,Value.int Go.IntKind.u8 0,Value.int Go.IntKind.u8 0,Value.int Go.IntKind.u8 0,Value.int Go.IntKind.u8 0,Value.int Go.IntKind.u8 0,Value.int Go.IntKind.u8 0,Value.int Go.IntKind.u8 0,Value.int Go.IntKind.u8 0,Value.int Go.IntKind.u8 0,Value.int Go.IntKind.u8 0,Value.int Go.IntKind.u8 0,Value.int Go.IntKind.u8 0,Value.int Go.IntKind.u8 0,Value.int Go.IntKind.u8 0,Value.int Go.IntKind.u8 0,Value.int Go.IntKind.u8 0,Value.int Go.IntKind.u8 0,Value.int Go.IntKind.u8 0,Value.int Go.IntKind.u8 0,Value.int Go.IntKind.u8 0,Value.int Go.IntKind.u8 0,Value.int Go.IntKind.u8 0,Value.int Go.IntKind.u8 0,Value.int Go.IntKind.u8 0,Value.int Go.IntKind.u8 0,Value.int Go.IntKind.u8 0,Value.int Go.IntKind.u8 0,Value.int Go.IntKind.u8 0,Value.int Go.IntKind.u8 0,Value.int Go.IntKind.u8 0,Value.int Go.IntKind.u8 0,Value.int Go.IntKind.u8 0,Value.int Go.IntKind.u8 0]:=zBM (zv:=Value.agg #[Value.int Go.IntKind.u8 0,Value.int Go.IntKind.u8 0,Value.int Go.IntKind.u8 0,Value.int Go.IntKind.u8 0,Value.int Go.IntKind.u8 0,Value.int Go.IntKind.u8 0,Value.int Go.IntKind.u8 0,Value.int Go.IntKind.u8 0,Value.int Go.IntKind.u8 0,Value.int Go.IntKind.u8 0,Value.int Go.IntKind.u8 0,Value.int Go.IntKind.u8 0,Value.int Go.IntKind.u8 0,Value.int Go.IntKind.u8 0,Value.int Go.IntKind.u8 0,Value.int Go.IntKind.u8 0,Value.int Go.IntKind.u8 0,Value.int Go.IntKind.u8 0,Value.int Go.IntKind.u8 0,Value.int Go.IntKind.u8 0,Value.int Go.IntKind.u8 0,Value.int Go.IntKind.u8 0,Value.int Go.IntKind.u8 0,Value.int Go.IntKind.u8 0,Value.int Go.IntKind.u8 0,Value.int Go.IntKind.u8 0,Value.int Go.IntKind.u8 0,Value.int Go.IntKind.u8 0,Value.int Go.IntKind.u8 0,Value.int Go.IntKind.u8 0,Value.int Go.IntKind.u8 0,Value.int Go.IntKind.u8 0,Value.int Go.IntKind.u8 0,Value.int Go.IntKind.u8 0,Value.int Go.IntKind.u8 0,Value.int Go.IntKind.u8 0,Value.int Go.IntKind.u8 0,Value.int Go.IntKind.u8 0,Value.int Go.IntKind.u8 0,Value.int Go.IntKind.u8 0,Value.int Go.IntKind.u8 0,Value.int Go.IntKind.u8 0,Value.int Go.IntKind.u8 0,Value.int Go.IntKind.u8 0,Value.int Go.IntKind.u8 0,Value.int Go.IntKind.u8 0,Value.int Go.IntKind.u8 0,Value.int Go.IntKind.u8 0,Value.int Go.IntKind.u8 0,Value.int Go.IntKind.u8 0,Value.int Go.IntKind.u8 0,Value.int Go.IntKind.u8 0,Value.int Go.IntKind.u8 0,Value.int Go.IntKind.u8 0,Value.int Go.IntKind.u8 0,Value.int Go.IntKind.u8 0,Value.int Go.IntKind.u8 0,Value.int Go.IntKind.u8 0,Value.int Go.IntKind.u8 0,Value.int Go.IntKind.u8 0,Value.int Go.IntKind.u8 0,Value.int Go.IntKind.u8 0,Value.int Go.IntKind.u8 0,Value.int Go.IntKind.u8 0]) (by kernel_rfl) rfl Tryd.underlying134 (by kernel_rfl)
instance : FoI Tryd.prog 23 0 0:=foI (T:=23) (m:=0) inferInstance rfl (inferInstance:TyI Tryd.prog 3 _ _ _) rfl rfl
instance : FoI Tryd.prog 23 1 1:=foI (T:=23) (m:=1) inferInstance rfl (inferInstance:TyI Tryd.prog 3 _ _ _) rfl rfl
instance : FoI Tryd.prog 26 0 0:=foI (T:=26) (m:=0) inferInstance rfl (inferInstance:TyI Tryd.prog 5 _ _ _) rfl rfl
instance : FoI Tryd.prog 26 1 1:=foI (T:=26) (m:=1) inferInstance rfl (inferInstance:TyI Tryd.prog 3 _ _ _) rfl rfl
instance : FoI Tryd.prog 26 2 2:=foI (T:=26) (m:=2) inferInstance rfl (inferInstance:TyI Tryd.prog 3 _ _ _) rfl rfl
instance : FoI Tryd.prog 26 3 3:=foI (T:=26) (m:=3) inferInstance rfl (inferInstance:TyI Tryd.prog 23 _ _ _) rfl rfl
instance : FoI Tryd.prog 37 0 0:=foI (T:=37) (m:=0) inferInstance rfl (inferInstance:TyI Tryd.prog 35 _ _ _) rfl rfl
instance : FoI Tryd.prog 46 0 0:=foI (T:=46) (m:=0) inferInstance rfl (inferInstance:TyI Tryd.prog 3 _ _ _) rfl rfl
instance : FoI Tryd.prog 46 1 1:=foI (T:=46) (m:=1) inferInstance rfl (inferInstance:TyI Tryd.prog 23 _ _ _) rfl rfl
instance : FoI Tryd.prog 62 0 0:=foI (T:=62) (m:=0) inferInstance rfl (inferInstance:TyI Tryd.prog 3 _ _ _) rfl rfl
instance : FoI Tryd.prog 62 1 1:=foI (T:=62) (m:=1) inferInstance rfl (inferInstance:TyI Tryd.prog 23 _ _ _) rfl rfl
instance : FoI Tryd.prog 62 2 3:=foI (T:=62) (m:=2) inferInstance rfl (inferInstance:TyI Tryd.prog 23 _ _ _) rfl rfl
instance : FoI Tryd.prog 62 3 5:=foI (T:=62) (m:=3) inferInstance rfl (inferInstance:TyI Tryd.prog 23 _ _ _) rfl rfl
instance : FoI Tryd.prog 62 4 7:=foI (T:=62) (m:=4) inferInstance rfl (inferInstance:TyI Tryd.prog 5 _ _ _) rfl rfl
instance : FoI Tryd.prog 62 5 8:=foI (T:=62) (m:=5) inferInstance rfl (inferInstance:TyI Tryd.prog 3 _ _ _) rfl rfl
instance : FoI Tryd.prog 65 0 0:=foI (T:=65) (m:=0) inferInstance rfl (inferInstance:TyI Tryd.prog 37 _ _ _) rfl rfl
instance : FoI Tryd.prog 100 0 0:=foI (T:=100) (m:=0) inferInstance rfl (inferInstance:TyI Tryd.prog 98 _ _ _) rfl rfl
instance : zR Tryd.prog 2:=⟨Tryd.call2⟩
instance : zR Tryd.prog 3:=⟨Tryd.call3⟩
instance : zR Tryd.prog 4:=⟨Tryd.call4⟩
instance : zR Tryd.prog 5:=⟨Tryd.call5⟩
instance : zR Tryd.prog 6:=⟨Tryd.call6⟩
instance : zR Tryd.prog 7:=⟨Tryd.call7⟩
instance : zR Tryd.prog 8:=⟨Tryd.call8⟩
instance : zR Tryd.prog 9:=⟨Tryd.call9⟩
instance : zR Tryd.prog 10:=⟨Tryd.call10⟩
instance : zR Tryd.prog 11:=⟨Tryd.call11⟩
instance : zR Tryd.prog 12:=⟨Tryd.call12⟩
instance : zR Tryd.prog 13:=⟨Tryd.call13⟩
instance : zR Tryd.prog 14:=⟨Tryd.call14⟩
instance : zR Tryd.prog 15:=⟨Tryd.call15⟩
instance : zR Tryd.prog 16:=⟨Tryd.call16⟩
instance : zR Tryd.prog 17:=⟨Tryd.call17⟩
instance : zR Tryd.prog 18:=⟨Tryd.call18⟩
instance : zR Tryd.prog 19:=⟨Tryd.call19⟩
instance : zR Tryd.prog 20:=⟨Tryd.call20⟩
instance : zR Tryd.prog 21:=⟨Tryd.call21⟩
instance : zR Tryd.prog 22:=⟨Tryd.call22⟩
instance : zR Tryd.prog 23:=⟨Tryd.call23⟩
instance : zR Tryd.prog 24:=⟨Tryd.call24⟩
instance : zR Tryd.prog 25:=⟨Tryd.call25⟩
instance : zR Tryd.prog 26:=⟨Tryd.call26⟩
instance : zR Tryd.prog 27:=⟨Tryd.call27⟩
instance : zR Tryd.prog 28:=⟨Tryd.call28⟩
instance : zR Tryd.prog 29:=⟨Tryd.call29⟩
instance : zR Tryd.prog 30:=⟨Tryd.call30⟩
instance : zR Tryd.prog 31:=⟨Tryd.call31⟩
instance : zR Tryd.prog 32:=⟨Tryd.call32⟩
instance : zR Tryd.prog 33:=⟨Tryd.call33⟩
instance : zR Tryd.prog 34:=⟨Tryd.call34⟩
instance : zR Tryd.prog 35:=⟨Tryd.call35⟩
instance : zR Tryd.prog 36:=⟨Tryd.call36⟩
instance : zR Tryd.prog 37:=⟨Tryd.call37⟩
instance : zR Tryd.prog 38:=⟨Tryd.call38⟩
instance : zR Tryd.prog 39:=⟨Tryd.call39⟩
instance : zR Tryd.prog 40:=⟨Tryd.call40⟩
instance : zR Tryd.prog 41:=⟨Tryd.call41⟩
instance : zR Tryd.prog 42:=⟨Tryd.call42⟩
instance : zR Tryd.prog 43:=⟨Tryd.call43⟩
instance : zR Tryd.prog 44:=⟨Tryd.call44⟩
instance : zR Tryd.prog 45:=⟨Tryd.call45⟩
instance : zR Tryd.prog 46:=⟨Tryd.call46⟩
instance : zR Tryd.prog 47:=⟨Tryd.call47⟩
instance : zR Tryd.prog 48:=⟨Tryd.call48⟩
instance : zR Tryd.prog 49:=⟨Tryd.call49⟩
instance : zR Tryd.prog 50:=⟨Tryd.call50⟩
instance : zR Tryd.prog 51:=⟨Tryd.call51⟩
instance : zR Tryd.prog 52:=⟨Tryd.call52⟩
instance : zR Tryd.prog 53:=⟨Tryd.call53⟩
instance : zR Tryd.prog 54:=⟨Tryd.call54⟩
instance : zR Tryd.prog 55:=⟨Tryd.call55⟩
instance : zR Tryd.prog 56:=⟨Tryd.call56⟩
instance : zR Tryd.prog 57:=⟨Tryd.call57⟩
instance : zR Tryd.prog 58:=⟨Tryd.call58⟩
instance : zR Tryd.prog 59:=⟨Tryd.call59⟩
instance : zR Tryd.prog 60:=⟨Tryd.call60⟩
instance : zR Tryd.prog 61:=⟨Tryd.call61⟩
instance : zR Tryd.prog 62:=⟨Tryd.call62⟩
instance : zR Tryd.prog 63:=⟨Tryd.call63⟩
instance : zR Tryd.prog 64:=⟨Tryd.call64⟩
instance : zR Tryd.prog 65:=⟨Tryd.call65⟩
instance : zR Tryd.prog 66:=⟨Tryd.call66⟩
instance : zR Tryd.prog 67:=⟨Tryd.call67⟩
instance : zR Tryd.prog 68:=⟨Tryd.call68⟩
instance : zR Tryd.prog 69:=⟨Tryd.call69⟩
instance : zR Tryd.prog 70:=⟨Tryd.call70⟩
instance : zR Tryd.prog 71:=⟨Tryd.call71⟩
instance : zR Tryd.prog 72:=⟨Tryd.call72⟩
instance : zR Tryd.prog 73:=⟨Tryd.call73⟩
instance : zR Tryd.prog 74:=⟨Tryd.call74⟩
end Go.Proofs.YtcpdjamlhhfbhaaDoor
