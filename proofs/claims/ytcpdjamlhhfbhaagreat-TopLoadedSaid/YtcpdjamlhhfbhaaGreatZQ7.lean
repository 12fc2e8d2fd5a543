/- ZQ7 -/
import Derived.Test.YtcpdjamlhhfbhaaGreatZQ1
import Derived.Test.YtcpdjamlhhfbhaaGreatZQ6
import Derived.Test.YtcpdjamlhhfbhaaGreatZQ4
import Derived.Maps.RangeRun
set_option linter.unusedSimpArgs false
set_option linter.unusedVariables false
namespace Go.Proofs.YtcpdjamlhhfbhaaGreat
structure Opn where
 sig:Int
 lo:Int
 hi:Int
deriving DecidableEq
structure RdK where
 m:Nat
 least:Nat→Int
 opts:Nat→List Opn
 start:Int
 now:Int
 misses:Int
 fakes:Int
 nsig:Int
section
variable {k : RdK}
def IsMin {K:Type} (S:K→Int→Prop) (f:K→Option Int):Prop:=∀ x,(∀ v,f x=some v→S x v∧∀ u,S x u→v≤u)∧(f x=none→∀ u,¬ S x u)
def IsMax {K:Type} (S:K→Int→Prop) (f:K→Option Int):Prop:=∀ x,(∀ v,f x=some v→S x v∧∀ u,S x u→u≤v)∧(f x=none→∀ u,¬ S x u)
theorem IsMin.none {K:Type}:IsMin (fun _ _=>False) (fun _:K=>Option.none):=fun x=>⟨fun v h=>(by cases h),fun _ _ h=>h⟩
theorem IsMax.none {K:Type}:IsMax (fun _ _=>False) (fun _:K=>Option.none):=fun x=>⟨fun v h=>(by cases h),fun _ _ h=>h⟩
end
end Go.Proofs.YtcpdjamlhhfbhaaGreat
namespace Go.Proofs.YtcpdjamlhhfbhaaGreat
section
variable {k : RdK}
def IsSpan (S:Int→Int→Prop):Option (Int × Int)→Prop
 | none=>∀ a b,¬ S a b
 | some (lo,hi)=>(∃ b,S lo b)∧(∃ a,S a hi)∧∀ a b,S a b→lo≤a∧b≤hi
def addS (s:Option (Int × Int)) (a b:Int):Option (Int × Int):=match s with|none=>some (a,b)|some p=>some (min a p.1,max b p.2)
end
end Go.Proofs.YtcpdjamlhhfbhaaGreat
namespace Go.Proofs.YtcpdjamlhhfbhaaGreat
structure Sy where
 at_:Int
 ah:Sp
deriving DecidableEq
instance : Inhabited Sy:=⟨⟨0,⟨0,0⟩⟩⟩
structure Clk where
 drift:Int
 syncs:List Sy
deriving DecidableEq
instance : Inhabited Clk:=⟨⟨0,[]⟩⟩
end Go.Proofs.YtcpdjamlhhfbhaaGreat
namespace Go.Proofs.YtcpdjamlhhfbhaaGreat
structure SlM where
 cls:Int
 start:Sp
 rub:Sp
 drag:Sp
 weight:Sp
 steer:Sp
def zDC (s:SlM):Bool:=inB 1 3 s.cls && zAt s.start 0 200000 && zAt s.rub 0 100 && zAt s.drag 0 1000 && zAt s.weight 50000 800000 && zAt s.steer (-500) 500
def zAP (b:Bool) (s:Sp) (f:Bool):Int:=if b=f then s.hi else s.lo
def airI (b:Bool) (s:SlM) (h long:Int):Int:=min h (h * zAP b s.drag false * long / (100 * zAP b s.weight true))
def zFK (b:Bool) (s:SlM) (long:Int):Int:=zAP b s.rub false * long / 100
def zEc (b:Bool) (s:SlM) (x:St) (h:Int):Int:=max 0 (h+zAP b x.fall true - airI b s h (zAP b x.long false) - zFK b s (zAP b x.long false))
def zAH (b:Bool) (s:SlM) (t:List St):Nat→Int
 | 0=>zAP b s.start true
 | i+1=>match t[i]? with|some x=>zEc b s x (zAH b s t i)|none=>zAH b s t i
theorem zBS {b:Bool} {s:SlM} {t:List St} {i:Nat} {x:St} (h:t[i]?=some x):zAH b s t (i+1)=zEc b s x (zAH b s t i):=by simp [zAH,h]
def zCG (b:Bool) (s:SlM) (t:List St) (i:Nat):List Int:=(List.range i).map (zAH b s t)
theorem zEh {b:Bool} {s:SlM} {t:List St} {i:Nat}:(zCG b s t i).length=i:=by simp [zCG]
theorem zFL {b:Bool} {s:SlM} {t:List St} {i k:Nat} (h:k<i):(zCG b s t i)[k]?=some (zAH b s t k):=by
 unfold zCG;rw [List.getElem?_map,List.getElem?_range h];rfl
structure zBq (s:SlM):Prop where
 cls:1≤s.cls∧s.cls≤3
 start:0≤s.start.lo∧s.start.lo≤s.start.hi∧s.start.hi≤200000
 rub:0≤s.rub.lo∧s.rub.lo≤s.rub.hi∧s.rub.hi≤100
 drag:0≤s.drag.lo∧s.drag.lo≤s.drag.hi∧s.drag.hi≤1000
 weight:50000≤s.weight.lo∧s.weight.lo≤s.weight.hi∧s.weight.hi≤800000
 steer:-500≤s.steer.lo∧s.steer.lo≤s.steer.hi∧s.steer.hi≤500
theorem zB7 {s:SlM}:zDC s=true↔zBq s:=by
 unfold zDC
 simp only [Bool.and_eq_true,zAu,zAa]
 exact ⟨fun ⟨⟨⟨⟨⟨a,b⟩,c⟩,d⟩,e⟩,f⟩=>⟨a,b,c,d,e,f⟩,fun h=>⟨⟨⟨⟨⟨h.cls,h.start⟩,h.rub⟩,h.drag⟩,h.weight⟩,h.steer⟩⟩
structure StF (x:St):Prop where
 long:1≤x.long.lo∧x.long.lo≤x.long.hi∧x.long.hi≤30000
 fall:0≤x.fall.lo∧x.fall.lo≤x.fall.hi∧x.fall.hi≤5000
theorem zFz : ∀ {l:List St} {a:Int},okFrom a l=true→∀ x∈l,StF x
 | y::l,a,h,x,hx=>by
  simp only [okFrom,Bool.and_eq_true] at h
  rcases List.mem_cons.1 hx with rfl|hx
  ·have h1:=h.1
   unfold zEI at h1
   simp only [Bool.and_eq_true,zAa] at h1
   exact ⟨h1.1.1.1.2,h1.1.1.2⟩
  ·exact zFz h.2 x hx
theorem zDn {t:List St} (h:valid t=true):∀ x∈t,StF x:=by
 unfold valid at h
 simp only [Bool.and_eq_true] at h
 exact zFz h.2
theorem zA2 {b f:Bool} {s:Sp} {lo hi:Int} (h1:lo≤s.lo) (h2:s.lo≤s.hi) (h3:s.hi≤hi):lo≤zAP b s f∧zAP b s f≤hi:=by
 unfold zAP;split<;>omega
theorem zFF {a b A B:Int} (h1:0≤a) (h2:a≤A) (h3:0≤b) (h4:b≤B):0≤a * b∧a * b≤A * B :=
 ⟨Int.mul_nonneg h1 h3,Int.mul_le_mul h2 h4 h3 (Int.le_trans h1 h2)⟩
theorem air_in {b:Bool} {s:SlM} {h long:Int} (hs:zBq s) (h0:0≤h) (hl:0≤long):0≤airI b s h long∧airI b s h long≤h:=by
 have h1:=zA2 (b:=b) (f:=false) hs.drag.1 hs.drag.2.1 hs.drag.2.2
 have h2:=zA2 (b:=b) (f:=true) hs.weight.1 hs.weight.2.1 hs.weight.2.2
 have h3:=Int.mul_nonneg (Int.mul_nonneg h0 h1.1) hl
 have h4:=Int.ediv_nonneg h3 (b:=100 * zAP b s.weight true) (by omega)
 unfold airI;omega
theorem ice_in {b:Bool} {s:SlM} {long:Int} (hs:zBq s) (hl:0≤long) (hl2:long≤30000):0≤zFK b s long∧zFK b s long≤30000:=by
 have h1:=zA2 (b:=b) (f:=false) hs.rub.1 hs.rub.2.1 hs.rub.2.2
 have h3:=zFF h1.1 h1.2 hl hl2
 unfold zFK
 omega
theorem next_in {b:Bool} {s:SlM} {x:St} {h H:Int} (hs:zBq s) (hx:StF x) (h0:0≤h) (hH:h≤H):0≤zEc b s x h∧zEc b s x h≤H+5000:=by
 have h1:=zA2 (b:=b) (f:=true) hx.fall.1 hx.fall.2.1 hx.fall.2.2
 have h2:=zA2 (b:=b) (f:=false) hx.long.1 hx.long.2.1 hx.long.2.2
 have h3:=air_in (b:=b) (long:=zAP b x.long false) hs h0 (by omega)
 have h4:=ice_in (b:=b) (long:=zAP b x.long false) hs (by omega) h2.2
 unfold zEc;omega
theorem zCH {b:Bool} {s:SlM} {t:List St} (hs:zBq s) (ht:∀ x∈t,StF x):∀ i:Nat,0≤zAH b s t i∧zAH b s t i≤200000+5000 * (i:Int)
 | 0=>by
  have h1:=zA2 (b:=b) (f:=true) hs.start.1 hs.start.2.1 hs.start.2.2
  simp only [zAH];omega
 | i+1=>by
  have ih:=zCH (b:=b) hs ht i
  cases h:t[i]? with
  | none=>simp only [zAH,h];omega
  | some x =>
   rw [zBS h]
   have:=next_in (b:=b) hs (ht x (List.mem_of_getElem? h)) ih.1 ih.2
   omega
end Go.Proofs.YtcpdjamlhhfbhaaGreat
namespace Go.Proofs.YtcpdjamlhhfbhaaGreat
open Go.RowKit
open Go.ChangeMaps (setBlock)
set_option maxRecDepth 20000
def SeqG (P:Program) (gf:FuncId) (lb:List Value) {α:Type} (D:List α→List Ent) (enc:α→List Value) (N:List α→α→Prop) (E:List α→Prop) (wb:World):Prop :=
 ∀ (ι:Type) (l:Nat) (I:List α→ι→Prop) (C:ι→List Ent) (s0:ι) (w:World),Below wb.heap.size wb w→I [] s0→Own wb.heap.size w (D []++C s0) →
  (∀ ys x s W,N ys x→I ys s→Below wb.heap.size wb W→Own wb.heap.size W (D (ys++[x])++C s)→YieldF P l (enc x) W (D (ys++[x])++C s) true (fun s'=>D (ys++[x])++C s') (I (ys++[x]))) →
  zC2 P gf (.func (.yield l) #[] #[]::lb) w (D []++C s0) (fun _:List α × ι=>.tuple #[]) (fun z=>D z.1++C z.2) (fun z=>E z.1∧I z.1 z.2)
section
variable {P : Program} {w0:World} {n:Nat} {d:List Deferred} {R:List (Nat × Value)} {H H' H1 H2:List Ent} {Q:Exit→Act→World→Prop} {ops:Array Oper} {rest:List Oper} {o:Oper} {t:Tmp} {x y z:Operand} {v:Value}
theorem u_rangeG {ι α:Type} {g:Operand} {ps:Array Tmp} {assign body:Code} {gf:FuncId} {lb:List Value} {bs:List Nat} (D:List α→List Ent) (enc:α→List Value) (N:List α→α→Prop) (E:List α→Prop) (I:List α→ι→Prop) (C:ι→List Ent) (s0:ι)
  (hg:evR R g=some (.func (.func gf) #[] lb.toArray)) [ci:zi P gf] (hs:Out H (D []++(C s0++[.dfr bs]))) (h0:I [] s0)
  (hps:∀ x,(enc x).length=ps.size) (hpn:∀ p∈ps.toList,p<n)
  (hit:SeqG P gf lb D enc N E w0)
  (hround:∀ (l:Nat) (ys:List α) (x:α) (s:ι) (r:Loop) (W:World),N ys x→I ys s→r.state = .ready→r.pending=none→Below w0.heap.size w0 W →
   U w0 n [] (zEo ps.toList (enc x)++R) ((D (ys++[x])++(C s++[.lrec l r,.dfr (r.defers::bs)]))++[.oldx W w0.heap.size (feet (D (ys++[x])++(C s++[.lrec l r,.dfr (r.defers::bs)])))]) (assign.wpI (some l) P (rndA P l body (rndB P l W (D (ys++[x])++(C s++[.lrec l r,.dfr (r.defers::bs)])) true (fun s'=>D (ys++[x])++(C s'++[.lrec l r,.dfr (r.defers::bs)])) (I (ys++[x]))))))
  (hdone:∀ b ys s,E ys→I ys s→U w0 n (dL (b::bs)) R (D ys++(C s++[.dfr (b::bs)])) (Q .normal)):U w0 n (dL bs) R H ((Code.rangeFunc g ps assign body).wpI none P Q):=fun a w q0=>by
 have q:=q0.sub (fun _ _ h=>h) hs
 refine wpIn_rangeFunc ?_
 intro fn _
 obtain ⟨rec,hrec⟩:∃ rec:LoopState→Option Code→Loop,rec=fun st pe=>{ state:=st,pending:=pe,fn,tmps:=a.tmps,params:=ps,assign,body,defers:=w.heap.size }:=⟨_,rfl⟩
 obtain ⟨W1,hW1⟩:∃ W1,(w.alloc (.deferred (some []))).alloc (.loop (rec .ready none))=W1:=⟨_,rfl⟩
 have hs1:W1.heap.size=w.heap.size+2:=by rw [← hW1];simp
 have hL1:W1.heap[w.heap.size+1]?=some (.loop (rec .ready none)):=by
  rw [← hW1];have:=World.alloc_heap_new (w.alloc (.deferred (some []))) (.loop (rec .ready none));rwa [World.size_alloc] at this
 have hK1:W1.heap[w.heap.size]?=some (.deferred (some [])):=by
  rw [← hW1];exact (Below.heap_alloc _ _ _ (by simp)).trans (World.alloc_heap_new w _)
 have hB1:Below w.heap.size w W1:=by
  rw [← hW1];exact ⟨rfl,rfl,rfl,by simp;omega,fun b hb=>(Below.heap_alloc _ _ _ (by simp;omega)).trans (Below.heap_alloc _ _ _ hb)⟩
 have hBw:Below w0.heap.size w0 W1:=q.below.trans (hB1.mono q.base)
 have hO1:Own w0.heap.size W1 (D []++(C s0++[.lrec (w.heap.size+1) (rec .ready none),.dfr (w.heap.size::bs)])):=by
  obtain ⟨p1,p2,p3⟩:=Own.append.1 q.own
  obtain ⟨p4,p5,p6⟩:=Own.append.1 p2
  have hd5:=p5.here (.dfr bs) (by simp)
  have hf5:=p5.foot (.dfr bs) (by simp)
  have b1:=p1.below hB1
  have b4:=p4.below hB1
  have hbs:∀ b,b∈bs→b<w.heap.size:=fun b hb=>(hf5 b hb).2
  refine Own.append.2 ⟨b1,Own.append.2 ⟨b4,⟨fun e he=>?_,fun e he b hb=>?_,?_⟩,fun e he f hf b hb hb'=>?_⟩,fun e he f hf b hb hb'=>?_⟩
  ·simp only [List.mem_cons,List.not_mem_nil,or_false] at he
   rcases he with rfl|rfl
   ·exact hL1
   ·refine ⟨List.nodup_cons.2 ⟨fun hm=>by have:=hbs _ hm;omega,hd5.1⟩,fun b hb=>?_⟩
    rcases List.mem_cons.1 hb with rfl|hb
    ·exact hK1
    ·exact (hB1.block b (hbs b hb)).trans (hd5.2 b hb)
  ·simp only [List.mem_cons,List.not_mem_nil,or_false] at he
   have:=q.base
   rcases he with rfl|rfl
   ·cases hb;omega
   ·rcases List.mem_cons.1 hb with rfl|hb
    ·omega
    ·have:=hf5 b hb;omega
  ·simp only [List.pairwise_cons,List.mem_singleton,forall_eq,List.not_mem_nil,false_implies,implies_true,List.Pairwise.nil,and_true]
   rintro b hb hb'
   cases hb
   rcases List.mem_cons.1 hb' with h|h
   ·omega
   ·have:=hbs _ h;omega
  ·have hlt:=(p4.foot e he b hb).2
   simp only [List.mem_cons,List.not_mem_nil,or_false] at hf
   rcases hf with rfl|rfl
   ·cases hb';omega
   ·rcases List.mem_cons.1 hb' with rfl|h
    ·omega
    ·exact p6 e he (.dfr bs) (by simp) b hb h
  ·have hlt:=(p1.foot e he b hb).2
   rcases List.mem_append.1 hf with hf|hf
   ·exact p3 e he f (List.mem_append_left _ hf) b hb hb'
   ·simp only [List.mem_cons,List.not_mem_nil,or_false] at hf
    rcases hf with rfl|rfl
    ·cases hb';omega
    ·rcases List.mem_cons.1 hb' with rfl|h
     ·omega
     ·exact p3 e he (.dfr bs) (by simp) b hb h
 refine ⟨w.heap.size+1,[{ target:=.collected w.heap.size,args:=#[] }],W1,{ target:=.fn (.func gf) lb.toArray,args:=#[.func (.yield (w.heap.size+1)) #[] #[]] },W1,gf,
  #[.func (.yield (w.heap.size+1)) #[] #[]]++lb.toArray,W1,?_,?_,?_,?_,(fun h=>by cases h),?_⟩
 ·rw [← hW1,hrec];exact run_enterLoop_outer _ _ _ _ _
 ·simp only [resolve,q0.ev hg]
  simp [go_sem]
 ·intro f' _;trivial
 ·simp [invoke,go_sem,ci.ent]
 ·have hseq:=hit ι (w.heap.size+1) I (fun s=>C s++[.lrec (w.heap.size+1) (rec .ready none),.dfr (w.heap.size::bs)]) s0 W1 hBw h0 hO1 ?_
  ·have hc:=hseq.calls
   have e9:(#[.func (.yield (w.heap.size+1)) #[] #[]]++lb.toArray:Array Value)=(.func (.yield (w.heap.size+1)) #[] #[]::lb:List Value).toArray:=by apply Array.ext';simp
   rw [e9]
   refine (zIQ (ro:=none) (n:=8) hc).mono ?_
   rintro e W2 ⟨⟨ys,s⟩,⟨hE,hI⟩,rfl,⟨h1,h2,h3,h4⟩,h5,h6,h7⟩
   simp only at hE hI h6 h7
   have h8:Own w0.heap.size W2 (D ys++(C s++[.lrec (w.heap.size+1) (rec .ready none),.dfr (w.heap.size::bs)])):=by
    have hO2:Own w0.heap.size W1 ((D []++(C s0++[.lrec (w.heap.size+1) (rec .ready none),.dfr (w.heap.size::bs)]))++[]):=by
     rw [List.append_nil];exact hO1
    have:=zFB hO2 (by have:=q.base;omega) h4 h5 h6 h7
    rwa [List.append_nil] at this
   have hB2:Below w0.heap.size w0 W2:=hBw.trans ⟨h1,h2,h3,h4,fun b hb=>h5 b (by have:=q.base;omega) (by
    rintro ⟨e,he,hS⟩
    have:=(hO1.foot e he b hS).1
    omega)⟩
   have hl2:W2.heap[w.heap.size+1]?=some (.loop (rec .ready none)):=h8.here (.lrec (w.heap.size+1) (rec .ready none)) (by simp)
   have hnb:(rec .ready none).state≠.busy:=by rw [hrec];simp
   have hend2:=run_endLoop (P:=P) hl2 hnb
   have h9:Own w0.heap.size (W2.putObj (w.heap.size+1) (.loop { rec .ready none with state:=.exhausted })) (D ys++(C s++[.dfr (w.heap.size::bs)])):=by
    have hlo:w0.heap.size≤w.heap.size+1:=by have:=q.base;omega
    obtain ⟨p1,p2,p3⟩:=Own.append.1 h8
    obtain ⟨p4,p5,p6⟩:=Own.append.1 p2
    have hne:∀ e∈D ys++(C s++[.dfr (w.heap.size::bs)]),∀ b,e.S b→b≠w.heap.size+1:=by
     rintro e he b hb rfl
     rcases List.mem_append.1 he with he|he
     ·exact p3 e he (.lrec (w.heap.size+1) (rec .ready none)) (by simp) _ hb rfl
     ·rcases List.mem_append.1 he with he|he
      ·exact p6 e he (.lrec (w.heap.size+1) (rec .ready none)) (by simp) _ hb rfl
      ·have:=(List.pairwise_cons.1 p5.apart).1 e (by simpa using he) (w.heap.size+1) rfl hb
       exact this
    have hsub:Own w0.heap.size W2 (D ys++(C s++[.dfr (w.heap.size::bs)])):=by
     refine Own.append.2 ⟨p1,Own.append.2 ⟨p4,p5.tail,fun e he f hf=>p6 e he f (List.mem_cons_of_mem _ hf)⟩,fun e he f hf=>p3 e he f ?_⟩
     rcases List.mem_append.1 hf with hf|hf
     ·exact List.mem_append_left _ hf
     ·exact List.mem_append_right _ (List.mem_cons_of_mem _ hf)
    exact hsub.past (by simp) (fun e he b hb=>World.putObj_heap_other (fun e'=>hne e he b hb e'))
   have hB3:=hB2.trans (zCz (w:=W2) (.loop { rec .ready none with state:=.exhausted }) (show w0.heap.size≤w.heap.size+1 by have:=q.base;omega))
   have hkn:Kn w0 n (dL (w.heap.size::bs)) R (D ys++(C s++[.dfr (w.heap.size::bs)])) { a with defers:=[{ target:=.collected w.heap.size,args:=#[] }]++a.defers } (W2.putObj (w.heap.size+1) (.loop { rec .ready none with state:=.exhausted })) :=
    ⟨q.size,by show _++a.defers=_;rw [q.defers];rfl,q.regs,hB3,h9⟩
   obtain ⟨X,hX⟩:∃ X,X=W2.putObj (w.heap.size+1) (.loop { rec .ready none with state:=.exhausted }):=⟨_,rfl⟩
   rw [← hX] at hend2 hkn
   have hpe:(rec .ready none).pending=none:=by rw [hrec]
   exact ⟨none,X,by rw [hend2,hpe],hdone _ ys s hE hI _ _ hkn⟩
  ·intro ys x s W hN hI hBW hOW
   have hl:W.heap[w.heap.size+1]?=some (.loop (rec .ready none)):=hOW.here (.lrec (w.heap.size+1) (rec .ready none)) (by simp)
   have hy:=run_yield (P:=P) (args:=(enc x).toArray) hl (by rw [hrec];simp [hps])
   refine ⟨_,_,_,_,hy,roundIn_of_wpIn trivial ?_⟩
   have hr:=hround (w.heap.size+1) ys x s (rec .ready none) W hN hI (by rw [hrec]) (by rw [hrec]) hBW { tmps:=(rec .ready none).params.zip (enc x).toArray |>.foldl (fun tmps (t,a)=>tmps.setIfInBounds t a) (rec .ready none).tmps,defers:=[] } W ?_
   ·have hdf:(rec .ready none).defers=w.heap.size:=by rw [hrec]
    have has:(rec .ready none).assign=assign:=by rw [hrec]
    have hbo:(rec .ready none).body=body:=by rw [hrec]
    rw [hdf] at hr
    rw [has,hbo]
    refine wpIn_mono (wpFW hr) ?_
    rintro e a1 W2 hq
    cases e with
    | normal =>
     obtain ⟨w2,hb1,hb2⟩:=hq
     refine ⟨w2,hb1,wpIn_mono hb2 ?_⟩
     intro e a2 W3 hq
     cases e with
     | normal=>exact hq
     | ret=>exact hq
     | exit id=>exact hq
     | goto l=>exact hq
     | panic c=>exact hq.elim
     | outgrown=>exact hq.elim
    | _=>exact hq.elim
   ·refine ⟨?_,rfl,?_,hBW,?_⟩
    ·rw [hrec]
     simp only
     rw [← Array.foldl_toList,zG7];exact q.size
    ·rw [hrec]
     simp only
     rw [← Array.foldl_toList,Array.toList_zip]
     exact zFv _ _ _ (fun p hp=>by rw [q.size];exact hpn p hp) q.regs
    ·have hdf:(rec .ready none).defers=w.heap.size:=by rw [hrec]
     rw [hdf]
     refine Own.append.2 ⟨hOW,⟨fun e he=>?_,fun e he b hb=>?_,by simp⟩,fun e he f hf b hb hb'=>?_⟩
     ·simp only [List.mem_singleton] at he;subst he;exact ⟨Nat.le_refl _,fun b _=>rfl⟩
     ·simp only [List.mem_singleton] at he;subst he;exact hb.1
     ·simp only [List.mem_singleton] at hf;subst hf;exact hb'.2 ⟨e,he,hb⟩
end
end Go.Proofs.YtcpdjamlhhfbhaaGreat
namespace Go.Proofs.YtcpdjamlhhfbhaaGreat.Two
variable {ro : Option Nat}
open Go.RowKit
set_option maxRecDepth 20000
section
variable {S : List (Nat × Nat)} {I:List (Nat × Nat × Nat × List Ent)} {P:Program} {w0:World} {n:Nat} {d:List Deferred} {R R0:List (Nat × Value)} {H H' H0:List Ent} {Q:Exit→Act→World→Prop} {ops:Array Oper} {bs:List (List Bool)} {b:List Bool} {k:Nat} {o:Oper} {rest:List Oper} {T:List Rw} {t:Tmp} {Hk:zAr→List Ent} {x y:Operand} {v:Value}
theorem c_take {f:zAr→Value × List Ent} (j:Nat) (hjk:(j,k)∈S) (hkI:keyI I k=false) (hl:Loc b k f) (ht:Takes S I P w0 n d ops R0 H0 b k o T f (zAV (only j T))) (h:zBa ro S I P w0 n d ops R0 H0 Q bs (k+1) rest (⟨k,o.dst,f⟩::T)):zBa ro S I P w0 n d ops R0 H0 Q (b::bs) k (o::rest) T :=
 .inl ⟨f,hl,.inr (.inl ⟨hkI,j,hjk,ht⟩),h⟩
theorem c_takeI {f:zAr→Value × List Ent} {E0:List Ent} {lo hi:Nat} (hkE:(k,lo,hi,E0)∈I) (hfree:takes S k=false) (hl:Loc b k f) (ht:Takes S I P w0 n d ops R0 H0 b k o T f (fun _=>E0)) (h:zBa ro S I P w0 n d ops R0 H0 Q bs (k+1) rest (⟨k,o.dst,f⟩::T)):zBa ro S I P w0 n d ops R0 H0 Q (b::bs) k (o::rest) T :=
 .inl ⟨f,hl,.inr (.inr ⟨hfree,lo,hi,E0,hkE,ht⟩),h⟩
theorem zFS {T1:TypeId} {td:TypeDesc} {s off:Nat} {g:Bool} {gx:zAr→Nat} {vy:zAr→Value} {cs:zAr→List Value} {cs':zAr→List Value} (j:Nat) (hjk:(j,k)∈S) (hkI:keyI I k=false) (hop:o.op = .store T1 x y) [i1:TyI P T1 td s g] (hw:∀ G,want (Rk R0 ops b o T G) ops o=some true) (hd:o.dst=none) (hx:∀ G,evR (Rk R0 ops b o T G) x=some (.pointer (some ⟨gx G,off,none⟩))) (hy:∀ G,evR (Rk R0 ops b o T G) y=some (vy G)) (hent:∀ G,zAV (only j T) G=[.blk (gx G) (cs G)])
  (hv:∀ G,Nat.beq (vy G).cells.toList.length s=true) (hv1:∀ G,(vy G).cells.toList.all Value.oneCell'=true) (hl:∀ G,Nat.ble (off+s) (cs G).length=true) (hc:∀ G,put1 (cs G) off (vy G).cells.toList=cs' G) (hg:LocB b k gx) (hcs:LocB b k cs')
  (h:zBa ro S I P w0 n d ops R0 H0 Q bs (k+1) rest (⟨k,none,fun G=>(undef,[.blk (gx G) (cs' G)])⟩::T)):zBa ro S I P w0 n d ops R0 H0 Q (b::bs) k (o::rest) T:=by
 refine c_take (f:=fun G=>(undef,[.blk (gx G) (cs' G)])) j hjk hkI (fun G G' hG=>by simp only [hg.loc G G' hG,hcs.loc G G' hG]) (fun G L a w q ho K hK=>?_) (by rw [hd];exact h)
 rw [hent G] at ho
 refine zFj hop (hw G) hd (hx G) (hy G) (hv G) (hv1 G) (hl G) (hc G) q ho (fun w' hB hO=>?_)
 have:=hK undef [.blk (gx G) (cs' G)] w' ⟨⟨0,none,0⟩,by simp only [hg.up,hcs.up]⟩ hB hO
 rw [hd] at this
 exact this
end
end Go.Proofs.YtcpdjamlhhfbhaaGreat.Two
namespace Go.Proofs.YtcpdjamlhhfbhaaGreat
variable {ro : Option Nat}
open Go.RowKit
open Go.ChangeMaps (setBlock)
set_option linter.unusedSectionVars false
def zB1 {α β:Type} [DecidableEq α] (f:α→β) (a:α) (b:β):α→β:=fun x=>if x=a then b else f x
theorem zEE {α β:Type} [DecidableEq α] {f:α→β} {a:α} {b:β}:zB1 f a b a=b:=by simp [zB1]
theorem zGO {α β:Type} [DecidableEq α] {f:α→β} {a x:α} {b:β} (h:x≠a):zB1 f a b x=f x:=by simp [zB1,h]
structure zFV (P:Program) (T:TypeId) {K:Type} [DecidableEq K] (kv:K→Value):Prop where
 chk:∀ e k w,(Instr.checkKey e 10000 T (kv k)).run P w = .ok () w
 eq:∀ k k' w,(Op.equal T (kv k) (kv k')).run P w = .ok (decide (k=k')) w
 und:(∃ d,P.underlying T=some d∧∀ k v,Instr.sameNow d (kv k) v=none)∨∃ d,P.underlying T=some d∧∀ k k',Instr.sameNow d (kv k) (kv k')=some (decide (k=k'))
 bits:∀ k,Instr.sameBits 10000 (kv k) (kv k)=true
section
variable {K V:Type} [DecidableEq K] {kv:K→Value} {vv:V→Value}
def zAc (kv:K→Value) (vv:V→Value) (x:K × V × Nat):MapEntry:=⟨kv x.1,vv x.2.1,x.2.2⟩
def look : List (K × V × Nat)→K→Option V
 | [],_=>none
 | x::r,k=>if k=x.1 then some x.2.1 else look r k
def findA : List (K × V × Nat)→K→Nat→Option (Nat × V)
 | [],_,_=>none
 | x::r,k,i=>if k=x.1 then some (i,x.2.1) else findA r k (i+1)
structure MOk (l:List (K × V × Nat)) (c:Nat):Prop where
 keys:(l.map (·.1)).Nodup
 born:(l.map (·.2.2)).Nodup
 lt:∀ x∈l,x.2.2<c
theorem zCk {k:K}:∀ {l:List (K × V × Nat)} (i:Nat),look l k=none→findA l k i=none∧∀ x∈l,x.1≠k
 | [],_,_=>⟨rfl,by simp⟩
 | x::r,i,h=>by
  simp only [look] at h
  by_cases e:k=x.1
  ·rw [if_pos e] at h;cases h
  ·rw [if_neg e] at h
   obtain ⟨h1,h2⟩:=zCk (l:=r) (i+1) h
   simp only [findA]
   rw [if_neg e]
   refine ⟨h1,fun y hy=>?_⟩
   rcases List.mem_cons.1 hy with rfl|hy
   ·exact fun h=>e h.symm
   ·exact h2 y hy
theorem zB3 {k:K} {v:V}:∀ {l:List (K × V × Nat)} (i:Nat),look l k=some v→∃ j b,findA l k i=some (i+j,v)∧l[j]?=some (k,v,b)
 | [],_,h=>by cases h
 | x::r,i,h=>by
  simp only [look] at h
  simp only [findA]
  by_cases e:k=x.1
  ·rw [if_pos e] at h ⊢
   simp only [Option.some.injEq] at h
   subst h
   subst e
   exact ⟨0,x.2.2,rfl,rfl⟩
  ·rw [if_neg e] at h ⊢
   obtain ⟨j,b,h1,h2⟩:=zB3 (l:=r) (i+1) h
   exact ⟨j+1,b,by rw [h1];congr 2;omega,by simpa using h2⟩
theorem look_mem {k:K} {v:V} {b:Nat} {l:List (K × V × Nat)} (hk:(l.map (·.1)).Nodup) (h:(k,v,b)∈l):look l k=some v:=by
 induction l with
 | nil=>cases h
 | cons x r ih =>
  simp only [look]
  rw [List.map_cons,List.nodup_cons] at hk
  rcases List.mem_cons.1 h with rfl|h
  ·simp
  ·rw [if_neg]
   ·exact ih hk.2 h
   ·rintro rfl
    exact hk.1 (List.mem_map.2 ⟨_,h,rfl⟩)
theorem zEe {k:K} {v:V} {c:Nat}:∀ {l:List (K × V × Nat)},look l k=none→look (l++[(k,v,c)])=zB1 (look l) k (some v)
 | [],_=>by funext x;simp [look,zB1]
 | y::r,h=>by
  simp only [look] at h
  by_cases e:k=y.1
  ·rw [if_pos e] at h;cases h
  ·rw [if_neg e] at h
   have ih:=zEe (l:=r) (v:=v) (c:=c) h
   funext x
   have:=congrFun ih x
   simp only [List.cons_append,look,zB1] at this ⊢
   rw [this]
   by_cases h1:x=y.1
   ·rw [if_pos h1,if_neg (fun h2=>e (h2.symm.trans h1)),if_pos h1]
   ·rw [if_neg h1,if_neg h1]
theorem zHB {k:K} {v v':V} {b:Nat}:∀ {l:List (K × V × Nat)} {j:Nat},(l.map (·.1)).Nodup→l[j]?=some (k,v,b)→look (l.set j (k,v',b))=zB1 (look l) k (some v')
 | [],j,_,h=>by simp at h
 | y::r,0,hn,h=>by
  simp at h
  subst h
  funext x
  simp only [List.set_cons_zero,look,zB1]
  by_cases h1:x=k<;>simp [h1]
 | y::r,j+1,hn,h=>by
  rw [List.map_cons,List.nodup_cons] at hn
  have h':r[j]?=some (k,v,b):=by simpa using h
  have ih:=zHB (l:=r) (j:=j) (v':=v') hn.2 h'
  have hne:k≠y.1:=fun e=>hn.1 (List.mem_map.2 ⟨_,List.mem_of_getElem? h',e⟩)
  funext x
  have:=congrFun ih x
  simp only [List.set_cons_succ,look,zB1] at this ⊢
  rw [this]
  by_cases h1:x=y.1
  ·rw [if_pos h1,if_neg (fun h2=>hne (h2.symm.trans h1)),if_pos h1]
  ·rw [if_neg h1,if_neg h1]
theorem zFH {k:K} {v:V} {b:Nat}:∀ {l:List (K × V × Nat)} {j:Nat},(l.map (·.1)).Nodup→l[j]?=some (k,v,b)→look (l.eraseIdx j)=zB1 (look l) k none
 | [],j,_,h=>by simp at h
 | y::r,0,hn,h=>by
  simp at h
  subst h
  rw [List.map_cons,List.nodup_cons] at hn
  funext x
  simp only [List.eraseIdx_cons_zero,look,zB1]
  by_cases h1:x=k
  ·subst h1
   rw [if_pos rfl]
   cases hl:look r x with
   | none=>rfl
   | some u =>
    obtain ⟨i,c,_,h3⟩:=zB3 0 hl
    exact absurd (List.mem_map.2 ⟨_,List.mem_of_getElem? h3,rfl⟩) hn.1
  ·rw [if_neg h1,if_neg h1]
 | y::r,j+1,hn,h=>by
  rw [List.map_cons,List.nodup_cons] at hn
  have h':r[j]?=some (k,v,b):=by simpa using h
  have ih:=zFH (l:=r) (j:=j) hn.2 h'
  have hne:k≠y.1:=fun e=>hn.1 (List.mem_map.2 ⟨_,List.mem_of_getElem? h',e⟩)
  funext x
  have:=congrFun ih x
  simp only [List.eraseIdx_cons_succ,look,zB1] at this ⊢
  rw [this]
  by_cases h1:x=y.1
  ·rw [if_pos h1,if_neg (fun h2=>hne (h2.symm.trans h1)),if_pos h1]
  ·rw [if_neg h1,if_neg h1]
theorem look_nil : look ([]:List (K × V × Nat))=fun _=>none:=by funext x;rfl
theorem MOk.nil (c:Nat):MOk ([]:List (K × V × Nat)) c:=⟨by simp,by simp,by simp⟩
theorem MOk.push {l:List (K × V × Nat)} {c:Nat} {k:K} {v:V} (h:MOk l c) (hk:look l k=none):MOk (l++[(k,v,c)]) (c+1):=by
 refine ⟨?_,?_,?_⟩
 ·rw [List.map_append,List.nodup_append]
  refine ⟨h.keys,by simp,?_⟩
  intro a ha b hb e
  subst e
  simp at hb
  subst hb
  obtain ⟨x,hx,rfl⟩:=List.mem_map.1 ha
  exact (zCk 0 hk).2 x hx rfl
 ·rw [List.map_append,List.nodup_append]
  refine ⟨h.born,by simp,?_⟩
  intro a ha b hb e
  subst e
  simp at hb
  subst hb
  obtain ⟨x,hx,e⟩:=List.mem_map.1 ha
  have:=h.lt x hx
  omega
 ·intro x hx
  rcases List.mem_append.1 hx with hx|hx
  ·have:=h.lt x hx;omega
  ·simp at hx;subst hx;simp
theorem zDh {α β:Type} {f:α→β}:∀ {l:List α} {j:Nat} {x y:α},l[j]?=some x→f x=f y→(l.set j y).map f=l.map f
 | [],_,_,_,h,_=>by simp at h
 | a::r,0,x,y,h,e=>by simp at h;subst h;simp [e]
 | a::r,j+1,x,y,h,e=>by
  have h':r[j]?=some x:=by simpa using h
  simp [zDh h' e]
theorem MOk.set {l:List (K × V × Nat)} {c j:Nat} {k:K} {v v':V} {b:Nat} (h:MOk l c) (hj:l[j]?=some (k,v,b)):MOk (l.set j (k,v',b)) c:=by
 refine ⟨?_,?_,?_⟩
 ·rw [zDh (y:=(k,v',b)) hj rfl];exact h.keys
 ·rw [zDh (y:=(k,v',b)) hj rfl];exact h.born
 ·intro x hx
  rcases List.mem_or_eq_of_mem_set hx with hx|rfl
  ·exact h.lt x hx
  ·exact h.lt (k,v,b) (List.mem_of_getElem? hj)
theorem MOk.erase {l:List (K × V × Nat)} {c j:Nat} (h:MOk l c):MOk (l.eraseIdx j) c:=by
 have hs:(l.eraseIdx j).Sublist l:=List.eraseIdx_sublist _ _
 exact ⟨h.keys.sublist (hs.map _),h.born.sublist (hs.map _),fun x hx=>h.lt x (hs.subset hx)⟩
theorem zFG {α:Type} {f:α→α} {a b:α}:∀ {l:List α} {j:Nat},l[j]?=some a→f a=b→l.modify j f=l.set j b
 | [],_,h,_=>by simp at h
 | x::r,0,h,e=>by simp at h;subst h;simp [e]
 | x::r,j+1,h,e=>by
  have h':r[j]?=some a:=by simpa using h
  simp [zFG h' e]
theorem zF3 {α β:Type} (f:α→β):∀ (l:List α) (j:Nat),(l.map f).eraseIdx j=(l.eraseIdx j).map f
 | [],_=>rfl
 | _::_,0=>rfl
 | a::r,j+1=>by simp [zF3 f r j]
theorem zHy {l:List (K × V × Nat)} {j:Nat} (hj:j<l.length):(l.map (zAc kv vv)).toArray.eraseIdxIfInBounds j=((l.eraseIdx j).map (zAc kv vv)).toArray:=by
 apply Array.ext'
 rw [Array.toList_eraseIdxIfInBounds]
 simp [zF3]
theorem zFp {P:Program} {T:TypeId} (hT:zFV P T kv) (k:K) (w:World):∀ (l:List (K × V × Nat)) (i:Nat),(Instr.findAsking T (kv k) (l.map (zAc kv vv)) i).run P w = .ok ((findA l k i).map fun p=>(p.1,vv p.2)) w
 | [],i=>by simp [Instr.findAsking,findA]
 | x::r,i=>by
  have h1:=hT.eq k x.1 w
  have ih:=zFp hT k w r (i+1)
  simp only [List.map_cons,Instr.findAsking,findA,Sem.run_bind,zAc]
  rw [h1]
  simp only [Result.andThen_ok]
  by_cases e:k=x.1
  ·simp [e]
  ·simp only [e,decide_false,Bool.false_eq_true,if_false]
   exact ih
theorem zFo {d:TypeDesc} (hd:∀ k k':K,Instr.sameNow d (kv k) (kv k')=some (decide (k=k'))) (k:K):∀ (l:List (K × V × Nat)) (i:Nat),Instr.findNow d (kv k) (l.map (zAc kv vv)) i=some ((findA l k i).map fun p=>(p.1,vv p.2))
 | [],i=>by simp [Instr.findNow,findA]
 | x::r,i=>by
  have ih:=zFo hd k r (i+1)
  simp only [List.map_cons,Instr.findNow,findA,zAc,hd]
  by_cases e:k=x.1
  ·simp [e]
  ·simp only [e,decide_false,if_false]
   exact ih
theorem zEJ {P:Program} {T:TypeId} (hT:zFV P T kv) (k:K) (w:World) (l:List (K × V × Nat)):(Instr.findKey T (kv k) (l.map (zAc kv vv))).run P w = .ok ((findA l k 0).map fun p=>(p.1,vv p.2)) w:=by
 rcases hT.und with ⟨d,hd,hs⟩ | ⟨d,hd,hs⟩
 rotate_left
 ·have e1:=run_underlying hd w
  simp only [Instr.findKey,Sem.run_bind,e1,Result.andThen_ok,zFo hs k l 0,Sem.run_pure]
 have e1:=run_underlying hd w
 simp only [Instr.findKey,Sem.run_bind,e1,Result.andThen_ok]
 cases l with
 | nil=>simp [Instr.findNow,findA]
 | cons x r =>
  have:Instr.findNow d (kv k) ((x::r).map (zAc kv vv)) 0=none:=by
   simp only [List.map_cons,Instr.findNow,hs]
  rw [this]
  exact zFp hT k w (x::r) 0
theorem zIe {P:Program} {T:TypeId} (hT:zFV P T kv) (k:K) (w:World):(Instr.keyThatStays (kv k) (kv k)).run P w = .ok (kv k) w:=by
 simp [Instr.keyThatStays,hT.bits k]
end
def Ent.ml {K V:Type} (m:Nat) (kv:K→Value) (vv:V→Value) (l:List (K × V × Nat)) (c:Nat):Ent:=⟨(· = m),fun w=>w.heap[m]?=some (.map (l.map (zAc kv vv)).toArray c),fun _ _ _ h hp=>(h m rfl).trans hp⟩
def Ent.fm {K V:Type} [DecidableEq K] (m:Nat) (kv:K→Value) (vv:V→Value) (f:K→Option V):Ent:=⟨(· = m),fun w=>∃ l c,w.heap[m]?=some (.map (l.map (zAc kv vv)).toArray c)∧MOk l c∧look l=f,fun w w' _ h hp=>by
 obtain ⟨l,c,hp,h1,h2⟩:=hp
 exact ⟨l,c,(h m rfl).trans hp,h1,h2⟩⟩
def Ent.fms {K V:Type} [DecidableEq K] (m:Nat) (kv:K→Value) (vv:V→Value) (f:K→Option V) (k:K) (s:Nat):Ent:=⟨(· = m),fun w=>∃ l c v,w.heap[m]?=some (.map (l.map (zAc kv vv)).toArray c)∧MOk l c∧look l=f∧(k,v,s)∈l,fun w w' _ h hp=>by
 obtain ⟨l,c,v,hp,h1,h2⟩:=hp
 exact ⟨l,c,v,(h m rfl).trans hp,h1,h2⟩⟩
theorem fms_fm {K V:Type} [DecidableEq K] {m:Nat} {kv:K→Value} {vv:V→Value} {f:K→Option V} {k:K} {s:Nat} {w:World}:(Ent.fms m kv vv f k s).p w→(Ent.fm m kv vv f).p w:=fun ⟨l,c,v,h1,h2,h3,_⟩=>⟨l,c,h1,h2,h3⟩
class MapR (H:List Ent) (m:Nat) {K V:Type} [DecidableEq K] (kv:outParam (K→Value)) (vv:outParam (V→Value)) (f:outParam (K→Option V)):Prop where
 rd:∀ base w,Own base w H→∃ l c,w.heap[m]?=some (.map (l.map (zAc kv vv)).toArray c)∧MOk l c∧look l=f
instance mapR_fm {H:List Ent} {m:Nat} {K V:Type} [DecidableEq K] {kv:K→Value} {vv:V→Value} {f:K→Option V}:MapR (.fm m kv vv f::H) m kv vv f:=⟨fun _ _ ho=>ho.here (.fm m kv vv f) (by simp)⟩
instance mapR_fms {H:List Ent} {m:Nat} {K V:Type} [DecidableEq K] {kv:K→Value} {vv:V→Value} {f:K→Option V} {k:K} {s:Nat}:MapR (.fms m kv vv f k s::H) m kv vv f:=⟨fun _ _ ho=>fms_fm (ho.here (.fms m kv vv f k s) (by simp))⟩
instance (priority := low) mapR_there {e:Ent} {H:List Ent} {m:Nat} {K V:Type} [DecidableEq K] {kv:K→Value} {vv:V→Value} {f:K→Option V} [i:MapR H m kv vv f]:MapR (e::H) m kv vv f:=⟨fun b w ho=>i.rd b w ho.tail⟩
section
variable {P : Program} {w0:World} {n:Nat} {d:List Deferred} {R:List (Nat × Value)} {H H' H1 H2:List Ent} {Q:Exit→Act→World→Prop} {ops:Array Oper} {rest:List Oper} {o:Oper} {t:Tmp} {x y z:Operand} {v:Value} {X:Act→World→Prop}
variable {K V:Type} [DecidableEq K] {kv:K→Value} {vv:V→Value} {f:K→Option V}
theorem zHp {base m c':Nat} {w:World} {e e':Ent} {es':Array MapEntry} (h:Own base w (e::H')) (he:e.S=(· = m)) (he':e'.S=(· = m)) (hB:base≤w.heap.size) (hp:e'.p (setBlock w m (.map es' c'))):Own base (setBlock w m (.map es' c')) (e'::H'):=by
 have hf:=h.foot e (by simp) m (by rw [he])
 refine h.turn (by simp [setBlock]) (fun b hb hn=>?_) hB hp (fun b hb=>?_)
 ·rw [he] at hn
  have hne:m≠b:=fun e=>hn e.symm
  simp only [setBlock];rw [Array.getElem?_setIfInBounds_ne hne]
 ·rw [he'] at hb;rw [he];cases hb;exact ⟨.inl rfl,by simp [setBlock,hf.2]⟩
theorem zHF {w:World} {m c':Nat} {es':Array MapEntry} {base:Nat} {e:Ent} (h:Own base w (e::H')) (he:e.S=(· = m)):(setBlock w m (.map es' c')).heap[m]?=some (.map es' c'):=by
 have hf:=h.foot e (by simp) m (by rw [he])
 simp [setBlock,hf.2]
theorem zDr (K V:Type) [DecidableEq K] (kv:K→Value) (vv:V→Value) {T1:TypeId} (hop:o.op = .makeMap T1 none) (hrd:rdy R ops n o=some t) (h:∀ m,U w0 n d ((t,.map (some m))::R) (.fm m kv vv (fun _=>none)::H) (wpL ro P ops Q rest)):U w0 n d R H (wpL ro P ops Q (o::rest)) :=
 zCh (rW hrd) fun a w q K' hK=>by
  unfold Oper.wp execOp;rw [hop]
  have hrun:(Instr.makeMap T1 none).run P w = .ok (.map (some w.heap.size)) (w.alloc (.map #[] 0)):=rfl
  simp only [Option.map_none,Sem.run_bind,hrun,Result.andThen_ok,Sem.run_pure,Oper.upon_value,(rD hrd)]
  refine hK _ _ (h w.heap.size _ _ ((q.call (E:=[.fm w.heap.size kv vv (fun _=>none)]) (zAK w _) ⟨fun e he=>?_,fun e he b hb=>?_,by simp⟩).put (rT hrd)))
  ·simp only [List.mem_singleton] at he;subst he
   exact ⟨[],0,heap_alloc_new w _,MOk.nil 0,look_nil⟩
  ·simp only [List.mem_singleton] at he;subst he;cases hb;simp
theorem zFn {T1 kt et:TypeId} {s m c:Nat} {g:Bool} {zv:V} {l:List (K × V × Nat)} {w:World} (co:Bool) (k:K) [i1:TyI P T1 (.map kt et) s g] (hT:zFV P kt kv) (hz:∀ w,(zeroValue et).run P w = .ok (vv zv) w) (hb:w.heap[m]?=some (.map (l.map (zAc kv vv)).toArray c)) :
  (Instr.lookup T1 (.map (some m)) (kv k) co).run P w = .ok (if co then .tuple #[vv ((look l k).getD zv),.bool (look l k).isSome] else vv ((look l k).getD zv)) w:=by
 have e1:=run_underlying i1.und w
 have e2:=fun e=>hT.chk e k w
 have e3:=zEJ (vv:=vv) hT k w l
 cases hl:look l k with
 | none =>
  rw [(zCk 0 hl).1] at e3
  cases co<;>simp [Instr.lookup,Sem.run_bind,e1,getObj,Sem.run,hb,e2,e3,hz]
 | some u =>
  obtain ⟨j,b,h1,_⟩:=zB3 0 hl
  rw [h1] at e3
  cases co<;>simp [Instr.lookup,Sem.run_bind,e1,getObj,Sem.run,hb,e2,e3,hz]
theorem zEu {T1 kt et:TypeId} {s m:Nat} {g:Bool} {zv:V} (k:K) (u:V) (hop:o.op = .lookup T1 x y false) [i1:TyI P T1 (.map kt et) s g] (hT:zFV P kt kv) (hz:∀ w,(zeroValue et).run P w = .ok (vv zv) w) (hx:evR R x=some (.map (some m))) (hy:evR R y=some (kv k)) [im:MapR H m kv vv f] (hv:(f k).getD zv=u):Ev P w0 n d R H o (vv u):=fun a w q=>by
 obtain ⟨l,c,hb,hl,rfl⟩:=im.rd _ _ q.own
 have:=zFn (P:=P) (T1:=T1) (kt:=kt) (et:=et) (s:=s) (g:=g) (zv:=zv) false k hT hz hb
 unfold execOp;rw [hop]
 simp only [Sem.run_bind,q.ev hx,q.ev hy,this,Result.andThen_ok,Sem.run_pure,hv,Bool.false_eq_true,if_false]
theorem run_setM {T1 kt et:TypeId} {s m c:Nat} {g:Bool} {l:List (K × V × Nat)} {w:World} (k:K) (v:V) [i1:TyI P T1 (.map kt et) s g] (hT:zFV P kt kv) (hb:w.heap[m]?=some (.map (l.map (zAc kv vv)).toArray c)) (hl:MOk l c) :
  ∃ l' c',(Instr.mapUpdate T1 (.map (some m)) (kv k) (vv v)).run P w = .ok () (setBlock w m (.map (l'.map (zAc kv vv)).toArray c'))∧MOk l' c'∧look l'=zB1 (look l) k (some v):=by
 have e1:=run_underlying i1.und w
 have e2:=fun e=>hT.chk e k w
 have e3:=zEJ (vv:=vv) hT k w l
 cases hk:look l k with
 | none =>
  rw [(zCk 0 hk).1] at e3
  refine ⟨l++[(k,v,c)],c+1,?_,hl.push hk,zEe hk⟩
  simp [Instr.mapUpdate,Sem.run_bind,e1,getObj,Sem.run,hb,e2,e3,setObj,setBlock,zAc]
 | some u =>
  obtain ⟨j,b,h1,h2⟩:=zB3 0 hk
  rw [h1] at e3
  have e4:=zIe hT k w
  have hlt:j<l.length:=(List.getElem?_eq_some_iff.1 h2).1
  refine ⟨l.set j (k,v,b),c,?_,hl.set h2,zHB hl.keys h2⟩
  have e7:l[j]=(k,u,b):=by rw [List.getElem?_eq_getElem hlt] at h2;exact Option.some.inj h2
  have e8:(Instr.keyThatStays (zAc kv vv (k,u,b)).key (kv k)).run P w = .ok (kv k) w:=e4
  have e9:∀ f:MapEntry→MapEntry,f (zAc kv vv (k,u,b))=zAc kv vv (k,v,b)→(l.map (zAc kv vv)).modify j f=(l.map (zAc kv vv)).set j (zAc kv vv (k,v,b)):=fun f hf=>zFG (by simp [h2]) hf
  simp only [Nat.zero_add] at e3
  simp [Instr.mapUpdate,Sem.run_bind,e1,getObj,Sem.run,hb,e2,e3,setObj,setBlock,e7,h2,hlt,e4]
  rw [e8]
  simp only [Result.andThen_ok,hb]
  rw [e9 _ rfl]
theorem run_delM {T1 T2 kt et:TypeId} {s m c:Nat} {g:Bool} {l:List (K × V × Nat)} {w:World} {ty:TypeId} (k:K) [i1:TyI P T1 (.map kt et) s g] (hT:zFV P kt kv) (hb:w.heap[m]?=some (.map (l.map (zAc kv vv)).toArray c)) (hl:MOk l c) :
  ∃ l',(Builtin.delete_ #[T1,T2] ty #[.map (some m),kv k]).run P w = .ok (.tuple #[]) (setBlock w m (.map (l'.map (zAc kv vv)).toArray c))∧MOk l' c∧look l'=zB1 (look l) k none:=by
 have e1:=run_underlying i1.und w
 have e2:=fun e=>hT.chk e k w
 have e3:=zEJ (vv:=vv) hT k w l
 cases hk:look l k with
 | none =>
  rw [(zCk 0 hk).1] at e3
  refine ⟨l,?_,hl,?_⟩
  ·simp [Builtin.delete_,Sem.run_bind,e1,getObj,Sem.run,hb,e2,e3,setObj,setBlock]
  ·funext x
   simp only [zB1]
   split
   ·rename_i e;rw [e,hk]
   ·rfl
 | some u =>
  obtain ⟨j,b,h1,h2⟩:=zB3 0 hk
  rw [h1] at e3
  obtain ⟨hlt,e7⟩:=List.getElem?_eq_some_iff.1 h2
  refine ⟨l.eraseIdx j,?_,hl.erase,zFH hl.keys h2⟩
  have e5:=zHy (kv:=kv) (vv:=vv) hlt
  simp only [Nat.zero_add] at e3
  simp [Builtin.delete_,Sem.run_bind,e1,getObj,Sem.run,hb,e2,e3,setObj,setBlock]
  rw [← e5]
  simp
theorem own_fm {base m c':Nat} {w:World} {e:Ent} {l':List (K × V × Nat)} (h:Own base w (e::H')) (he:e.S=(· = m)) (hB:base≤w.heap.size) (h1:MOk l' c') (h2:look l'=f):Own base (setBlock w m (.map (l'.map (zAc kv vv)).toArray c')) (.fm m kv vv f::H') :=
 zHp h he rfl hB ⟨l',c',zHF h he,h1,h2⟩
theorem zEp {T1 kt et:TypeId} {s m:Nat} {g:Bool} (k:K) (u:V) (hop:o.op = .mapUpdate T1 x y z) [i1:TyI P T1 (.map kt et) s g] (hT:zFV P kt kv) (hw:want R ops o=some true) (hd:o.dst=none) (hx:evR R x=some (.map (some m))) (hy:evR R y=some (kv k)) (hz:evR R z=some (vv u)) (ht:Take H (.fm m kv vv f) H')
  (h:U w0 n d R (.fm m kv vv (zB1 f k (some u))::H') (wpL ro P ops Q rest)):U w0 n d R H (wpL ro P ops Q (o::rest)) :=
 zCh hw fun a w q K' hK=>by
  have ho:=q.own.take ht
  obtain ⟨l,c,hb,hl,rfl⟩:=ho.here (.fm m kv vv f) (by simp)
  have hf:=ho.foot (.fm m kv vv (look l)) (by simp) m rfl
  obtain ⟨l',c',hrun,h1,h2⟩:=run_setM (P:=P) (T1:=T1) (et:=et) (s:=s) (g:=g) k u hT hb hl
  unfold Oper.wp execOp;rw [hop]
  simp only [Sem.run_bind,q.ev hx,q.ev hy,q.ev hz,hrun,Result.andThen_ok,Sem.run_pure,Oper.upon_skip,hd]
  exact hK _ _ (h _ _ (q.heap (q.below.trans (zD7 hf.1)) (own_fm ho rfl q.base h1 h2)))
theorem zIG {T1 T2 kt et:TypeId} {s m:Nat} {g:Bool} (k:K) (hop:o.op = .call { callee:=.builtin .delete,args:=#[x,y],argTypes:=#[T1,T2] }) [i1:TyI P T1 (.map kt et) s g] (hT:zFV P kt kv) (hw:want R ops o=some true) (hd:o.dst=none) (hx:evR R x=some (.map (some m))) (hy:evR R y=some (kv k)) (ht:Take H (.fm m kv vv f) H')
  (h:U w0 n d R (.fm m kv vv (zB1 f k none)::H') (wpL ro P ops Q rest)):U w0 n d R H (wpL ro P ops Q (o::rest)) :=
 zCh hw fun a w q K' hK=>by
  have ho:=q.own.take ht
  obtain ⟨l,c,hb,hl,rfl⟩:=ho.here (.fm m kv vv f) (by simp)
  have hf:=ho.foot (.fm m kv vv (look l)) (by simp) m rfl
  obtain ⟨l',hrun,h1,h2⟩:=run_delM (P:=P) (T1:=T1) (T2:=T2) (et:=et) (s:=s) (g:=g) (ty:=o.type) k hT hb hl
  unfold Oper.wp execOp
  simp only [hop,resolve,invoke,builtin,Sem.run_bind,Sem.run_pure,Result.andThen_ok,List.map_toArray,List.map_cons,List.map_nil,q.ev hx,q.ev hy,hrun,Oper.upon_value,hd]
  exact hK _ _ (h _ _ (q.heap (q.below.trans (zD7 hf.1)) (own_fm ho rfl q.base h1 h2)))
theorem u_fmOpen {m:Nat} (ht:Take H (.fm m kv vv f) H') (h:∀ l c,MOk l c→look l=f→U w0 n d R (.ml m kv vv l c::H') X):U w0 n d R H X:=fun a w q=>by
 have ho:=q.own.take ht
 obtain ⟨l,c,hb,hl,he⟩:=ho.here (.fm m kv vv f) (by simp)
 exact h l c hl he a w (q.heap q.below (ho.recast (fun _=>hb) (fun _ h=>h)))
def Ent.itl (r m c:Nat) (seen:List Nat):Ent:=⟨(· = r),fun w=>w.heap[r]?=some (.mapIter (some m) c seen.toArray c),fun _ _ _ h hp=>(h r rfl).trans hp⟩
theorem zIN (w:World) (m c:Nat):Own w.heap.size (w.alloc (.mapIter (some m) c #[] c)) [.itl w.heap.size m c []] :=
 ⟨fun e he=>by simp only [List.mem_singleton] at he;subst he;exact heap_alloc_new w _,fun e he b hb=>by simp only [List.mem_singleton] at he;subst he;cases hb;simp,by simp⟩
theorem zGr {T1 kt et:TypeId} {s m c:Nat} {g:Bool} {l:List (K × V × Nat)} (hop:o.op = .range T1 x) [i1:TyI P T1 (.map kt et) s g] (hrd:rdy R ops n o=some t) (hx:evR R x=some (.map (some m))) (hm:Take H (.ml m kv vv l c) H')
  (h:∀ r,U w0 n d ((t,.pointer (some ⟨r,0,none⟩))::R) (.itl r m c []::H) (wpL ro P ops Q rest)):U w0 n d R H (wpL ro P ops Q (o::rest)) :=
 zCh (rW hrd) fun a w q K' hK=>by
  have e1:=run_underlying i1.und w
  have e2:w.heap[m]?=some (.map (l.map (zAc kv vv)).toArray c):=q.own.here _ hm.mem
  unfold Oper.wp execOp;rw [hop]
  have hrun:(Instr.range T1 (.map (some m))).run P w = .ok (.pointer (some ⟨w.heap.size,0,none⟩)) (w.alloc (.mapIter (some m) c #[] c)):=by
   simp [Instr.range,e1,getObj,Sem.run_bind,Sem.run,e2]
  simp only [Sem.run_bind,q.ev hx,hrun,Result.andThen_ok,Sem.run_pure,Oper.upon_value,(rD hrd)]
  exact hK _ _ (h w.heap.size _ _ ((q.call (zAK w _) (zIN w m c)).put (rT hrd)))
theorem zIE {m r c:Nat} {seen:List Nat} {l:List (K × V × Nat)} (hop:o.op = .next x false) (hrd:rdy R ops n o=some t) (hx:evR R x=some (.pointer (some ⟨r,0,none⟩))) (htk:Take H (.itl r m c seen) H') (hm:Take H (.ml m kv vv l c) H1) (hl:MOk l c)
  (h1:(∀ x∈l,x.2.2∈seen)→U w0 n d ((t,.tuple #[.bool false])::R) H (wpL ro P ops Q rest))
  (h2:∀ x∈l,x.2.2 ∉ seen→U w0 n d ((t,.tuple #[.bool true,kv x.1,vv x.2.1])::R) (.itl r m c (seen++[x.2.2])::H') (wpL ro P ops Q rest)):U w0 n d R H (wpL ro P ops Q (o::rest)) :=
 zCh (rW hrd) fun a w q K' hK=>by
  have e2:w.heap[m]?=some (.map (l.map (zAc kv vv)).toArray c):=q.own.here _ hm.mem
  have ho:=q.own.take htk
  have hr:w.heap[r]?=some (.mapIter (some m) c seen.toArray c):=ho.here (.itl r m c seen) (by simp)
  have hfoot:=ho.foot (.itl r m c seen) (by simp) r rfl
  have hold:∀ x∈((l.map (zAc kv vv)).toArray).toList,x.born<c:=fun x hx=>by
   simp only [List.mem_map] at hx
   obtain ⟨y,hy,rfl⟩:=hx
   exact hl.lt y hy
  unfold Oper.wp execOp;rw [hop]
  rcases run_next_at (P:=P) w o.type r m c c seen.toArray (l.map (zAc kv vv)).toArray c hr e2 hold (Nat.le_refl _) with ⟨h0,hrun⟩ | ⟨e,he,w1,hw1,hrun⟩
  ·simp only [Sem.run_bind,q.ev hx,hrun,Result.andThen_ok,Sem.run_pure,Oper.upon_value,(rD hrd)]
   refine hK _ _ (h1 (fun y hy=>?_) _ _ (q.put (rT hrd)))
   have h9:leftOf (l.map (zAc kv vv)).toArray seen.toArray=#[]:=Array.eq_empty_of_size_eq_zero h0
   unfold leftOf at h9
   rw [Array.filter_eq_empty_iff] at h9
   have:=h9 (zAc kv vv y) (by simp only [List.mem_toArray,List.mem_map];exact ⟨y,hy,rfl⟩)
   simpa [zAc] using this
  ·have he':e∈l.map (zAc kv vv)∧e.born ∉ seen:=by
    unfold leftOf at he
    simpa using he
   obtain ⟨y,hy,rfl⟩:=List.mem_map.1 he'.1
   simp only [Sem.run_bind,q.ev hx,hrun,Result.andThen_ok,Sem.run_pure,Oper.upon_value,(rD hrd)]
   refine hK _ _ (h2 y hy he'.2 _ _ ((q.heap (q.below.trans ?_) (ho.turn ?_ ?_ q.base ?_ ?_)).put (rT hrd)))
   ·rcases hw1 with rfl|rfl<;>exact ⟨rfl,rfl,rfl,by simp [setBlock],fun b hb=>by
     simp only [setBlock]
     rw [Array.getElem?_setIfInBounds_ne (by have:=hfoot.1;omega)]
     try rfl⟩
   ·rcases hw1 with rfl|rfl<;>simp [setBlock]
   ·intro b hb hn
    have hne:r≠b:=fun e=>hn e.symm
    rcases hw1 with rfl|rfl<;>(simp only [setBlock];rw [Array.getElem?_setIfInBounds_ne hne];try rfl)
   ·rcases hw1 with rfl|rfl<;>simp [Ent.itl,setBlock,zAc,hfoot.2]
   ·intro b hb
    cases hb
    refine ⟨.inl rfl,?_⟩
    rcases hw1 with rfl|rfl<;>simp [setBlock,hfoot.2]
theorem u_entryM {m r c:Nat} {seen:List Nat} {l:List (K × V × Nat)} {p:K × V × Nat} (hop:o.op = .entry x) (hrd:rdy R ops n o=some t) (hx:evR R x=some (.pointer (some ⟨r,0,none⟩))) (htk:Take H (.itl r m c (seen++[p.2.2])) H') (hm:Take H (.ml m kv vv l c) H1) (hl:MOk l c) (hp:p∈l)
  (h:U w0 n d ((t,.tuple #[kv p.1,vv p.2.1])::R) H (wpL ro P ops Q rest)):U w0 n d R H (wpL ro P ops Q (o::rest)) :=
 zAg hrd (fun a w q=>by
  have e2:w.heap[m]?=some (.map (l.map (zAc kv vv)).toArray c):=q.own.here _ hm.mem
  have hr:w.heap[r]?=some (.mapIter (some m) c (seen++[p.2.2]).toArray c):=(q.own.take htk).here (.itl r m c (seen++[p.2.2])) (by simp)
  have e3:(seen++[p.2.2]).toArray=seen.toArray.push (zAc kv vv p).born:=by simp [zAc]
  rw [e3] at hr
  have hnd:(((l.map (zAc kv vv)).toArray).toList.map (·.born)).Nodup:=by
   have:=hl.born
   simpa [Function.comp_def,zAc] using this
  have:=run_entry_at (P:=P) w r m c seen.toArray (l.map (zAc kv vv)).toArray c (zAc kv vv p) hr e2 (by simp only [List.mem_map];exact ⟨p,hp,rfl⟩) hnd
  unfold execOp;rw [hop]
  simp only [Sem.run_bind,q.ev hx,this,Result.andThen_ok,Sem.run_pure]
  rfl) h
def zEf (l:List (K × V × Nat)) (seen:List Nat):Nat:=(l.filter fun x=>!seen.contains x.2.2).length
theorem zGA {α:Type} {p q:α→Bool} (h:∀ z,q z=true→p z=true):∀ l:List α,(l.filter q).length≤(l.filter p).length
 | []=>by simp
 | z::r=>by
  have ih:=zGA h r
  cases hq:q z with
  | true=>rw [List.filter_cons_of_pos hq,List.filter_cons_of_pos (h z hq),List.length_cons,List.length_cons];omega
  | false =>
   rw [List.filter_cons_of_neg (by simp [hq])]
   cases hp:p z with
   | true=>rw [List.filter_cons_of_pos hp,List.length_cons];omega
   | false=>rw [List.filter_cons_of_neg (by simp [hp])];exact ih
theorem zF9 {α:Type} {p q:α→Bool} {x:α} (h:∀ z,q z=true→p z=true) (hp:p x=true) (hq:q x=false):∀ {l:List α},x∈l→(l.filter q).length<(l.filter p).length
 | [],hx=>by cases hx
 | z::r,hx=>by
  rcases List.mem_cons.1 hx with rfl|hx
  ·rw [List.filter_cons_of_neg (by simp [hq]),List.filter_cons_of_pos hp,List.length_cons]
   have:=zGA h r;omega
  ·have ih:=zF9 h hp hq hx
   cases hq:q z with
   | true=>rw [List.filter_cons_of_pos hq,List.filter_cons_of_pos (h z hq),List.length_cons,List.length_cons];omega
   | false =>
    rw [List.filter_cons_of_neg (by simp [hq])]
    cases hp:p z with
    | true=>rw [List.filter_cons_of_pos hp,List.length_cons];omega
    | false=>rw [List.filter_cons_of_neg (by simp [hp])];exact ih
theorem zHD {l:List (K × V × Nat)} {seen:List Nat} {x:K × V × Nat} (hx:x∈l) (hn:x.2.2 ∉ seen):zEf l (seen++[x.2.2])<zEf l seen:=by
 unfold zEf
 refine zF9 (fun z hz=>?_) (by simpa using hn) (by simp) hx
 simp at hz ⊢
 exact hz.1
end
section
variable {P : Program} {w0:World} {n:Nat} {d:List Deferred} {R:List (Nat × Value)} {H H':List Ent} {Q:Exit→Act→World→Prop} {ops:Array Oper} {o:Oper} {K:Act→World→Prop}
def qk (K:Act→World→Prop):Exit→Act→World→Prop:=fun e a w=>match e with | .normal=>K a w | _=>False
abbrev wpA (ro:Option Nat) (P:Program) (ops:Array Oper) (Q:Exit→Act→World→Prop) (fuel:Nat) (listed:Array Bool):Act→World→Prop:=wpAnyIn (FW ro) 9 P .any ops Q fuel listed
inductive AllU (w0:World) (n:Nat) (d:List Deferred) (R:List (Nat × Value)) (H:List Ent) (ro:Option Nat) (P:Program) (ops:Array Oper) (Q:Exit→Act→World→Prop) (fuel:Nat) (listed:Array Bool):List Nat→Prop
 | nil:AllU w0 n d R H ro P ops Q fuel listed []
 | cons {i:Nat} {l:List Nat} {o:Oper} (ho:ops[i]?=some o) (h:U w0 n d R H (wpL ro P ops (qk (wpA ro P ops Q fuel (listed.setIfInBounds i true))) [o])) (hr:AllU w0 n d R H ro P ops Q fuel listed l):AllU w0 n d R H ro P ops Q fuel listed (i::l)
theorem AllU.mem {fuel:Nat} {listed:Array Bool} {l:List Nat} (h:AllU w0 n d R H ro P ops Q fuel listed l):∀ i∈l,∃ o,ops[i]?=some o∧U w0 n d R H (wpL ro P ops (qk (wpA ro P ops Q fuel (listed.setIfInBounds i true))) [o]):=by
 induction h with
 | nil=>intro i hi;cases hi
 | cons ho h hr ih =>
  intro i hi
  rcases List.mem_cons.1 hi with rfl|hi
  ·exact ⟨_,ho,h⟩
  ·exact ih i hi
end
end Go.Proofs.YtcpdjamlhhfbhaaGreat
namespace Go.Proofs.YtcpdjamlhhfbhaaGreat
variable {ro : Option Nat}
open Go.RowKit
open Go.ChangeMaps (setBlock)
set_option maxRecDepth 20000
section
variable {P : Program} {w0:World} {n:Nat} {d:List Deferred} {R:List (Nat × Value)} {H:List Ent} {o:Oper} {x y:Operand} {v u:Value} {T T':TypeId} {k:IntKind} {i j:Int}
theorem zIf {s off:Nat} {g:Bool} {td:TypeDesc} {vs:List Value} (i1:TyI P T td s g) (hv:rdv g (vs.drop off) s=some v) (w:World):(Go.part T vs.toArray off).run P w = .ok v w:=by
 unfold Go.part
 simp only [Sem.run_bind,i1.agg,Result.andThen_ok]
 cases g
 ·simp only [rdv,List.getElem?_drop,Nat.add_zero] at hv
  simp [hv]
 ·unfold rdv at hv
  simp only at hv
  cases hb:Nat.ble s (vs.drop off).length with
  | false=>rw [hb] at hv;cases hv
  | true =>
   rw [hb] at hv
   simp only [cond_true,Option.some.injEq] at hv
   simp only [if_true,Sem.run_bind,i1.siz,Result.andThen_ok,Sem.run_pure,← hv]
   congr 2
   rw [List.extract_toArray]
   simp [List.extract_eq_take_drop]
theorem zHL {e:TypeId} {s s' m I:Nat} {g g':Bool} {td:TypeDesc} {vs:List Value} (hop:o.op = .index T x y) [i1:TyI P T (.array m e) s g] [i2:TyI P e td s' g'] (hx:evR R x=some (.agg vs.toArray)) (hy:evR R y=some (.int k i)) (hI:i=(I:Int)) (hi:I<m) (hv:rdv g' (vs.drop (I * s')) s'=some v):Ev P w0 n d R H o v :=
 (fun a w q=>by
  subst hI
  unfold execOp;rw [hop]
  have e1:=run_underlying i1.und w
  have e2:=i2.siz w
  have e3:=zIf i2 hv w
  have h0:(0:Int)≤I:=by omega
  have h1:(I:Int)<m:=by omega
  simp [q.ev hx,q.ev hy,Instr.index,asIntOf,e1,e2,hi,e3])
end
theorem Out.all : ∀ H:List Ent,Out H H
 | []=>.nil _
 | e::H=>.cons (.here e H) (Out.all H)
end Go.Proofs.YtcpdjamlhhfbhaaGreat
namespace Go.Proofs.YtcpdjamlhhfbhaaGreat.Two
variable {ro : Option Nat}
open Go.RowKit
section
variable {S : List (Nat × Nat)} {I:List (Nat × Nat × Nat × List Ent)} {P:Program} {w0:World} {n:Nat} {d:List Deferred} {R0:List (Nat × Value)} {H0:List Ent} {Q:Exit→Act→World→Prop} {ops:Array Oper} {bs:List (List Bool)} {b:List Bool} {k:Nat} {o:Oper} {rest:List Oper} {T:List Rw} {t:Tmp} {Hk:zAr→List Ent} {x y:Operand}
theorem zFT {T1:TypeId} {td:TypeDesc} {s off gb lo hi:Nat} {g:Bool} {vy:zAr→Value} {cs:List Value} {cs':zAr→List Value} (hkE:(k,lo,hi,[Ent.blk gb cs])∈I) (hfree:takes S k=false) (hop:o.op = .store T1 x y) [i1:TyI P T1 td s g] (hw:∀ G,want (Rk R0 ops b o T G) ops o=some true) (hd:o.dst=none) (hx:∀ G,evR (Rk R0 ops b o T G) x=some (.pointer (some ⟨gb,off,none⟩))) (hy:∀ G,evR (Rk R0 ops b o T G) y=some (vy G))
  (hv:∀ G,Nat.beq (vy G).cells.toList.length s=true) (hv1:∀ G,(vy G).cells.toList.all Value.oneCell'=true) (hl:Nat.ble (off+s) cs.length=true) (hc:∀ G,put1 cs off (vy G).cells.toList=cs' G) (hcs:LocB b k cs')
  (h:zBa ro S I P w0 n d ops R0 H0 Q bs (k+1) rest (⟨k,none,fun G=>(undef,[.blk gb (cs' G)])⟩::T)):zBa ro S I P w0 n d ops R0 H0 Q (b::bs) k (o::rest) T:=by
 refine c_takeI (f:=fun G=>(undef,[.blk gb (cs' G)])) hkE hfree (fun G G' hG=>by simp only [hcs.loc G G' hG]) (fun G L a w q ho K hK=>?_) (by rw [hd];exact h)
 refine zFj hop (hw G) hd (hx G) (hy G) (hv G) (hv1 G) hl (hc G) q ho (fun w' hB hO=>?_)
 have:=hK undef [.blk gb (cs' G)] w' ⟨⟨0,none,0⟩,by simp only [hcs.up]⟩ hB hO
 rw [hd] at this
 exact this
end
end Go.Proofs.YtcpdjamlhhfbhaaGreat.Two
