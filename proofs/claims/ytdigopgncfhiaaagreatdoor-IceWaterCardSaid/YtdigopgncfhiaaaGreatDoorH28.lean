/- H28 -/
import Derived.Test.YtdigopgncfhiaaaGreatDoorH8
import Derived.Test.YtdigopgncfhiaaaGreatDoorH6
import Derived.Test.YtdigopgncfhiaaaGreatDoorH27
import Derived.Test.YtdigopgncfhiaaaGreatDoorH11
import Derived.Maps.RangeRun
import Derived.Lib.SliceRun
import Derived.Test.YtdigopgncfhiaaaGreatDoorH1
set_option linter.unusedSimpArgs false
set_option linter.unusedVariables false
namespace Go.Proofs.YtdigopgncfhiaaaGreatDoor
variable {ro : Option Nat}
open Go.RowKit
def Ent.old (w:World) (lo hi:Nat):Ent :=
 ⟨fun b=>lo≤b∧b<hi,fun w'=>∀ b,lo≤b→b<hi→w'.heap[b]?=w.heap[b]?,fun _ _ _ h hp b h1 h2=>(h b ⟨h1,h2⟩).trans (hp b h1 h2)⟩
def zN1 {α:Type} (w:World) (g:Nat) (V:α→Value) (C:α→List Value) (p:α→Prop) (e:Ending) (w':World):Prop :=
 ∃ x,p x∧e = .returned (V x)∧(w'.os=w.os∧w'.tape=w.tape∧w'.output=w.output∧w.heap.size≤w'.heap.size)∧(∀ b,b<w.heap.size→b≠g→w'.heap[b]?=w.heap[b]?)∧Blk w' g (C x).toArray
def RetM (P:Program) (f:FuncId) (args:List Value) (w:World) (g:Nat) {α:Type} (V:α→Value) (C:α→List Value) (p:α→Prop):Prop :=
 Calls P f args.toArray w (zN1 w g V C p)
theorem RetM.calls {P:Program} {f:FuncId} {args:List Value} {w:World} {g:Nat} {α:Type} {V:α→Value} {C:α→List Value} {p:α→Prop} (h:RetM P f args w g V C p):Calls P f args.toArray w (zN1 w g V C p):=h
theorem RetM.of {P:Program} {f:FuncId} {args:List Value} {w:World} {g:Nat} {α:Type} {V:α→Value} {C:α→List Value} {p:α→Prop} (h:Calls P f args.toArray w (zN1 w g V C p)):RetM P f args w g V C p:=h
attribute [irreducible] RetM
section
variable {P : Program} {w0:World} {n:Nat} {d:List Deferred} {R:List (Nat × Value)} {H H' H1:List Ent} {Q:Exit→Act→World→Prop} {ops:Array Oper} {rest:List Oper} {o:Oper} {t:Tmp} {x y:Operand} {v:Value}
theorem zOI {α:Type} {f:FuncId} {fn:Func} {c:Code} {args:List Value} {w:World} {g:Nat} {cs:List Value} {V:α→Value} {C:α→List Value} {p:α→Prop} {n:Nat} (hB:Blk w g cs.toArray) (hf:P.funcs[f]?=some fn) (hb:fn.body=some c) (hnn:fn.ntmps=n) (hn:Nat.ble args.length n=true)
  (h:U (zBL w g) n [] (zKK 0 args) [.blk g cs,.old w (g+1) w.heap.size] (c.wpI none P (zD3 P fn (zN1 w g V C p)))):RetM P f args w g V C p :=
 RetM.of <| (callsIn_wide (n:=9)).1 <| callsIn_of_wp_marks hf hb trivial (h _ _ ⟨by have:=Nat.le_of_ble_eq_true hn;simp;omega,rfl,fun t v ht=>by
  have:=zE0 args 0 t v ht
  obtain ⟨_,h2⟩:=this
  simp only [Nat.sub_zero] at h2
  have hlt:t<args.length:=by
   rcases Nat.lt_or_ge t args.length with h|h
   ·exact h
   ·rw [List.getElem?_eq_none h] at h2;cases h2
  rw [Array.getD_eq_getD_getElem?,Array.getElem?_append_left (by simpa using hlt)]
  simp [h2],zKB hB.lt,by
  refine ⟨fun e he=>?_,fun e he b hb=>?_,?_⟩
  ·simp only [List.mem_cons,List.not_mem_nil,or_false] at he
   rcases he with rfl|rfl
   ·exact hB
   ·exact fun b _ _=>rfl
  ·rw [zEw hB.lt]
   simp only [List.mem_cons,List.not_mem_nil,or_false] at he
   have:=hB.lt
   rcases he with rfl|rfl
   ·cases hb;omega
   ·obtain ⟨h1,h2⟩:=hb;omega
  ·simp only [List.pairwise_cons,List.mem_singleton,forall_eq,List.not_mem_nil,false_implies,implies_true,List.Pairwise.nil,and_true]
   rintro b hb ⟨h1,h2⟩
   cases hb;omega⟩)
theorem zPE {α:Type} {fn:Func} {V:α→Value} {C:α→List Value} {p:α→Prop} {vs:List Value} {w:World} {g:Nat} (hres:zf P (zBL w g) R H fn.results.toList vs) (z:α) (hp:p z) (hV:V z=resV vs) (hg:g<w.heap.size) (ht:Take H (.blk g (C z)) H') (ho:Take H' (.old w (g+1) w.heap.size) H1):U (zBL w g) n [] R H (zD3 P fn (zN1 w g V C p) .ret):=fun a w' q=>by
 have hH:=q.own.take ht
 show LeavesInM Fence.wide 9 P fn a.tmps _ a.defers .returning w'
 rw [q.defers]
 refine ⟨resV vs,zEG q hres,z,hp,by rw [hV],⟨q.below.os,q.below.tape,q.below.output,?_⟩,fun b hb hne=>?_,hH.here (.blk g (C z)) (by simp)⟩
 ·have h1:=hH.foot (.blk g (C z)) (by simp) g rfl
  rcases Nat.lt_or_ge (g+1) w.heap.size with h|h
  ·have:=(hH.foot _ (List.mem_cons_of_mem _ ho.mem) (w.heap.size - 1) ⟨by omega,by omega⟩).2
   omega
  ·omega
 ·rcases Nat.lt_or_ge b g with h|h
  ·have:=q.below.block b (by rw [zEw hg];exact h)
   exact this.trans ((zKB hg).block b (by rw [zEw hg];exact h)).symm
  ·exact hH.here _ (List.mem_cons_of_mem _ ho.mem) b (by omega) hb
theorem zPF {f:FuncId} {fx:Operand} {xs:Array Operand} {ts:Array TypeId} {vs:List Value} {cap:Array Value} {α:Type} {V:α→Value} {C:α→List Value} {p:α→Prop} {g:Nat} {cs:List Value} (hop:o.op = .call ⟨.value fx,xs,ts⟩) (hrd:rdy R ops n o=some t) (hf:evR R fx=some (.func (.func f) #[] cap)) (hx:evs R xs.toList=some vs) [ci:zT P f] (htk:Take H (.blk g cs) H')
  (hc:∀ w,Blk w g cs.toArray→RetM P f (vs++cap.toList) w g V C p) (h:∀ x,p x→U w0 n d ((t,V x)::R) (.blk g (C x)::H') (wpL ro P ops Q rest)):U w0 n d R H (wpL ro P ops Q (o::rest)) :=
 zDH (rW hrd) fun a w q K hK=>by
  unfold Oper.wp execOp;rw [hop]
  have e1:xs.map a.eval=vs.toArray:=by apply Array.ext';simpa using q.evs hx
  have e2:vs.toArray++cap=(vs++cap.toList).toArray:=by apply Array.ext';simp
  simp only [resolve,q.ev hf,e1,Deferred.ofValue,Sem.run_bind,Sem.run_pure,Result.andThen_ok,invoke,Array.empty_append,e2,ci.ent,Oper.upon_enter,(rD hrd)]
  have hH:=q.own.take htk
  have hB:Blk w g cs.toArray:=hH.here (.blk g cs) (by simp)
  have hfoot:=hH.foot (.blk g cs) (by simp) g rfl
  refine Calls.mono (hc w hB).calls ?_
  rintro e w' ⟨z,hp,rfl,⟨h1,h2,h3,h4⟩,h5,h6⟩
  refine hK _ _ (h z hp _ _ ((q.heap ?_ ?_).put (rT hrd)))
  ·exact q.below.trans ⟨h1,h2,h3,h4,fun b hb=>h5 b (by have:=q.base;omega) (by omega)⟩
  ·refine hH.turn h4 (fun b hb hn=>h5 b hb (fun e=>hn e)) q.base h6 (fun b hb=>?_)
   cases hb
   exact ⟨.inl rfl,by omega⟩
def zAU (M:Mat):List Value:=(List.range 169).map fun j=>.int .i64 (M (j / 13) (j % 13))
class zFK (I K:Nat):Prop where lt:I<13∧K<13
theorem zO4 {M:Mat} {I K:Nat} (h:I<13∧K<13):(zAU M)[I * 13+K]?=some (.int .i64 (M I K)):=by
 unfold zAU
 rw [List.getElem?_map,List.getElem?_range (by omega)]
 simp only [Option.map_some]
 rw [show (I * 13+K) / 13=I by omega,show (I * 13+K) % 13=K by omega]
instance (priority := high) srcI_mat {g I K:Nat} {M:Mat} [i:zE1 H g (zAU M) H'] [j:zFK I K]:zFT w0 H g (0+I * 13+K * 1) [.int .i64 (M I K)]:=⟨fun w hb ho k v hv=>by
 match k,hv with
 | 0,hv =>
  simp only [List.getElem?_cons_zero,Option.some.injEq] at hv
  subst hv
  have:=(Src.blk i.tk:Src w0 H g 0 (zAU M)) w hb ho (I * 13+K) _ (zO4 j.lt)
  rwa [show 0+(I * 13+K)=0+I * 13+K * 1+0 by omega] at this⟩
theorem zGy {M:Mat} {I K:Nat} (h:I<13∧K<13) (v:Int):put1 (zAU M) (0+I * 13+K * 1) [.int .i64 v]=zAU (zBu M I K v):=by
 show (zAU M).set (0+I * 13+K * 1) (.int .i64 v)=_
 apply List.ext_getElem?
 intro j
 rw [List.getElem?_set]
 have hl:(zAU M).length=169:=by simp [zAU]
 by_cases hj:j<169
 ·have e:∀ N:Mat,(zAU N)[j]?=some (.int .i64 (N (j / 13) (j % 13))):=fun N=>by
   unfold zAU;rw [List.getElem?_map,List.getElem?_range hj];rfl
  rw [e,e,hl]
  by_cases hc:0+I * 13+K * 1=j
  ·rw [if_pos hc,if_pos (by omega)]
   have h1:j / 13=I:=by omega
   have h2:j % 13=K:=by omega
   simp [zBu,h1,h2]
  ·rw [if_neg hc]
   have h1:¬ (j / 13=I∧j % 13=K):=by omega
   simp [zBu,h1]
 ·have hn:∀ N:Mat,(zAU N)[j]?=none:=fun N=>List.getElem?_eq_none (by simp [zAU];omega)
  rw [hn,hn,if_neg (by omega)]
theorem zCr {T1:TypeId} {td:TypeDesc} {b I K:Nat} {g:Bool} {M:Mat} {i:Int} (hop:o.op = .store T1 x y) [i1:TyI P T1 td 1 g] (hw:want R ops o=some true) (hd:o.dst=none) (hx:evR R x=some (.pointer (some ⟨b,0+I * 13+K * 1,none⟩))) (hy:evR R y=some (.int .i64 i)) [i2:zE1 H b (zAU M) H'] [j:zFK I K]
  (h:U w0 n d R (.blk b (zAU (zBu M I K i))::H') (wpL ro P ops Q rest)):U w0 n d R H (wpL ro P ops Q (o::rest)) :=
 zLi hop hw hd hx hy i2.tk rfl rfl (Nat.ble_eq_true_of_le (by have:=j.lt;simp [zAU];omega)) (zGy j.lt i) h
end
end Go.Proofs.YtdigopgncfhiaaaGreatDoor
namespace Go.Proofs.YtdigopgncfhiaaaGreatDoor
variable {ro : Option Nat}
open Go.RowKit
set_option maxRecDepth 20000
def zD8 (n:Nat) (M F:Mat):Prop:=∀ a b,a<n→b<n→M a b=F a b
def Mid (n:Nat) (F F1:Mat) (i k:Nat) (M:Mat):Prop:=∀ a b,a<n→b<n→M a b=if a<i∨(a=i∧b<k) then F1 a b else F a b
def MidD (n:Nat) (F1:Mat) (i k:Nat):Prop:=∀ a,a<n→(a<i∨(a=i∧a<k))→0≤F1 a a
section
variable {n x i k:Nat} {M0 M:Mat}
theorem zQQ (h:zD8 n M (zAZ M0 x)):Mid n (zAZ M0 x) (zAZ M0 (x+1)) 0 0 M:=fun a b ha hb=>by
 rw [if_neg (by omega)];exact h a b ha hb
theorem mid_row (h:Mid n (zAZ M0 x) (zAZ M0 (x+1)) i n M):Mid n (zAZ M0 x) (zAZ M0 (x+1)) (i+1) 0 M:=fun a b ha hb=>by
 rw [h a b ha hb]
 by_cases h1:a<i∨(a=i∧b<n)
 ·rw [if_pos h1,if_pos (by omega)]
 ·rw [if_neg h1,if_neg (by omega)]
theorem mid_end (h:Mid n (zAZ M0 x) (zAZ M0 (x+1)) n 0 M):zD8 n M (zAZ M0 (x+1)):=fun a b ha hb=>by
 rw [h a b ha hb,if_pos (by omega)]
theorem midD_row (h:MidD n (zAZ M0 (x+1)) i n):MidD n (zAZ M0 (x+1)) (i+1) 0:=fun a ha h1=>h a ha (by omega)
theorem zQq (hf:fine n M0 x) (h:MidD n (zAZ M0 (x+1)) n 0):fine n M0 (x+1):=fun y hy a ha=>by
 rcases Nat.lt_or_ge x y with h1|h1
 ·obtain rfl:y=x+1:=by omega
  exact h a ha (by omega)
 ·exact hf y h1 a ha
theorem zQR (h0:zDe n M0) (hf:fine n M0 x) (hx:x<n) (hi:i<n) (hk:k<n) (h:Mid n (zAZ M0 x) (zAZ M0 (x+1)) i k M) :
  M i x=zAZ M0 x i x∧M x k=zAZ M0 x x k∧M i k=zAZ M0 x i k∧zAZ M0 (x+1) i k=min (zAZ M0 x i k) (zAZ M0 x i x+zAZ M0 x x k):=by
 have hd:=zEm h0 hf x hx
 have e1:zAZ M0 (x+1) i x=zAZ M0 x i x:=by simp only [zAZ,zG9];omega
 have e2:zAZ M0 (x+1) x k=zAZ M0 x x k:=by simp only [zAZ,zG9];omega
 refine ⟨?_,?_,?_,rfl⟩
 ·rw [h i x hi hx];split
  ·exact e1
  ·rfl
 ·rw [h x k hx hk];split
  ·exact e2
  ·rfl
 ·rw [h i k hi hk,if_neg (by omega)]
theorem mid_set (h:Mid n (zAZ M0 x) (zAZ M0 (x+1)) i k M) {v:Int} (hv:v=zAZ M0 (x+1) i k):Mid n (zAZ M0 x) (zAZ M0 (x+1)) i (k+1) (zBu M i k v):=fun a b ha hb=>by
 unfold zBu
 by_cases h1:a=i∧b=k
 ·obtain ⟨rfl,rfl⟩:=h1
  rw [if_pos ⟨rfl,rfl⟩,if_pos (by omega)];exact hv
 ·rw [if_neg h1,h a b ha hb]
  by_cases h2:a<i∨(a=i∧b<k)
  ·rw [if_pos h2,if_pos (by omega)]
  ·rw [if_neg h2,if_neg (by omega)]
theorem mid_keep (h:Mid n (zAZ M0 x) (zAZ M0 (x+1)) i k M) (hi:i<n) (hk:k<n) (hv:zAZ M0 x i k=zAZ M0 (x+1) i k):Mid n (zAZ M0 x) (zAZ M0 (x+1)) i (k+1) M:=fun a b ha hb=>by
 rw [h a b ha hb]
 by_cases h2:a<i∨(a=i∧b<k)
 ·rw [if_pos h2,if_pos (by omega)]
 ·rw [if_neg h2]
  by_cases h1:a=i∧b=k
  ·obtain ⟨rfl,rfl⟩:=h1
   rw [if_pos (by omega)];exact hv
  ·rw [if_neg (by omega)]
theorem zK5 (h:MidD n (zAZ M0 (x+1)) i k) (hv:i=k→0≤zAZ M0 (x+1) i k):MidD n (zAZ M0 (x+1)) i (k+1):=fun a ha h1=>by
 by_cases h2:a<i∨(a=i∧a<k)
 ·exact h a ha h2
 ·obtain ⟨rfl,rfl⟩:a=i∧a=k:=by omega
  exact hv rfl
theorem zIx (hb:∀ i k,i<n→k<n→-1073741824≤M0 i k∧M0 i k≤1073741824) (hn:n≤13) (hx:x≤n) (hi:i<n) (hk:k<n):-8796093022208≤zAZ M0 x i k∧zAZ M0 x i k≤8796093022208:=by
 have h:=fw_bd hb (by omega) x hx i k hi hk
 have hp:(2:Int) ^ x≤2 ^ 13:=by
  have:=Nat.pow_le_pow_right (n:=2) (by omega) (by omega:x≤13)
  exact_mod_cast this
 have h2:(2:Int) ^ x * 1073741824≤2 ^ 13 * 1073741824:=Int.mul_le_mul_of_nonneg_right hp (by omega)
 have h3:(2:Int) ^ 13 * 1073741824=8796093022208:=by decide
 omega
end
set_option maxHeartbeats 2000000 in
theorem zJM (n:Nat) (M0:Mat) (g:Nat) (w:World) (hB:Blk w g (zAU M0).toArray) (hn:n≤13) (h0:zDe n M0) (hb:∀ i k,i<n→k<n→-1073741824≤M0 i k∧M0 i k≤1073741824) :
  RetM Tryz.prog 128 [.pointer (some ⟨g,0,none⟩),.int .i64 (n:Int)] w g (fun z:Bool × Mat=>.bool z.1) (fun z=>zAU z.2) (fun z=>(z.1=true→fine n M0 n∧zD8 n z.2 (zAZ M0 n))∧(z.1=false→¬ fine n M0 n)):=by
 have hg:=hB.lt
 have f0:fine n M0 0:=fun y hy a ha=>by
  obtain rfl:y=0:=by omega
  have:=h0 a ha
  simp only [zAZ];omega
 refine zOI (n:=58) hB Tryz.func128 rfl rfl rfl ?_
 (repeat' (first|((with_reducible refine zF ?_);first|refine zE rfl rfl rfl ?_|refine zC rfl rfl rfl ?_)|(with_reducible first|refine zH ?_|refine zB ?_|refine zD ?_|refine zA ?_|refine zP ?_)))
 refine zCF (ι:=Nat × Mat) (fun j=>j.1≤n∧fine n M0 j.1∧zD8 n j.2 (zAZ M0 j.1)) (fun j=>[(0,.pointer (some ⟨g,0,none⟩)),(1,.int .i64 (n:Int)),(9,.int .i64 (n:Int)),(10,.int .i64 (j.1:Int))]) (fun j=>[.blk g (zAU j.2),.old w (g+1) w.heap.size]) (fun j=>n - j.1) (0,M0) ⟨Nat.zero_le _,f0,fun _ _ _ _=>rfl⟩ (by (repeat first|exact lK1|refine zI rfl ?_)) (by (repeat constructor)) ?_
 rintro ⟨x,M⟩ ⟨hx,hf,hA⟩
 simp only at hx hf hA ⊢
 by_cases hlt:x<n
 ·(repeat' (first|((with_reducible refine zF ?_);first|refine zE rfl rfl rfl ?_|refine zC rfl rfl rfl ?_|(refine zQ rfl rfl rfl rfl rfl (fun h=>?_) (fun h=>?_)<;>(dsimp only [cmpP] at h;(try (exfalso;omega)))))|(with_reducible first|refine zH ?_|refine zB ?_|refine zD ?_|refine zA ?_|refine zS ?_|refine zP ?_)|((with_reducible refine zK ?_ ?_);(· exact rfl))))
  refine zCF (ι:=Nat × Mat) (fun j=>j.1≤n∧Mid n (zAZ M0 x) (zAZ M0 (x+1)) j.1 0 j.2∧MidD n (zAZ M0 (x+1)) j.1 0) (fun j=>[(0,.pointer (some ⟨g,0,none⟩)),(1,.int .i64 (n:Int)),(9,.int .i64 (n:Int)),(10,.int .i64 (x:Int)),(5,.int .i64 (x:Int)),(13,.int .i64 (n:Int)),(14,.int .i64 (j.1:Int))]) (fun j=>[.blk g (zAU j.2),.old w (g+1) w.heap.size]) (fun j=>n - j.1) (0,M) ⟨Nat.zero_le _,zQQ hA,fun a ha h=>by omega⟩ (by (repeat first|exact lK1|refine zI rfl ?_)) (by (repeat constructor)) ?_
  clear hA M
  rintro ⟨i,M⟩ ⟨hi,hM,hD⟩
  simp only at hi hM hD ⊢
  by_cases hli:i<n
  ·(repeat' (first|((with_reducible refine zF ?_);first|refine zE rfl rfl rfl ?_|refine zC rfl rfl rfl ?_|(refine zQ rfl rfl rfl rfl rfl (fun h=>?_) (fun h=>?_)<;>(dsimp only [cmpP] at h;(try (exfalso;omega)))))|(with_reducible first|refine zH ?_|refine zB ?_|refine zD ?_|refine zA ?_|refine zS ?_|refine zP ?_)|((with_reducible refine zK ?_ ?_);(· exact rfl))))
   refine zCF (ι:=Nat × Mat) (fun j=>j.1≤n∧Mid n (zAZ M0 x) (zAZ M0 (x+1)) i j.1 j.2∧MidD n (zAZ M0 (x+1)) i j.1) (fun j=>[(0,.pointer (some ⟨g,0,none⟩)),(1,.int .i64 (n:Int)),(9,.int .i64 (n:Int)),(10,.int .i64 (x:Int)),(5,.int .i64 (x:Int)),(13,.int .i64 (n:Int)),(14,.int .i64 (i:Int)),(6,.int .i64 (i:Int)),(17,.int .i64 (n:Int)),(18,.int .i64 (j.1:Int))]) (fun j=>[.blk g (zAU j.2),.old w (g+1) w.heap.size]) (fun j=>n - j.1) (0,M) ⟨Nat.zero_le _,hM,hD⟩ (by (repeat first|exact lK1|refine zI rfl ?_)) (by (repeat constructor)) ?_
   clear hM hD M
   rintro ⟨k,M⟩ ⟨hk,hM,hD⟩
   simp only at hk hM hD ⊢
   by_cases hlk:k<n
   ·have m1:zFK i x:=⟨by omega,by omega⟩
    have m2:zFK x k:=⟨by omega,by omega⟩
    have m3:zFK i k:=⟨by omega,by omega⟩
    obtain ⟨f1,f2,f3,f4⟩:=zQR h0 hf hlt hli hlk hM
    have b1:=zIx hb hn (by omega:x≤n) hli hlt
    have b2:=zIx hb hn (by omega:x≤n) hlt hlk
    rw [← f1] at b1
    rw [← f2] at b2
    rw [← f1,← f2,← f3] at f4
    have hd:=zEm h0 hf
    (repeat' (first|((with_reducible refine zF ?_);first|refine zE rfl rfl rfl ?_|refine zC rfl rfl rfl ?_|(refine zQ rfl rfl rfl rfl rfl (fun h=>?_) (fun h=>?_)<;>(dsimp only [cmpP] at h;(try (exfalso;omega)))))|(with_reducible first|refine zH ?_|refine zB ?_|refine zD ?_|refine zA ?_|refine zS ?_|refine zP ?_)|((with_reducible refine zK ?_ ?_);(· exact rfl))))
    (refine Two.zAV [] [] [] rfl (show ([]:List Nat).Nodup by decide) (fun _ h=>h) (by kernel_rfl) [[],[Y],[Y,Y],[Y,Y,Z],[Z,Y,Z,Z],[Z,Z,Z,Z,Z],[Z,Z,Z,Z,Z,Z],[Y,Y,Y,Y,Y,Y,Y],[Y,Y,Y,Y,Y,Y,Y,Y],[Y,Y,Y,Y,Y,Y,Y,Y,Y],[Y,Y,Z,Y,Y,Y,Y,Y,Y,Y],[Z,Y,Z,Z,Y,Y,Y,Y,Y,Y,Y],[Z,Z,Z,Z,Z,Y,Y,Y,Y,Y,Y,Y],[Z,Z,Z,Z,Z,Z,Y,Y,Y,Y,Y,Y,Y],[Z,Z,Z,Z,Z,Z,Z,Z,Z,Z,Z,Z,Z,Z],[Z,Z,Z,Z,Z,Z,Z,Z,Z,Z,Z,Z,Z,Z,Z]] (by kernel_rfl) (by kernel_rfl) (by kernel_rfl) (by kernel_rfl) (by kernel_rfl) ?_)
    (repeat' (first|(((with_reducible refine Two.zCC ?_ ?_);(· exact rfl);refine ⟨_,fun G=>(by (try simp (decide:=true) only [Two.vis,Two.see,fltT,zm,Nat.reduceAdd,Nat.reduceSub,if_true,if_false,List.set_cons_zero,List.set_cons_succ,List.set_nil,List.nil_append,List.cons_append]);rfl),?_⟩);first|refine Two.zU _ (fun _=>zAO rfl rfl) (fun _=>rfl) rfl (by intro G G' h;simp (decide:=true) only [h]) ?_|refine Two.zU _ (fun _=>zu rfl rfl (by exact rfl)) (fun _=>rfl) rfl (by intro G G' h;simp (decide:=true) only [h]) ?_|refine Two.zU _ (fun _=>zBr rfl rfl) (fun _=>rfl) rfl (by intro G G' h;simp (decide:=true) only [h]) ?_|refine Two.zU _ (fun _=>zIc rfl rfl rfl (IntWalk.i64_in _ (by omega))) (fun _=>rfl) rfl (by intro G G' h;simp (decide:=true) only [h]) ?_|refine Two.zU _ (fun _=>zCK rfl rfl rfl rfl (by first|decide|omega)) (fun _=>rfl) rfl (by intro G G' h;simp (decide:=true) only [h]) ?_|refine Two.zU _ (fun _=>zAJ rfl rfl) (fun _=>rfl) rfl (by intro G G' h;simp (decide:=true) only [h]) ?_)|(with_reducible refine Two.zKH ?_)))
    (intro G;simp only [regsT,zm,Two.zAq,Two.ini,List.nil_append,List.cons_append])
    (repeat' (first|((with_reducible refine zF ?_);first|refine zE rfl rfl rfl ?_|refine zC rfl rfl rfl ?_|(refine zL rfl rfl rfl ?_;refine ⟨_,rfl,?_⟩)|(refine zQ rfl rfl rfl rfl rfl (fun h=>?_) (fun h=>?_)<;>(dsimp only [cmpP] at h;(try (exfalso;omega))))|refine zCr rfl rfl rfl rfl rfl ?_|refine zi rfl rfl rfl rfl (by omega) ?_|refine zG2 rfl rfl rfl rfl rfl (by first|decide|omega) ?_|refine zAu rfl rfl rfl ?_)|(with_reducible first|refine zH ?_|refine zB ?_|refine zD ?_|refine zA ?_|refine zW ?_|refine zS ?_|refine ze ?_|refine zg ?_|refine zBb ?_)|((with_reducible refine zK ?_ ?_);(· exact rfl))|((with_reducible refine zG ?_ ?_);(· exact rfl))))
    ·have hfi:i=k:=by omega
     subst hfi
     have hv:=hd i hli
     refine zPE (by exact rTm rfl) (false,zBu M i i (M i x+M x i)) ⟨fun h=>(by cases h),fun _ hh=>?_⟩ rfl hg (by (repeat constructor)) (by (repeat constructor))
     have:=hh (x+1) (by omega) i hli
     rw [← f3] at hv
     omega
    ·exact zZ (k+1,zBu M i k (M i x+M x k)) ⟨by omega,mid_set hM (by omega),zK5 hD (fun e=>by omega)⟩ (by simp only;omega) (by (repeat first|exact lK1|refine zI rfl ?_)) (by (repeat constructor))
    ·refine zZ (k+1,M) ⟨by omega,mid_keep hM hli hlk (by omega),zK5 hD (fun e=>?_)⟩ (by simp only;omega) (by (repeat first|exact lK1|refine zI rfl ?_)) (by (repeat constructor))
     subst e
     have hv:=hd i hli
     omega
   ·obtain rfl:k=n:=by omega
    (repeat' (first|((with_reducible refine zF ?_);first|refine zE rfl rfl rfl ?_|(refine zQ rfl rfl rfl rfl rfl (fun h=>?_) (fun h=>?_)<;>(dsimp only [cmpP] at h;(try (exfalso;omega))))|refine zi rfl rfl rfl rfl (by omega) ?_)|(with_reducible first|refine zH ?_|refine zB ?_|refine zD ?_|refine zA ?_|refine zl ?_|refine zg ?_|refine zV ?_|refine zX ?_)|((with_reducible refine zG ?_ ?_);(· exact rfl))))
    exact zZ (i+1,M) ⟨by omega,mid_row hM,midD_row hD⟩ (by simp only;omega) (by (repeat first|exact lK1|refine zI rfl ?_)) (by (repeat constructor))
  ·obtain rfl:i=n:=by omega
   (repeat' (first|((with_reducible refine zF ?_);first|refine zE rfl rfl rfl ?_|(refine zQ rfl rfl rfl rfl rfl (fun h=>?_) (fun h=>?_)<;>(dsimp only [cmpP] at h;(try (exfalso;omega))))|refine zi rfl rfl rfl rfl (by omega) ?_)|(with_reducible first|refine zH ?_|refine zB ?_|refine zD ?_|refine zA ?_|refine zl ?_|refine zg ?_|refine zV ?_|refine zX ?_)|((with_reducible refine zG ?_ ?_);(· exact rfl))))
   exact zZ (x+1,M) ⟨by omega,zQq hf hD,mid_end hM⟩ (by simp only;omega) (by (repeat first|exact lK1|refine zI rfl ?_)) (by (repeat constructor))
 ·obtain rfl:x=n:=by omega
  (repeat' (first|((with_reducible refine zF ?_);first|refine zC rfl rfl rfl ?_|(refine zQ rfl rfl rfl rfl rfl (fun h=>?_) (fun h=>?_)<;>(dsimp only [cmpP] at h;(try (exfalso;omega)))))|(with_reducible first|refine zH ?_|refine zB ?_|refine zD ?_|refine zA ?_|refine zW ?_|refine zl ?_|refine zV ?_|refine zX ?_)|((with_reducible refine zG ?_ ?_);(· exact rfl))))
  exact zPE (by exact rTm rfl) (true,M) ⟨fun _=>⟨hf,hA⟩,fun h=>by cases h⟩ rfl hg (by (repeat constructor)) (by (repeat constructor))
end Go.Proofs.YtdigopgncfhiaaaGreatDoor
namespace Go.Proofs.YtdigopgncfhiaaaGreatDoor
variable {ro : Option Nat}
open Go.RowKit
set_option maxRecDepth 20000
instance : TyI Tryz.prog 198 ((Tryz.prog.underlying 198).getD (.slice 0)) 1 true:=⟨by rw [Tryz.underlying198];rfl,Tryz.sizeOf198,Tryz.isAgg198⟩
instance : TyZ Tryz.prog 198 [.nilFunc]:=⟨fun w=>⟨_,Tryz.zeroValue198 w,rfl⟩⟩
instance : TyB Tryz.prog 198 [(0,1)] [.nilFunc]:=zAz (zv:=.agg #[.nilFunc]) (by kernel_rfl) rfl Tryz.underlying198 (by kernel_rfl)
instance : FoI Tryz.prog 198 0 0:=foI (T:=198) (m:=0) ⟨Tryz.underlying198,Tryz.sizeOf198,Tryz.isAgg198⟩ rfl (inferInstance:TyI Tryz.prog 196 _ _ _) rfl rfl
theorem zQa (w:World):Gv Tryz.prog 127 [] w (.agg #[.nilFunc,.func (.func 143) #[] #[],.func (.func 144) #[] #[]]):=by
 unfold Gv
 (refine zJ (n:=4) Tryz.func127 rfl rfl rfl ?_)
 (repeat' (first|((with_reducible refine zF ?_);first|(refine zBo rfl rfl rfl ?_;refine ⟨_,rfl,?_⟩)|(refine za rfl rfl rfl rfl rfl ?_;refine ⟨rfl,by first|decide|exact Nat.le_of_ble_eq_true rfl|(simp;omega),_,rfl,?_⟩)|(refine zh rfl rfl (fun b=>?_))|(refine zAo rfl rfl rfl ?_;refine ⟨_,rfl,?_⟩))|(with_reducible first|refine zH ?_|refine zB ?_|refine zD ?_|refine zA ?_|refine zW ?_)))
 exact zR (by (exact zf.cons (by exact res1c rfl (by exact rfl)) zf.nil)) () trivial rfl (fun _ h=>h.sub (by (repeat constructor)))
theorem zLH (b o:Nat) (w:World):Gv Tryz.prog 143 [.pointer (some ⟨b,o,none⟩)] w (.pointer (some ⟨b,o+1,none⟩)):=by
 unfold Gv
 (refine zJ (n:=6) Tryz.func143 rfl rfl rfl ?_)
 (repeat' (first|((with_reducible refine zF ?_);first|refine zE rfl rfl rfl ?_|refine zC rfl rfl rfl ?_|refine zb rfl rfl rfl ?_|refine zAu rfl rfl rfl ?_)|(with_reducible first|refine zH ?_|refine zB ?_|refine zD ?_|refine zA ?_|refine zW ?_)))
 exact zR (by exact rTm rfl) () trivial rfl (fun _ h=>h.sub (by (repeat constructor)))
theorem zLG (b o:Nat) (w:World):Gv Tryz.prog 144 [.pointer (some ⟨b,o,none⟩)] w (.pointer (some ⟨b,o+3,none⟩)):=by
 unfold Gv
 (refine zJ (n:=6) Tryz.func144 rfl rfl rfl ?_)
 (repeat' (first|((with_reducible refine zF ?_);first|refine zE rfl rfl rfl ?_|refine zC rfl rfl rfl ?_|refine zb rfl rfl rfl ?_|refine zAu rfl rfl rfl ?_)|(with_reducible first|refine zH ?_|refine zB ?_|refine zD ?_|refine zA ?_|refine zW ?_)))
 exact zR (by exact rTm rfl) () trivial rfl (fun _ h=>h.sub (by (repeat constructor)))
theorem zQ9 (t:List St) (A:Option Addr) (c:Nat) (w:World) (ht:zp zAK 9 w A t) (h0:0<t.length) (hl:t.length≤1000) :
  Ret Tryz.prog 81 [.slice A t.length c] w (fun p:Option Addr × Nat=>.slice p.1 t.length p.2) (fun p=>[.row zAK 9 86 (.slice p.1 t.length p.2) t]) (fun _=>True):=by
 obtain ⟨bb,o,rfl,_⟩:=ht.at_ h0
 (refine zJ (n:=8) Tryz.func81 rfl rfl rfl ?_)
 (repeat' (first|((with_reducible refine zF ?_);first|refine zE rfl rfl rfl ?_|refine zC rfl rfl rfl ?_|refine zG4 rfl rfl rfl rfl ?_|(refine zCd zAK rfl rfl (fun b=>?_))|(refine zA4 (enc:=zAK) t rfl rfl rfl (by (repeat constructor)) rfl rfl (zFb ht) (by refine ⟨?_,by decide⟩;(try simp only [List.length_append,List.length_cons,List.length_nil]);omega) (fun A' c'=>?_)))|(with_reducible first|refine zH ?_|refine zB ?_|refine zD ?_|refine zA ?_|refine zW ?_|refine zS ?_)|((with_reducible refine zG ?_ ?_);(· exact rfl))))
 exact zR (by exact rTm rfl) (A',c') trivial rfl (fun _ h=>h.sub (by (repeat constructor)))
end Go.Proofs.YtdigopgncfhiaaaGreatDoor
namespace Go.Proofs.YtdigopgncfhiaaaGreatDoor
variable {ro : Option Nat}
open Go.RowKit
open Go.ChangeMaps (setBlock)
structure KB where
 K:Nat→Nat
 B:Nat→Nat
 c:Nat
def KB.id (n:Nat):KB:=⟨fun i=>i,fun i=>i,n⟩
structure KB.ok (kb:KB) (n:Nat):Prop where
 lt:∀ i,i<n→kb.B i<kb.c
 inj:∀ i j,i<n→j<n→kb.B i=kb.B j→i=j
theorem KB.id_ok (n:Nat):(KB.id n).ok n:=⟨fun _ h=>h,fun _ _ _ _ h=>h⟩
def zGd (kb:KB) (i:Nat) (m:Me):MapEntry:=⟨.int .i64 (kb.K i:Int),vMe m,kb.B i⟩
def entsL (kb:KB) (ms:List Me):List MapEntry:=ms.mapIdx (zGd kb)
def zAv (kb:KB) (ms:List Me):Array MapEntry:=(entsL kb ms).toArray
theorem zFq {kb:KB} {ms:List Me} {x:MapEntry}:x∈(zAv kb ms).toList↔∃ i m,ms[i]?=some m∧x=zGd kb i m:=by
 simp only [zAv,entsL,List.mem_mapIdx]
 constructor
 ·rintro ⟨i,h,rfl⟩;exact ⟨i,ms[i],by simp,rfl⟩
 ·rintro ⟨i,m,h,rfl⟩
  obtain ⟨h1,h2⟩:=List.getElem?_eq_some_iff.1 h
  exact ⟨i,h1,by rw [h2]⟩
theorem zOu {kb:KB} {ms:List Me} (hk:kb.ok ms.length):((zAv kb ms).toList.map (·.born)).Nodup:=by
 simp only [zAv,entsL]
 unfold List.Nodup
 rw [List.pairwise_iff_getElem]
 intro i j hi hj hij e
 simp only [List.length_map,List.length_mapIdx] at hi hj
 simp only [List.getElem_map,List.getElem_mapIdx] at e
 exact absurd (hk.inj i j hi hj e) (by omega)
theorem zFR {kb:KB} {ms:List Me} (hk:kb.ok ms.length) {seen:List Nat} {i:Nat} (hs:∀ x∈seen,x<ms.length) (hi:i<ms.length):kb.B i∈seen.map kb.B↔i∈seen:=by
 rw [List.mem_map]
 constructor
 ·rintro ⟨x,hx,e⟩
  have:=hk.inj x i (hs x hx) hi e
  subst this;exact hx
 ·exact fun h=>⟨i,h,rfl⟩
def Ent.it (r m:Nat) (kb:KB) (seen:List Nat):Ent:=⟨(· = r),fun w=>w.heap[r]?=some (.mapIter (some m) kb.c (seen.map kb.B).toArray kb.c),fun _ _ _ h hp=>(h r rfl).trans hp⟩
section
variable {P : Program} {w0:World} {n:Nat} {d:List Deferred} {R:List (Nat × Value)} {H H':List Ent} {Q:Exit→Act→World→Prop} {ops:Array Oper} {rest:List Oper} {o:Oper} {t:Tmp} {x y:Operand}
theorem own_it (w:World) (m:Nat) (kb:KB):Own w.heap.size (w.alloc (.mapIter (some m) kb.c #[] kb.c)) [.it w.heap.size m kb []] :=
 ⟨fun e he=>by simp only [List.mem_singleton] at he;subst he;exact heap_alloc_new w _,fun e he b hb=>by simp only [List.mem_singleton] at he;subst he;cases hb;simp,by simp⟩
theorem zMY {T1 k e:TypeId} {s m:Nat} {g:Bool} {kb:KB} {ms:List Me} (hop:o.op = .range T1 x) [i1:TyI P T1 (.map k e) s g] (hrd:rdy R ops n o=some t) (hx:evR R x=some (.map (some m)))
  (hm:∀ w,Below w0.heap.size w0 w→w.heap[m]?=some (.map (zAv kb ms) kb.c)) (h:∀ r,U w0 n d ((t,.pointer (some ⟨r,0,none⟩))::R) (.it r m kb []::H) (wpL ro P ops Q rest)):U w0 n d R H (wpL ro P ops Q (o::rest)) :=
 zDH (rW hrd) fun a w q K hK=>by
  have e1:=run_underlying i1.und w
  have e2:=hm w q.below
  unfold Oper.wp execOp;rw [hop]
  have hrun:(Instr.range T1 (.map (some m))).run P w = .ok (.pointer (some ⟨w.heap.size,0,none⟩)) (w.alloc (.mapIter (some m) kb.c #[] kb.c)):=by
   simp [Instr.range,e1,getObj,Sem.run_bind,Sem.run,e2]
  simp only [Sem.run_bind,q.ev hx,hrun,Result.andThen_ok,Sem.run_pure,Oper.upon_value,(rD hrd)]
  exact hK _ _ (h w.heap.size _ _ ((q.call (zo w _) (own_it w m kb)).put (rT hrd)))
theorem zKI {w w1:World} {r:Nat} {ob:Obj} {B:Nat} (h1:w1=w∨w1=w.drew) (hr:B≤r):Below B w (setBlock w1 r ob):=by
 rcases h1 with rfl|rfl<;>exact ⟨rfl,rfl,rfl,by simp [setBlock],fun b hb=>by
  simp only [setBlock]
  rw [Array.getElem?_setIfInBounds_ne (by omega)]
  try rfl⟩
theorem u_next {m r:Nat} {seen:List Nat} {kb:KB} {ms:List Me} (hop:o.op = .next x false) (hrd:rdy R ops n o=some t) (hx:evR R x=some (.pointer (some ⟨r,0,none⟩))) (htk:Take H (.it r m kb seen) H')
  (hm:∀ w,Below w0.heap.size w0 w→w.heap[m]?=some (.map (zAv kb ms) kb.c)) (hk:kb.ok ms.length) (hsn:∀ x∈seen,x<ms.length) (h1:(∀ i,i<ms.length→i∈seen)→U w0 n d ((t,.tuple #[.bool false])::R) H (wpL ro P ops Q rest))
  (h2:∀ i me,ms[i]?=some me→i ∉ seen→U w0 n d ((t,.tuple #[.bool true,.int .i64 (kb.K i:Int),vMe me])::R) (.it r m kb (seen++[i])::H') (wpL ro P ops Q rest)):U w0 n d R H (wpL ro P ops Q (o::rest)) :=
 zDH (rW hrd) fun a w q K hK=>by
  have e2:=hm w q.below
  have ho:=q.own.take htk
  have hr:w.heap[r]?=some (.mapIter (some m) kb.c (seen.map kb.B).toArray kb.c):=ho.here (.it r m kb seen) (by simp)
  have hfoot:=ho.foot (.it r m kb seen) (by simp) r rfl
  have hold:∀ x∈(zAv kb ms).toList,x.born<kb.c:=fun x hx=>by
   obtain ⟨i,me,hi,rfl⟩:=zFq.1 hx
   exact hk.lt i (List.getElem?_eq_some_iff.1 hi).1
  unfold Oper.wp execOp;rw [hop]
  rcases run_next_at (P:=P) w o.type r m kb.c kb.c (seen.map kb.B).toArray (zAv kb ms) kb.c hr e2 hold (Nat.le_refl _) with ⟨h0,hrun⟩ | ⟨e,he,w1,hw1,hrun⟩
  ·simp only [Sem.run_bind,q.ev hx,hrun,Result.andThen_ok,Sem.run_pure,Oper.upon_value,(rD hrd)]
   refine hK _ _ (h1 (fun i hi=>?_) _ _ (q.put (rT hrd)))
   have hmem:zGd kb i ms[i]∈(zAv kb ms).toList:=zFq.2 ⟨i,ms[i],by simp [hi],rfl⟩
   have h9:leftOf (zAv kb ms) (seen.map kb.B).toArray=#[]:=Array.eq_empty_of_size_eq_zero h0
   unfold leftOf at h9
   rw [Array.filter_eq_empty_iff] at h9
   have:=h9 (zGd kb i ms[i]) (by simpa using hmem)
   rw [← zFR hk hsn hi]
   simpa [zGd] using this
  ·have he':e∈(zAv kb ms).toList∧e.born ∉ seen.map kb.B:=by
    unfold leftOf at he
    simpa using he
   obtain ⟨i,me,hi,rfl⟩:=zFq.1 he'.1
   have hni:i ∉ seen:=fun h=>he'.2 ((zFR hk hsn (List.getElem?_eq_some_iff.1 hi).1).2 h)
   simp only [Sem.run_bind,q.ev hx,hrun,Result.andThen_ok,Sem.run_pure,Oper.upon_value,(rD hrd)]
   refine hK _ _ (h2 i me hi hni _ _ ((q.heap (q.below.trans (zKI hw1 hfoot.1)) (ho.turn ?_ ?_ q.base ?_ ?_)).put (rT hrd)))
   ·rcases hw1 with rfl|rfl<;>simp [setBlock]
   ·intro b hb hn
    have hne:r≠b:=fun e=>hn e.symm
    rcases hw1 with rfl|rfl<;>(simp only [setBlock];rw [Array.getElem?_setIfInBounds_ne hne];try rfl)
   ·rcases hw1 with rfl|rfl<;>simp [Ent.it,setBlock,zGd,hfoot.2]
   ·intro b hb
    cases hb
    refine ⟨.inl rfl,?_⟩
    rcases hw1 with rfl|rfl<;>simp [setBlock,hfoot.2]
theorem zPC {m r i:Nat} {seen:List Nat} {kb:KB} {ms:List Me} {me:Me} (hop:o.op = .entry x) (hrd:rdy R ops n o=some t) (hx:evR R x=some (.pointer (some ⟨r,0,none⟩))) (htk:Take H (.it r m kb (seen++[i])) H')
  (hm:∀ w,Below w0.heap.size w0 w→w.heap[m]?=some (.map (zAv kb ms) kb.c)) (hk:kb.ok ms.length) (hi:ms[i]?=some me) (h:U w0 n d ((t,.tuple #[.int .i64 (kb.K i:Int),vMe me])::R) H (wpL ro P ops Q rest)):U w0 n d R H (wpL ro P ops Q (o::rest)) :=
 zAN hrd (fun a w q=>by
  have e2:=hm w q.below
  have hr:w.heap[r]?=some (.mapIter (some m) kb.c ((seen++[i]).map kb.B).toArray kb.c):=(q.own.take htk).here (.it r m kb (seen++[i])) (by simp)
  have e3:((seen++[i]).map kb.B).toArray=(seen.map kb.B).toArray.push (zGd kb i me).born:=by simp [zGd]
  rw [e3] at hr
  have:=run_entry_at (P:=P) w r m kb.c (seen.map kb.B).toArray (zAv kb ms) kb.c (zGd kb i me) hr e2 (zFq.2 ⟨i,me,hi,rfl⟩) (zOu hk)
  unfold execOp;rw [hop]
  simp only [Sem.run_bind,q.ev hx,this,Result.andThen_ok,Sem.run_pure]
  rfl) h
end
end Go.Proofs.YtdigopgncfhiaaaGreatDoor
namespace Go.Proofs.YtdigopgncfhiaaaGreatDoor
variable {ro : Option Nat}
open Go.RowKit
set_option maxRecDepth 20000
set_option maxHeartbeats 2000000 in
theorem pickMe (l:List Me) (A:Option Addr) (cap:Nat) (kf:FuncId) [zT Tryz.prog kf] (cs:Array Value) (p:Nat→Me→Bool) (w:World) (hk:zp zC3 5 w A l) (hl:l.length≤100000)
  (hp:∀ (i:Nat) x W,l[i]?=some x→Below w.heap.size w W→Gv Tryz.prog kf ([.int .i64 (i:Int),vMe x]++cs.toList) W (.bool (p i x))) :
  zB4 encI 1 (picks p l) (fun v=>v) Tryz.prog 124 [.slice A l.length cap,.func (.func kf) #[] cs] w:=by
 unfold zB4
 (refine zJ (n:=25) Tryz.func124 rfl rfl rfl ?_)
 (repeat' (first|((with_reducible refine zF ?_);first|refine zE rfl rfl rfl ?_|refine zC rfl rfl rfl ?_|refine zq rfl rfl rfl ?_)|(with_reducible first|refine zH ?_|refine zB ?_|refine zD ?_|refine zA ?_|refine zP ?_)))
 refine zDf encI 1 3 ?_
 refine zCF (ι:=Nat × Value) (fun i=>i.1≤l.length) (fun i=>[(1,.func (.func kf) #[] cs),(5,i.2),(8,.slice A l.length cap),(9,.int .i64 (l.length:Int)),(10,.int .i64 (i.1:Int))]) (fun i=>[.row encI 1 3 i.2 (zBw p l i.1)]) (fun i=>l.length - i.1) (0,.slice none 0 0) (Nat.zero_le _) (by (repeat first|exact lK1|refine zI rfl ?_)) (by (repeat constructor)) ?_
 rintro ⟨i,v⟩ hi
 simp only at hi ⊢
 have hpl:=zIP p l i
 by_cases hlt:i<l.length
 ·have hx:l[i]?=some l[i]:=by simp [hlt]
  obtain ⟨b,o,rfl,hblt,hc⟩:=hk.at_ hlt
  have:InS w b o zC3 5 l:=⟨hk⟩
  have:zAQ l i l[i]:=⟨hx⟩
  have hso:soAt p l i=p i l[i]:=by simp [soAt,hlt]
  (repeat' (first|((with_reducible refine zF ?_);first|refine zE rfl rfl rfl ?_|refine zC rfl rfl rfl ?_|(refine zL rfl rfl rfl ?_;refine ⟨_,rfl,?_⟩)|(refine zQ rfl rfl rfl rfl rfl (fun h=>?_) (fun h=>?_)<;>(dsimp only [cmpP] at h;(try (exfalso;omega))))|(refine zAG rfl rfl rfl rfl (fun _ _ q=>hp i _ _ hx q.below) (fun h=>?_) (fun h=>?_)<;>(try (exfalso;omega)))|(refine zA4 (enc:=encI) [_] rfl rfl rfl (by (repeat constructor)) rfl rfl (zAg (by exact rfl)) (by refine ⟨?_,by decide⟩;(try simp only [List.length_append,List.length_cons,List.length_nil]);omega) (fun A' c'=>?_))|refine zi rfl rfl rfl rfl (by omega) ?_|refine zk rfl rfl rfl rfl rfl (by omega) ?_|(refine za rfl rfl rfl rfl rfl ?_;refine ⟨rfl,by first|decide|exact Nat.le_of_ble_eq_true rfl|(simp;omega),_,rfl,?_⟩)|(refine zh rfl rfl (fun b=>?_))|(refine zt rfl rfl rfl ?_;refine ⟨rfl,_,rfl,fun b=>?_⟩))|(with_reducible first|refine zH ?_|refine zB ?_|refine zD ?_|refine zA ?_|refine zS ?_|refine zP ?_|refine zg ?_)|((with_reducible refine zK ?_ ?_);(· exact rfl))|((with_reducible refine zG ?_ ?_);(· exact rfl))))
  ·refine zZ (i+1,.slice A' (zBw p l i++[(i:Int)]).length c') (by simp only;omega) (by simp only;omega) (by (repeat first|exact lK1|refine zI rfl ?_)) ?_
   rw [zIO (hso.trans h)]
   (repeat constructor)
  ·refine zZ (i+1,v) (by simp only;omega) (by simp only;omega) (by (repeat first|exact lK1|refine zI rfl ?_)) ?_
   rw [zJZ (hso.trans h)]
   (repeat constructor)
 ·obtain rfl:i=l.length:=by omega
  (repeat' (first|((with_reducible refine zF ?_);first|refine zE rfl rfl rfl ?_|refine zC rfl rfl rfl ?_|(refine zQ rfl rfl rfl rfl rfl (fun h=>?_) (fun h=>?_)<;>(dsimp only [cmpP] at h;(try (exfalso;omega)))))|(with_reducible first|refine zH ?_|refine zB ?_|refine zD ?_|refine zA ?_|refine zW ?_|refine zl ?_|refine zV ?_|refine zX ?_)|((with_reducible refine zG ?_ ?_);(· exact rfl))))
  refine zGi (enc:=encI) (by (repeat constructor)) ?_
  rintro A' c' rfl
  exact zR (by exact rTm rfl) (A',c') trivial rfl (fun _ h=>(h.zET (by (repeat constructor))).sub (by (repeat constructor)))
def zHK (n:Nat) (m:Me):Bool:=decide (1≤m.kind∧m.kind≤2∧0≤m.frm∧m.frm≤n∧0≤m.to∧m.to≤n∧m.frm<m.to∧0≤m.value.lo∧m.value.lo≤m.value.hi∧m.value.hi≤360000)
def zD6 (n:Nat) (l:List Me):Bool:=decide (l.length≤12) && l.all (zHK n)
theorem zDi {n:Nat} {m:Me} (h:zHK n m=true):zCn (n+1) m:=by
 have:=of_decide_eq_true h
 unfold zCn;omega
def zN3 (l:List Me):Prop:=∀ m∈l,0≤m.kind∧m.kind≤255
set_option maxHeartbeats 1000000 in
theorem zGa (t:List St) (A:Option Addr) (cap k:Nat) (m:Me) (b:Nat) (w:World) (hl:t.length≤1000000) (hk:0≤m.kind∧m.kind≤255) (h1:InC w b 0 [.slice A t.length cap]) :
  Gv Tryz.prog 123 [.int .i64 (k:Int),vMe m,.pointer (some ⟨b,0,none⟩)] w (.bool (!zHK t.length m)):=by
 unfold Gv vMe
 (refine zJ (n:=37) Tryz.func123 rfl rfl rfl ?_)
 (repeat' (first|((with_reducible refine zF ?_);first|refine zE rfl rfl rfl ?_|refine zC rfl rfl rfl ?_|(refine zL rfl rfl rfl ?_;refine ⟨_,rfl,?_⟩)|refine zb rfl rfl rfl ?_|refine zAY rfl rfl rfl rfl ?_|refine zx rfl rfl rfl ?_|(refine zQ rfl rfl rfl rfl rfl (fun h=>?_) (fun h=>?_)<;>(dsimp only [cmpP] at h;(try (exfalso;omega))))|(refine zAG rfl rfl rfl rfl (fun _ _ q=>in1 _ _ _ _ _ _ (zAg (enc:=encI) (by exact rfl) _ q.below q.own)) (fun h=>?_) (fun h=>?_)<;>(simp only [zAB,zGs] at h;(try (exfalso;omega))))|(refine zAG rfl rfl rfl rfl (fun _ _ q=>in2 _ _ _ _ _ _ _ (zFa (enc:=encI) [_,_] (by exact rfl) _ q.below q.own)) (fun h=>?_) (fun h=>?_)<;>((try simp only [Bool.and_eq_true,Bool.and_eq_false_iff,zAB,zGs] at h);(try (exfalso;omega))))|(refine zAG rfl rfl rfl rfl (fun _ _ _=>(zLF m.value 0 360000 _).gv) (fun h=>?_) (fun h=>?_)<;>((try simp only [zAB,zGs,zA5,zH5] at h);(try (exfalso;omega))))|refine zAd rfl rfl rfl ?_|refine zq rfl rfl rfl ?_|(refine zy rfl rfl rfl rfl (fun b=>?_))|(refine zt rfl rfl rfl ?_;refine ⟨rfl,_,rfl,fun b=>?_⟩)|refine zF2 rfl rfl rfl (IntWalk.i64_in _ (by omega)) ?_)|(with_reducible first|refine zH ?_|refine zB ?_|refine zD ?_|refine zA ?_|refine zW ?_)))
 all_goals exact zR (by exact rTm rfl) () trivial (by first|exact congrArg Value.bool (by rw [zHK,decide_eq_true (by omega)];try rfl)|exact congrArg Value.bool (by rw [zHK,decide_eq_false (by omega)];try rfl)) (fun _ h=>h.sub (by (repeat constructor)))
end Go.Proofs.YtdigopgncfhiaaaGreatDoor
namespace Go.Proofs.YtdigopgncfhiaaaGreatDoor
open Go.RowKit
theorem zKg : Tryz.zeroCells203.toList=zAU (fun _ _=>0):=by kernel_rfl
end Go.Proofs.YtdigopgncfhiaaaGreatDoor
namespace Go.Proofs.YtdigopgncfhiaaaGreatDoor
def zFS (n i k:Nat) (M:Mat):Prop:=∀ a b,a<n→b<n→M a b=if (a<i∨(a=i∧b<k))∧a≠b then far else 0
theorem zIa (n:Nat):zFS n 0 0 (fun _ _=>0):=fun a b ha hb=>by rw [if_neg (by omega)]
theorem zLU {n i k:Nat} {M:Mat} (h:zFS n i k M) (hne:i≠k):zFS n i (k+1) (zBu M i k far):=fun a b ha hb=>by
 unfold zBu
 by_cases h1:a=i∧b=k
 ·obtain ⟨rfl,rfl⟩:=h1
  rw [if_pos ⟨rfl,rfl⟩,if_pos (by omega)]
 ·rw [if_neg h1,h a b ha hb]
  by_cases h2:(a<i∨(a=i∧b<k))∧a≠b
  ·rw [if_pos h2,if_pos (by omega)]
  ·rw [if_neg h2,if_neg (by omega)]
theorem zJ6 {n i:Nat} {M:Mat} (h:zFS n i i M):zFS n i (i+1) M:=fun a b ha hb=>by
 rw [h a b ha hb]
 by_cases h2:(a<i∨(a=i∧b<i))∧a≠b
 ·rw [if_pos h2,if_pos (by omega)]
 ·rw [if_neg h2,if_neg (by omega)]
theorem zLV {n i:Nat} {M:Mat} (h:zFS n i n M):zFS n (i+1) 0 M:=fun a b ha hb=>by
 rw [h a b ha hb]
 by_cases h2:(a<i∨(a=i∧b<n))∧a≠b
 ·rw [if_pos h2,if_pos (by omega)]
 ·rw [if_neg h2,if_neg (by omega)]
def SpTo (n:Nat) (s:List Sp) (i:Nat) (M:Mat):Prop:=∀ a b,a<n→b<n→M a b=if a=b then 0 else if b=a+1∧a<i then (zCA s a).hi else if a=b+1∧b<i then -(zCA s b).lo else far
theorem zJI {n:Nat} {s:List Sp} {M:Mat} (h:zFS n n 0 M):SpTo n s 0 M:=fun a b ha hb=>by
 rw [h a b ha hb]
 by_cases e:a=b
 ·rw [if_neg (by omega),if_pos e]
 ·rw [if_pos (by omega),if_neg e,if_neg (by omega),if_neg (by omega)]
theorem zMh {n i:Nat} {s:List Sp} {M:Mat} (h:SpTo n s i M) {x y:Int} (hx:x=(zCA s i).hi) (hy:y = -(zCA s i).lo):SpTo n s (i+1) (zBu (zBu M i (i+1) x) (i+1) i y):=fun a b ha hb=>by
 unfold zBu
 by_cases h1:a=i+1∧b=i
 ·obtain ⟨rfl,rfl⟩:=h1
  rw [if_pos ⟨rfl,rfl⟩,if_neg (by omega),if_neg (by omega),if_pos (by omega),hy]
 rw [if_neg h1]
 by_cases h2:a=i∧b=i+1
 ·obtain ⟨rfl,rfl⟩:=h2
  rw [if_pos ⟨rfl,rfl⟩,if_neg (by omega),if_pos (by omega),hx]
 rw [if_neg h2,h a b ha hb]
 by_cases e:a=b
 ·rw [if_pos e,if_pos e]
 rw [if_neg e,if_neg e]
 by_cases e1:b=a+1∧a<i
 ·rw [if_pos e1,if_pos (by omega)]
 rw [if_neg e1,if_neg (show ¬ (b=a+1∧a<i+1) by omega)]
 by_cases e2:a=b+1∧b<i
 ·rw [if_pos e2,if_pos (show a=b+1∧b<i+1 by omega)]
 rw [if_neg e2,if_neg (show ¬ (a=b+1∧b<i+1) by omega)]
theorem zMi {n i:Nat} {s:List Sp} {M:Mat} (h:SpTo n s i M) (hi:i+1=n):zD8 n M (T0 s):=fun a b ha hb=>by
 rw [h a b ha hb]
 unfold T0
 by_cases e:a=b
 ·rw [if_pos e,if_pos e]
 rw [if_neg e,if_neg e]
 by_cases e1:b=a+1
 ·rw [if_pos e1,if_pos ⟨e1,by omega⟩]
 rw [if_neg e1,if_neg (by omega)]
 by_cases e2:a=b+1
 ·rw [if_pos e2,if_pos ⟨e2,by omega⟩]
 rw [if_neg e2,if_neg (by omega)]
theorem zMm {n:Nat} {M N:Mat} (h:zD8 n M N) {i k:Nat} {v u:Int} (hv:v=u):zD8 n (zBu M i k v) (zBu N i k u):=fun a b ha hb=>by
 unfold zBu;rw [hv,h a b ha hb]
theorem zKw {n:Nat} {kind:Int} {M N:Mat} {m:Me} (hm:zCn n m) (h:zD8 n M N):zD8 n (zCU kind M m) (zCU kind N m):=by
 obtain ⟨-,-,h1,h2,h3,-⟩:=hm
 have hf:m.frm.toNat<n:=by omega
 have ht:m.to.toNat<n:=by omega
 unfold zCU
 split
 ·have e:=zMm h (i:=m.frm.toNat) (k:=m.to.toNat) (v:=min (M m.frm.toNat m.to.toNat) m.value.hi) (u:=min (N m.frm.toNat m.to.toNat) m.value.hi) (by rw [h _ _ hf ht])
  exact zMm e (by rw [e _ _ ht hf])
 ·exact h
theorem zK6 (kind:Int) (M:Mat) (ms:List Me) (m:Me):meas kind M (ms++[m])=zCU kind (meas kind M ms) m:=by simp [meas]
theorem zHP {n:Nat} {M N:Mat} (h:zD8 n M N):∀ x,x≤n→zD8 n (zAZ M x) (zAZ N x)
 | 0,_=>h
 | x+1,hx=>fun a b ha hb=>by
  have ih:=zHP h x (by omega)
  simp only [zAZ,zG9]
  rw [ih a b ha hb,ih a x ha (by omega),ih x b (by omega) hb]
theorem zHR {n:Nat} {M N:Mat} (h:zD8 n M N) {x:Nat} (hx:x≤n) (hf:fine n M x):fine n N x:=fun y hy i hi=>by
 rw [← zHP h y (by omega) i i hi hi];exact hf y hy i hi
theorem zD8.symm {n:Nat} {M N:Mat} (h:zD8 n M N):zD8 n N M:=fun a b ha hb=>(h a b ha hb).symm
def BdM (n:Nat) (M:Mat):Prop:=∀ i k,i<n→k<n→-1073741824≤M i k∧M i k≤1073741824
theorem T0_bd {s:List Sp} (hs:zFi s) (n:Nat):BdM n (T0 s):=fun i k _ _=>by
 unfold T0 far
 have h1:=hs i
 have h2:=hs k
 split
 ·omega
 ·split
  ·omega
  ·split<;>omega
theorem putMe_bd {n:Nat} {kind:Int} {M:Mat} {m:Me} (hm:zCn n m) (h:BdM n M):BdM n (zCU kind M m):=fun i k hi hk=>by
 obtain ⟨-,-,h1,h2,h3,h4,h5,h6⟩:=hm
 have b1:=h m.frm.toNat m.to.toNat (by omega) (by omega)
 have b2:=h m.to.toNat m.frm.toNat (by omega) (by omega)
 have b3:=h i k hi hk
 unfold zCU
 split
 ·simp only [zBu]
  split
  ·split<;>omega
  ·split<;>omega
 ·exact b3
theorem zL5 {n:Nat} {kind:Int}:∀ (ms:List Me) (M:Mat),(∀ m∈ms,zCn n m)→BdM n M→BdM n (meas kind M ms)
 | [],_,_,h=>h
 | m::r,M,hm,h=>zL5 r (zCU kind M m) (fun x hx=>hm x (by simp [hx])) (putMe_bd (hm m (by simp)) h)
def zCY (f:Nat→St→St) (t:List St) (i:Nat):List St:=t.mapIdx fun j s=>if j<i then f j s else s
theorem zBP {f:Nat→St→St} {t:List St} {i j:Nat}:(zCY f t i)[j]?=t[j]?.map fun s=>if j<i then f j s else s:=by simp [zCY]
theorem zFz {f:Nat→St→St} {t:List St} {i:Nat}:(zCY f t i).length=t.length:=by simp [zCY]
theorem zI7 {f:Nat→St→St} {t:List St}:zCY f t 0=t:=by
 apply List.ext_getElem?;intro j;rw [zBP];simp
theorem zKi {f:Nat→St→St} {t:List St} {i:Nat} {z z':St} (h:t[i]?=some z) (hz:z'=f i z):(zCY f t i).set i z'=zCY f t (i+1):=by
 apply List.ext_getElem?;intro j
 rw [List.getElem?_set,zBP,zBP,zFz]
 have hlt:=(List.getElem?_eq_some_iff.1 h).1
 by_cases e:i=j
 ·subst e
  rw [if_pos rfl,if_pos hlt,h]
  simp [hz]
 ·rw [if_neg e]
  congr 1
  funext s
  by_cases h1:j<i
  ·rw [if_pos h1,if_pos (by omega)]
  ·rw [if_neg h1,if_neg (by omega)]
def zDV (D:Mat) (j:Nat):Sp:=⟨-(D (j+1) j),D j (j+1)⟩
def zCc (D:Mat) (j:Nat) (s:St):St:={ s with long:=zDV D j }
def zCw (D:Mat) (j:Nat) (s:St):St:={ s with fall:=zDV D j }
theorem zKj {F:Mat→Nat→St→St} {n:Nat} {t:List St} {D E:Mat} (hF:∀ j s,j+1<n→F D j s=F E j s) (hn:t.length+1=n) (i:Nat):zCY (F D) t i=zCY (F E) t i:=by
 apply List.ext_getElem?;intro j
 rw [zBP,zBP]
 cases h:t[j]? with
 | none=>rfl
 | some s =>
  have hlt:=(List.getElem?_eq_some_iff.1 h).1
  simp only [Option.map_some]
  rw [hF j s (by omega)]
theorem zGB {n:Nat} {D E:Mat} (h:zD8 n D E) {j:Nat} (hj:j+1<n):zDV D j=zDV E j:=by
 unfold zDV;rw [h _ _ hj (by omega),h _ _ (by omega) hj]
def dist (kind:Int) (s:List Sp) (ms:List Me) (n:Nat):Mat:=zAZ (meas kind (T0 s) ms) n
def zBS (kind:Int) (s:List Sp) (ms:List Me) (n:Nat):Prop:=fine n (meas kind (T0 s) ms) n
theorem zJd {n:Nat} {s:List Sp} {ms ms':List Me} (hm:∀ m∈ms,zCn n m) (hp:∀ m,m∈ms'↔m∈ms) (kind:Int) :
  (zBS kind s ms' n↔zBS kind s ms n)∧(zBS kind s ms' n→zD8 n (dist kind s ms' n) (dist kind s ms n)):=by
 have hm':∀ m∈ms',zCn n m:=fun m h=>hm m ((hp m).1 h)
 refine zMF (zB6 ms' _ hm' (zEQ n s)) (zB6 ms _ hm (zEQ n s)) (fun E hE hd h=>?_) (fun E hE hd h=>?_)
 ·obtain ⟨h1,h2⟩:=(zCS ms' _ hm').1 h
  exact (zCS ms _ hm).2 ⟨h1,fun m hx=>h2 m ((hp m).2 hx)⟩
 ·obtain ⟨h1,h2⟩:=(zCS ms _ hm).1 h
  exact (zCS ms' _ hm').2 ⟨h1,fun m hx=>h2 m ((hp m).1 hx)⟩
def stage1 (t:List St) (ms:List Me):List St:=zCY (zCc (dist 1 (longs t) ms (t.length+1))) t t.length
def stage2 (t:List St) (ms:List Me):List St:=zCY (zCw (dist 2 (falls (stage1 t ms)) ms (t.length+1))) (stage1 t ms) t.length
def fine1 (t:List St) (ms:List Me):Prop:=zBS 1 (longs t) ms (t.length+1)
def fine2 (t:List St) (ms:List Me):Prop:=zBS 2 (falls (stage1 t ms)) ms (t.length+1)
open Classical in
noncomputable def zDX (t:List St) (ms:List Me):Bool:=decide (fine1 t ms∧fine2 t ms)
noncomputable def zEM (t:List St) (ms:List Me):List St:=if zDX t ms then stage2 t ms else []
theorem zJG {t:List St} {ms:List Me}:(stage1 t ms).length=t.length:=zFz
theorem zN9 {t:List St} {ms:List Me}:(stage2 t ms).length=t.length:=by unfold stage2;rw [zFz,zJG]
theorem zQX {t:List St} {ms:List Me} (h1:fine1 t ms) (h2:fine2 t ms):zDX t ms=true:=by simp [zDX,h1,h2]
theorem zQZ {t:List St} {ms:List Me} (h1:¬ fine1 t ms):zDX t ms=false:=by simp [zDX,h1]
theorem zQY {t:List St} {ms:List Me} (h1:¬ fine2 t ms):zDX t ms=false:=by simp [zDX,h1]
def gotten (ms:List Me) (seen:List Nat):List Me:=seen.filterMap (ms[·]?)
theorem zIZ {ms:List Me} {seen:List Nat} {i:Nat} {m:Me} (h:ms[i]?=some m):gotten ms (seen++[i])=gotten ms seen++[m]:=by simp [gotten,h]
theorem zJ3 {ms:List Me} {seen:List Nat} (h:∀ i,i<ms.length→i∈seen) (m:Me):m∈gotten ms seen↔m∈ms:=by
 simp only [gotten,List.mem_filterMap]
 constructor
 ·rintro ⟨i,_,hi⟩;exact List.mem_of_getElem? hi
 ·intro hm
  obtain ⟨i,hi,rfl⟩:=List.getElem_of_mem hm
  exact ⟨i,h i hi,by simp [hi]⟩
theorem zGO {ms:List Me} {seen:List Nat} {n:Nat} (h:∀ m∈ms,zCn n m):∀ m∈gotten ms seen,zCn n m:=fun m hm=>by
 simp only [gotten,List.mem_filterMap] at hm
 obtain ⟨i,_,hi⟩:=hm
 exact h m (List.mem_of_getElem? hi)
theorem zH0 : ∀ (n:Nat) (l:List Nat),l.Nodup→(∀ x∈l,x<n)→l.length≤n
 | 0,l,_,h=>by
  cases l with
  | nil=>simp
  | cons x r=>have:=h x (by simp);omega
 | n+1,l,hn,h=>by
  have h1:=zH0 n (l.erase n) (hn.erase n) (fun x hx=>by
   have h2:=(hn.mem_erase_iff).1 hx
   have:=h x h2.2
   have:=h2.1
   omega)
  have h3:=List.length_erase (a:=n) (l:=l)
  split at h3<;>omega
theorem zJh {l:List Nat} {i:Nat} (h:l.Nodup) (hi:i ∉ l):(l++[i]).Nodup:=by
 rw [List.nodup_append]
 exact ⟨h,by simp,fun a ha b hb=>by simp at hb;subst hb;rintro rfl;exact hi ha⟩
end Go.Proofs.YtdigopgncfhiaaaGreatDoor
namespace Go.Proofs.YtdigopgncfhiaaaGreatDoor
open Go.RowKit
set_option maxRecDepth 20000
def stg (t:List St) (ms:List Me):Nat→List St
 | 1=>t
 | 2=>stage1 t ms
 | _=>stage2 t ms
def zCm : Code→Option Code
 | .loop c=>some c
 | .seq a b=>match zCm a with|some c=>some c|none=>zCm b
 | .block _ c=>zCm c
 | .scope c=>zCm c
 | _=>none
abbrev zJs (m b4 b6 b8 n K:Nat):List (Nat × Value):=[(1,.map (some m)),(4,.pointer (some ⟨b4,0,none⟩)),(6,.pointer (some ⟨b6,0,none⟩)),(7,.int .i64 ((n+1:Nat):Int)),(8,.pointer (some ⟨b8,0,none⟩)),(9,.int .i64 (K:Int))]
abbrev zJt (b4 b6 b8 g n c':Nat) (xs:List St):List Ent:=[.blk b4 [.slice none 0 0],.blk b6 [.slice (some ⟨g,0,none⟩) n c'],.blk b8 [.nilFunc,.func (.func 143) #[] #[],.func (.func 144) #[] #[]],.arr zAK 9 g xs]
end Go.Proofs.YtdigopgncfhiaaaGreatDoor
