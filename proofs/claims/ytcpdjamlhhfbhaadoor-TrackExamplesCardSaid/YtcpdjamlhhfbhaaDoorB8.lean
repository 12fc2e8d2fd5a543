/- B8 -/
import Derived.Test.YtcpdjamlhhfbhaaDoorB7
import Derived.Test.YtcpdjamlhhfbhaaDoorB6
import Derived.Scope
import Derived.Test.YtcpdjamlhhfbhaaDoorB2
import Derived.Test.YtcpdjamlhhfbhaaDoorB1
import Derived.Maps.RangeRun
import Derived.Lib.SliceRun
set_option linter.unusedSimpArgs false
set_option linter.unusedVariables false
namespace Go.Proofs.YtcpdjamlhhfbhaaDoor
variable {ro : Option Nat}
open Go.RowKit
def Ent.old (w:World) (lo hi:Nat):Ent :=
 ⟨fun b=>lo≤b∧b<hi,fun w'=>∀ b,lo≤b→b<hi→w'.heap[b]?=w.heap[b]?,fun _ _ _ h hp b h1 h2=>(h b ⟨h1,h2⟩).trans (hp b h1 h2)⟩
def zGw {α:Type} (w:World) (g:Nat) (V:α→Value) (C:α→List Value) (p:α→Prop) (e:Ending) (w':World):Prop :=
 ∃ x,p x∧e = .returned (V x)∧(w'.os=w.os∧w'.tape=w.tape∧w'.output=w.output∧w.heap.size≤w'.heap.size)∧(∀ b,b<w.heap.size→b≠g→w'.heap[b]?=w.heap[b]?)∧Blk w' g (C x).toArray
def RetM (P:Program) (f:FuncId) (args:List Value) (w:World) (g:Nat) {α:Type} (V:α→Value) (C:α→List Value) (p:α→Prop):Prop :=
 Calls P f args.toArray w (zGw w g V C p)
theorem RetM.calls {P:Program} {f:FuncId} {args:List Value} {w:World} {g:Nat} {α:Type} {V:α→Value} {C:α→List Value} {p:α→Prop} (h:RetM P f args w g V C p):Calls P f args.toArray w (zGw w g V C p):=h
theorem RetM.of {P:Program} {f:FuncId} {args:List Value} {w:World} {g:Nat} {α:Type} {V:α→Value} {C:α→List Value} {p:α→Prop} (h:Calls P f args.toArray w (zGw w g V C p)):RetM P f args w g V C p:=h
attribute [irreducible] RetM
section
variable {P : Program} {w0:World} {n:Nat} {d:List Deferred} {R:List (Nat × Value)} {H H' H1:List Ent} {Q:Exit→Act→World→Prop} {ops:Array Oper} {rest:List Oper} {o:Oper} {t:Tmp} {x y:Operand} {v:Value}
theorem zG8 {α:Type} {f:FuncId} {fn:Func} {c:Code} {args:List Value} {w:World} {g:Nat} {cs:List Value} {V:α→Value} {C:α→List Value} {p:α→Prop} {n:Nat} (hB:Blk w g cs.toArray) (hf:P.funcs[f]?=some fn) (hb:fn.body=some c) (hnn:fn.ntmps=n) (hn:Nat.ble args.length n=true)
  (h:U (zBt w g) n [] (zFv 0 args) [.blk g cs,.old w (g+1) w.heap.size] (c.wpI none P (zEe P fn (zGw w g V C p)))):RetM P f args w g V C p :=
 RetM.of <| (callsIn_wide (n:=9)).1 <| callsIn_of_wp_marks hf hb trivial (h _ _ ⟨by have:=Nat.le_of_ble_eq_true hn;simp;omega,rfl,fun t v ht=>by
  have:=zDP args 0 t v ht
  obtain ⟨_,h2⟩:=this
  simp only [Nat.sub_zero] at h2
  have hlt:t<args.length:=by
   rcases Nat.lt_or_ge t args.length with h|h
   ·exact h
   ·rw [List.getElem?_eq_none h] at h2;cases h2
  rw [Array.getD_eq_getD_getElem?,Array.getElem?_append_left (by simpa using hlt)]
  simp [h2],zFN hB.lt,by
  refine ⟨fun e he=>?_,fun e he b hb=>?_,?_⟩
  ·simp only [List.mem_cons,List.not_mem_nil,or_false] at he
   rcases he with rfl|rfl
   ·exact hB
   ·exact fun b _ _=>rfl
  ·rw [zCZ hB.lt]
   simp only [List.mem_cons,List.not_mem_nil,or_false] at he
   have:=hB.lt
   rcases he with rfl|rfl
   ·cases hb;omega
   ·obtain ⟨h1,h2⟩:=hb;omega
  ·simp only [List.pairwise_cons,List.mem_singleton,forall_eq,List.not_mem_nil,false_implies,implies_true,List.Pairwise.nil,and_true]
   rintro b hb ⟨h1,h2⟩
   cases hb;omega⟩)
theorem zHP {α:Type} {fn:Func} {V:α→Value} {C:α→List Value} {p:α→Prop} {vs:List Value} {w:World} {g:Nat} (hres:zY P (zBt w g) R H fn.results.toList vs) (z:α) (hp:p z) (hV:V z=resV vs) (hg:g<w.heap.size) (ht:Take H (.blk g (C z)) H') (ho:Take H' (.old w (g+1) w.heap.size) H1):U (zBt w g) n [] R H (zEe P fn (zGw w g V C p) .ret):=fun a w' q=>by
 have hH:=q.own.take ht
 show LeavesInM Fence.wide 9 P fn a.tmps _ a.defers .returning w'
 rw [q.defers]
 refine ⟨resV vs,zC4 q hres,z,hp,by rw [hV],⟨q.below.os,q.below.tape,q.below.output,?_⟩,fun b hb hne=>?_,hH.here (.blk g (C z)) (by simp)⟩
 ·have h1:=hH.foot (.blk g (C z)) (by simp) g rfl
  rcases Nat.lt_or_ge (g+1) w.heap.size with h|h
  ·have:=(hH.foot _ (List.mem_cons_of_mem _ ho.mem) (w.heap.size - 1) ⟨by omega,by omega⟩).2
   omega
  ·omega
 ·rcases Nat.lt_or_ge b g with h|h
  ·have:=q.below.block b (by rw [zCZ hg];exact h)
   exact this.trans ((zFN hg).block b (by rw [zCZ hg];exact h)).symm
  ·exact hH.here _ (List.mem_cons_of_mem _ ho.mem) b (by omega) hb
theorem zHR {f:FuncId} {fx:Operand} {xs:Array Operand} {ts:Array TypeId} {vs:List Value} {cap:Array Value} {α:Type} {V:α→Value} {C:α→List Value} {p:α→Prop} {g:Nat} {cs:List Value} (hop:o.op = .call ⟨.value fx,xs,ts⟩) (hrd:rdy R ops n o=some t) (hf:evR R fx=some (.func (.func f) #[] cap)) (hx:evs R xs.toList=some vs) [ci:zR P f] (htk:Take H (.blk g cs) H')
  (hc:∀ w,Blk w g cs.toArray→RetM P f (vs++cap.toList) w g V C p) (h:∀ x,p x→U w0 n d ((t,V x)::R) (.blk g (C x)::H') (wpL ro P ops Q rest)):U w0 n d R H (wpL ro P ops Q (o::rest)) :=
 zDQ (rW hrd) fun a w q K hK=>by
  unfold Oper.wp execOp;rw [hop]
  have e1:xs.map a.eval=vs.toArray:=by apply Array.ext';simpa using q.evs hx
  have e2:vs.toArray++cap=(vs++cap.toList).toArray:=by apply Array.ext';simp
  simp only [resolve,q.ev hf,e1,Deferred.ofValue,Sem.run_bind,Sem.run_pure,Result.andThen_ok,invoke,Array.empty_append,e2,ci.ent,Oper.upon_enter,(rD hrd)]
  have hH:=q.own.take htk
  have hB:Blk w g cs.toArray:=hH.here (.blk g cs) (by simp)
  have hfoot:=hH.foot (.blk g cs) (by simp) g rfl
  refine Calls.mono (hc w hB).calls ?_
  rintro e w' ⟨z,hp,rfl,⟨h1,h2,h3,h4⟩,h5,h6⟩
  refine hK _ _ (h z hp _ _ ((q.heap ?_ ?_).put (rT hrd)))
  ·exact q.below.trans ⟨h1,h2,h3,h4,fun b hb=>h5 b (by have:=q.base;omega) (by omega)⟩
  ·refine hH.turn h4 (fun b hb hn=>h5 b hb (fun e=>hn e)) q.base h6 (fun b hb=>?_)
   cases hb
   exact ⟨.inl rfl,by omega⟩
def zk (M:Mat):List Value:=(List.range 169).map fun j=>.int .i64 (M (j / 13) (j % 13))
class zCr (I K:Nat):Prop where lt:I<13∧K<13
theorem zHL {M:Mat} {I K:Nat} (h:I<13∧K<13):(zk M)[I * 13+K]?=some (.int .i64 (M I K)):=by
 unfold zk
 rw [List.getElem?_map,List.getElem?_range (by omega)]
 simp only [Option.map_some]
 rw [show (I * 13+K) / 13=I by omega,show (I * 13+K) % 13=K by omega]
instance (priority := high) srcI_mat {g I K:Nat} {M:Mat} [i:zCz H g (zk M) H'] [j:zCr I K]:zES w0 H g (0+I * 13+K * 1) [.int .i64 (M I K)]:=⟨fun w hb ho k v hv=>by
 match k,hv with
 | 0,hv =>
  simp only [List.getElem?_cons_zero,Option.some.injEq] at hv
  subst hv
  have:=(Src.blk i.tk:Src w0 H g 0 (zk M)) w hb ho (I * 13+K) _ (zHL j.lt)
  rwa [show 0+(I * 13+K)=0+I * 13+K * 1+0 by omega] at this⟩
theorem zDf {M:Mat} {I K:Nat} (h:I<13∧K<13) (v:Int):put1 (zk M) (0+I * 13+K * 1) [.int .i64 v]=zk (zAv M I K v):=by
 show (zk M).set (0+I * 13+K * 1) (.int .i64 v)=_
 apply List.ext_getElem?
 intro j
 rw [List.getElem?_set]
 have hl:(zk M).length=169:=by simp [zk]
 by_cases hj:j<169
 ·have e:∀ N:Mat,(zk N)[j]?=some (.int .i64 (N (j / 13) (j % 13))):=fun N=>by
   unfold zk;rw [List.getElem?_map,List.getElem?_range hj];rfl
  rw [e,e,hl]
  by_cases hc:0+I * 13+K * 1=j
  ·rw [if_pos hc,if_pos (by omega)]
   have h1:j / 13=I:=by omega
   have h2:j % 13=K:=by omega
   simp [zAv,h1,h2]
  ·rw [if_neg hc]
   have h1:¬ (j / 13=I∧j % 13=K):=by omega
   simp [zAv,h1]
 ·have hn:∀ N:Mat,(zk N)[j]?=none:=fun N=>List.getElem?_eq_none (by simp [zk];omega)
  rw [hn,hn,if_neg (by omega)]
theorem zBR {T1:TypeId} {td:TypeDesc} {b I K:Nat} {g:Bool} {M:Mat} {i:Int} (hop:o.op = .store T1 x y) [i1:TyI P T1 td 1 g] (hw:want R ops o=some true) (hd:o.dst=none) (hx:evR R x=some (.pointer (some ⟨b,0+I * 13+K * 1,none⟩))) (hy:evR R y=some (.int .i64 i)) [i2:zCz H b (zk M) H'] [j:zCr I K]
  (h:U w0 n d R (.blk b (zk (zAv M I K i))::H') (wpL ro P ops Q rest)):U w0 n d R H (wpL ro P ops Q (o::rest)) :=
 zFz hop hw hd hx hy i2.tk rfl rfl (Nat.ble_eq_true_of_le (by have:=j.lt;simp [zk];omega)) (zDf j.lt i) h
end
end Go.Proofs.YtcpdjamlhhfbhaaDoor
namespace Go.Proofs.YtcpdjamlhhfbhaaDoor
variable {ro : Option Nat}
open Go.RowKit
set_option maxRecDepth 20000
def zCE (n:Nat) (M F:Mat):Prop:=∀ a b,a<n→b<n→M a b=F a b
def Mid (n:Nat) (F F1:Mat) (i k:Nat) (M:Mat):Prop:=∀ a b,a<n→b<n→M a b=if a<i∨(a=i∧b<k) then F1 a b else F a b
def MidD (n:Nat) (F1:Mat) (i k:Nat):Prop:=∀ a,a<n→(a<i∨(a=i∧a<k))→0≤F1 a a
section
variable {n x i k:Nat} {M0 M:Mat}
theorem zHv (h:zCE n M (zp M0 x)):Mid n (zp M0 x) (zp M0 (x+1)) 0 0 M:=fun a b ha hb=>by
 rw [if_neg (by omega)];exact h a b ha hb
theorem mid_row (h:Mid n (zp M0 x) (zp M0 (x+1)) i n M):Mid n (zp M0 x) (zp M0 (x+1)) (i+1) 0 M:=fun a b ha hb=>by
 rw [h a b ha hb]
 by_cases h1:a<i∨(a=i∧b<n)
 ·rw [if_pos h1,if_pos (by omega)]
 ·rw [if_neg h1,if_neg (by omega)]
theorem mid_end (h:Mid n (zp M0 x) (zp M0 (x+1)) n 0 M):zCE n M (zp M0 (x+1)):=fun a b ha hb=>by
 rw [h a b ha hb,if_pos (by omega)]
theorem midD_row (h:MidD n (zp M0 (x+1)) i n):MidD n (zp M0 (x+1)) (i+1) 0:=fun a ha h1=>h a ha (by omega)
theorem zH2 (hf:fine n M0 x) (h:MidD n (zp M0 (x+1)) n 0):fine n M0 (x+1):=fun y hy a ha=>by
 rcases Nat.lt_or_ge x y with h1|h1
 ·obtain rfl:y=x+1:=by omega
  exact h a ha (by omega)
 ·exact hf y h1 a ha
theorem zHw (h0:zCD n M0) (hf:fine n M0 x) (hx:x<n) (hi:i<n) (hk:k<n) (h:Mid n (zp M0 x) (zp M0 (x+1)) i k M) :
  M i x=zp M0 x i x∧M x k=zp M0 x x k∧M i k=zp M0 x i k∧zp M0 (x+1) i k=min (zp M0 x i k) (zp M0 x i x+zp M0 x x k):=by
 have hd:=zDO h0 hf x hx
 have e1:zp M0 (x+1) i x=zp M0 x i x:=by simp only [zp,zDl];omega
 have e2:zp M0 (x+1) x k=zp M0 x x k:=by simp only [zp,zDl];omega
 refine ⟨?_,?_,?_,rfl⟩
 ·rw [h i x hi hx];split
  ·exact e1
  ·rfl
 ·rw [h x k hx hk];split
  ·exact e2
  ·rfl
 ·rw [h i k hi hk,if_neg (by omega)]
theorem mid_set (h:Mid n (zp M0 x) (zp M0 (x+1)) i k M) {v:Int} (hv:v=zp M0 (x+1) i k):Mid n (zp M0 x) (zp M0 (x+1)) i (k+1) (zAv M i k v):=fun a b ha hb=>by
 unfold zAv
 by_cases h1:a=i∧b=k
 ·obtain ⟨rfl,rfl⟩:=h1
  rw [if_pos ⟨rfl,rfl⟩,if_pos (by omega)];exact hv
 ·rw [if_neg h1,h a b ha hb]
  by_cases h2:a<i∨(a=i∧b<k)
  ·rw [if_pos h2,if_pos (by omega)]
  ·rw [if_neg h2,if_neg (by omega)]
theorem mid_keep (h:Mid n (zp M0 x) (zp M0 (x+1)) i k M) (hi:i<n) (hk:k<n) (hv:zp M0 x i k=zp M0 (x+1) i k):Mid n (zp M0 x) (zp M0 (x+1)) i (k+1) M:=fun a b ha hb=>by
 rw [h a b ha hb]
 by_cases h2:a<i∨(a=i∧b<k)
 ·rw [if_pos h2,if_pos (by omega)]
 ·rw [if_neg h2]
  by_cases h1:a=i∧b=k
  ·obtain ⟨rfl,rfl⟩:=h1
   rw [if_pos (by omega)];exact hv
  ·rw [if_neg (by omega)]
theorem zFh (h:MidD n (zp M0 (x+1)) i k) (hv:i=k→0≤zp M0 (x+1) i k):MidD n (zp M0 (x+1)) i (k+1):=fun a ha h1=>by
 by_cases h2:a<i∨(a=i∧a<k)
 ·exact h a ha h2
 ·obtain ⟨rfl,rfl⟩:a=i∧a=k:=by omega
  exact hv rfl
theorem zEn (hb:∀ i k,i<n→k<n→-1073741824≤M0 i k∧M0 i k≤1073741824) (hn:n≤13) (hx:x≤n) (hi:i<n) (hk:k<n):-8796093022208≤zp M0 x i k∧zp M0 x i k≤8796093022208:=by
 have h:=fw_bd hb (by omega) x hx i k hi hk
 have hp:(2:Int) ^ x≤2 ^ 13:=by
  have:=Nat.pow_le_pow_right (n:=2) (by omega) (by omega:x≤13)
  exact_mod_cast this
 have h2:(2:Int) ^ x * 1073741824≤2 ^ 13 * 1073741824:=Int.mul_le_mul_of_nonneg_right hp (by omega)
 have h3:(2:Int) ^ 13 * 1073741824=8796093022208:=by decide
 omega
end
set_option maxHeartbeats 2000000 in
theorem zEx (n:Nat) (M0:Mat) (g:Nat) (w:World) (hB:Blk w g (zk M0).toArray) (hn:n≤13) (h0:zCD n M0) (hb:∀ i k,i<n→k<n→-1073741824≤M0 i k∧M0 i k≤1073741824) :
  RetM Tryd.prog 53 [.pointer (some ⟨g,0,none⟩),.int .i64 (n:Int)] w g (fun z:Bool × Mat=>.bool z.1) (fun z=>zk z.2) (fun z=>(z.1=true→fine n M0 n∧zCE n z.2 (zp M0 n))∧(z.1=false→¬ fine n M0 n)):=by
 have hg:=hB.lt
 have f0:fine n M0 0:=fun y hy a ha=>by
  obtain rfl:y=0:=by omega
  have:=h0 a ha
  simp only [zp];omega
 refine zG8 (n:=58) hB Tryd.func53 rfl rfl rfl ?_
 (repeat' (first|((with_reducible refine zI ?_);first|refine zF rfl rfl rfl ?_|refine zD rfl rfl rfl ?_)|(with_reducible first|refine zJ ?_|refine zC ?_|refine zG ?_|refine zA ?_|refine zb ?_)))
 refine zAc (ι:=Nat × Mat) (fun j=>j.1≤n∧fine n M0 j.1∧zCE n j.2 (zp M0 j.1)) (fun j=>[(0,.pointer (some ⟨g,0,none⟩)),(1,.int .i64 (n:Int)),(9,.int .i64 (n:Int)),(10,.int .i64 (j.1:Int))]) (fun j=>[.blk g (zk j.2),.old w (g+1) w.heap.size]) (fun j=>n - j.1) (0,M0) ⟨Nat.zero_le _,f0,fun _ _ _ _=>rfl⟩ (by (repeat first|exact lK1|refine zW rfl ?_)) (by (repeat constructor)) ?_
 rintro ⟨x,M⟩ ⟨hx,hf,hA⟩
 simp only at hx hf hA ⊢
 by_cases hlt:x<n
 ·(repeat' (first|((with_reducible refine zI ?_);first|refine zF rfl rfl rfl ?_|refine zD rfl rfl rfl ?_|(refine zT rfl rfl rfl rfl rfl (fun h=>?_) (fun h=>?_)<;>(dsimp only [cmpP] at h;(try (exfalso;omega)))))|(with_reducible first|refine zJ ?_|refine zC ?_|refine zG ?_|refine zA ?_|refine ze ?_|refine zb ?_)|((with_reducible refine zM ?_ ?_);(· exact rfl))))
  refine zAc (ι:=Nat × Mat) (fun j=>j.1≤n∧Mid n (zp M0 x) (zp M0 (x+1)) j.1 0 j.2∧MidD n (zp M0 (x+1)) j.1 0) (fun j=>[(0,.pointer (some ⟨g,0,none⟩)),(1,.int .i64 (n:Int)),(9,.int .i64 (n:Int)),(10,.int .i64 (x:Int)),(5,.int .i64 (x:Int)),(13,.int .i64 (n:Int)),(14,.int .i64 (j.1:Int))]) (fun j=>[.blk g (zk j.2),.old w (g+1) w.heap.size]) (fun j=>n - j.1) (0,M) ⟨Nat.zero_le _,zHv hA,fun a ha h=>by omega⟩ (by (repeat first|exact lK1|refine zW rfl ?_)) (by (repeat constructor)) ?_
  clear hA M
  rintro ⟨i,M⟩ ⟨hi,hM,hD⟩
  simp only at hi hM hD ⊢
  by_cases hli:i<n
  ·(repeat' (first|((with_reducible refine zI ?_);first|refine zF rfl rfl rfl ?_|refine zD rfl rfl rfl ?_|(refine zT rfl rfl rfl rfl rfl (fun h=>?_) (fun h=>?_)<;>(dsimp only [cmpP] at h;(try (exfalso;omega)))))|(with_reducible first|refine zJ ?_|refine zC ?_|refine zG ?_|refine zA ?_|refine ze ?_|refine zb ?_)|((with_reducible refine zM ?_ ?_);(· exact rfl))))
   refine zAc (ι:=Nat × Mat) (fun j=>j.1≤n∧Mid n (zp M0 x) (zp M0 (x+1)) i j.1 j.2∧MidD n (zp M0 (x+1)) i j.1) (fun j=>[(0,.pointer (some ⟨g,0,none⟩)),(1,.int .i64 (n:Int)),(9,.int .i64 (n:Int)),(10,.int .i64 (x:Int)),(5,.int .i64 (x:Int)),(13,.int .i64 (n:Int)),(14,.int .i64 (i:Int)),(6,.int .i64 (i:Int)),(17,.int .i64 (n:Int)),(18,.int .i64 (j.1:Int))]) (fun j=>[.blk g (zk j.2),.old w (g+1) w.heap.size]) (fun j=>n - j.1) (0,M) ⟨Nat.zero_le _,hM,hD⟩ (by (repeat first|exact lK1|refine zW rfl ?_)) (by (repeat constructor)) ?_
   clear hM hD M
   rintro ⟨k,M⟩ ⟨hk,hM,hD⟩
   simp only at hk hM hD ⊢
   by_cases hlk:k<n
   ·have m1:zCr i x:=⟨by omega,by omega⟩
    have m2:zCr x k:=⟨by omega,by omega⟩
    have m3:zCr i k:=⟨by omega,by omega⟩
    obtain ⟨f1,f2,f3,f4⟩:=zHw h0 hf hlt hli hlk hM
    have b1:=zEn hb hn (by omega:x≤n) hli hlt
    have b2:=zEn hb hn (by omega:x≤n) hlt hlk
    rw [← f1] at b1
    rw [← f2] at b2
    rw [← f1,← f2,← f3] at f4
    have hd:=zDO h0 hf
    (repeat' (first|((with_reducible refine zI ?_);first|refine zF rfl rfl rfl ?_|refine zD rfl rfl rfl ?_|(refine zT rfl rfl rfl rfl rfl (fun h=>?_) (fun h=>?_)<;>(dsimp only [cmpP] at h;(try (exfalso;omega)))))|(with_reducible first|refine zJ ?_|refine zC ?_|refine zG ?_|refine zA ?_|refine ze ?_|refine zb ?_)|((with_reducible refine zM ?_ ?_);(· exact rfl))))
    (refine Two.zAU [] [] [] rfl (show ([]:List Nat).Nodup by decide) (fun _ h=>h) (by kernel_rfl) [[],[Y],[Y,Y],[Y,Y,Z],[Z,Y,Z,Z],[Z,Z,Z,Z,Z],[Z,Z,Z,Z,Z,Z],[Y,Y,Y,Y,Y,Y,Y],[Y,Y,Y,Y,Y,Y,Y,Y],[Y,Y,Y,Y,Y,Y,Y,Y,Y],[Y,Y,Z,Y,Y,Y,Y,Y,Y,Y],[Z,Y,Z,Z,Y,Y,Y,Y,Y,Y,Y],[Z,Z,Z,Z,Z,Y,Y,Y,Y,Y,Y,Y],[Z,Z,Z,Z,Z,Z,Y,Y,Y,Y,Y,Y,Y],[Z,Z,Z,Z,Z,Z,Z,Z,Z,Z,Z,Z,Z,Z],[Z,Z,Z,Z,Z,Z,Z,Z,Z,Z,Z,Z,Z,Z,Z]] (by kernel_rfl) (by kernel_rfl) (by kernel_rfl) (by kernel_rfl) (by kernel_rfl) ?_)
    (repeat' (first|(((with_reducible refine Two.zB0 ?_ ?_);(· exact rfl);refine ⟨_,fun G=>(by (try simp (decide:=true) only [Two.vis,Two.see,fltT,zc,Nat.reduceAdd,Nat.reduceSub,if_true,if_false,List.set_cons_zero,List.set_cons_succ,List.set_nil,List.nil_append,List.cons_append]);rfl),?_⟩);first|refine Two.zK _ (fun _=>zA5 rfl rfl) (fun _=>rfl) rfl (by intro G G' h;simp (decide:=true) only [h]) ?_|refine Two.zK _ (fun _=>zAA rfl rfl (by exact rfl)) (fun _=>rfl) rfl (by intro G G' h;simp (decide:=true) only [h]) ?_|refine Two.zK _ (fun _=>zCA rfl rfl) (fun _=>rfl) rfl (by intro G G' h;simp (decide:=true) only [h]) ?_|refine Two.zK _ (fun _=>e_add rfl rfl rfl (IntWalk.i64_in _ (by omega))) (fun _=>rfl) rfl (by intro G G' h;simp (decide:=true) only [h]) ?_|refine Two.zK _ (fun _=>zA6 rfl rfl rfl rfl (by first|decide|omega)) (fun _=>rfl) rfl (by intro G G' h;simp (decide:=true) only [h]) ?_|refine Two.zK _ (fun _=>zB9 rfl rfl) (fun _=>rfl) rfl (by intro G G' h;simp (decide:=true) only [h]) ?_)|(with_reducible refine Two.zEd ?_)))
    (intro G;simp only [regsT,zc,Two.zAR,Two.ini,List.nil_append,List.cons_append])
    (repeat' (first|((with_reducible refine zI ?_);first|refine zF rfl rfl rfl ?_|refine zD rfl rfl rfl ?_|(refine zf rfl rfl rfl ?_;refine ⟨_,rfl,?_⟩)|(refine zT rfl rfl rfl rfl rfl (fun h=>?_) (fun h=>?_)<;>(dsimp only [cmpP] at h;(try (exfalso;omega))))|refine zBR rfl rfl rfl rfl rfl ?_|refine zAY rfl rfl rfl rfl (by omega) ?_|refine zEs rfl rfl rfl rfl rfl (by first|decide|omega) ?_|refine zDY rfl rfl rfl ?_)|(with_reducible first|refine zJ ?_|refine zC ?_|refine zG ?_|refine zA ?_|refine zg ?_|refine ze ?_|refine zq ?_|refine zAL ?_|refine zD7 ?_)|((with_reducible refine zM ?_ ?_);(· exact rfl))|((with_reducible refine zL ?_ ?_);(· exact rfl))))
    ·have hfi:i=k:=by omega
     subst hfi
     have hv:=hd i hli
     refine zHP (by exact rTm rfl) (false,zAv M i i (M i x+M x i)) ⟨fun h=>(by cases h),fun _ hh=>?_⟩ rfl hg (by (repeat constructor)) (by (repeat constructor))
     have:=hh (x+1) (by omega) i hli
     rw [← f3] at hv
     omega
    ·exact zm (k+1,zAv M i k (M i x+M x k)) ⟨by omega,mid_set hM (by omega),zFh hD (fun e=>by omega)⟩ (by simp only;omega) (by (repeat first|exact lK1|refine zW rfl ?_)) (by (repeat constructor))
    ·refine zm (k+1,M) ⟨by omega,mid_keep hM hli hlk (by omega),zFh hD (fun e=>?_)⟩ (by simp only;omega) (by (repeat first|exact lK1|refine zW rfl ?_)) (by (repeat constructor))
     subst e
     have hv:=hd i hli
     omega
   ·obtain rfl:k=n:=by omega
    (repeat' (first|((with_reducible refine zI ?_);first|refine zF rfl rfl rfl ?_|(refine zT rfl rfl rfl rfl rfl (fun h=>?_) (fun h=>?_)<;>(dsimp only [cmpP] at h;(try (exfalso;omega))))|refine zAY rfl rfl rfl rfl (by omega) ?_)|(with_reducible first|refine zJ ?_|refine zC ?_|refine zG ?_|refine zA ?_|refine zAd ?_|refine zAL ?_|refine zo ?_|refine zx ?_)|((with_reducible refine zL ?_ ?_);(· exact rfl))))
    exact zm (i+1,M) ⟨by omega,mid_row hM,midD_row hD⟩ (by simp only;omega) (by (repeat first|exact lK1|refine zW rfl ?_)) (by (repeat constructor))
  ·obtain rfl:i=n:=by omega
   (repeat' (first|((with_reducible refine zI ?_);first|refine zF rfl rfl rfl ?_|(refine zT rfl rfl rfl rfl rfl (fun h=>?_) (fun h=>?_)<;>(dsimp only [cmpP] at h;(try (exfalso;omega))))|refine zAY rfl rfl rfl rfl (by omega) ?_)|(with_reducible first|refine zJ ?_|refine zC ?_|refine zG ?_|refine zA ?_|refine zAd ?_|refine zAL ?_|refine zo ?_|refine zx ?_)|((with_reducible refine zL ?_ ?_);(· exact rfl))))
   exact zm (x+1,M) ⟨by omega,zH2 hf hD,mid_end hM⟩ (by simp only;omega) (by (repeat first|exact lK1|refine zW rfl ?_)) (by (repeat constructor))
 ·obtain rfl:x=n:=by omega
  (repeat' (first|((with_reducible refine zI ?_);first|refine zD rfl rfl rfl ?_|(refine zT rfl rfl rfl rfl rfl (fun h=>?_) (fun h=>?_)<;>(dsimp only [cmpP] at h;(try (exfalso;omega)))))|(with_reducible first|refine zJ ?_|refine zC ?_|refine zG ?_|refine zA ?_|refine zg ?_|refine zAd ?_|refine zo ?_|refine zx ?_)|((with_reducible refine zL ?_ ?_);(· exact rfl))))
  exact zHP (by exact rTm rfl) (true,M) ⟨fun _=>⟨hf,hA⟩,fun h=>by cases h⟩ rfl hg (by (repeat constructor)) (by (repeat constructor))
end Go.Proofs.YtcpdjamlhhfbhaaDoor
namespace Go.Proofs.YtcpdjamlhhfbhaaDoor
variable {ro : Option Nat}
open Go.RowKit
section
variable {P : Program} {w0:World} {n:Nat} {d:List Deferred} {R:List (Nat × Value)} {H H':List Ent} {Q:Exit→Act→World→Prop} {ops:Array Oper} {rest:List Oper} {o:Oper} {t:Tmp} {x y:Operand}
theorem x_buildA {T1:TypeId} {ps:Array (Nat × Operand)} {s:Nat} {z:List Value} {qs:List (Nat × Value)} (hop:o.op = .build T1 ps) [i1:TyBA P T1 s z] (hrd:rdy R ops n o=some t) (hp:evp R ps.toList=some qs)
  (h:∃ cs,fillL (fun i=>some (i * s,s)) z qs=some cs∧U w0 n d ((t,.agg cs.toArray)::R) H (wpL ro P ops Q rest)):U w0 n d R H (wpL ro P ops Q (o::rest)):=by
 obtain ⟨cs,hf,h⟩:=h
 exact zAX hrd (fun a w q=>by
  unfold execOp;rw [hop]
  have e1:(ps.map fun (i,x)=>(i,a.eval x)).toList=qs:=by rw [Array.toList_map];exact q.evp hp
  have e2:P.built T1 (ps.map fun (i,x)=>(i,a.eval x)).toList=some cs.toArray:=by
   rw [i1.bui,e1]
   exact fill_eq _ qs z cs hf
  simp only [Sem.run_bind,run_build w T1 _ _ e2,Result.andThen_ok,Sem.run_pure]) h
end
theorem zEB {P:Program} (w:World) {t e:TypeId} (a:Addr) (n c:Nat) (ht:P.underlying t=some (.slice e)):(binOp .eql t (.slice (some a) n c) (.slice none 0 0)).run P w = .ok (.bool false) w:=by
 have:=Lib.run_eql_slice_nil (P:=P) w t e (some a) n c 0 0 ht
 simpa using this
section
variable {P : Program} {w0:World} {n:Nat} {d:List Deferred} {R:List (Nat × Value)} {H H':List Ent} {Q:Exit→Act→World→Prop} {ops:Array Oper} {rest:List Oper} {o:Oper} {t:Tmp} {x y:Operand}
theorem u_eqlNil {T1 T2 e:TypeId} {s m c:Nat} {g:Bool} {A:Addr} (hop:o.op = .binOp .eql T1 x y T2) [i1:TyI P T1 (.slice e) s g] (hrd:rdy R ops n o=some t) (hx:evR R x=some (.slice (some A) m c)) (hy:evR R y=some (.slice none 0 0))
  (h:U w0 n d ((t,.bool false)::R) H (wpL ro P ops Q rest)):U w0 n d R H (wpL ro P ops Q (o::rest)) :=
 u_eql (b:=false) hop hrd hx hy (fun w=>by simp [eqGuard]) (fun w=>zEB w A m c i1.und) (fun h=>by cases h) (fun _=>h)
end
end Go.Proofs.YtcpdjamlhhfbhaaDoor
namespace Go.Proofs.YtcpdjamlhhfbhaaDoor
open Go.RowKit
set_option maxHeartbeats 4000000 in
theorem zEP (t : List St) (A : Option Addr) (cap : Nat) (w : World) (ht : zS zO 9 w A t) (hf : zCb t) (hl : t.length ≤ 1000000) :
    zw 19 #[vT A t.length cap] w (.int .i64 (if valid t then 0 else 10)):=by
  unfold zw vT
  have HT:=Lib.hid ht
  clear ht
  cases h1:inB 1 12 t.length
  · have H1:=Lib.hid h1
    clear h1
    go_enter Tryd.func19,Tryd.ntmps19
    go_wp2
    go_step3
    go_wp2_with fail
    refine (zFG 1 12 t.length _ _ _ _ (by simp)).mono ?_
    rintro e w1 ⟨rfl,hb1⟩
    rw [H1.out]
    go_wp2
    rw [Exit.noGoto_ret]
    go_ret
    refine ⟨zAo (by simp [valid,H1.out]),?_⟩
    exact (zl w _).trans (((zl _ _).trans (hb1.mono (by simp<;>omega))).mono (by simp))
  · have H1:=Lib.hid h1
    clear h1
    go_enter Tryd.func19,Tryd.ntmps19
    go_wp2
    go_step3
    go_wp2_with fail
    refine (zFG 1 12 t.length _ _ _ _ (by simp)).mono ?_
    rintro e w1 ⟨rfl,hb1⟩
    rw [H1.out]
    have hB1:Below w.heap.size w w1:=(zl w _).trans (((zl _ _).trans (hb1.mono (by simp<;>omega))).mono (by simp))
    have hcell:w1.cell? ⟨w.heap.size,0,none⟩=some (.slice A t.length cap):=by rw [hb1.cell (by simp<;>omega)];simp
    clear hb1
    go_wp2
    go_step3
    go_wp2
    go_loopw [3,4,18] (fun v3 v4 v18 wr=>∃ (i:Nat) (last:Int),i≤t.length∧-1≤last∧last≤9999∧v18 = .int .i64 i∧v3 = .int .i64 last∧v4 = .int .i64 0∧Below w.heap.size w wr∧Hid (okFrom (-1) t=okFrom last (t.drop i))) (fun _ _ v _=>t.length - (intOf v).toNat)
    case atStart=>exact ⟨0,-1,Nat.zero_le _,by omega,by omega,rfl,rfl,rfl,hB1,by unfold Hid;simp⟩
    case round =>
      obtain ⟨i,last,hi,hl0,hl1,rfl,rfl,rfl,hB,hF⟩:=hrel
      clear hcell hB1
      by_cases hlt:i<t.length
      · obtain ⟨b,o,rfl,hblt,hc⟩:=(HT.out.below hB).at_ hlt
        have hF':okFrom (-1) t=(stOk last t[i] && okFrom t[i].id (t.drop (i+1))):=by
          rw [hF.out,List.drop_eq_getElem_cons hlt];rfl
        have HF:=Lib.hid hF'
        clear hF' hF
        obtain ⟨hs0,hs1⟩:=hf t[i] (List.getElem_mem hlt)
        generalize t[i]=s at hc HF hs0 hs1
        obtain ⟨id,⟨la,lb⟩,⟨fa,fb⟩,⟨ra,rb⟩,sd,wl⟩:=s
        simp only at hs0 hs1
        have c0:=hc 0 _ rfl
        have c1:=hc 1 _ rfl
        have c2:=hc 2 _ rfl
        have c3:=hc 3 _ rfl
        have c4:=hc 4 _ rfl
        have c5:=hc 5 _ rfl
        have c6:=hc 6 _ rfl
        have c7:=hc 7 _ rfl
        have c8:=hc 8 _ rfl
        simp only [Nat.add_zero] at c0
        clear hc
        have hi0:(0:Int)≤i:=by omega
        have hi1:(i:Int)<t.length:=by omega
        go_wp2_with (first
          | (go_at_call 27;refine (zFG _ _ _ _ _ _ _ (by simp)).mono ?_;rintro e wn ⟨rfl,hbn⟩;(first|(replace hB:=zu (zd hB _) hbn;replace kb:=(kb.alloc _).past hbn)|(replace hB:=zu (zd (zd hB _) _) hbn;have kb:=((Blk.new _ _ _).alloc _).past hbn));obtain ⟨kc,kf,kl⟩:=kb.facts;clear hbn)
          | (go_at_call 40;refine (zEK ⟨_,_⟩ _ _ _).mono ?_;rintro e wn ⟨rfl,hbn⟩;replace hB:=zu hB hbn;replace kb:=kb.past hbn;obtain ⟨kc,kf,kl⟩:=kb.facts;clear hbn))
        all_goals first
          | (rw [Exit.noGoto_ret]
             go_ret
             refine ⟨zAo ?_,hB⟩
             go_light
             try simp only [Bool.not_eq_true',Bool.not_eq_false'] at *
             have e:okFrom (-1) t=false:=by rw [HF.out];simp [stOk, *]
             simp [valid,e])
          | (go_light
             try simp only [Bool.not_eq_true',Bool.not_eq_false'] at *
             have h:=‹inB (last+1) 9999 id=true›
             rw [zAS] at h
             refine ⟨⟨i+1,id,by omega,by omega,by omega,by go_num,by first|rfl|trivial,by first|rfl|trivial,hB,?_⟩,by simp [intOf];omega⟩
             unfold Hid
             rw [HF.out]
             simp [stOk, *])
      · go_wp2
        rw [Exit.noGoto_ret]
        go_ret
        refine ⟨zAo ?_,hB⟩
        simp [valid,H1.out,hF.out,List.drop_eq_nil_of_le (Nat.le_of_not_lt hlt),okFrom]
end Go.Proofs.YtcpdjamlhhfbhaaDoor
namespace Go.Proofs.YtcpdjamlhhfbhaaDoor
open Go.RowKit
set_option maxRecDepth 20000
theorem load_v {w:World} {g:Nat} {x:Value} (hk:Blk w g #[x]):(loadVar 65 ⟨g,0,none⟩).run Tryd.prog w = .ok (.agg #[x]) w:=by
 have h0:=hk.cell 0
 simp at h0
 simp [go_sem,h0]
theorem zG9 {fn:Func} {t s:Tmp} {tmps:Array Value} {w:World} {g:Nat} {x:Value} (hr:fn.results=#[.cell t 65,.tmp s]) (hp:tmps.getD t undef = .pointer (some ⟨g,0,none⟩)) (hk:Blk w g #[x]) :
  (results fn tmps).run Tryd.prog w = .ok (.tuple #[.agg #[x],tmps.getD s undef]) w:=by
 simp [results,hr,-Array.getD_eq_getD_getElem?,hp,asAddr,load_v hk]
def zBY (t:List St):Int:=if valid t then 0 else 10
set_option maxHeartbeats 2000000 in
theorem zE6 (t:List St) (A:Option Addr) (cap:Nat) (w:World) (ht:zS zO 9 w A t) (hf:zCb t) (hl:t.length≤1000000) :
  zw 26 #[vT A t.length cap] w (.tuple #[vT A t.length cap,.int .i64 (zBY t)]):=by
 unfold zw vT
 have HT:=Lib.hid ht
 clear ht
 go_enter Tryd.func26,Tryd.ntmps26
 go_wp2
 have hc:∀ W:World,Below w.heap.size w W→zw 19 #[.agg #[.slice A t.length cap]] W (.int .i64 (zBY t)):=by
  intro W hW
  exact zEP t A cap W (HT.out.below hW) hf hl
 have HC:=Lib.hid hc
 clear hc
 generalize hW0:(w.alloc (.cells #[.slice A t.length cap] 37)).alloc (.cells #[.slice none 0 0] 65)=W0
 have b1:Blk W0 w.heap.size #[.slice A t.length cap]:=by rw [← hW0];(refine zAK ?_;repeat (first|(with_reducible refine zB.zAJ (by first|(simp;done)|(simp;omega)|omega) ?_;(first|rfl|(simp;done)))|(with_reducible refine zB.alloc ?_ _)|(with_reducible refine zB.far ?_ _ (by first|(simp;done)|(simp;omega)|omega))|(with_reducible refine zB.zy ?_ (by first|(simp;done)|(simp;omega)|omega))|(with_reducible refine zB.drew ?_)|(with_reducible refine zB.drewN ?_ _)|(refine zB.leaf (by assumption) ?_;(first|rfl|(simp;done)))))
 have b2:Blk W0 (w.heap.size+1) #[.slice none 0 0]:=by rw [← hW0];(refine zAK ?_;repeat (first|(with_reducible refine zB.zAJ (by first|(simp;done)|(simp;omega)|omega) ?_;(first|rfl|(simp;done)))|(with_reducible refine zB.alloc ?_ _)|(with_reducible refine zB.far ?_ _ (by first|(simp;done)|(simp;omega)|omega))|(with_reducible refine zB.zy ?_ (by first|(simp;done)|(simp;omega)|omega))|(with_reducible refine zB.drew ?_)|(with_reducible refine zB.drewN ?_ _)|(refine zB.leaf (by assumption) ?_;(first|rfl|(simp;done)))))
 have hB:Below w.heap.size w W0:=by rw [← hW0];(repeat (first|(with_reducible refine zd ?_ _)|(with_reducible refine za ?_ (by first|(simp;done)|(simp;omega)|omega))|(with_reducible refine zn ?_)|(with_reducible refine below_drewN ?_ _)|(with_reducible assumption)|(with_reducible exact Below.refl _ _)))
 have hs:W0.heap.size=w.heap.size+2:=by rw [← hW0];simp
 clear hW0
 obtain ⟨c1,f1,l1⟩:=b1.facts
 refine zDR (fun b=>b=w.heap.size+1) (fun r=>[oA (w.heap.size+1) #[.slice none 0 0],vA 4 (.agg #[.slice A t.length cap]),vA 5 (.agg #[.slice A t.length cap]),vA 6 (.agg #[.slice A t.length cap]),vA 7 (.int .i64 (zBY t)),oA (w.heap.size+1) #[.slice A t.length cap],vA 3 (.int .i64 (zBY t))].getD r nA) [(4,[0])] 1 (fun _=>[w.heap.size+1]) 7 (by rfl) (by kernel_rfl) (by kernel_rfl) ?_ ?_ ?_ ?_ ?_ ?_
 ·intro r hr
  obtain rfl:r=0:=by omega
  exact zFg rfl b2
 ·intro r hr b hb
  simp at hb
  subst hb
  exact ⟨by omega,rfl⟩
 ·intros;omega
 ·(repeat (first|exact zAz.nil|(refine zAz.cons (zHg (by rintro _ ⟨⟩<;>exact ⟨by decide,by kernel_rfl⟩)) ?_)))
 ·(refine (zAF.cons ?_ (zAF.cons ?_ (zAF.cons ?_ (zAF.cons ?_ (zAF.cons ?_ (zAF.cons ?_ zAF.nil)))))))
  all_goals (refine OpOk.of (fun a v S hs hC hr hav K hK=>?_);have cC:=hC.cells.1;have fC:=hC.cells.2;have HS:=Lib.hid hs;have HK:=Lib.hid hC)
  ·(have q1:=(hr 1 (by kernel_rfl));clear hr hav hs hC;simp [Array.getD_eq_getD_getElem?,vSp] at q1;go_simp);(refine hK _ _ (zAP (zBQ (zr (by rw [HS.out];exact Nat.lt_of_sub_ne_zero (by simp))))))
  ·(have u1:=(hav 1 (by kernel_rfl));(try dsimp only at u1);replace u1:=zt u1;clear hr hav hs hC;simp [Array.getD_eq_getD_getElem?,vSp] at u1;go_simp);(refine hK _ _ (zAP (zBQ (zr (by rw [HS.out];exact Nat.lt_of_sub_ne_zero (by simp))))))
  ·(have q1:=(hr 1 (by kernel_rfl));clear hr hav hs hC;simp [Array.getD_eq_getD_getElem?,vSp] at q1;go_simp);(refine hK _ _ (zAP (zBQ (zr (by rw [HS.out];exact Nat.lt_of_sub_ne_zero (by simp))))))
  ·have hb:=hB.trans (HK.out.below (n:=w.heap.size) (by intros;omega) (by omega))
   (have u3:=(hav 3 (by kernel_rfl));(try dsimp only at u3);replace u3:=zt u3;clear hr hav hs hC;simp [Array.getD_eq_getD_getElem?,vSp] at u3;go_simp)
   go_at_call 19
   refine (HC.out _ hb).mono ?_
   rintro e w1 ⟨rfl,hb1⟩
   (refine hK _ _ (zHt (by assumption) (zBQ (zr (by rw [HS.out];exact Nat.lt_of_sub_ne_zero (by simp))))))
  ·(have h0:=hav 0 (by kernel_rfl);(try dsimp only at h0))
   obtain ⟨hS,hbl⟩:=zEH h0
   obtain ⟨k1,k2,k3⟩:=hbl.facts
   (have q2:=(hr 2 (by kernel_rfl));have u2:=(hav 2 (by kernel_rfl));(try dsimp only at u2);replace u2:=zt u2;clear hr hav hs hC;simp [Array.getD_eq_getD_getElem?,vSp] at q2;simp [Array.getD_eq_getD_getElem?,vSp] at u2;go_simp)
   refine hK undef _ (zE1 0 (by kernel_rfl) rfl rfl rfl (by simp) ?_ (zFg hS ?_))
   ·intro b hb;rw [hS] at hb;exact Below.heap_setCell _ _ _ _ (by simpa using hb)
   ·(refine zAK ?_;repeat (first|(with_reducible refine zB.zAJ (by first|(simp;done)|(simp;omega)|omega) ?_;(first|rfl|(simp;done)))|(with_reducible refine zB.alloc ?_ _)|(with_reducible refine zB.far ?_ _ (by first|(simp;done)|(simp;omega)|omega))|(with_reducible refine zB.zy ?_ (by first|(simp;done)|(simp;omega)|omega))|(with_reducible refine zB.drew ?_)|(with_reducible refine zB.drewN ?_ _)|(refine zB.leaf (by assumption) ?_;(first|rfl|(simp;done)))))
  ·(have u4:=(hav 4 (by kernel_rfl));(try dsimp only at u4);replace u4:=zt u4;clear hr hav hs hC;simp [Array.getD_eq_getD_getElem?,vSp] at u4;go_simp);(refine hK _ _ (zAP (zBQ (zr (by rw [HS.out];exact Nat.lt_of_sub_ne_zero (by simp))))))
 ·intro a v S hs hd hrest hC hav
  (have h5:=hav 5 (by kernel_rfl);(try dsimp only at h5))
  have hbl:=(zEH h5).2
  have hb:=hB.trans (hC.below (n:=w.heap.size) (by intros;omega) (by omega))
  (have u6:=hav 6 (by kernel_rfl);(try dsimp only at u6);replace u6:=zt u6;have u4:=hav 4 (by kernel_rfl);(try dsimp only at u4);replace u4:=zt u4;have u3:=hav 3 (by kernel_rfl);(try dsimp only at u3);replace u3:=zt u3;have u2:=hav 2 (by kernel_rfl);(try dsimp only at u2);replace u2:=zt u2;have u1:=hav 1 (by kernel_rfl);(try dsimp only at u1);replace u1:=zt u1;have hfr:=zHh hs hd hrest _ (by kernel_rfl) (by simp) (z9 u1 (z9 u2 (z9 u3 (z9 u4 (z9 u6 wr_nil)))));simp only [List.foldl_cons,List.foldl_nil] at hfr;subst hfr)
  go_wp2
  refine bodyPost_ret (zG9 (x:=.slice A t.length cap) rfl rfl ?_) rfl ⟨rfl,hb⟩
  exact hbl
end Go.Proofs.YtcpdjamlhhfbhaaDoor
namespace Go.Proofs.YtcpdjamlhhfbhaaDoor
variable {ro : Option Nat}
open Go.RowKit
set_option maxRecDepth 20000
theorem elem_st : Elem Tryd.prog 35 62 9 72 (.agg #[.int .i64 0,.int .i64 0,.int .i64 0,.int .i64 0,.int .i64 0,.int .i64 0,.int .i64 0,.int .u8 0,.int .i64 0]) :=
 ⟨by simp [go_sem],info_parts (by kernel_rfl),by rfl,by decide⟩
instance : ElI Tryd.prog 35 62 9 72:=⟨⟨_,elem_st⟩⟩
theorem zDy (t:List St) (A:Option Addr) (cap:Nat) (w:World) (ht:zS zO 9 w A t) (hf:zCb t) (hl:t.length≤1000000):Gv Tryd.prog 19 [.agg #[.slice A t.length cap]] w (.int .i64 (zBY t)):=(zEP t A cap w ht hf hl).gv
theorem zE5 (t:List St) (A:Option Addr) (cap:Nat) (w:World) (ht:zS zO 9 w A t) (hf:zCb t) (hl:t.length≤1000000):Gv Tryd.prog 26 [.agg #[.slice A t.length cap]] w (.tuple #[.agg #[.slice A t.length cap],.int .i64 (zBY t)]):=(zE6 t A cap w ht hf hl).gv
end Go.Proofs.YtcpdjamlhhfbhaaDoor
namespace Go.Proofs.YtcpdjamlhhfbhaaDoor
variable {ro : Option Nat}
open Go.RowKit
set_option maxRecDepth 20000
theorem zBG {t:List St} (h:valid t=true):zBY t=0:=by simp [zBY,h]
theorem zBz {t:List St} (h:valid t=false):zBY t=10:=by simp [zBY,h]
theorem zBK {α:Type} {enc:α→List Value} {k:Nat} {base:Nat} {w:World} {H:List Ent} (_:Own base w H):Own base w [.sl enc k none ([]:List α)]:=by
 refine ⟨fun e he=>?_,fun e he b hb=>?_,by simp⟩
 ·simp only [List.mem_singleton] at he
  subst he
  exact zS.nil
 ·simp only [List.mem_singleton] at he
  subst he
  obtain ⟨o,ho⟩:=hb
  cases ho
end Go.Proofs.YtcpdjamlhhfbhaaDoor
namespace Go.Proofs.YtcpdjamlhhfbhaaDoor
variable {ro : Option Nat}
open Go.RowKit
set_option maxRecDepth 20000
instance : TyI Tryd.prog 100 ((Tryd.prog.underlying 100).getD (.slice 0)) 1 true:=⟨by rw [Tryd.underlying100];rfl,Tryd.sizeOf100,Tryd.isAgg100⟩
instance : TyZ Tryd.prog 100 [.nilFunc]:=⟨fun w=>⟨_,Tryd.zeroValue100 w,rfl⟩⟩
instance : TyB Tryd.prog 100 [(0,1)] [.nilFunc]:=zA1 (zv:=.agg #[.nilFunc]) (by kernel_rfl) rfl Tryd.underlying100 (by kernel_rfl)
instance : FoI Tryd.prog 100 0 0:=foI (T:=100) (m:=0) ⟨Tryd.underlying100,Tryd.sizeOf100,Tryd.isAgg100⟩ rfl (inferInstance:TyI Tryd.prog 98 _ _ _) rfl rfl
theorem zH1 (w:World):Gv Tryd.prog 52 [] w (.agg #[.nilFunc,.func (.func 62) #[] #[],.func (.func 63) #[] #[]]):=by
 unfold Gv
 (refine zH (n:=4) Tryd.func52 rfl rfl rfl ?_)
 (repeat' (first|((with_reducible refine zI ?_);first|(refine x_buildA rfl rfl rfl ?_;refine ⟨_,rfl,?_⟩)|(refine zQ rfl rfl rfl rfl rfl ?_;refine ⟨rfl,by first|decide|exact Nat.le_of_ble_eq_true rfl|(simp;omega),_,rfl,?_⟩)|(refine zV rfl rfl (fun b=>?_))|(refine zAH rfl rfl rfl ?_;refine ⟨_,rfl,?_⟩))|(with_reducible first|refine zJ ?_|refine zC ?_|refine zG ?_|refine zA ?_|refine zg ?_)))
 exact zP (by (exact zY.cons (by exact res1c rfl (by exact rfl)) zY.nil)) () trivial rfl (fun _ h=>h.sub (by (repeat constructor)))
theorem zFm (b o:Nat) (w:World):Gv Tryd.prog 62 [.pointer (some ⟨b,o,none⟩)] w (.pointer (some ⟨b,o+1,none⟩)):=by
 unfold Gv
 (refine zH (n:=6) Tryd.func62 rfl rfl rfl ?_)
 (repeat' (first|((with_reducible refine zI ?_);first|refine zF rfl rfl rfl ?_|refine zD rfl rfl rfl ?_|refine zAQ rfl rfl rfl ?_|refine zDY rfl rfl rfl ?_)|(with_reducible first|refine zJ ?_|refine zC ?_|refine zG ?_|refine zA ?_|refine zg ?_)))
 exact zP (by exact rTm rfl) () trivial rfl (fun _ h=>h.sub (by (repeat constructor)))
theorem zFl (b o:Nat) (w:World):Gv Tryd.prog 63 [.pointer (some ⟨b,o,none⟩)] w (.pointer (some ⟨b,o+3,none⟩)):=by
 unfold Gv
 (refine zH (n:=6) Tryd.func63 rfl rfl rfl ?_)
 (repeat' (first|((with_reducible refine zI ?_);first|refine zF rfl rfl rfl ?_|refine zD rfl rfl rfl ?_|refine zAQ rfl rfl rfl ?_|refine zDY rfl rfl rfl ?_)|(with_reducible first|refine zJ ?_|refine zC ?_|refine zG ?_|refine zA ?_|refine zg ?_)))
 exact zP (by exact rTm rfl) () trivial rfl (fun _ h=>h.sub (by (repeat constructor)))
theorem zIB (t:List St) (A:Option Addr) (c:Nat) (w:World) (ht:zS zO 9 w A t) (h0:0<t.length) (hl:t.length≤1000) :
  Ret Tryd.prog 51 [.slice A t.length c] w (fun p:Option Addr × Nat=>.slice p.1 t.length p.2) (fun p=>[.row zO 9 62 (.slice p.1 t.length p.2) t]) (fun _=>True):=by
 obtain ⟨bb,o,rfl,_⟩:=ht.at_ h0
 (refine zH (n:=8) Tryd.func51 rfl rfl rfl ?_)
 (repeat' (first|((with_reducible refine zI ?_);first|refine zF rfl rfl rfl ?_|refine zD rfl rfl rfl ?_|refine u_eqlNil rfl rfl rfl rfl ?_|(refine zGz zO rfl rfl (fun b=>?_))|(refine zBk (enc:=zO) t rfl rfl rfl (by (repeat constructor)) rfl rfl (zG2 ht) (by refine ⟨?_,by decide⟩;(try simp only [List.length_append,List.length_cons,List.length_nil]);omega) (fun A' c'=>?_)))|(with_reducible first|refine zJ ?_|refine zC ?_|refine zG ?_|refine zA ?_|refine zg ?_|refine ze ?_)|((with_reducible refine zL ?_ ?_);(· exact rfl))))
 exact zP (by exact rTm rfl) (A',c') trivial rfl (fun _ h=>h.sub (by (repeat constructor)))
end Go.Proofs.YtcpdjamlhhfbhaaDoor
namespace Go.Proofs.YtcpdjamlhhfbhaaDoor
variable {ro : Option Nat}
open Go.RowKit
open Go.ChangeMaps (setBlock)
structure KB where
 K:Nat→Nat
 B:Nat→Nat
 c:Nat
def KB.id (n:Nat):KB:=⟨fun i=>i,fun i=>i,n⟩
structure KB.ok (kb:KB) (n:Nat):Prop where
 lt:∀ i,i<n→kb.B i<kb.c
 inj:∀ i j,i<n→j<n→kb.B i=kb.B j→i=j
theorem KB.id_ok (n:Nat):(KB.id n).ok n:=⟨fun _ h=>h,fun _ _ _ _ h=>h⟩
def zBp (kb:KB) (i:Nat) (m:Me):MapEntry:=⟨.int .i64 (kb.K i:Int),vMe m,kb.B i⟩
def zDx (kb:KB) (ms:List Me):List MapEntry:=ms.mapIdx (zBp kb)
def zh (kb:KB) (ms:List Me):Array MapEntry:=(zDx kb ms).toArray
theorem zB8 {kb:KB} {ms:List Me} {x:MapEntry}:x∈(zh kb ms).toList↔∃ i m,ms[i]?=some m∧x=zBp kb i m:=by
 simp only [zh,zDx,List.mem_mapIdx]
 constructor
 ·rintro ⟨i,h,rfl⟩;exact ⟨i,ms[i],by simp,rfl⟩
 ·rintro ⟨i,m,h,rfl⟩
  obtain ⟨h1,h2⟩:=List.getElem?_eq_some_iff.1 h
  exact ⟨i,h1,by rw [h2]⟩
theorem zHI {kb:KB} {ms:List Me} (hk:kb.ok ms.length):((zh kb ms).toList.map (·.born)).Nodup:=by
 simp only [zh,zDx]
 unfold List.Nodup
 rw [List.pairwise_iff_getElem]
 intro i j hi hj hij e
 simp only [List.length_map,List.length_mapIdx] at hi hj
 simp only [List.getElem_map,List.getElem_mapIdx] at e
 exact absurd (hk.inj i j hi hj e) (by omega)
theorem zCw {kb:KB} {ms:List Me} (hk:kb.ok ms.length) {seen:List Nat} {i:Nat} (hs:∀ x∈seen,x<ms.length) (hi:i<ms.length):kb.B i∈seen.map kb.B↔i∈seen:=by
 rw [List.mem_map]
 constructor
 ·rintro ⟨x,hx,e⟩
  have:=hk.inj x i (hs x hx) hi e
  subst this;exact hx
 ·exact fun h=>⟨i,h,rfl⟩
def Ent.it (r m:Nat) (kb:KB) (seen:List Nat):Ent:=⟨(· = r),fun w=>w.heap[r]?=some (.mapIter (some m) kb.c (seen.map kb.B).toArray kb.c),fun _ _ _ h hp=>(h r rfl).trans hp⟩
section
variable {P : Program} {w0:World} {n:Nat} {d:List Deferred} {R:List (Nat × Value)} {H H':List Ent} {Q:Exit→Act→World→Prop} {ops:Array Oper} {rest:List Oper} {o:Oper} {t:Tmp} {x y:Operand}
theorem own_it (w:World) (m:Nat) (kb:KB):Own w.heap.size (w.alloc (.mapIter (some m) kb.c #[] kb.c)) [.it w.heap.size m kb []] :=
 ⟨fun e he=>by simp only [List.mem_singleton] at he;subst he;exact heap_alloc_new w _,fun e he b hb=>by simp only [List.mem_singleton] at he;subst he;cases hb;simp,by simp⟩
theorem zGG {T1 k e:TypeId} {s m:Nat} {g:Bool} {kb:KB} {ms:List Me} (hop:o.op = .range T1 x) [i1:TyI P T1 (.map k e) s g] (hrd:rdy R ops n o=some t) (hx:evR R x=some (.map (some m)))
  (hm:∀ w,Below w0.heap.size w0 w→w.heap[m]?=some (.map (zh kb ms) kb.c)) (h:∀ r,U w0 n d ((t,.pointer (some ⟨r,0,none⟩))::R) (.it r m kb []::H) (wpL ro P ops Q rest)):U w0 n d R H (wpL ro P ops Q (o::rest)) :=
 zDQ (rW hrd) fun a w q K hK=>by
  have e1:=run_underlying i1.und w
  have e2:=hm w q.below
  unfold Oper.wp execOp;rw [hop]
  have hrun:(Instr.range T1 (.map (some m))).run P w = .ok (.pointer (some ⟨w.heap.size,0,none⟩)) (w.alloc (.mapIter (some m) kb.c #[] kb.c)):=by
   simp [Instr.range,e1,getObj,Sem.run_bind,Sem.run,e2]
  simp only [Sem.run_bind,q.ev hx,hrun,Result.andThen_ok,Sem.run_pure,Oper.upon_value,(rD hrd)]
  exact hK _ _ (h w.heap.size _ _ ((q.call (zl w _) (own_it w m kb)).put (rT hrd)))
theorem zFP {w w1:World} {r:Nat} {ob:Obj} {B:Nat} (h1:w1=w∨w1=w.drew) (hr:B≤r):Below B w (setBlock w1 r ob):=by
 rcases h1 with rfl|rfl<;>exact ⟨rfl,rfl,rfl,by simp [setBlock],fun b hb=>by
  simp only [setBlock]
  rw [Array.getElem?_setIfInBounds_ne (by omega)]
  try rfl⟩
theorem u_next {m r:Nat} {seen:List Nat} {kb:KB} {ms:List Me} (hop:o.op = .next x false) (hrd:rdy R ops n o=some t) (hx:evR R x=some (.pointer (some ⟨r,0,none⟩))) (htk:Take H (.it r m kb seen) H')
  (hm:∀ w,Below w0.heap.size w0 w→w.heap[m]?=some (.map (zh kb ms) kb.c)) (hk:kb.ok ms.length) (hsn:∀ x∈seen,x<ms.length) (h1:(∀ i,i<ms.length→i∈seen)→U w0 n d ((t,.tuple #[.bool false])::R) H (wpL ro P ops Q rest))
  (h2:∀ i me,ms[i]?=some me→i ∉ seen→U w0 n d ((t,.tuple #[.bool true,.int .i64 (kb.K i:Int),vMe me])::R) (.it r m kb (seen++[i])::H') (wpL ro P ops Q rest)):U w0 n d R H (wpL ro P ops Q (o::rest)) :=
 zDQ (rW hrd) fun a w q K hK=>by
  have e2:=hm w q.below
  have ho:=q.own.take htk
  have hr:w.heap[r]?=some (.mapIter (some m) kb.c (seen.map kb.B).toArray kb.c):=ho.here (.it r m kb seen) (by simp)
  have hfoot:=ho.foot (.it r m kb seen) (by simp) r rfl
  have hold:∀ x∈(zh kb ms).toList,x.born<kb.c:=fun x hx=>by
   obtain ⟨i,me,hi,rfl⟩:=zB8.1 hx
   exact hk.lt i (List.getElem?_eq_some_iff.1 hi).1
  unfold Oper.wp execOp;rw [hop]
  rcases run_next_at (P:=P) w o.type r m kb.c kb.c (seen.map kb.B).toArray (zh kb ms) kb.c hr e2 hold (Nat.le_refl _) with ⟨h0,hrun⟩ | ⟨e,he,w1,hw1,hrun⟩
  ·simp only [Sem.run_bind,q.ev hx,hrun,Result.andThen_ok,Sem.run_pure,Oper.upon_value,(rD hrd)]
   refine hK _ _ (h1 (fun i hi=>?_) _ _ (q.put (rT hrd)))
   have hmem:zBp kb i ms[i]∈(zh kb ms).toList:=zB8.2 ⟨i,ms[i],by simp [hi],rfl⟩
   have h9:leftOf (zh kb ms) (seen.map kb.B).toArray=#[]:=Array.eq_empty_of_size_eq_zero h0
   unfold leftOf at h9
   rw [Array.filter_eq_empty_iff] at h9
   have:=h9 (zBp kb i ms[i]) (by simpa using hmem)
   rw [← zCw hk hsn hi]
   simpa [zBp] using this
  ·have he':e∈(zh kb ms).toList∧e.born ∉ seen.map kb.B:=by
    unfold leftOf at he
    simpa using he
   obtain ⟨i,me,hi,rfl⟩:=zB8.1 he'.1
   have hni:i ∉ seen:=fun h=>he'.2 ((zCw hk hsn (List.getElem?_eq_some_iff.1 hi).1).2 h)
   simp only [Sem.run_bind,q.ev hx,hrun,Result.andThen_ok,Sem.run_pure,Oper.upon_value,(rD hrd)]
   refine hK _ _ (h2 i me hi hni _ _ ((q.heap (q.below.trans (zFP hw1 hfoot.1)) (ho.turn ?_ ?_ q.base ?_ ?_)).put (rT hrd)))
   ·rcases hw1 with rfl|rfl<;>simp [setBlock]
   ·intro b hb hn
    have hne:r≠b:=fun e=>hn e.symm
    rcases hw1 with rfl|rfl<;>(simp only [setBlock];rw [Array.getElem?_setIfInBounds_ne hne];try rfl)
   ·rcases hw1 with rfl|rfl<;>simp [Ent.it,setBlock,zBp,hfoot.2]
   ·intro b hb
    cases hb
    refine ⟨.inl rfl,?_⟩
    rcases hw1 with rfl|rfl<;>simp [setBlock,hfoot.2]
theorem zHO {m r i:Nat} {seen:List Nat} {kb:KB} {ms:List Me} {me:Me} (hop:o.op = .entry x) (hrd:rdy R ops n o=some t) (hx:evR R x=some (.pointer (some ⟨r,0,none⟩))) (htk:Take H (.it r m kb (seen++[i])) H')
  (hm:∀ w,Below w0.heap.size w0 w→w.heap[m]?=some (.map (zh kb ms) kb.c)) (hk:kb.ok ms.length) (hi:ms[i]?=some me) (h:U w0 n d ((t,.tuple #[.int .i64 (kb.K i:Int),vMe me])::R) H (wpL ro P ops Q rest)):U w0 n d R H (wpL ro P ops Q (o::rest)) :=
 zAX hrd (fun a w q=>by
  have e2:=hm w q.below
  have hr:w.heap[r]?=some (.mapIter (some m) kb.c ((seen++[i]).map kb.B).toArray kb.c):=(q.own.take htk).here (.it r m kb (seen++[i])) (by simp)
  have e3:((seen++[i]).map kb.B).toArray=(seen.map kb.B).toArray.push (zBp kb i me).born:=by simp [zBp]
  rw [e3] at hr
  have:=run_entry_at (P:=P) w r m kb.c (seen.map kb.B).toArray (zh kb ms) kb.c (zBp kb i me) hr e2 (zB8.2 ⟨i,me,hi,rfl⟩) (zHI hk)
  unfold execOp;rw [hop]
  simp only [Sem.run_bind,q.ev hx,this,Result.andThen_ok,Sem.run_pure]
  rfl) h
end
end Go.Proofs.YtcpdjamlhhfbhaaDoor
namespace Go.Proofs.YtcpdjamlhhfbhaaDoor
variable {ro : Option Nat}
open Go.RowKit
set_option maxRecDepth 20000
set_option maxHeartbeats 2000000 in
theorem pickMe (l:List Me) (A:Option Addr) (cap:Nat) (kf:FuncId) [zR Tryd.prog kf] (cs:Array Value) (p:Nat→Me→Bool) (w:World) (hk:zS zAt 5 w A l) (hl:l.length≤100000)
  (hp:∀ (i:Nat) x W,l[i]?=some x→Below w.heap.size w W→Gv Tryd.prog kf ([.int .i64 (i:Int),vMe x]++cs.toList) W (.bool (p i x))) :
  zAh encI 1 (picks p l) (fun v=>v) Tryd.prog 31 [.slice A l.length cap,.func (.func kf) #[] cs] w:=by
 unfold zAh
 (refine zH (n:=25) Tryd.func31 rfl rfl rfl ?_)
 (repeat' (first|((with_reducible refine zI ?_);first|refine zF rfl rfl rfl ?_|refine zD rfl rfl rfl ?_|refine zAx rfl rfl rfl ?_)|(with_reducible first|refine zJ ?_|refine zC ?_|refine zG ?_|refine zA ?_|refine zb ?_)))
 refine zCQ encI 1 3 ?_
 refine zAc (ι:=Nat × Value) (fun i=>i.1≤l.length) (fun i=>[(1,.func (.func kf) #[] cs),(5,i.2),(8,.slice A l.length cap),(9,.int .i64 (l.length:Int)),(10,.int .i64 (i.1:Int))]) (fun i=>[.row encI 1 3 i.2 (z0 p l i.1)]) (fun i=>l.length - i.1) (0,.slice none 0 0) (Nat.zero_le _) (by (repeat first|exact lK1|refine zW rfl ?_)) (by (repeat constructor)) ?_
 rintro ⟨i,v⟩ hi
 simp only at hi ⊢
 have hpl:=zBN p l i
 by_cases hlt:i<l.length
 ·have hx:l[i]?=some l[i]:=by simp [hlt]
  obtain ⟨b,o,rfl,hblt,hc⟩:=hk.at_ hlt
  have:InS w b o zAt 5 l:=⟨hk⟩
  have:zCG l i l[i]:=⟨hx⟩
  have hso:zCe p l i=p i l[i]:=by simp [zCe,hlt]
  (repeat' (first|((with_reducible refine zI ?_);first|refine zF rfl rfl rfl ?_|refine zD rfl rfl rfl ?_|(refine zf rfl rfl rfl ?_;refine ⟨_,rfl,?_⟩)|(refine zT rfl rfl rfl rfl rfl (fun h=>?_) (fun h=>?_)<;>(dsimp only [cmpP] at h;(try (exfalso;omega))))|(refine zBj rfl rfl rfl rfl (fun _ _ q=>hp i _ _ hx q.below) (fun h=>?_) (fun h=>?_)<;>(try (exfalso;omega)))|(refine zBk (enc:=encI) [_] rfl rfl rfl (by (repeat constructor)) rfl rfl (zAu (by exact rfl)) (by refine ⟨?_,by decide⟩;(try simp only [List.length_append,List.length_cons,List.length_nil]);omega) (fun A' c'=>?_))|refine zAY rfl rfl rfl rfl (by omega) ?_|refine zBv rfl rfl rfl rfl rfl (by omega) ?_|(refine zQ rfl rfl rfl rfl rfl ?_;refine ⟨rfl,by first|decide|exact Nat.le_of_ble_eq_true rfl|(simp;omega),_,rfl,?_⟩)|(refine zV rfl rfl (fun b=>?_))|(refine zi rfl rfl rfl ?_;refine ⟨rfl,_,rfl,fun b=>?_⟩))|(with_reducible first|refine zJ ?_|refine zC ?_|refine zG ?_|refine zA ?_|refine ze ?_|refine zb ?_|refine zAL ?_)|((with_reducible refine zM ?_ ?_);(· exact rfl))|((with_reducible refine zL ?_ ?_);(· exact rfl))))
  ·refine zm (i+1,.slice A' (z0 p l i++[(i:Int)]).length c') (by simp only;omega) (by simp only;omega) (by (repeat first|exact lK1|refine zW rfl ?_)) ?_
   rw [zAq (hso.trans h)]
   (repeat constructor)
  ·refine zm (i+1,v) (by simp only;omega) (by simp only;omega) (by (repeat first|exact lK1|refine zW rfl ?_)) ?_
   rw [zA2 (hso.trans h)]
   (repeat constructor)
 ·obtain rfl:i=l.length:=by omega
  (repeat' (first|((with_reducible refine zI ?_);first|refine zF rfl rfl rfl ?_|refine zD rfl rfl rfl ?_|(refine zT rfl rfl rfl rfl rfl (fun h=>?_) (fun h=>?_)<;>(dsimp only [cmpP] at h;(try (exfalso;omega)))))|(with_reducible first|refine zJ ?_|refine zC ?_|refine zG ?_|refine zA ?_|refine zg ?_|refine zAd ?_|refine zo ?_|refine zx ?_)|((with_reducible refine zL ?_ ?_);(· exact rfl))))
  refine zBa (enc:=encI) (by (repeat constructor)) ?_
  rintro A' c' rfl
  exact zP (by exact rTm rfl) (A',c') trivial rfl (fun _ h=>(h.zEF (by (repeat constructor))).sub (by (repeat constructor)))
def zDb (n:Nat) (m:Me):Bool:=decide (1≤m.kind∧m.kind≤2∧0≤m.frm∧m.frm≤n∧0≤m.to∧m.to≤n∧m.frm<m.to∧0≤m.value.lo∧m.value.lo≤m.value.hi∧m.value.hi≤360000)
def zB4 (n:Nat) (l:List Me):Bool:=decide (l.length≤12) && l.all (zDb n)
theorem zB1 {n:Nat} {m:Me} (h:zDb n m=true):zCh (n+1) m:=by
 have:=of_decide_eq_true h
 unfold zCh;omega
def zGy (l:List Me):Prop:=∀ m∈l,0≤m.kind∧m.kind≤255
set_option maxHeartbeats 1000000 in
theorem zDX (t:List St) (A:Option Addr) (cap k:Nat) (m:Me) (b:Nat) (w:World) (hl:t.length≤1000000) (hk:0≤m.kind∧m.kind≤255) (h1:InC w b 0 [.slice A t.length cap]) :
  Gv Tryd.prog 48 [.int .i64 (k:Int),vMe m,.pointer (some ⟨b,0,none⟩)] w (.bool (!zDb t.length m)):=by
 unfold Gv vMe
 (refine zH (n:=37) Tryd.func48 rfl rfl rfl ?_)
 (repeat' (first|((with_reducible refine zI ?_);first|refine zF rfl rfl rfl ?_|refine zD rfl rfl rfl ?_|(refine zf rfl rfl rfl ?_;refine ⟨_,rfl,?_⟩)|refine zAQ rfl rfl rfl ?_|refine zBS rfl rfl rfl rfl ?_|refine zBu rfl rfl rfl ?_|(refine zT rfl rfl rfl rfl rfl (fun h=>?_) (fun h=>?_)<;>(dsimp only [cmpP] at h;(try (exfalso;omega))))|(refine zBj rfl rfl rfl rfl (fun _ _ q=>in1 _ _ _ _ _ _ (zAu (enc:=encI) (by exact rfl) _ q.below q.own)) (fun h=>?_) (fun h=>?_)<;>(simp only [zAS,zCl] at h;(try (exfalso;omega))))|(refine zBj rfl rfl rfl rfl (fun _ _ q=>in2 _ _ _ _ _ _ _ (zAn (enc:=encI) [_,_] (by exact rfl) _ q.below q.own)) (fun h=>?_) (fun h=>?_)<;>((try simp only [Bool.and_eq_true,Bool.and_eq_false_iff,zAS,zCl] at h);(try (exfalso;omega))))|(refine zBj rfl rfl rfl rfl (fun _ _ _=>(zEK m.value 0 360000 _).gv) (fun h=>?_) (fun h=>?_)<;>((try simp only [zAS,zCl,zA4,zCU] at h);(try (exfalso;omega))))|refine zCR rfl rfl rfl ?_|refine zAx rfl rfl rfl ?_|(refine zAD rfl rfl rfl rfl (fun b=>?_))|(refine zi rfl rfl rfl ?_;refine ⟨rfl,_,rfl,fun b=>?_⟩)|refine zD8 rfl rfl rfl (IntWalk.i64_in _ (by omega)) ?_)|(with_reducible first|refine zJ ?_|refine zC ?_|refine zG ?_|refine zA ?_|refine zg ?_)))
 all_goals exact zP (by exact rTm rfl) () trivial (by first|exact congrArg Value.bool (by rw [zDb,decide_eq_true (by omega)];try rfl)|exact congrArg Value.bool (by rw [zDb,decide_eq_false (by omega)];try rfl)) (fun _ h=>h.sub (by (repeat constructor)))
end Go.Proofs.YtcpdjamlhhfbhaaDoor
namespace Go.Proofs.YtcpdjamlhhfbhaaDoor
open Go.RowKit
theorem zFY : Tryd.zeroCells105.toList=zk (fun _ _=>0):=by kernel_rfl
end Go.Proofs.YtcpdjamlhhfbhaaDoor
