/- S2 -/
import Derived.Test.YtcpdjamlhhfbhaaGreatS1
import Derived.RangeFuncCalls
import Derived.RangeFuncLeaves
import Derived.Shelf.Abstract
import Derived.OwnWalkIn
import Derived.TacticsInMore
import Derived.LoopNIn
import Derived.LoopIn
import Derived.Maps.OwnIn
set_option linter.unusedSimpArgs false
set_option linter.unusedVariables false
namespace Go.Proofs.YtcpdjamlhhfbhaaGreat
open Go.RowKit
abbrev zDV := Act→List Nat→World→Prop
def zCo (ops:Array Oper) (o:Oper):List Tmp :=
 (o.op.operands.toList.filterMap fun | .tmp t=>some t | _=>none) ++
 (match o.guard with|some (j,_)=>((ops[j]?).bind (·.dst)).toList|none=>[])
def dirB (ops:Array Oper) (i k:Nat):Bool:=match ops[i]? with|some o=>o.after.any (fun e=>Region.binds .any e && e.on == k)|none=>false
def zDz (ops:Array Oper) (i:Nat):List Tmp:=match ops[i]? with|some o=>(match o.dst with|some d=>[d]|none=>zCo ops o)|none=>[]
def zBZ (con:List (Nat × List Nat)) (i:Nat):List Nat:=(con.filter (·.1 == i)).flatMap (·.2)
def exOf (con:List (Nat × List Nat)) (r:Nat):Bool:=con.any fun c=>c.2.contains r
def zB4 (ops:Array Oper) (con:List (Nat × List Nat)) (m i:Nat):List Nat :=
 (((List.range ops.size).filter fun k=>dirB ops i k && !exOf con (m+k)).map (m + ·))++zBZ con i
def lawB (ops:Array Oper) (con:List (Nat × List Nat)) (m:Nat):Bool :=
 ((List.range ops.size).all fun k=>match (ops[k]?).bind (·.dst) with
  | none=>true
  | some t =>
   (List.range ops.size).all fun i=>i == k ||
    ((match ops[i]? with|some o=>!(zCo ops o).contains t || (if k<i then dirB ops i k else dirB ops k i)|none=>true) && (!(zDz ops i).contains t || dirB ops i k))) &&
 (con.all fun c=>c.1<ops.size && c.2.all fun r=>r<m+ops.size && (r<m || dirB ops c.1 (r - m))) &&
 (con.all fun c=>con.all fun d=>c.1 == d.1 || c.2.all fun r=>!d.2.contains r) &&
 ((List.range ops.size).all fun i=>match ops[i]? with|some o=>o.after.all (fun e=>!Region.binds .any e || e.on<i)|none=>true)
section
variable (P : Program) (ops:Array Oper) (X:Nat→Prop) (a₀:Act) (w₀:World) (As:Nat→zDV) (con:List (Nat × List Nat)) (m:Nat)
structure Cls (w:World):Prop where
 os:w.os=w₀.os
 tape:w.tape=w₀.tape
 output:w.output=w₀.output
 size:w₀.heap.size≤w.heap.size
 block:∀ b,b<w₀.heap.size→¬ X b→w.heap[b]?=w₀.heap[b]?
structure Agr (S:List Nat) (w w':World):Prop where
 size:w.heap.size≤w'.heap.size
 old:∀ b,b<w₀.heap.size→¬ X b→w'.heap[b]?=w.heap[b]?
 own:∀ b∈S,w'.heap[b]?=w.heap[b]?
def zBr (i:Nat) (o:Oper) (a:Act) (w:World) (S:Nat→List Nat) (a':Act) (w':World):Prop :=
 ∃ v S',a'=a.put o.dst v∧w'.os=w.os∧w'.tape=w.tape∧w'.output=w.output∧w.heap.size≤w'.heap.size ∧
  (∀ b,b<w.heap.size→(∀ r∈zBZ con i,b ∉ S r)→w'.heap[b]?=w.heap[b]?) ∧
  (∀ b∈S',(w.heap.size≤b∧b<w'.heap.size)∨(∃ r∈zBZ con i,b∈S r)∨(exOf con (m+i)=false∧∃ r∈zB4 ops con m i,exOf con r=false∧b∈S r)) ∧
  As (m+i) a' S' w'
def OpOk (i:Nat) (o:Oper):Prop :=
 ∀ (a:Act) (w:World) (S:Nat→List Nat),a.tmps.size=a₀.tmps.size→a.defers=a₀.defers→Cls X w₀ w →
  (∀ t∈zCo ops o,(∀ k o',k<i→ops[k]?=some o'→o'.dst≠some t)→a.tmps.getD t undef=a₀.tmps.getD t undef) →
  (∀ r∈zB4 ops con m i,As r a (S r) w) →
  if Region.wanted o (yielded ops a.tmps) then o.wp P a w (zBr ops As con m i o a w S) (fun _ _ _=>False) else zBr ops As con m i o a w S (a.put o.dst undef) w
def zEh (listed:Array Bool) (r:Nat):Prop:=(m≤r→listed.getD (r - m) true=true)∧r<m+ops.size∧∀ k,k<ops.size→listed.getD k true=true→r ∉ zBZ con k
structure zEi (listed:Array Bool) (a:Act) (w:World) (S:Nat→List Nat):Prop where
 lsize:listed.size=ops.size
 tsize:a.tmps.size=a₀.tmps.size
 defers:a.defers=a₀.defers
 closed:∀ k j,listed.getD k true=true→dirB ops k j=true→listed.getD j true=true
 rest:∀ t,(∀ (k:Nat) (o:Oper),ops[k]?=some o→listed.getD k true=true→o.dst≠some t)→a.tmps.getD t undef=a₀.tmps.getD t undef
 cls:Cls X w₀ w
 holds:∀ r,zEh ops con m listed r→As r a (S r) w
 inW:∀ r,zEh ops con m listed r→∀ b∈S r,b<w.heap.size∧(b<w₀.heap.size→X b)
 apart:∀ r r',zEh ops con m listed r→zEh ops con m listed r'→r≠r'→exOf con r=true→∀ b∈S r,b ∉ S r'
end
theorem zDv {P:Program} {o:Oper} {a:Act} {w:World} {K K':Act→World→Prop} {Q:Exit→Act→World→Prop} (h:o.wp P a w K (fun _ _ _=>False)) (hk:∀ a w,K a w→K' a w):o.wp P a w K' Q:=by
 unfold Oper.wp at *
 generalize (execOp a.eval o).run P w=r at *
 cases r with
 | ok n w' =>
  cases n<;>simp only [Oper.upon] at *<;>first|exact hk _ _ h|exact h.mono (fun e w'' he=>by cases e<;>first|exact hk _ _ he|exact he.elim|exact (by obtain ⟨_,_,hf⟩:=he;exact hf.elim))|exact h.mono (fun v w'' he=>hk _ _ he)|exact h.elim
 | halt x w'=>cases x<;>simp only [Oper.upon] at *<;>exact h.elim
theorem zAp {a:Act} {d:Option Tmp} {v:Value} {t:Tmp} (h:d≠some t):(a.put d v).tmps.getD t undef=a.tmps.getD t undef:=by
 cases d with
 | none=>rfl
 | some d =>
  have hne:d≠t:=fun e=>h (by rw [e])
  simp [Act.put,Array.getElem?_setIfInBounds_ne hne]
theorem size_put {a:Act} {d:Option Tmp} {v:Value}:(a.put d v).tmps.size=a.tmps.size:=by cases d<;>simp [Act.put]
theorem zCW {a:Act} {d:Option Tmp} {v:Value}:(a.put d v).defers=a.defers:=by cases d<;>simp [Act.put]
section
variable {P : Program} {ops:Array Oper} {X:Nat→Prop} {a₀:Act} {w₀:World} {As:Nat→zDV} {con:List (Nat × List Nat)} {m:Nat} {Q:Exit→Act→World→Prop}
theorem zCq {i r:Nat}:r∈zBZ con i↔∃ c∈con,c.1=i∧r∈c.2:=by
 simp [zBZ,List.mem_flatMap,List.mem_filter,and_assoc]
theorem zFz {i r:Nat}:r∈zB4 ops con m i↔(∃ k,k<ops.size∧dirB ops i k=true∧exOf con (m+k)=false∧m+k=r)∨r∈zBZ con i:=by
 simp [zB4,List.mem_append,List.mem_filter,and_assoc]
theorem zCG {i r:Nat} (h:r∈zBZ con i):exOf con r=true:=by
 obtain ⟨c,hc,_,hr⟩:=zCq.1 h
 simp only [exOf,List.any_eq_true]
 exact ⟨c,hc,by simpa using hr⟩
theorem zFV {i k:Nat} (h:dirB ops i k=true):i<ops.size:=by
 unfold dirB at h
 split at h
 ·rename_i o ho;exact (Array.getElem?_eq_some_iff.1 ho).1
 ·cases h
structure zDU (ops:Array Oper) (con:List (Nat × List Nat)) (m:Nat):Prop where
 reads:∀ (k i:Nat) (ok oi:Oper) (t:Tmp),ops[k]?=some ok→ok.dst=some t→ops[i]?=some oi→i≠k→t∈zCo ops oi→if k<i then dirB ops i k=true else dirB ops k i=true
 deps:∀ (k i:Nat) (ok:Oper) (t:Tmp),ops[k]?=some ok→ok.dst=some t→i<ops.size→i≠k→t∈zDz ops i→dirB ops i k=true
 con1:∀ i r,r∈zBZ con i→i<ops.size∧r<m+ops.size∧(m≤r→dirB ops i (r - m)=true)
 con2:∀ i j r,r∈zBZ con i→r∈zBZ con j→i=j
 lt:∀ i k,dirB ops i k=true→k<i
theorem lawFacts (hB:lawB ops con m=true):zDU ops con m:=by
 simp only [lawB,Bool.and_eq_true] at hB
 obtain ⟨⟨⟨hB1,hB2⟩,hB3⟩,hB4⟩:=hB
 refine ⟨?_,?_,?_,?_,?_⟩
 ·intro k i ok oi t hk ht hi hik htr
  have hks:k<ops.size:=(Array.getElem?_eq_some_iff.1 hk).1
  have his:i<ops.size:=(Array.getElem?_eq_some_iff.1 hi).1
  have h:=List.all_eq_true.1 hB1 k (List.mem_range.2 hks)
  simp only [hk,Option.bind_some,ht,List.all_eq_true,List.mem_range,Bool.or_eq_true,beq_iff_eq,Bool.and_eq_true] at h
  have h1:=((h i his).resolve_left hik).1
  simp only [hi,Bool.or_eq_true,Bool.not_eq_true',List.contains_eq_mem,htr,decide_true,Bool.true_eq_false,false_or] at h1
  split<;>rename_i hkj<;>simpa [hkj] using h1
 ·intro k i ok t hk ht his hik htr
  have hks:k<ops.size:=(Array.getElem?_eq_some_iff.1 hk).1
  have h:=List.all_eq_true.1 hB1 k (List.mem_range.2 hks)
  simp only [hk,Option.bind_some,ht,List.all_eq_true,List.mem_range,Bool.or_eq_true,beq_iff_eq,Bool.and_eq_true] at h
  have h1:=((h i his).resolve_left hik).2
  simpa [htr] using h1
 ·intro i r hr
  obtain ⟨c,hc,rfl,hrc⟩:=zCq.1 hr
  have h:=List.all_eq_true.1 hB2 c hc
  simp only [Bool.and_eq_true,decide_eq_true_eq,List.all_eq_true,Bool.or_eq_true] at h
  obtain ⟨h1,h2⟩:=h
  obtain ⟨h3,h4⟩:=h2 r hrc
  exact ⟨h1,h3,fun hm=>h4.resolve_left (by omega)⟩
 ·intro i j r hi hj
  obtain ⟨c,hc,rfl,hrc⟩:=zCq.1 hi
  obtain ⟨d,hd,rfl,hrd⟩:=zCq.1 hj
  have h:=List.all_eq_true.1 (List.all_eq_true.1 hB3 c hc) d hd
  simp only [Bool.or_eq_true,beq_iff_eq,List.all_eq_true,Bool.not_eq_true'] at h
  rcases h with h|h
  ·exact h
  ·have:=h r hrc
   simp [hrd] at this
 ·intro i k h
  have his:=zFV h
  have h4:=List.all_eq_true.1 hB4 i (List.mem_range.2 his)
  unfold dirB at h
  obtain ⟨o,ho⟩:∃ o,ops[i]?=some o:=⟨_,Array.getElem?_eq_getElem his⟩
  simp only [ho] at h h4
  rw [Array.any_eq_true'] at h
  obtain ⟨e,he,hb⟩:=h
  rw [Array.all_eq_true_iff_forall_mem] at h4
  have:=h4 e he
  simp only [Bool.and_eq_true,beq_iff_eq,Bool.or_eq_true,Bool.not_eq_true',decide_eq_true_eq] at hb this
  rcases this with h5|h5
  ·rw [hb.1] at h5;cases h5
  ·rw [← hb.2];exact h5
theorem law_step (hF:zDU ops con m)
  (hloc:∀ r,r<m+ops.size→∀ (a a':Act) (S:List Nat) (w w':World),(m≤r→∀ t∈zDz ops (r - m),a'.tmps.getD t undef=a.tmps.getD t undef)→Agr X w₀ S w w'→As r a S w→As r a' S w')
  {i:Nat} {o:Oper} (ho:ops[i]?=some o) (hop:OpOk P ops X a₀ w₀ As con m i o)
  {listed:Array Bool} {a:Act} {w:World} {S:Nat→List Nat} (hI:zEi ops X a₀ w₀ As con m listed a w S) (hr:i∈Region.ready .any ops listed) :
  wpOp P ops Q i (fun a' w'=>∃ S',zEi ops X a₀ w₀ As con m (listed.setIfInBounds i true) a' w' S') a w:=by
 have hi:i<ops.size:=(Array.getElem?_eq_some_iff.1 ho).1
 obtain ⟨hnl,o',ho',hpre⟩:=mem_ready.1 hr
 rw [ho] at ho';cases ho'
 have hil:i<listed.size:=by rw [hI.lsize];exact hi
 have hT:∀ k,listed.getD k false=true→listed.getD k true=true:=by
  intro k hk
  by_cases h:k<listed.size
  ·simpa [Array.getElem?_eq_getElem h] using hk
  ·simp [Array.getElem?_eq_none (Nat.le_of_not_lt h)]
 have hdir:∀ k,dirB ops i k=true→listed.getD k true=true:=by
  intro k hk
  simp only [dirB,ho,Array.any_eq_true',Bool.and_eq_true,beq_iff_eq] at hk
  obtain ⟨e,he,hb,rfl⟩:=hk
  exact hT _ (hpre e he hb)
 have hno:∀ k,listed.getD k true=true→dirB ops k i=true→False:=fun k hk hd=>by
  rw [hI.closed k i hk hd] at hnl;cases hnl
 have hconlive:∀ r∈zBZ con i,zEh ops con m listed r:=by
  intro r hr'
  obtain ⟨_,h3,h4⟩:=hF.con1 i r hr'
  refine ⟨fun hm=>hdir _ (h4 hm),h3,fun k hk hlk hrk=>?_⟩
  rw [← hF.con2 i k r hr' hrk,hnl] at hlk
  cases hlk
 have havlive:∀ r∈zB4 ops con m i,zEh ops con m listed r:=by
  intro r hr'
  rcases zFz.1 hr' with ⟨k,hk,hd,hex,rfl⟩|hc
  ·refine ⟨fun _=>by rw [Nat.add_sub_cancel_left];exact hdir k hd,by omega,fun j _ _ hrj=>?_⟩
   rw [zCG hrj] at hex;cases hex
  ·exact hconlive r hc
 have key:∀ a' w',zBr ops As con m i o a w S a' w'→∃ S',zEi ops X a₀ w₀ As con m (listed.setIfInBounds i true) a' w' S':=by
  rintro a' w' ⟨v,S',rfl,h1,h2,h3,h4,h5,h6,h7⟩
  have hset:∀ k,k≠i→(listed.setIfInBounds i true).getD k true=listed.getD k true:=by
   intro k hk
   simp [Array.getElem?_setIfInBounds_ne (Ne.symm hk)]
  have hsi:(listed.setIfInBounds i true).getD i true=true:=by simp [hil]
  have hmono:∀ k,listed.getD k true=true→(listed.setIfInBounds i true).getD k true=true:=by
   intro k hk
   by_cases hki:k=i
   ·rw [hki];exact hsi
   ·rw [hset k hki];exact hk
  have hlive:∀ r,zEh ops con m (listed.setIfInBounds i true) r→r≠m+i→zEh ops con m listed r∧r ∉ zBZ con i:=by
   rintro r ⟨hl1,hl2,hl3⟩ hri
   refine ⟨⟨fun h=>by rw [← hset (r - m) (by omega)];exact hl1 h,hl2,fun k hk hlk=>hl3 k hk (hmono k hlk)⟩,hl3 i hi hsi⟩
  have hkeep:∀ r,zEh ops con m listed r→r ∉ zBZ con i→∀ b∈S r,w'.heap[b]?=w.heap[b]?:=by
   intro r hl hrc b hb
   refine h5 b (hI.inW r hl b hb).1 (fun r' hr' hb'=>?_)
   exact hI.apart r' r (hconlive r' hr') hl (by rintro rfl;exact hrc hr') (zCG hr') b hb' hb
  have hold:∀ b,b<w₀.heap.size→¬ X b→w'.heap[b]?=w.heap[b]?:=by
   intro b hb hx
   refine h5 b (Nat.lt_of_lt_of_le hb hI.cls.size) (fun r' hr' hb'=>hx ((hI.inW r' (hconlive r' hr') b hb').2 hb))
  have hdst:∀ r,zEh ops con m listed r→r≠m+i→m≤r→∀ t∈zDz ops (r - m),(a.put o.dst v).tmps.getD t undef=a.tmps.getD t undef:=by
   intro r hl hri hm t ht
   refine zAp (fun hd=>?_)
   exact hno (r - m) (hl.1 hm) (hF.deps i (r - m) o t ho hd (by have:=hl.2.1;omega) (by omega) ht)
  refine ⟨fun r=>if r=m+i then S' else S r,?_⟩
  refine ⟨by simpa using hI.lsize,size_put.trans hI.tsize,zCW.trans hI.defers,?_,?_,?_,?_,?_,?_⟩
  ·intro k j hk hd
   by_cases hki:k=i
   ·subst hki;exact hmono j (hdir j hd)
   ·exact hmono j (hI.closed k j (by rw [← hset k hki];exact hk) hd)
  ·intro t ht
   rw [zAp (ht i o ho hsi)]
   exact hI.rest t (fun k ok hk hlk=>ht k ok hk (hmono k hlk))
  ·exact ⟨h1.trans hI.cls.os,h2.trans hI.cls.tape,h3.trans hI.cls.output,Nat.le_trans hI.cls.size h4,fun b hb hx=>(hold b hb hx).trans (hI.cls.block b hb hx)⟩
  ·intro r hl
   by_cases hri:r=m+i
   ·subst hri;simpa using h7
   ·obtain ⟨hl',hrc⟩:=hlive r hl hri
    simp only [if_neg hri]
    exact hloc r hl.2.1 a _ (S r) w w' (fun hm=>hdst r hl' hri hm) ⟨h4,hold,hkeep r hl' hrc⟩ (hI.holds r hl')
  ·intro r hl b hb
   by_cases hri:r=m+i
   ·simp only [if_pos hri] at hb
    rcases h6 b hb with h | ⟨r',hr',hb'⟩ | ⟨_,r',hr',_,hb'⟩
    ·exact ⟨h.2,fun hlt=>by have:=hI.cls.size;omega⟩
    ·have:=hI.inW r' (hconlive r' hr') b hb';exact ⟨by omega,this.2⟩
    ·have:=hI.inW r' (havlive r' hr') b hb';exact ⟨by omega,this.2⟩
   ·obtain ⟨hl',_⟩:=hlive r hl hri
    simp only [if_neg hri] at hb
    have:=hI.inW r hl' b hb
    exact ⟨by omega,this.2⟩
  ·intro r r' hl hl' hne hex b hb
   by_cases hri:r=m+i
   ·have hri':r'≠m+i:=by omega
    obtain ⟨hl2,hrc⟩:=hlive r' hl' hri'
    simp only [if_pos hri] at hb
    simp only [if_neg hri']
    intro hb2
    rcases h6 b hb with h | ⟨q,hq,hbq⟩ | ⟨hx,_⟩
    ·have:=(hI.inW r' hl2 b hb2).1;omega
    ·exact hI.apart q r' (hconlive q hq) hl2 (by rintro rfl;exact hrc hq) (zCG hq) b hbq hb2
    ·rw [hri,hx] at hex;cases hex
   ·obtain ⟨hl2,hrc⟩:=hlive r hl hri
    simp only [if_neg hri] at hb
    by_cases hri':r'=m+i
    ·simp only [if_pos hri']
     intro hb2
     rcases h6 b hb2 with h | ⟨q,hq,hbq⟩ | ⟨_,q,hq,hxq,hbq⟩
     ·have:=(hI.inW r hl2 b hb).1;omega
     ·exact hI.apart q r (hconlive q hq) hl2 (by rintro rfl;exact hrc hq) (zCG hq) b hbq hb
     ·exact hI.apart r q hl2 (havlive q hq) (by rintro rfl;rw [hex] at hxq;cases hxq) hex b hb hbq
    ·simp only [if_neg hri']
     exact hI.apart r r' hl2 (hlive r' hl' hri').1 hne hex b hb
 unfold wpOp
 simp only [ho]
 have hw:=hop a w S hI.tsize hI.defers hI.cls ?_ (fun r hr'=>hI.holds r (havlive r hr'))
 ·split
  ·rename_i hwt;rw [if_pos hwt] at hw;exact .inl (zDv hw key)
  ·rename_i hwt;rw [if_neg hwt] at hw;exact key _ _ hw
 ·intro t ht hnone
  refine hI.rest t (fun k ok hk hlk hdst=>?_)
  by_cases hki:k<i
  ·exact hnone k ok hki hk hdst
  ·by_cases hkk:k=i
   ·subst hkk;rw [hnl] at hlk;cases hlk
   ·have h1:=hF.reads k i ok o t hk hdst ho (Ne.symm hkk) ht
    rw [if_neg hki] at h1
    exact hno k hlk h1
theorem zEe (hF:zDU ops con m) {listed:Array Bool} (hs:listed.size=ops.size) (hr:Region.ready .any ops listed=[]):∀ k,listed.getD k true=true:=by
 intro k
 induction k using Nat.strongRecOn with
 | _ k ih =>
  by_cases hk:k<ops.size
  ·cases hl:listed.getD k true with
   | true=>rfl
   | false =>
    exfalso
    have:k∈Region.ready .any ops listed:=by
     refine mem_ready.2 ⟨hl,ops[k],Array.getElem?_eq_getElem hk,fun e he hb=>?_⟩
     have hd:dirB ops k e.on=true:=by
      unfold dirB
      rw [Array.getElem?_eq_getElem hk]
      simp only [Array.any_eq_true']
      exact ⟨e,he,by simp [hb]⟩
     have hlt:=hF.lt k e.on hd
     have h:=ih e.on hlt
     have:e.on<listed.size:=by omega
     simpa [Array.getElem?_eq_getElem this] using h
    rw [hr] at this;cases this
  ·simp [Array.getElem?_eq_none (show listed.size≤k by omega)]
theorem count_set {listed:Array Bool} {i:Nat} (hi:i<listed.size) (h:listed.getD i true=false):(listed.setIfInBounds i true).toList.count false+1=listed.toList.count false:=by
 have hv:listed[i]=false:=by simpa [Array.getElem?_eq_getElem hi] using h
 have hl:i<listed.toList.length:=by simpa using hi
 have hv':listed.toList[i]=false:=by simpa using hv
 have hpos:0<listed.toList.count false:=by
  rw [List.count_pos_iff,← hv'];exact List.getElem_mem _
 have h2:=List.count_set (a:=true) (b:=false) hl
 rw [Array.toList_setIfInBounds,h2,hv']
 simp only [beq_self_eq_true,if_true]
 have:((true == false)=true)=False:=by simp
 simp only [this,if_false]
 omega
theorem law_any (hF:zDU ops con m)
  (hloc:∀ r,r<m+ops.size→∀ (a a':Act) (S:List Nat) (w w':World),(m≤r→∀ t∈zDz ops (r - m),a'.tmps.getD t undef=a.tmps.getD t undef)→Agr X w₀ S w w'→As r a S w→As r a' S w')
  (hop:∀ i o,ops[i]?=some o→OpOk P ops X a₀ w₀ As con m i o)
  (hfin:∀ listed a w S,(∀ k,listed.getD k true=true)→zEi ops X a₀ w₀ As con m listed a w S→Q .normal a w) :
  ∀ (fuel:Nat) (listed:Array Bool) (a:Act) (w:World),listed.toList.count false≤fuel→(∃ S,zEi ops X a₀ w₀ As con m listed a w S)→wpAny P .any ops Q fuel listed a w:=by
 intro fuel
 induction fuel with
 | zero =>
  rintro listed a w hc ⟨S,hI⟩
  have hr:Region.ready .any ops listed=[]:=by
   apply List.eq_nil_iff_forall_not_mem.2
   intro i hi
   obtain ⟨hnl,_⟩:=mem_ready.1 hi
   have hlt:i<listed.size:=by
    rcases Nat.lt_or_ge i listed.size with h|h
    ·exact h
    ·simp [Array.getElem?_eq_none h] at hnl
   have:=count_set hlt hnl
   omega
  exact ⟨hr,hfin listed a w S (zEe hF hI.lsize hr) hI⟩
 | succ fuel ih =>
  rintro listed a w hc ⟨S,hI⟩
  refine ⟨fun hr=>hfin listed a w S (zEe hF hI.lsize hr) hI,fun i hi=>?_⟩
  obtain ⟨hnl,o,ho,_⟩:=mem_ready.1 hi
  have hlt:i<listed.size:=by
   rcases Nat.lt_or_ge i listed.size with h|h
   ·exact h
   ·simp [Array.getElem?_eq_none h] at hnl
  have hcs:=count_set hlt hnl
  have hs:=law_step (Q:=Q) hF hloc ho (hop i o ho) hI hi
  unfold wpOp at hs ⊢
  simp only [ho] at hs ⊢
  split
  ·rename_i hwt
   rw [if_pos hwt] at hs
   rcases hs with hs|hs
   ·exact .inl (Oper.wp_mono (fun a' w' h'=>ih _ a' w' (by omega) h') hs)
   ·exact .inr hs
  ·rename_i hwt
   rw [if_neg hwt] at hs
   exact ih _ _ _ (by omega) hs
end
end Go.Proofs.YtcpdjamlhhfbhaaGreat
namespace Go.Proofs.YtcpdjamlhhfbhaaGreat
open Go.RowKit
section
variable {P : Program} {ops:Array Oper} {X:Nat→Prop} {a₀:Act} {w₀:World} {As:Nat→zDV} {con:List (Nat × List Nat)} {m:Nat}
def restB (ops:Array Oper) (i:Nat) (t:Tmp):Bool :=
 (match ops[i]? with|some o=>(zCo ops o).contains t|none=>false) && (List.range i).all fun k=>match ops[k]? with|some o=>!(o.dst == some t)|none=>true
theorem rest_of {a:Act} {i:Nat} {o:Oper} (ho:ops[i]?=some o) (h:∀ t∈zCo ops o,(∀ k o',k<i→ops[k]?=some o'→o'.dst≠some t)→a.tmps.getD t undef=a₀.tmps.getD t undef) {t:Tmp} (hb:restB ops i t=true):a.tmps.getD t undef=a₀.tmps.getD t undef:=by
 simp only [restB,ho,Bool.and_eq_true,List.all_eq_true,List.mem_range,List.contains_iff_mem] at hb
 refine h t hb.1 (fun k o' hk hko hd=>?_)
 have:=hb.2 k hk
 simp [hko,hd] at this
theorem av_of {i r:Nat} (h:(zB4 ops con m i).contains r=true):r∈zB4 ops con m i:=List.contains_iff_mem.1 h
theorem zAK {i:Nat} {o:Oper} {a:Act} {w:World} {S:Nat→List Nat} {v:Value} (h:As (m+i) (a.put o.dst v) [] w):zBr ops As con m i o a w S (a.put o.dst v) w :=
 ⟨v,[],rfl,rfl,rfl,rfl,Nat.le_refl _,fun _ _ _=>rfl,(fun _ h=>by cases h),h⟩
theorem zHE {i:Nat} {o:Oper} {a:Act} {w w':World} {S:Nat→List Nat} {v:Value} (hb:Below w.heap.size w w') (h:As (m+i) (a.put o.dst v) [] w'):zBr ops As con m i o a w S (a.put o.dst v) w' :=
 ⟨v,[],rfl,hb.os,hb.tape,hb.output,hb.size,fun _ hb' _=>hb.block _ hb',(fun _ h=>by cases h),h⟩
theorem post_new {i:Nat} {o:Oper} {a:Act} {w w':World} {S:Nat→List Nat} {v:Value} (S':List Nat) (hb:Below w.heap.size w w') (hS:∀ b∈S',w.heap.size≤b∧b<w'.heap.size) (h:As (m+i) (a.put o.dst v) S' w'):zBr ops As con m i o a w S (a.put o.dst v) w' :=
 ⟨v,S',rfl,hb.os,hb.tape,hb.output,hb.size,fun _ hb' _=>hb.block _ hb',fun b hb'=>.inl (hS b hb'),h⟩
theorem zER {i:Nat} {o:Oper} {a:Act} {w:World} {S:Nat→List Nat} {v:Value} {ob:Obj} (h:As (m+i) (a.put o.dst v) [w.heap.size] (w.alloc ob)):zBr ops As con m i o a w S (a.put o.dst v) (w.alloc ob) :=
 post_new [w.heap.size] (zk w ob) (by simp) h
theorem zE0 {i:Nat} {o:Oper} {a:Act} {w:World} {S:Nat→List Nat} {v:Value} (r:Nat) (hr:(zBZ con i).contains r=true) (h:As (m+i) (a.put o.dst v) (S r) w):zBr ops As con m i o a w S (a.put o.dst v) w :=
 ⟨v,S r,rfl,rfl,rfl,rfl,Nat.le_refl _,fun _ _ _=>rfl,fun b hb=>.inr (.inl ⟨r,List.contains_iff_mem.1 hr,hb⟩),h⟩
theorem zC0 {i:Nat} {o:Oper} {a:Act} {w w':World} {S:Nat→List Nat} {v:Value} (r:Nat) (hr:(zBZ con i).contains r=true) (hb:Below w.heap.size w w') (h:As (m+i) (a.put o.dst v) (S r) w'):zBr ops As con m i o a w S (a.put o.dst v) w' :=
 ⟨v,S r,rfl,hb.os,hb.tape,hb.output,hb.size,fun _ hb' _=>hb.block _ hb',fun b hb=>.inr (.inl ⟨r,List.contains_iff_mem.1 hr,hb⟩),h⟩
theorem zEQ {i:Nat} {o:Oper} {a:Act} {w w':World} {S:Nat→List Nat} {v:Value} (r:Nat) (hr:(zBZ con i).contains r=true) (h1:w'.os=w.os) (h2:w'.tape=w.tape) (h3:w'.output=w.output) (h4:w.heap.size≤w'.heap.size) (h5:∀ b,b ∉ S r→w'.heap[b]?=w.heap[b]?) (h:As (m+i) (a.put o.dst v) (S r) w'):zBr ops As con m i o a w S (a.put o.dst v) w' :=
 ⟨v,S r,rfl,h1,h2,h3,h4,fun b _ hn=>h5 b (hn r (List.contains_iff_mem.1 hr)),fun b hb=>.inr (.inl ⟨r,List.contains_iff_mem.1 hr,hb⟩),h⟩
def asn (d:Option Tmp) (V:List Nat→Value) (pS:List Nat→Prop) (Bs:List Nat→List (Nat × Array Value)):zDV:=fun a S w =>
 pS S∧(∀ t,d=some t→a.tmps.getD t undef=V S)∧∀ p∈Bs S,p.1∈S∧Blk w p.1 p.2
theorem zGz {r:Nat} {d:Option Tmp} {V:List Nat→Value} {pS:List Nat→Prop} {Bs:List Nat→List (Nat × Array Value)} (hd:∀ t,d=some t→m≤r∧(zDz ops (r - m)).contains t=true)
  (a a':Act) (S:List Nat) (w w':World) (ht:m≤r→∀ t∈zDz ops (r - m),a'.tmps.getD t undef=a.tmps.getD t undef) (hA:Agr X w₀ S w w') (h:asn d V pS Bs a S w):asn d V pS Bs a' S w':=by
 obtain ⟨h1,h2,h3⟩:=h
 refine ⟨h1,fun t h=>?_,fun p hp=>⟨(h3 p hp).1,?_⟩⟩
 ·rw [ht (hd t h).1 t (List.contains_iff_mem.1 (hd t h).2)];exact h2 t h
 ·have:=(h3 p hp).2
  unfold Blk at this ⊢
  obtain ⟨ty,hb⟩:=this
  exact ⟨ty,(hA.own _ (h3 p hp).1).trans hb⟩
def vA (t:Tmp) (v:Value):zDV:=asn (some t) (fun _=>v) (fun _=>True) (fun _=>[])
def nA : zDV:=asn none (fun _=>undef) (fun _=>True) (fun _=>[])
def bA (t:Tmp) (f:Nat→Value) (cs:Array Value):zDV:=asn (some t) (fun S=>f (S.getD 0 0)) (fun S=>S.length=1) (fun S=>[(S.getD 0 0,cs)])
def slA (t:Tmp) (n:Nat) (cs:Array Value):zDV:=bA t (fun g=>.slice (some ⟨g,0,none⟩) n n) cs
def pA (t:Tmp) (cs:Array Value):zDV:=bA t (fun g=>.pointer (some ⟨g,0,none⟩)) cs
def oA (b:Nat) (cs:Array Value):zDV:=asn none (fun _=>undef) (fun S=>S=[b]) (fun _=>[(b,cs)])
def voA (t:Tmp) (v:Value) (b:Nat) (cs:Array Value):zDV:=asn (some t) (fun _=>v) (fun S=>S=[b]) (fun _=>[(b,cs)])
theorem zBL {t:Tmp} {v:Value} {a:Act} {w:World} {S:List Nat} (h:a.tmps.getD t undef=v):vA t v a S w:=⟨trivial,by rintro _ ⟨⟩;exact h,by simp⟩
theorem zAA {t:Tmp} {v:Value} {a:Act} {w:World} {S:List Nat} (h:vA t v a S w):a.tmps.getD t undef=v:=h.2.1 t rfl
theorem bA_in {t:Tmp} {f:Nat→Value} {cs:Array Value} {a:Act} {w:World} {b:Nat} (h:a.tmps.getD t undef=f b) (hb:Blk w b cs):bA t f cs a [b] w:=⟨rfl,by rintro _ ⟨⟩;exact h,by simpa using hb⟩
theorem bA_out {t:Tmp} {f:Nat→Value} {cs:Array Value} {a:Act} {w:World} {S:List Nat} (h:bA t f cs a S w):∃ b,S=[b]∧a.tmps.getD t undef=f b∧Blk w b cs:=by
 obtain ⟨h1,h2,h3⟩:=h
 match S,h1 with
 | [b],_=>exact ⟨b,rfl,by simpa using h2 t rfl,by simpa using h3⟩
theorem slA_in {t:Tmp} {n:Nat} {cs:Array Value} {a:Act} {w:World} {b:Nat} (h:a.tmps.getD t undef = .slice (some ⟨b,0,none⟩) n n) (hb:Blk w b cs):slA t n cs a [b] w:=bA_in (f:=fun g=>.slice (some ⟨g,0,none⟩) n n) h hb
theorem zD6 {t:Tmp} {n:Nat} {cs:Array Value} {a:Act} {w:World} {S:List Nat} (h:slA t n cs a S w):∃ b,S=[b]∧a.tmps.getD t undef = .slice (some ⟨b,0,none⟩) n n∧Blk w b cs:=bA_out (f:=fun g=>.slice (some ⟨g,0,none⟩) n n) h
theorem zE3 {b:Nat} {cs:Array Value} {a:Act} {w:World} {S:List Nat} (hS:S=[b]) (hb:Blk w b cs):oA b cs a S w:=⟨hS,by simp,by subst hS;simpa using hb⟩
theorem zDf {b:Nat} {cs:Array Value} {a:Act} {w:World} {S:List Nat} (h:oA b cs a S w):S=[b]∧Blk w b cs:=⟨h.1,by have:=h.2.2;simp at this;exact this.2⟩
theorem zFE {t:Tmp} {v:Value} {b:Nat} {cs:Array Value} {a:Act} {w:World} {S:List Nat} (h:a.tmps.getD t undef=v) (hS:S=[b]) (hb:Blk w b cs):voA t v b cs a S w:=⟨hS,by rintro _ ⟨⟩;exact h,by subst hS;simpa using hb⟩
theorem zD4 {t:Tmp} {v:Value} {b:Nat} {cs:Array Value} {a:Act} {w:World} {S:List Nat} (h:voA t v b cs a S w):a.tmps.getD t undef=v∧S=[b]∧Blk w b cs:=⟨h.2.1 t rfl,h.1,by have:=h.2.2;simp at this;exact this.2⟩
theorem z7 {a:Act} {t:Tmp} {v:Value} (h:t<a.tmps.size):(a.put (some t) v).tmps.getD t undef=v:=by simp [Act.put,h]
def OpD (P:Program) (ops:Array Oper) (X:Nat→Prop) (a₀:Act) (w₀:World) (As:Nat→zDV) (con:List (Nat × List Nat)) (m i:Nat) (o:Oper):Prop:=ops[i]?=some o→OpOk P ops X a₀ w₀ As con m i o
theorem OpOk.of {i:Nat} {o:Oper}
  (h:∀ (a:Act) (w:World) (S:Nat→List Nat),a.tmps.size=a₀.tmps.size→Cls X w₀ w→(∀ t,restB ops i t=true→a.tmps.getD t undef=a₀.tmps.getD t undef)→(∀ r,(zB4 ops con m i).contains r=true→As r a (S r) w) →
   ∀ K:Act→World→Prop,(∀ v w',zBr ops As con m i o a w S (a.put o.dst v) w'→K (a.put o.dst v) w')→if Region.wanted o (yielded ops a.tmps)=true then Oper.wp P o a w K (fun _ _ _=>False) else K (a.put o.dst undef) w) :
  OpD P ops X a₀ w₀ As con m i o :=
 fun ho a w S hs _ hC hr hav=>h a w S hs hC (fun _ hb=>rest_of ho hr hb) (fun r hb=>hav r (av_of hb)) _ (fun _ _ h=>h)
theorem Cls.cells {w:World} (h:Cls X w₀ w):(∀ b o,b<w₀.heap.size→¬ X b→w.cell? ⟨b,o,none⟩=w₀.cell? ⟨b,o,none⟩)∧(∀ b o,b<w₀.heap.size→¬ X b→w.frozen? ⟨b,o,none⟩=w₀.frozen? ⟨b,o,none⟩) :=
 ⟨fun b o hb hx=>by simp [World.cell?,h.block b hb hx],fun b o hb hx=>by simp [World.frozen?,h.block b hb hx]⟩
def zAx (p:Nat→Prop):Nat→Nat→Prop
 | _,0=>True
 | k,n+1=>p k∧zAx p (k+1) n
theorem zAx.get {p:Nat→Prop}:∀ {n k:Nat},zAx p k n→∀ r,k≤r→r<k+n→p r
 | 0,_,_,r,h1,h2=>by omega
 | n+1,k,⟨h,hr⟩,r,h1,h2=>by
  by_cases hk:r=k
  ·exact hk ▸ h
  ·exact zAx.get hr r (by omega) (by omega)
theorem zAx.nil {p:Nat→Prop} {k:Nat}:zAx p k 0:=trivial
theorem zAx.cons {p:Nat→Prop} {k n:Nat} (h:p k) (hr:zAx p (k+1) n):zAx p k (n+1):=⟨h,hr⟩
def zAH (P:Program) (ops:Array Oper) (X:Nat→Prop) (a₀:Act) (w₀:World) (As:Nat→zDV) (con:List (Nat × List Nat)) (m:Nat):Nat→List Oper→Prop
 | _,[]=>True
 | i,o::l=>OpD P ops X a₀ w₀ As con m i o∧zAH P ops X a₀ w₀ As con m (i+1) l
theorem zAH.nil {k:Nat}:zAH P ops X a₀ w₀ As con m k []:=trivial
theorem zAH.cons {k:Nat} {o:Oper} {l:List Oper} (h:OpD P ops X a₀ w₀ As con m k o) (hr:zAH P ops X a₀ w₀ As con m (k+1) l):zAH P ops X a₀ w₀ As con m k (o::l):=⟨h,hr⟩
theorem zAH.get : ∀ {l:List Oper} {k:Nat},zAH P ops X a₀ w₀ As con m k l→∀ i o,l[i]?=some o→ops[k+i]?=some o→OpOk P ops X a₀ w₀ As con m (k+i) o
 | [],_,_,i,o,h,_=>by simp at h
 | x::l,k,⟨h,hr⟩,0,o,ho,hk=>by
  simp at ho;subst ho;exact h hk
 | x::l,k,⟨h,hr⟩,i+1,o,ho,hk=>by
  have:=zAH.get hr i o (by simpa using ho)
  rw [show k+(i+1)=k+1+i by omega] at hk ⊢
  exact this hk
theorem zG0 {a:Act} {l:List Oper} (hs:a.tmps.size=a₀.tmps.size) (hd:a.defers=a₀.defers) (hrest:∀ t,(l.any fun o=>o.dst == some t)=false→a.tmps.getD t undef=a₀.tmps.getD t undef)
  (wr:List (Tmp × Value)) (hcov:(l.all fun o=>match o.dst with|some t=>wr.any fun p=>p.1 == t|none=>true)=true) (hnd:(wr.map (·.1)).Nodup) (h:∀ p∈wr,a.tmps.getD p.1 undef=p.2) :
  a=⟨wr.foldl (fun ts p=>ts.setIfInBounds p.1 p.2) a₀.tmps,a₀.defers⟩:=by
 obtain ⟨ts,ds⟩:=a
 simp only at hs hd hrest h
 subst hd
 congr 1
 have hsz:∀ (wr:List (Tmp × Value)) (b:Array Value),(wr.foldl (fun ts p=>ts.setIfInBounds p.1 p.2) b).size=b.size:=by
  intro wr
  induction wr with
  | nil=>intro b;rfl
  | cons p r ih=>intro b;simp [ih]
 have hget:∀ (wr:List (Tmp × Value)) (b:Array Value) (t:Nat),(∀ p∈wr,p.1≠t)→(wr.foldl (fun ts p=>ts.setIfInBounds p.1 p.2) b)[t]?=b[t]?:=by
  intro wr
  induction wr with
  | nil=>intro b t _;rfl
  | cons p r ih =>
   intro b t ht
   rw [List.foldl_cons,ih _ t (fun q hq=>ht q (List.mem_cons_of_mem _ hq)),Array.getElem?_setIfInBounds_ne (ht p List.mem_cons_self)]
 have hput:∀ (wr:List (Tmp × Value)) (b:Array Value) (p:Tmp × Value),(wr.map (·.1)).Nodup→p∈wr→p.1<b.size→(wr.foldl (fun ts p=>ts.setIfInBounds p.1 p.2) b)[p.1]?=some p.2:=by
  intro wr
  induction wr with
  | nil=>intro b p _ h;cases h
  | cons q r ih =>
   intro b p hn hp hlt
   simp only [List.map_cons,List.nodup_cons] at hn
   rcases List.mem_cons.1 hp with rfl|hp
   ·rw [List.foldl_cons,hget r _ p.1 (fun x hx e=>hn.1 (List.mem_map.2 ⟨x,hx,e⟩))]
    simp [hlt]
   ·rw [List.foldl_cons]
    exact ih _ p hn.2 hp (by simpa using hlt)
 apply Array.ext_getElem?
 intro t
 by_cases ht:t<a₀.tmps.size
 ·have h1:ts[t]?=some (ts.getD t undef):=by simp [show t<ts.size by omega]
  rw [h1]
  by_cases hw:∃ p∈wr,p.1=t
  ·obtain ⟨p,hp,rfl⟩:=hw
   rw [hput wr _ p hnd hp ht,h p hp]
  ·rw [hget wr _ t (fun p hp e=>hw ⟨p,hp,e⟩),hrest t ?_]
   ·simp [ht]
   ·rw [List.any_eq_false]
    intro o ho hdst
    have:=List.all_eq_true.1 hcov o ho
    have hdst':o.dst=some t:=by simpa using hdst
    simp only [hdst',List.any_eq_true,beq_iff_eq] at this
    exact hw this
 ·have h1:=hsz wr a₀.tmps
  rw [Array.getElem?_eq_none (by omega),Array.getElem?_eq_none (by omega)]
theorem wr_nil {a:Act}:∀ p∈([]:List (Tmp × Value)),a.tmps.getD p.1 undef=p.2:=fun _ h=>by cases h
theorem zAF {a:Act} {t:Tmp} {v:Value} {wr:List (Tmp × Value)} (h:a.tmps.getD t undef=v) (hr:∀ p∈wr,a.tmps.getD p.1 undef=p.2):∀ p∈(t,v)::wr,a.tmps.getD p.1 undef=p.2:=by
 intro p hp
 rcases List.mem_cons.1 hp with rfl|hp
 ·exact h
 ·exact hr p hp
theorem Cls.below {w:World} (h:Cls X w₀ w) {n:Nat} (hx:∀ b,X b→n≤b) (hn:n≤w₀.heap.size):Below n w₀ w :=
 ⟨h.os,h.tape,h.output,h.size,fun b hb=>h.block b (Nat.lt_of_lt_of_le hb hn) (fun hX=>by have:=hx b hX;omega)⟩
theorem zCw {id:Nat} {Q:Exit→Act→World→Prop} {l:List Oper} (X:Nat→Prop) (As:Nat→zDV) (con:List (Nat × List Nat)) (m:Nat) (S₀:Nat→List Nat) (N:Nat) (hN:m+l.length=N) (hm:P.follows .mixedOrders=true) (hB:lawB l.toArray con m=true)
  (h0:∀ r,r<m→As r a₀ (S₀ r) w₀)
  (h0b:∀ r,r<m→∀ b∈S₀ r,b<w₀.heap.size∧X b)
  (h0d:∀ r r',r<m→r'<m→r≠r'→∀ b∈S₀ r,b ∉ S₀ r')
  (hloc':zAx (fun r=>∀ (a a':Act) (S:List Nat) (w w':World),(m≤r→∀ t∈zDz l.toArray (r - m),a'.tmps.getD t undef=a.tmps.getD t undef)→Agr X w₀ S w w'→As r a S w→As r a' S w') 0 N)
  (hop:zAH P l.toArray X a₀ w₀ As con m 0 l)
  (hfin:∀ a w (S:Nat→List Nat),a.tmps.size=a₀.tmps.size→a.defers=a₀.defers→(∀ t,(l.any fun o=>o.dst == some t)=false→a.tmps.getD t undef=a₀.tmps.getD t undef)→Cls X w₀ w→(∀ r,decide (r<N) && !exOf con r=true→As r a (S r) w)→Q .normal a w) :
  (Code.region id l.toArray true).wp P Q a₀ w₀:=by
 subst hN
 have hF:=lawFacts hB
 have hloc:=fun r (hr:r<m+l.length)=>hloc'.get r (Nat.zero_le _) (by omega)
 have hop:∀ i o,l.toArray[i]?=some o→OpOk P l.toArray X a₀ w₀ As con m i o:=fun i o ho=>by
  have h2:l[i]?=some o:=by rw [← ho];simp
  have:=zAH.get hop i o h2 (by rw [Nat.zero_add];exact ho)
  rw [Nat.zero_add] at this
  exact this
 refine wp_region_any hm ?_
 have hsz:l.toArray.size=l.length:=by simp
 refine law_any (X:=X) (w₀:=w₀) (As:=As) (con:=con) (m:=m) hF (by simpa using hloc) hop ?_ l.toArray.size _ _ _ (by simp) ⟨S₀,?_⟩
 ·intro listed a w S hall hI
  refine hfin a w S hI.tsize hI.defers (fun t ht=>hI.rest t (fun k o hk _ hd=>?_)) hI.cls (fun r hr=>?_)
  ·have hmem:o∈l:=by
    have:=Array.getElem?_eq_some_iff.1 hk
    obtain ⟨h1,h2⟩:=this
    rw [← h2];simp
   rw [List.any_eq_false] at ht
   exact ht o hmem (by simp [hd])
  ·simp only [Bool.and_eq_true,decide_eq_true_eq,Bool.not_eq_true'] at hr
   refine hI.holds r ⟨fun _=>hall _,by simpa using hr.1,fun k _ _ hk=>?_⟩
   rw [zCG hk] at hr;exact absurd hr.2 (by simp)
 ·have hlist:∀ k,(Array.replicate l.toArray.size false).getD k true=true→l.length≤k:=by
   intro k hk
   rcases Nat.lt_or_ge k l.length with h|h
   ·simp [h] at hk
   ·exact h
  have hlive:∀ r,zEh l.toArray con m (Array.replicate l.toArray.size false) r→r<m:=by
   intro r hr
   rcases Nat.lt_or_ge r m with h|h
   ·exact h
   ·have:=hlist _ (hr.1 h);have:=hr.2.1;omega
  refine ⟨by simp,rfl,rfl,?_,fun _ _=>rfl,⟨rfl,rfl,rfl,Nat.le_refl _,fun _ _ _=>rfl⟩,?_,?_,?_⟩
  ·intro k j hk hd
   have:=hlist k hk;have:=zFV hd;omega
  ·intro r hr
   have:=h0 r (hlive r hr)
   exact hloc r (by have:=hr.2.1;omega) a₀ a₀ (S₀ r) w₀ _ (fun _ _ _=>rfl) ⟨Nat.le_refl _,fun _ _ _=>rfl,fun _ _=>rfl⟩ this
  ·intro r hr b hb
   have:=h0b r (hlive r hr) b hb
   exact ⟨this.1,fun _=>this.2⟩
  ·intro r r' hr hr' hne _ b hb
   exact h0d r r' (hlive r hr) (hlive r' hr') hne b hb
end
attribute [irreducible] asn
attribute [reducible] vA nA bA slA pA oA voA
end Go.Proofs.YtcpdjamlhhfbhaaGreat
namespace Go.Proofs.YtcpdjamlhhfbhaaGreat
open Go.RowKit
structure Off (lo hi:Nat) (W W':World):Prop where
 os:W'.os=W.os
 tape:W'.tape=W.tape
 output:W'.output=W.output
 size:W.heap.size≤W'.heap.size
 block:∀ k,k<W.heap.size→¬ (lo≤k∧k<hi)→W'.heap[k]?=W.heap[k]?
structure On (lo hi:Nat) (W W':World):Prop where
 os:W'.os=W.os
 tape:W'.tape=W.tape
 output:W'.output=W.output
 size:W.heap.size≤W'.heap.size
 block:∀ k,lo≤k→k<hi→W'.heap[k]?=W.heap[k]?
theorem Off.trans {lo hi:Nat} {A B C:World} (h:Off lo hi A B) (k:Off lo hi B C):Off lo hi A C :=
 ⟨k.os.trans h.os,k.tape.trans h.tape,k.output.trans h.output,Nat.le_trans h.size k.size,fun i hi' hn=>(k.block i (Nat.lt_of_lt_of_le hi' h.size) hn).trans (h.block i hi' hn)⟩
theorem Off.wider {lo hi lo' hi':Nat} {A B:World} (h:Off lo hi A B) (h1:lo'≤lo) (h2:hi≤hi'):Off lo' hi' A B :=
 ⟨h.os,h.tape,h.output,h.size,fun i hi hn=>h.block i hi (by omega)⟩
theorem On.trans {lo hi:Nat} {A B C:World} (h:On lo hi A B) (k:On lo hi B C):On lo hi A C :=
 ⟨k.os.trans h.os,k.tape.trans h.tape,k.output.trans h.output,Nat.le_trans h.size k.size,fun i h1 h2=>(k.block i h1 h2).trans (h.block i h1 h2)⟩
theorem On.less {lo hi lo' hi':Nat} {A B:World} (h:On lo hi A B) (h1:lo≤lo') (h2:hi'≤hi):On lo' hi' A B :=
 ⟨h.os,h.tape,h.output,h.size,fun i h3 h4=>h.block i (by omega) (by omega)⟩
theorem Below.off {n lo hi:Nat} {W W':World} (h:Below n W W') (hlo:∀ k,k<W.heap.size→¬ (lo≤k∧k<hi)→k<n):Off lo hi W W' :=
 ⟨h.os,h.tape,h.output,h.size,fun k hk hn=>h.block k (hlo k hk hn)⟩
theorem zCp (lo hi:Nat) (W:World) (o:Obj):Off lo hi W (W.alloc o):=⟨rfl,rfl,rfl,by simp,fun k hk _=>Below.heap_alloc _ _ _ hk⟩
theorem zA0 {lo hi:Nat} (W:World) {p:Nat} (o:Obj) (h1:lo≤p) (h2:p<hi):Off lo hi W (W.putObj p o) :=
 ⟨rfl,rfl,rfl,by simp,fun k _ hn=>World.putObj_heap_other (by rintro rfl;exact hn ⟨h1,h2⟩)⟩
theorem zFw {lo hi:Nat} (W:World) (o:Obj) (h:hi≤W.heap.size):On lo hi W (W.alloc o):=⟨rfl,rfl,rfl,by simp,fun k _ hk=>Below.heap_alloc _ _ _ (by omega)⟩
theorem zCT {lo hi:Nat} (W:World) {p:Addr} (v:Value) (h:¬ (lo≤p.block∧p.block<hi)):On lo hi W (W.setCell p v) :=
 ⟨rfl,rfl,rfl,by simp,fun k h1 h2=>Below.heap_setCell _ _ _ _ (by rintro rfl;exact h ⟨h1,h2⟩)⟩
theorem zFW {lo hi n:Nat} {W W':World} (h:Off lo hi W W') (h1:n≤lo) (h2:n≤W.heap.size):Below n W W' :=
 ⟨h.os,h.tape,h.output,h.size,fun k hk=>h.block k (by omega) (by omega)⟩
def Iter (P:Program) (gf:FuncId) (lb:Array Value) (m N:Nat) (args:Nat→Array Value) (Data:World→Prop):Prop :=
 ∀ (l:Nat) (J Jx:Nat→World→Prop) (W:World),
  (∀ k W1 W2,J k W1→Off W.heap.size (W.heap.size+m) W1 W2→J k W2) →
  (∀ k W1 W2,Jx k W1→Off W.heap.size (W.heap.size+m) W1 W2→Jx k W2) →
  (∀ k W1,J k W1→Data W1) →
  (∀ k W1,k<N→J k W1→W.heap.size+m≤W1.heap.size→YieldAt Fence.wide 8 P l (args k) W1 fun e W2 =>
   (e = .returned (.bool true)∧J (k+1) W2∧On W.heap.size (W.heap.size+m) W1 W2)∨(e = .returned (.bool false)∧Jx (k+1) W2∧On W.heap.size (W.heap.size+m) W1 W2)) →
  J 0 W →
  CallsIn Fence.wide 9 P gf (#[.func (.yield l) #[] #[]]++lb) W fun e W'=>(∃ v,e = .returned v)∧(J N W'∨∃ k,k<N∧Jx (k+1) W')
def roundOut (lo hi:Nat) (I:Nat→World→Prop) (Ix:Code→Nat→World→Prop) (k:Nat) (W:World):Exit→Act→World→Prop
 | .normal,_,W'=>On lo hi W W'∧I k W'
 | .ret,_,W'=>On lo hi W W'∧Ix .ret k W'
 | .exit id,_,W'=>On lo hi W W'∧Ix (.exit id) k W'
 | .goto t,_,W'=>On lo hi W W'∧Ix (.goto t) k W'
 | .panic _,_,_=>False
 | .outgrown,_,_=>False
theorem zHD {P:Program} {g:Operand} {ps:Array Tmp} {assign body:Code} {Q:Exit→Act→World→Prop} {a:Act} {w:World}
  {gf:Nat} {lb:Array Value} (hg:a.eval g = .func (.func gf) #[] lb) (eg:∀ args w,(callFunc gf args).run P w = .ok (.enter gf args) w)
  {m N:Nat} {args:Nat→Array Value} {Data:World→Prop} (hit:Iter P gf lb m N args Data) (hps:∀ k,(args k).size=ps.size)
  (I:Nat→World→Prop) (Ix:Code→Nat→World→Prop)
  (hI:∀ k W1 W2,I k W1→Off w.heap.size (w.heap.size+2+m) W1 W2→I k W2)
  (hIx:∀ c k W1 W2,Ix c k W1→Off w.heap.size (w.heap.size+2+m) W1 W2→Ix c k W2)
  (hD:∀ k W,I k W→Data W) (h0:I 0 w)
  (hround:∀ (l k:Nat) (W:World),k<N→I k W→w.heap.size+2+m≤W.heap.size→∀ K:Act→World→Prop,
   (∀ (a₁:Act) (W1:World),On w.heap.size (w.heap.size+2+m) W W1 →
    (∀ W2,Off w.heap.size (w.heap.size+2+m) W1 W2→body.wpIn (Fence.wide.inRound l) 8 P (roundOut w.heap.size (w.heap.size+2+m) I Ix (k+1) W2) a₁ W2)→K a₁ W1) →
   assign.wpIn (Fence.wide.inRound l) 8 P (Exit.then K (fun _ _ _=>False)) { tmps:=(ps.zip (args k)).foldl (fun t (p,v)=>t.setIfInBounds p v) a.tmps,defers:=[] } W)
  (hdone:∀ W,I N W→W.heap[w.heap.size]?=some (.deferred (some []))→w.heap.size≤W.heap.size→Q .normal { a with defers:={ target:=.collected w.heap.size,args:=#[] } :: a.defers } W)
  (hstop:∀ (c:Code) (k:Nat) (W:World),k<N→Ix c (k+1) W→W.heap[w.heap.size]?=some (.deferred (some []))→w.heap.size≤W.heap.size→c.wpIn Fence.wide 10 P Q { a with defers:={ target:=.collected w.heap.size,args:=#[] } :: a.defers } W) :
  (Code.rangeFunc g ps assign body).wpIn Fence.wide 10 P Q a w:=by
 refine wpIn_rangeFunc ?_
 intro fn _
 obtain ⟨rec,hrec⟩:∃ rec:LoopState→Option Code→Loop,rec=fun st pe=>{ state:=st,pending:=pe,fn,tmps:=a.tmps,params:=ps,assign,body,defers:=w.heap.size }:=⟨_,rfl⟩
 obtain ⟨W1,hW1⟩:∃ W1,(w.alloc (.deferred (some []))).alloc (.loop (rec .ready none))=W1:=⟨_,rfl⟩
 have hs1:W1.heap.size=w.heap.size+2:=by rw [← hW1];simp
 have hL1:W1.heap[w.heap.size+1]?=some (.loop (rec .ready none)):=by
  rw [← hW1];have:=World.alloc_heap_new (w.alloc (.deferred (some []))) (.loop (rec .ready none));rwa [World.size_alloc] at this
 have hK1:W1.heap[w.heap.size]?=some (.deferred (some [])):=by
  rw [← hW1];exact (Below.heap_alloc _ _ _ (by simp)).trans (World.alloc_heap_new w _)
 have hI1:I 0 W1:=by rw [← hW1];exact hI _ _ _ h0 ((zCp _ _ _ _).trans (zCp _ _ _ _))
 refine ⟨w.heap.size+1,[{ target:=.collected w.heap.size,args:=#[] }],W1,{ target:=.fn (.func gf) lb,args:=#[.func (.yield (w.heap.size+1)) #[] #[]] },W1,gf,
  #[.func (.yield (w.heap.size+1)) #[] #[]]++lb,W1,?_,?_,?_,?_,fun h=>by simp [Fence.wide] at h,?_⟩
 ·rw [← hW1,hrec];exact run_enterLoop_outer _ _ _ _ _
 ·simp only [resolve,hg]
  simp [go_sem]
 ·intro f' _;trivial
 ·simp [invoke,go_sem,eg]
 · -- the record,and the block for deferred calls,lie beside what I says
  have keep:∀ {A B:World} {k:Nat} {o:Obj},A.heap[k]?=some o→k<w.heap.size+2→Off W1.heap.size (W1.heap.size+m) A B→B.heap[k]?=some o :=
   fun {A B k o} h hk hab=>(hab.block k (Array.getElem?_eq_some_iff.1 h).1 (by omega)).trans h
  refine (hit (w.heap.size+1)
   (fun k W=>I k W∧W.heap[w.heap.size+1]?=some (.loop (rec .ready none))∧W.heap[w.heap.size]?=some (.deferred (some [])))
   (fun k W=>∃ c,Ix c k W∧W.heap[w.heap.size+1]?=some (.loop (rec .done (some c)))∧W.heap[w.heap.size]?=some (.deferred (some [])))
   W1
   (fun k A B h hab=>⟨hI _ _ _ h.1 (hab.wider (by omega) (by omega)),keep h.2.1 (by omega) hab,keep h.2.2 (by omega) hab⟩)
   (fun k A B ⟨c,h⟩ hab=>⟨c,hIx _ _ _ _ h.1 (hab.wider (by omega) (by omega)),keep h.2.1 (by omega) hab,keep h.2.2 (by omega) hab⟩)
   (fun k A h=>hD k A h.1)
   ?_ ⟨hI1,hL1,hK1⟩).mono ?_
  ·rintro k W hk ⟨hi,hl,hd⟩ hsz
   rw [hs1] at hsz
   have hy:=run_yield (P:=P) (args:=args k) hl (by rw [hrec];simp [hps])
   rw [hrec] at hy
   refine ⟨fn,_,assign,body,hy,roundIn_of_wpIn trivial (hround _ k W hk hi (by omega) _ ?_)⟩
   intro a₁ W2 hon hbody
   have hl2:W2.heap[w.heap.size+1]?=some (.loop (rec .ready none)):=(hon.block _ (by omega) (by omega)).trans hl
   have hd2:W2.heap[w.heap.size]?=some (.deferred (some [])):=(hon.block _ (by omega) (by omega)).trans hd
   have hlt:w.heap.size+1<W2.heap.size:=(Array.getElem?_eq_some_iff.1 hl2).1
   refine ⟨_,run_beginRound hl2 (by rw [hrec]),?_⟩
   refine wpIn_mono (hbody _ (zA0 W2 _ (by omega) (by omega))) ?_
   have hl3:(W2.putObj (w.heap.size+1) (.loop { rec .ready none with state:=.busy })).heap[w.heap.size+1]?=some (.loop { rec .ready none with state:=.busy }):=World.putObj_heap_same hlt
   have hd3:(W2.putObj (w.heap.size+1) (.loop { rec .ready none with state:=.busy })).heap[w.heap.size]?=some (.deferred (some [])):=(World.putObj_heap_other (by omega)).trans hd2
   have hon3:On W1.heap.size (W1.heap.size+m) W (W2.putObj (w.heap.size+1) (.loop { rec .ready none with state:=.busy })) :=
    On.trans (B:=W2) (hon.less (by omega) (by omega)) ⟨rfl,rfl,rfl,by simp,fun i h1 h2=>World.putObj_heap_other (by omega)⟩
   have fin:∀ (jump:Option Code) (W3:World),On w.heap.size (w.heap.size+2+m) (W2.putObj (w.heap.size+1) (.loop { rec .ready none with state:=.busy })) W3 →
     (Instr.endRound (w.heap.size+1) jump).run P W3 = .ok (.bool jump.isNone) (W3.putObj (w.heap.size+1) (.loop (rec (if jump.isNone then .ready else .done) jump))) ∧
     (W3.putObj (w.heap.size+1) (.loop (rec (if jump.isNone then .ready else .done) jump))).heap[w.heap.size+1]?=some (.loop (rec (if jump.isNone then .ready else .done) jump)) ∧
     (W3.putObj (w.heap.size+1) (.loop (rec (if jump.isNone then .ready else .done) jump))).heap[w.heap.size]?=some (.deferred (some [])) ∧
     On W1.heap.size (W1.heap.size+m) W (W3.putObj (w.heap.size+1) (.loop (rec (if jump.isNone then .ready else .done) jump))):=fun jump W3 h3=>by
    have hl4:=(h3.block (w.heap.size+1) (by omega) (by omega)).trans hl3
    have:=run_endRound (P:=P) jump hl4
    rw [hrec] at this ⊢
    refine ⟨this,World.putObj_heap_same (Array.getElem?_eq_some_iff.1 hl4).1,(World.putObj_heap_other (by omega)).trans ((h3.block _ (by omega) (by omega)).trans hd3),?_⟩
    rw [hrec] at hon3
    exact On.trans (B:=W3) (hon3.trans ((hrec ▸ h3).less (by omega) (by omega))) ⟨rfl,rfl,rfl,by simp,fun i h1 h2=>World.putObj_heap_other (by omega)⟩
   rintro e a3 W3 hp
   cases e with
   | normal =>
    obtain ⟨hk3,hi3⟩:=hp
    obtain ⟨hr,hl4,hk4,hon4⟩:=fin none W3 hk3
    exact ⟨_,_,hr,.inl ⟨rfl,⟨hI _ _ _ hi3 (zA0 W3 _ (by omega) (by omega)),hl4,hk4⟩,hon4⟩⟩
   | ret =>
    obtain ⟨hk3,hi3⟩:=hp
    obtain ⟨hr,hl4,hk4,hon4⟩:=fin (some .ret) W3 hk3
    exact ⟨_,_,hr,.inr ⟨rfl,⟨.ret,hIx _ _ _ _ hi3 (zA0 W3 _ (by omega) (by omega)),hl4,hk4⟩,hon4⟩⟩
   | exit id =>
    obtain ⟨hk3,hi3⟩:=hp
    obtain ⟨hr,hl4,hk4,hon4⟩:=fin (some (.exit id)) W3 hk3
    exact ⟨_,_,hr,.inr ⟨rfl,⟨.exit id,hIx _ _ _ _ hi3 (zA0 W3 _ (by omega) (by omega)),hl4,hk4⟩,hon4⟩⟩
   | goto t =>
    obtain ⟨hk3,hi3⟩:=hp
    obtain ⟨hr,hl4,hk4,hon4⟩:=fin (some (.goto t)) W3 hk3
    exact ⟨_,_,hr,.inr ⟨rfl,⟨.goto t,hIx _ _ _ _ hi3 (zA0 W3 _ (by omega) (by omega)),hl4,hk4⟩,hon4⟩⟩
   | panic ch=>exact hp.elim
   | outgrown=>exact hp.elim
  ·rintro e W2 ⟨⟨v,rfl⟩,(⟨hi,hl,hk⟩ | ⟨k,hk,c,hi,hl,hd⟩)⟩
   ·exact ⟨none,_,by have:=run_endLoop (P:=P) hl (by rw [hrec];simp);rw [hrec] at this;exact this,hdone _ (hI _ _ _ hi (zA0 _ _ (by omega) (by omega))) ((World.putObj_heap_other (by omega)).trans hk) (by have:=(Array.getElem?_eq_some_iff.1 hk).1;simp;omega)⟩
   ·exact ⟨some c,_,by have:=run_endLoop (P:=P) hl (by rw [hrec];simp);rw [hrec] at this;exact this,hstop c k _ hk (hIx _ _ _ _ hi (zA0 _ _ (by omega) (by omega))) ((World.putObj_heap_other (by omega)).trans hd) (by have:=(Array.getElem?_eq_some_iff.1 hd).1;simp;omega)⟩
theorem Blk.off {lo hi g:Nat} {W W':World} {cs:Array Value} (h:Blk W g cs) (ho:Off lo hi W W') (hg:g<lo):Blk W' g cs:=by
 have hl:=h.lt
 unfold Blk at h ⊢
 obtain ⟨t,h⟩:=h
 exact ⟨t,(ho.block g hl (by omega)).trans h⟩
theorem Blk.off' {lo hi g:Nat} {W W':World} {cs:Array Value} (h:Blk W g cs) (ho:Off lo hi W W') (hg:hi≤g):Blk W' g cs:=by
 have hl:=h.lt
 unfold Blk at h ⊢
 obtain ⟨t,h⟩:=h
 exact ⟨t,(ho.block g hl (by omega)).trans h⟩
theorem zCY {n lo hi:Nat} {W0 W W':World} (h:Below n W0 W) (ho:Off lo hi W W') (h1:n≤lo) (h2:n≤W.heap.size):Below n W0 W':=h.trans (zFW ho h1 h2)
theorem zFT {F:Fence} {n:Nat} {P:Program} {fn:Func} {tmps:Array Value} {R:Ending→World→Prop} {b:Nat} {W:World} {v:Value} (h:W.heap[b]?=some (.deferred (some [])))
  (hr:(results fn tmps).run P (W.putObj b (.deferred none)) = .ok v (W.putObj b (.deferred none))) (hR:R (.returned v) (W.putObj b (.deferred none))) :
  LeavesInM F n P fn tmps R [{ target:=.collected b,args:=#[] }] .returning W:=⟨by simp,.inl ⟨_,_,rfl,run_takeDeferred h,⟨v,hr,hR⟩⟩⟩
end Go.Proofs.YtcpdjamlhhfbhaaGreat
namespace Go.Proofs.YtcpdjamlhhfbhaaGreat
open Go.RowKit
def Row {α:Type} (enc:α→List Value) (k:Nat) (e:TypeId) (base:Nat) (w:World) (v:Value) (xs:List α):Prop :=
 w.ownsRow base e k v xs.length (xs.flatMap enc)
section
variable {α : Type} {enc:α→List Value} {k:Nat} {e:TypeId} {base:Nat} {w w':World} {v:Value} {xs:List α}
theorem Row.nil : Row enc k e base w (.slice none 0 0) ([]:List α):=World.ownsRow_nil _ _ _ _
theorem Row.same (h:Row enc k e base w v xs) (hb:∀ g,v.ownBlock=some g→w'.heap[g]?=w.heap[g]?):Row enc k e base w' v xs:=by
 obtain ⟨h1,h2⟩:=h
 refine ⟨h1,?_⟩
 rcases h2 with h2 | ⟨g,cap,cur,rfl,h3,h4,h5⟩
 ·exact .inl h2
 ·exact .inr ⟨g,cap,cur,rfl,h3,(hb g rfl).trans h4,h5⟩
theorem Row.lt (h:Row enc k e base w v xs):∀ g,v.ownBlock=some g→base≤g∧g<w.heap.size:=World.ownsRow.lt h
theorem Row.off {lo hi:Nat} (h:Row enc k e base w v xs) (ho:Off lo hi w w') (hb:hi≤base):Row enc k e base w' v xs :=
 h.same fun g hg=>ho.block g (h.lt g hg).2 (by have:=(h.lt g hg).1;omega)
theorem Row.form (h:Row enc k e base w v xs):∃ A c,v = .slice A xs.length c:=by
 obtain ⟨_,h2⟩:=h
 rcases h2 with ⟨rfl,h⟩ | ⟨g,cap,cur,rfl,_⟩
 ·exact ⟨none,0,by rw [h]⟩
 ·exact ⟨_,_,rfl⟩
theorem zD9 (henc:∀ x,(enc x).length=k):∀ (xs:List α) (i:Nat) (x:α),xs[i]?=some x→∀ j u,(enc x)[j]?=some u→(xs.flatMap enc)[i * k+j]?=some u
 | [],i,x,h,_,_,_=>by simp at h
 | y::r,0,x,h,j,u,hj=>by
  simp at h;subst h
  simp only [List.flatMap_cons,Nat.zero_mul,Nat.zero_add]
  rw [List.getElem?_append_left (by have:=List.getElem?_eq_some_iff.1 hj;exact this.1)]
  exact hj
 | y::r,i+1,x,h,j,u,hj=>by
  simp only [List.flatMap_cons]
  have hl:=henc y
  rw [List.getElem?_append_right (by rw [hl,Nat.succ_mul];omega)]
  have:=zD9 henc r i x (by simpa using h) j u hj
  rw [show (i+1) * k+j - (enc y).length=i * k+j by rw [hl,Nat.succ_mul];omega]
  exact this
theorem Row.slAt (h:Row enc k e base w v xs) (henc:∀ x,(enc x).length=k):∃ A c,v = .slice A xs.length c∧zg enc k w A xs:=by
 obtain ⟨h1,h2⟩:=h
 rcases h2 with ⟨rfl,h⟩ | ⟨g,cap,cur,rfl,h3,h4,h5,h6,h7,h8⟩
 ·refine ⟨none,0,by rw [h],?_⟩
  intro i x hx
  rw [List.eq_nil_of_length_eq_zero h] at hx;simp at hx
 ·refine ⟨_,_,rfl,fun i x hx=>⟨g,0,rfl,(Array.getElem?_eq_some_iff.1 h4).1,fun j u hj=>?_⟩⟩
  have hf:=zD9 henc xs i x hx j u hj
  rw [← h8] at hf
  simp only [World.cell?,h4,Nat.zero_add]
  rw [List.getElem?_take] at hf
  split at hf
  ·simpa using hf
  ·cases hf
end
theorem zF2 {α:Type} {enc:α→List Value} {k:Nat} (henc:∀ x,(enc x).length=k):∀ (xs:List α) (j:Nat) (u:Value),(xs.flatMap enc)[j]?=some u→∃ i x l,xs[i]?=some x∧(enc x)[l]?=some u∧j=i * k+l
 | [],j,u,h=>by simp at h
 | y::r,j,u,h=>by
  simp only [List.flatMap_cons] at h
  by_cases hj:j<(enc y).length
  ·rw [List.getElem?_append_left hj] at h
   exact ⟨0,y,j,by simp,h,by simp⟩
  ·rw [List.getElem?_append_right (by omega)] at h
   obtain ⟨i,x,l,h1,h2,h3⟩:=zF2 henc r _ u h
   have:=henc y
   exact ⟨i+1,x,l,by simpa using h1,h2,by rw [Nat.succ_mul];omega⟩
section
variable {α : Type} {enc:α→List Value} {k:Nat} {e:TypeId} {P:Program}
structure Elem (P:Program) (t e:TypeId) (k bytes:Nat) (z:Value):Prop where
 under:P.underlying t=some (.slice e)
 info:∃ i,P.info? e=some i∧i.zero=some z∧i.size=k∧i.bytes=bytes
 zs:z.cells.size=k
 pos:0<k
end
theorem elem_sp : Elem Tryz.prog 55 26 2 16 (.agg #[.int .i64 0,.int .i64 0]) :=
 ⟨by simp [go_sem],info_parts (by kernel_rfl),by rfl,by decide⟩
theorem elem_i : Elem Tryz.prog 32 3 1 8 (.int .i64 0) :=
 ⟨by simp [go_sem],info_parts (by kernel_rfl),by rfl,by decide⟩
theorem one_sp {x:Sp}:∀ u∈zAM x,u.oneCell'=true:=by simp [zAM,Value.oneCell']
theorem one_st (x:St):∀ u∈zq x,u.oneCell'=true:=by simp [zq,Value.oneCell']
theorem one_me (x:Me):∀ u∈encMe x,u.oneCell'=true:=by simp [encMe,Value.oneCell']
theorem one_i {x:Int}:∀ u∈encI x,u.oneCell'=true:=by simp [encI,Value.oneCell']
end Go.Proofs.YtcpdjamlhhfbhaaGreat
