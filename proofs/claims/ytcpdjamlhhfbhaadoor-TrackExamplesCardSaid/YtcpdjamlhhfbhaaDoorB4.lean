/- B4 -/
import Derived.Test.YtcpdjamlhhfbhaaDoorB3
set_option linter.unusedSimpArgs false
set_option linter.unusedVariables false
namespace Go.Proofs.YtcpdjamlhhfbhaaDoor
variable {ro : Option Nat}
open Go.RowKit
structure Wit where
 g:Nat
 A:Option Addr
 m:Nat
abbrev zAC := Nat→Wit
structure Rw where
 i:Nat
 dst:Option Tmp
 f:zAC→Value × List Ent
def regsT : List Rw→zAC→List (Nat × Value)
 | [],_=>[]
 | r::T,G=>match r.dst with|some t=>(t,(r.f G).1)::regsT T G|none=>regsT T G
def zc : List Rw→zAC→List Ent
 | [],_=>[]
 | r::T,G=>(r.f G).2++zc T G
def fltT : List Bool→List Rw→List Rw
 | true::b,r::T=>r::fltT b T
 | false::b,_::T=>fltT b T
 | _,_=>[]
def zEf (R:List (Nat × Value)):List Tmp→List (Nat × Value)
 | []=>[]
 | t::ts=>match lk R t with|some v=>(t,v)::zEf R ts|none=>zEf R ts
def zAg (b:List Bool) (k j:Nat):Bool:=Nat.blt j k && b.getD (k - 1 - j) false
def upW (G:zAC) (k:Nat) (x:Wit):zAC:=fun j=>if j=k then x else G j
def Loc (b:List Bool) (k:Nat) (f:zAC→Value × List Ent):Prop:=∀ G G':zAC,(∀ j,(j=k∨zAg b k j=true)→G j=G' j)→f G=f G'
structure Pend where
 k:Nat
 e0:List Ent
 e1:List Ent
def Pend.none : Pend:=⟨0,[],[]⟩
def Pend.at (S:Pend) (k:Nat):List Ent:=cond (Nat.blt S.k k) S.e1 S.e0
def Pend.now (S:Pend) (listed:Array Bool):List Ent:=cond (listed.getD S.k false) S.e1 S.e0
def Pend.free (S:Pend) (k:Nat):Bool:=match S.e0,S.e1 with | [],[]=>true | _,_=>!Nat.beq S.k k
theorem Pend.zEp {k:Nat}:Pend.none.at k=[]:=by unfold Pend.at Pend.none;cases Nat.blt 0 k<;>rfl
theorem Pend.free_or {S:Pend} {k:Nat} (h:S.free k=true):(S.e0=[]∧S.e1=[])∨S.k≠k:=by
 unfold Pend.free at h
 split at h
 ·exact .inl ⟨by assumption,by assumption⟩
 ·refine .inr fun e=>?_
  subst e
  rw [Nat.beq_refl] at h
  cases h
theorem Own.right {base:Nat} {w:World}:∀ {A B:List Ent},Own base w (A++B)→Own base w B
 | [],_,h=>h
 | _::A,_,h=>Own.right (A:=A) h.tail
def Grows (P:Program) (w0:World) (n:Nat) (d:List Deferred) (R:List (Nat × Value)) (H:List Ent) (ops:Array Oper) (o:Oper) (A:Value→List Ent→Prop):Prop :=
 ∀ a w,Kn w0 n d R H a w→∀ K:Act→World→Prop,(∀ v E w',A v E→Below w.heap.size w w'→Own w.heap.size w' E→K (a.put o.dst v) w') →
  if Region.wanted o (yielded ops a.tmps)=true then o.wp P a w K (fun _ _ _=>False) else K (a.put o.dst undef) w
def Stores (S:Pend) (P:Program) (w0:World) (n:Nat) (d:List Deferred) (R:List (Nat × Value)) (H:List Ent) (ops:Array Oper) (o:Oper):Prop :=
 ∀ (F L:List Ent) a w,Kn w0 n d R (H++F) a w→Own w0.heap.size w (S.e0++L)→∀ K:Act→World→Prop,(∀ w',Below w0.heap.size w0 w'→Own w0.heap.size w' (S.e1++L)→K a w') →
  if Region.wanted o (yielded ops a.tmps)=true then o.wp P a w K (fun _ _ _=>False) else K (a.put o.dst undef) w
section
variable {S : Pend} {P:Program} {w0:World} {n:Nat} {d:List Deferred} {R0:List (Nat × Value)} {H0:List Ent} {Q:Exit→Act→World→Prop} {ops:Array Oper} {bs:List (List Bool)}
def Duty (P:Program) (w0:World) (n:Nat) (d:List Deferred) (ops:Array Oper) (R0:List (Nat × Value)) (H0:List Ent) (b:List Bool) (k:Nat) (o:Oper) (T:List Rw) (f:zAC→Value × List Ent):Prop :=
 ∀ G,Grows P w0 n d (zEf (regsT (fltT b T) G++R0) (o.looksAt ops)) (zc (fltT b T) G++H0) ops o (fun v E=>∃ x,(v,E)=f (upW G k x))
def Step (S:Pend) (P:Program) (w0:World) (n:Nat) (d:List Deferred) (ops:Array Oper) (R0:List (Nat × Value)) (H0:List Ent) (b:List Bool) (k:Nat) (o:Oper) (T:List Rw) (f:zAC→Value × List Ent):Prop :=
 (S.free k=true∧Duty P w0 n d ops R0 H0 b k o T f) ∨
 (S.k=k∧o.dst=Option.none∧(f=fun _=>(undef,[]))∧∀ G,Stores S P w0 n d (zEf (regsT (fltT b T) G++R0) (o.looksAt ops)) [] ops o)
def zAG (ro:Option Nat) (S:Pend) (P:Program) (w0:World) (n:Nat) (d:List Deferred) (ops:Array Oper) (R0:List (Nat × Value)) (H0:List Ent) (Q:Exit→Act→World→Prop):List (List Bool)→Nat→List Oper→List Rw→Prop
 | b::bs,k,o::rest,T =>
  (∃ f,Loc b k f∧Step S P w0 n d ops R0 H0 b k o T f∧zAG ro S P w0 n d ops R0 H0 Q bs (k+1) rest (⟨k,o.dst,f⟩::T)) ∨
  (((b::bs).all fun b=>b.all id)=true∧∀ G,U w0 n d (regsT T G++R0) (S.at k++(zc T G++H0)) (wpL ro P ops Q (o::rest)))
 | [],k,[],T=>∀ G,U w0 n d (regsT T G++R0) (S.at k++(zc T G++H0)) (Q .normal)
 | _,_,_,_=>False
inductive zAN (S:Pend) (P:Program) (w0:World) (n:Nat) (d:List Deferred) (ops:Array Oper) (R0:List (Nat × Value)) (H0:List Ent) (bs:List (List Bool)):List Rw→Prop
 | nil:zAN S P w0 n d ops R0 H0 bs []
 | cons {T:List Rw} {o:Oper} {b:List Bool} {f:zAC→Value × List Ent} (h:zAN S P w0 n d ops R0 H0 bs T) (ho:ops[T.length]?=some o) (hb:bs[T.length]?=some b) (hl:Loc b T.length f) (hd:Step S P w0 n d ops R0 H0 b T.length o T f):zAN S P w0 n d ops R0 H0 bs (⟨T.length,o.dst,f⟩::T)
def zDC (ro:Option Nat) (S:Pend) (P:Program) (w0:World) (n:Nat) (d:List Deferred) (ops:Array Oper) (R0:List (Nat × Value)) (H0:List Ent) (Q:Exit→Act→World→Prop) (bs:List (List Bool)) (T:List Rw):Prop :=
 (∀ k b,T.length≤k→bs[k]?=some b→b.all id=true)∧∀ G,U w0 n d (regsT T G++R0) (S.at T.length++(zc T G++H0)) (wpL ro P ops Q (ops.toList.drop T.length))
theorem zCa : ∀ (bs':List (List Bool)) (k:Nat) (rest:List Oper) (T:List Rw),T.length=k→bs.drop k=bs'→ops.toList.drop k=rest→zAN S P w0 n d ops R0 H0 bs T→zAG ro S P w0 n d ops R0 H0 Q bs' k rest T →
  ∃ T',zAN S P w0 n d ops R0 H0 bs T'∧zDC ro S P w0 n d ops R0 H0 Q bs T'
 | [],k,[],T,hk,hb,ho,hB,h=>by
  refine ⟨T,hB,fun j b hj hbj=>?_,fun G=>?_⟩
  ·have:bs.length≤k:=by simpa using hb
   rw [List.getElem?_eq_none (by omega)] at hbj;cases hbj
  ·rw [hk,ho]
   exact zG (h G)
 | b::bs',k,o::rest,T,hk,hb,ho,hB,h=>by
  rcases h with ⟨f,hl,hd,hc⟩ | ⟨hall,hU⟩
  ·have h1:bs[k]?=some b:=by rw [← List.getElem?_drop_zero_aux hb]
   have h2:ops[k]?=some o:=by
    have:=List.getElem?_drop_zero_aux ho
    simpa using this
   subst hk
   exact zCa bs' (T.length+1) rest _ (by simp) (by rw [← List.drop_drop,hb];rfl) (by rw [← List.drop_drop,ho];rfl) (zAN.cons hB h2 h1 hl hd) hc
  ·refine ⟨T,hB,fun j c hj hcj=>?_,fun G=>?_⟩
   ·refine List.all_eq_true.1 hall c ?_
    rw [← hb]
    refine List.mem_of_getElem? (i:=j - k) ?_
    rw [List.getElem?_drop,show k+(j - k)=j by omega];exact hcj
   ·rw [hk,ho];exact hU G
 | [],k,_::_,T,_,_,_,_,h=>h.elim
 | _::_,k,[],T,_,_,_,_,h=>h.elim
where
 List.getElem?_drop_zero_aux {α:Type} {l r:List α} {k:Nat} {x:α} (h:l.drop k=x::r):l[k]?=some x:=by
  have:(l.drop k)[0]?=some x:=by rw [h];rfl
  simpa [List.getElem?_drop] using this
end
def bitB (bs:List (List Bool)) (k j:Nat):Bool:=match bs[k]? with|some b=>zAg b k j|none=>false
def chkB (ops:Array Oper) (bs:List (List Bool)):Bool :=
 (Nat.beq bs.length ops.size && (List.range ops.size).all fun k=>match bs[k]? with|some b=>Nat.beq b.length k|none=>true) &&
 ((List.range ops.size).all fun k=>(List.range k).all fun j=>!bitB bs k j || (dirB ops k j || (List.range k).any fun m=>dirB ops k m && bitB bs m j)) &&
 ((List.range ops.size).all fun k=>match ops[k]? with|some o=>o.after.all fun e=>!Region.binds .any e || Nat.blt e.on k|none=>true) &&
 (List.range ops.size).all fun k=>match (ops[k]?).bind (·.dst) with
  | none=>true
  | some t=>(List.range ops.size).all fun j=>j == k || match ops[j]? with
   | none=>true
   | some o=>o.dst != some t && (!(o.looksAt ops).contains t || (if k<j then bitB bs j k else bitB bs k j))
structure ChkF (ops:Array Oper) (bs:List (List Bool)):Prop where
 len:bs.length=ops.size
 blen:∀ (k:Nat) (b:List Bool),bs[k]?=some b→b.length=k
 clo:∀ k j,bitB bs k j=true→k<ops.size∧j<k∧(dirB ops k j=true∨∃ m,m<k∧dirB ops k m=true∧bitB bs m j=true)
 acy:∀ k j,dirB ops k j=true→j<k
 uniq:∀ (k j:Nat) (ok oj:Oper) (t:Tmp),ops[k]?=some ok→ok.dst=some t→ops[j]?=some oj→j≠k→oj.dst≠some t
 reads:∀ (k j:Nat) (ok oj:Oper) (t:Tmp),ops[k]?=some ok→ok.dst=some t→ops[j]?=some oj→j≠k→t∈oj.looksAt ops→if k<j then bitB bs j k=true else bitB bs k j=true
theorem zDA {b:List Bool} {k j:Nat} (h:zAg b k j=true):j<k:=by
 simp only [zAg,Bool.and_eq_true] at h
 exact Nat.le_of_ble_eq_true h.1
theorem chkF {ops:Array Oper} {bs:List (List Bool)} (h:chkB ops bs=true):ChkF ops bs:=by
 simp only [chkB,Bool.and_eq_true] at h
 obtain ⟨⟨⟨⟨h1,h0⟩,h2⟩,h3⟩,h4⟩:=h
 have hlen:bs.length=ops.size:=Nat.eq_of_beq_eq_true h1
 have hbl:∀ (k:Nat) (b:List Bool),bs[k]?=some b→b.length=k:=by
  intro k b hb
  have hk:=(List.getElem?_eq_some_iff.1 hb).1
  have:=List.all_eq_true.1 h0 k (List.mem_range.2 (by omega))
  rw [hb] at this
  exact Nat.eq_of_beq_eq_true this
 have hk:∀ k j,bitB bs k j=true→k<ops.size∧j<k:=by
  intro k j hb
  unfold bitB at hb
  cases hbk:bs[k]? with
  | none=>rw [hbk] at hb;cases hb
  | some b =>
   rw [hbk] at hb
   have:=(List.getElem?_eq_some_iff.1 hbk).1
   exact ⟨by omega,zDA hb⟩
 refine ⟨hlen,hbl,fun k j hb=>?_,fun k j hd=>?_,fun k j ok oj t e1 e2 e3 e4=>?_,fun k j ok oj t e1 e2 e3 e4 e5=>?_⟩
 ·obtain ⟨a1,a2⟩:=hk k j hb
  have:=List.all_eq_true.1 (List.all_eq_true.1 h2 k (List.mem_range.2 a1)) j (List.mem_range.2 a2)
  simp only [hb,Bool.not_true,Bool.false_or,Bool.or_eq_true,List.any_eq_true,List.mem_range,Bool.and_eq_true] at this
  refine ⟨a1,a2,?_⟩
  rcases this with h | ⟨m,hm,h5,h6⟩
  ·exact .inl h
  ·exact .inr ⟨m,hm,h5,h6⟩
 ·have a1:=zGB hd
  have h5:=List.all_eq_true.1 h3 k (List.mem_range.2 a1)
  unfold dirB at hd
  rw [Array.getElem?_eq_getElem a1] at hd h5
  simp only at hd h5
  rw [Array.any_eq_true'] at hd
  obtain ⟨e,he,hb⟩:=hd
  rw [Array.all_eq_true_iff_forall_mem] at h5
  have h6:=h5 e he
  simp only [Bool.and_eq_true,beq_iff_eq,Bool.or_eq_true,Bool.not_eq_true'] at hb h6
  rcases h6 with h7|h7
  ·rw [hb.1] at h7;cases h7
  ·rw [← hb.2];exact Nat.le_of_ble_eq_true h7
 ·have a1:k<ops.size:=(Array.getElem?_eq_some_iff.1 e1).1
  have a2:j<ops.size:=(Array.getElem?_eq_some_iff.1 e3).1
  have:=List.all_eq_true.1 h4 k (List.mem_range.2 a1)
  simp only [e1,Option.bind_some,e2,List.all_eq_true,List.mem_range] at this
  have:=this j a2
  simp only [e3,Bool.or_eq_true,beq_iff_eq,e4,false_or,Bool.and_eq_true,bne_iff_ne] at this
  exact this.1
 ·have a1:k<ops.size:=(Array.getElem?_eq_some_iff.1 e1).1
  have a2:j<ops.size:=(Array.getElem?_eq_some_iff.1 e3).1
  have:=List.all_eq_true.1 h4 k (List.mem_range.2 a1)
  simp only [e1,Option.bind_some,e2,List.all_eq_true,List.mem_range] at this
  have:=this j a2
  simp only [e3,Bool.or_eq_true,beq_iff_eq,e4,false_or,Bool.and_eq_true,bne_iff_ne,Bool.not_eq_true',List.contains_eq_mem,e5,decide_true,Bool.true_eq_false] at this
  have h:=this.2
  split<;>rename_i hkj<;>simpa [hkj] using h
section
variable {S : Pend} {P:Program} {w0:World} {n:Nat} {d:List Deferred} {R0:List (Nat × Value)} {H0:List Ent} {Q:Exit→Act→World→Prop} {ops:Array Oper} {bs:List (List Bool)}
theorem zBo : ∀ (b:List Bool) (T:List Rw) (r:Rw),r∈fltT b T→r∈T
 | true::b,x::T,r,h=>by
  simp only [fltT,List.mem_cons] at h
  rcases h with rfl|h
  ·simp
  ·exact List.mem_cons_of_mem _ (zBo b T r h)
 | false::b,x::T,r,h=>by
  simp only [fltT] at h
  exact List.mem_cons_of_mem _ (zBo b T r h)
 | [],T,r,h=>by simp [fltT] at h
 | _::_,[],r,h=>by simp [fltT] at h
theorem zj {T:List Rw} (h:zAN S P w0 n d ops R0 H0 bs T):∀ r∈T,r.i<T.length∧∃ o b,ops[r.i]?=some o∧bs[r.i]?=some b∧r.dst=o.dst∧Loc b r.i r.f∧∃ T',T'.length=r.i∧(∀ x∈T',x∈T)∧zAN S P w0 n d ops R0 H0 bs T'∧Step S P w0 n d ops R0 H0 b r.i o T' r.f:=by
 induction h with
 | nil=>intro r hr;cases hr
 | @cons T o b f h ho hb hl hd ih =>
  intro r hr
  rcases List.mem_cons.1 hr with rfl|hr
  ·exact ⟨by simp,o,b,ho,hb,rfl,hl,T,rfl,fun x hx=>List.mem_cons_of_mem _ hx,h,hd⟩
  ·obtain ⟨h1,o',b',h2,h3,h4,h5,T',h6,h7,h8,h9⟩:=ih r hr
   exact ⟨by simp;omega,o',b',h2,h3,h4,h5,T',h6,fun x hx=>List.mem_cons_of_mem _ (h7 x hx),h8,h9⟩
theorem zAy {T:List Rw} (h:zAN S P w0 n d ops R0 H0 bs T):∀ k,k<T.length→∃ r∈T,r.i=k:=by
 induction h with
 | nil=>intro k hk;simp at hk
 | @cons T o b f h ho hb hl hd ih =>
  intro k hk
  simp only [List.length_cons] at hk
  rcases Nat.lt_or_ge k T.length with h1|h1
  ·obtain ⟨r,hr,hi⟩:=ih k h1
   exact ⟨r,List.mem_cons_of_mem _ hr,hi⟩
  ·exact ⟨_,List.mem_cons_self,by simp;omega⟩
theorem zAk {T:List Rw} (h:zAN S P w0 n d ops R0 H0 bs T):∀ r∈T,∀ r'∈T,r.i=r'.i→r=r':=by
 induction h with
 | nil=>intro r hr;cases hr
 | @cons T o b f h ho hb hl hd ih =>
  intro r hr r' hr' e
  rcases List.mem_cons.1 hr with rfl|hr<;>rcases List.mem_cons.1 hr' with rfl|hr'
  ·rfl
  ·have:=(zj h r' hr').1;simp at e;omega
  ·have:=(zj h r hr).1;simp at e;omega
  ·exact ih r hr r' hr' e
theorem zBr {T:List Rw} (h:zAN S P w0 n d ops R0 H0 bs T):T.Nodup:=by
 induction h with
 | nil=>exact List.nodup_nil
 | @cons T o b f h ho hb hl hd ih =>
  refine List.nodup_cons.2 ⟨fun hm=>?_,ih⟩
  have:=(zj h _ hm).1
  simp at this
theorem zCn {T:List Rw} (h:zAN S P w0 n d ops R0 H0 bs T):∀ (b:List Bool) (r:Rw),r∈T→(r∈fltT b T↔zAg b T.length r.i=true):=by
 induction h with
 | nil=>intro b r hr;cases hr
 | @cons T o b0 f h ho hb hl hd ih =>
  intro b r hr
  have hlt:=zj h
  cases b with
  | nil=>simp [fltT,zAg]
  | cons c b =>
   rcases List.mem_cons.1 hr with rfl|hr
   ·have hnot:(⟨T.length,o.dst,f⟩:Rw) ∉ T:=fun hm=>by have:=(hlt _ hm).1;simp at this
    cases c
    ·simp only [fltT,zAg,List.length_cons]
     constructor
     ·intro hm;exact absurd (zBo _ _ _ hm) hnot
     ·intro hm;simp at hm
    ·simp [fltT,zAg]
   ·have hi:=(hlt r hr).1
    have hne:r≠⟨T.length,o.dst,f⟩:=by rintro rfl;simp at hi
    have e1:zAg (c::b) (T.length+1) r.i=zAg b T.length r.i:=by
     have a1:T.length+1 - 1 - r.i=(T.length - 1 - r.i)+1:=by omega
     simp only [zAg,a1,List.getD_cons_succ]
     have a2:Nat.blt r.i (T.length+1)=true:=Nat.ble_eq_true_of_le (by omega)
     have a3:Nat.blt r.i T.length=true:=Nat.ble_eq_true_of_le (by omega)
     rw [a2,a3]
    have:=ih b r hr
    cases c
    ·simp only [fltT,List.length_cons,e1];exact this
    ·simp only [fltT,List.length_cons,e1,List.mem_cons,hne,false_or];exact this
theorem zEm {R:List (Nat × Value)}:∀ (ts:List Tmp) (t:Tmp) (v:Value),lk (zEf R ts) t=some v→t∈ts∧lk R t=some v
 | [],t,v,h=>by cases h
 | u::ts,t,v,h=>by
  simp only [zEf] at h
  cases hu:lk R u with
  | none =>
   rw [hu] at h
   have:=zEm ts t v h
   exact ⟨List.mem_cons_of_mem _ this.1,this.2⟩
  | some x =>
   rw [hu] at h
   by_cases e:u=t
   ·subst e;rw [zBe] at h;cases h;exact ⟨by simp,hu⟩
   ·rw [zBd e] at h
    have:=zEm ts t v h
    exact ⟨List.mem_cons_of_mem _ this.1,this.2⟩
theorem zDL {G:zAC}:∀ (T:List Rw) (t:Tmp) (v:Value),lk (regsT T G++R0) t=some v→(∃ r∈T,r.dst=some t∧(r.f G).1=v)∨((∀ r∈T,r.dst≠some t)∧lk R0 t=some v)
 | [],t,v,h=>.inr ⟨by simp,h⟩
 | r::T,t,v,h=>by
  simp only [regsT] at h
  cases hd:r.dst with
  | none =>
   rw [hd] at h
   rcases zDL T t v h with ⟨q,hq,h1,h2⟩ | ⟨h1,h2⟩
   ·exact .inl ⟨q,List.mem_cons_of_mem _ hq,h1,h2⟩
   ·refine .inr ⟨fun q hq=>?_,h2⟩
    rcases List.mem_cons.1 hq with rfl|hq
    ·rw [hd];simp
    ·exact h1 q hq
  | some u =>
   rw [hd] at h
   simp only [List.cons_append] at h
   by_cases e:u=t
   ·subst e;rw [zBe] at h;cases h;exact .inl ⟨r,by simp,hd,rfl⟩
   ·rw [zBd e] at h
    rcases zDL T t v h with ⟨q,hq,h1,h2⟩ | ⟨h1,h2⟩
    ·exact .inl ⟨q,List.mem_cons_of_mem _ hq,h1,h2⟩
    ·refine .inr ⟨fun q hq=>?_,h2⟩
     rcases List.mem_cons.1 hq with rfl|hq
     ·rw [hd];simpa using e
     ·exact h1 q hq
theorem zCY {G:zAC}:∀ T:List Rw,zc T G=T.flatMap fun r=>(r.f G).2
 | []=>rfl
 | r::T=>by simp [zc,zCY T]
theorem zHW {α:Type} {R:α→α→Prop} (hsym:∀ a b,R a b→R b a):∀ {S:List α},S.Pairwise R→∀ r∈S,∀ r'∈S,r≠r'→R r r'
 | [],_,r,hr,_,_=>by cases hr
 | a::l,h,r,h1,r',h2=>by
  obtain ⟨h3,h4⟩:=List.pairwise_cons.1 h
  intro hne
  rcases List.mem_cons.1 h1 with e1|e1<;>rcases List.mem_cons.1 h2 with e2|e2
  ·exact absurd (e1.trans e2.symm) hne
  ·exact e1 ▸ h3 r' e2
  ·exact e2 ▸ hsym _ _ (h3 r e1)
  ·exact zHW hsym h4 r e1 r' e2 hne
theorem Own.family {base:Nat} {w:World} {S S':List Rw} {F:Rw→List Ent} (hn:S.Nodup) (hn':S'.Nodup) (hs:∀ r∈S',r∈S) (h:Own base w (S.flatMap F++H0)):Own base w (S'.flatMap F++H0):=by
 have hp:=List.pairwise_append.1 h.apart
 have hf:=List.pairwise_flatMap.1 hp.1
 have hpair:=zHW (R:=fun r r'=>∀ x∈F r,∀ y∈F r',∀ b,x.S b→¬ y.S b) (fun r r' hh x hx y hy b h1 h2=>hh y hy x hx b h2 h1) hf.2
 refine ⟨fun e he=>?_,fun e he=>?_,List.pairwise_append.2 ⟨List.pairwise_flatMap.2 ⟨fun r hr=>hf.1 r (hs r hr),?_⟩,hp.2.1,fun e he f hf'=>?_⟩⟩
 ·refine h.here e ?_
  rcases List.mem_append.1 he with he|he
  ·obtain ⟨r,hr,hx⟩:=List.mem_flatMap.1 he
   exact List.mem_append_left _ (List.mem_flatMap.2 ⟨r,hs r hr,hx⟩)
  ·exact List.mem_append_right _ he
 ·refine h.foot e ?_
  rcases List.mem_append.1 he with he|he
  ·obtain ⟨r,hr,hx⟩:=List.mem_flatMap.1 he
   exact List.mem_append_left _ (List.mem_flatMap.2 ⟨r,hs r hr,hx⟩)
  ·exact List.mem_append_right _ he
 ·refine hn'.imp_of_mem (fun {a b} ha hb hab=>?_)
  exact hpair a (hs a ha) b (hs b hb) hab
 ·obtain ⟨r,hr,hx⟩:=List.mem_flatMap.1 he
  exact hp.2.2 e (List.mem_flatMap.2 ⟨r,hs r hr,hx⟩) f hf'
theorem Own.append {base:Nat} {w:World} {A B:List Ent}:Own base w (A++B)↔Own base w A∧Own base w B∧∀ e∈A,∀ f∈B,∀ b,e.S b→¬ f.S b:=by
 constructor
 ·intro h
  obtain ⟨h1,h2,h3⟩:=List.pairwise_append.1 h.apart
  exact ⟨⟨fun e he=>h.here e (List.mem_append_left _ he),fun e he=>h.foot e (List.mem_append_left _ he),h1⟩,⟨fun e he=>h.here e (List.mem_append_right _ he),fun e he=>h.foot e (List.mem_append_right _ he),h2⟩,h3⟩
 ·rintro ⟨h1,h2,h3⟩
  refine ⟨fun e he=>?_,fun e he=>?_,List.pairwise_append.2 ⟨h1.apart,h2.apart,h3⟩⟩
  ·rcases List.mem_append.1 he with he|he
   ·exact h1.here e he
   ·exact h2.here e he
  ·rcases List.mem_append.1 he with he|he
   ·exact h1.foot e he
   ·exact h2.foot e he
theorem Own.family2 {base:Nat} {w:World} {A:List Ent} {S S':List Rw} {F:Rw→List Ent} (hn:S.Nodup) (hn':S'.Nodup) (hs:∀ r∈S',r∈S) (h:Own base w (A++(S.flatMap F++H0))):Own base w (A++(S'.flatMap F++H0)):=by
 obtain ⟨h1,h2,h3⟩:=Own.append.1 h
 refine Own.append.2 ⟨h1,Own.family hn hn' hs h2,fun e he f hf=>h3 e he f ?_⟩
 rcases List.mem_append.1 hf with hf|hf
 ·obtain ⟨r,hr,hx⟩:=List.mem_flatMap.1 hf
  exact List.mem_append_left _ (List.mem_flatMap.2 ⟨r,hs r hr,hx⟩)
 ·exact List.mem_append_right _ hf
theorem Own.swap {base:Nat} {w:World} {A B C:List Ent} (h:Own base w (A++(B++C))):Own base w (B++(A++C)):=by
 obtain ⟨h1,h2,h3⟩:=Own.append.1 h
 obtain ⟨h4,h5,h6⟩:=Own.append.1 h2
 refine Own.append.2 ⟨h4,Own.append.2 ⟨h1,h5,fun e he f hf=>h3 e he f (List.mem_append_right _ hf)⟩,fun e he f hf b hb hb'=>?_⟩
 rcases List.mem_append.1 hf with hf|hf
 ·exact h3 f hf e (List.mem_append_left _ he) b hb' hb
 ·exact h6 e he f hf b hb hb'
end
section
variable {S : Pend} {P:Program} {w0:World} {n:Nat} {d:List Deferred} {R0:List (Nat × Value)} {H0:List Ent} {Q:Exit→Act→World→Prop} {ops:Array Oper} {bs:List (List Bool)}
structure zEU (S:Pend) (w0:World) (n:Nat) (d:List Deferred) (R0:List (Nat × Value)) (H0:List Ent) (ops:Array Oper) (bs:List (List Bool)) (a0:Act) (T:List Rw) (listed:Array Bool) (a:Act) (w:World) (G:zAC) (ord:List Rw):Prop where
 lsize:listed.size=ops.size
 size:a.tmps.size=n
 defers:a.defers=d
 nodup:ord.Nodup
 sub:∀ r∈ord,r∈T
 iff_:∀ r∈T,(listed.getD r.i true=true↔r∈ord)
 tail:∀ k,T.length≤k→k<ops.size→listed.getD k true=false
 closed:∀ k,listed.getD k true=true→∀ j,bitB bs k j=true→listed.getD j true=true
 vals:∀ r∈ord,∀ t,r.dst=some t→a.tmps.getD t undef=(r.f G).1
 rest:∀ t,(∀ r∈ord,r.dst≠some t)→a.tmps.getD t undef=a0.tmps.getD t undef
 below:Below w0.heap.size w0 w
 own:Own w0.heap.size w (S.now listed++(ord.flatMap (fun r=>(r.f G).2)++H0))
theorem zA9 (hF:ChkF ops bs) {listed:Array Bool} (hcl:∀ k,listed.getD k true=true→∀ j,bitB bs k j=true→listed.getD j true=true) {k:Nat} (hr:k∈Region.ready .any ops listed):∀ j,bitB bs k j=true→listed.getD j true=true:=by
 intro j hj
 obtain ⟨hnl,o,ho,hpre⟩:=mem_ready.1 hr
 have hT:∀ k,listed.getD k false=true→listed.getD k true=true:=by
  intro k hk
  by_cases h:k<listed.size
  ·simpa [Array.getElem?_eq_getElem h] using hk
  ·simp [Array.getElem?_eq_none (Nat.le_of_not_lt h)]
 have hdir:∀ j,dirB ops k j=true→listed.getD j true=true:=by
  intro j hj
  simp only [dirB,ho,Array.any_eq_true',Bool.and_eq_true,beq_iff_eq] at hj
  obtain ⟨e,he,hb,rfl⟩:=hj
  exact hT _ (hpre e he hb)
 obtain ⟨_,_,h⟩:=hF.clo k j hj
 rcases h with h | ⟨m,hm,h1,h2⟩
 ·exact hdir j h
 ·exact hcl m (hdir m h1) j h2
theorem zER (hF:ChkF ops bs) {listed:Array Bool} (hs:listed.size=ops.size) {k:Nat} (hk:k<ops.size) (hl:listed.getD k true=false) (hb:∀ j,j<k→listed.getD j true=true):k∈Region.ready .any ops listed:=by
 refine mem_ready.2 ⟨hl,ops[k],Array.getElem?_eq_getElem hk,fun e he hbd=>?_⟩
 have hd:dirB ops k e.on=true:=by
  unfold dirB
  rw [Array.getElem?_eq_getElem hk]
  simp only [Array.any_eq_true']
  exact ⟨e,he,by simp [hbd]⟩
 have hlt:=hF.acy k e.on hd
 have h:=hb e.on hlt
 have:e.on<listed.size:=by omega
 simpa [Array.getElem?_eq_getElem this] using h
theorem count_le {listed:Array Bool} {k:Nat} (hk:k<listed.size) (hl:listed.getD k true=false):0<listed.toList.count false:=by
 have hv:listed[k]=false:=by simpa [Array.getElem?_eq_getElem hk] using hl
 rw [List.count_pos_iff]
 have:listed.toList[k]'(by simpa using hk)=false:=by simpa using hv
 rw [← this];exact List.getElem_mem _
theorem zGJ (hF:ChkF ops bs):∀ (fuel k:Nat) (listed:Array Bool) (a:Act) (w:World),listed.size=ops.size→(∀ j,j<k→listed.getD j true=true)→(∀ j,k≤j→j<ops.size→listed.getD j true=false)→listed.toList.count false≤fuel →
  (∀ i j,k≤i→i<ops.size→j<i→bitB bs i j=true)→wpL ro P ops Q (ops.toList.drop k) a w→wpAnyIn (FW ro) 9 P .any ops Q fuel listed a w:=by
 intro fuel
 have hnil:∀ (k:Nat) (listed:Array Bool) (a:Act) (w:World),listed.size=ops.size→(∀ j,j<k→listed.getD j true=true)→(∀ j,k≤j→j<ops.size→listed.getD j true=false)→wpL ro P ops Q (ops.toList.drop k) a w→Region.ready .any ops listed=[]→Q .normal a w:=by
  intro k listed a w hs h1 h2 hw hr
  rcases Nat.lt_or_ge k ops.size with hk|hk
  ·have:=zER hF hs hk (h2 k (Nat.le_refl _) hk) h1
   rw [hr] at this;cases this
  ·rw [List.drop_eq_nil_of_le (by simpa using hk)] at hw
   exact hw
 induction fuel with
 | zero =>
  intro k listed a w hs h1 h2 hc hb hw
  have hr:Region.ready .any ops listed=[]:=by
   apply List.eq_nil_iff_forall_not_mem.2
   intro i hi
   obtain ⟨hnl,_⟩:=mem_ready.1 hi
   have hlt:i<listed.size:=by
    rcases Nat.lt_or_ge i listed.size with h|h
    ·exact h
    ·simp [Array.getElem?_eq_none h] at hnl
   have:=count_le hlt hnl
   omega
  exact ⟨hr,hnil k listed a w hs h1 h2 hw hr⟩
 | succ fuel ih =>
  intro k listed a w hs h1 h2 hc hb hw
  refine ⟨hnil k listed a w hs h1 h2 hw,fun i hi=>?_⟩
  obtain ⟨hnl,o,ho,hpre⟩:=mem_ready.1 hi
  have hlt:i<listed.size:=by
   rcases Nat.lt_or_ge i listed.size with h|h
   ·exact h
   ·simp [Array.getElem?_eq_none h] at hnl
  have hik:k≤i:=by
   rcases Nat.lt_or_ge i k with h|h
   ·rw [h1 i h] at hnl;cases hnl
   ·exact h
  have hki:i=k:=by
   rcases Nat.lt_or_ge k i with h|h
   · -- k is before i,and not listed
    have hkb:=hb i k hik (by omega) h
    have hkf:=h2 k (Nat.le_refl _) (by omega)
    obtain ⟨_,_,hh⟩:=hF.clo i k hkb
    have hT:∀ k,listed.getD k false=true→listed.getD k true=true:=by
     intro k hk
     by_cases h:k<listed.size
     ·simpa [Array.getElem?_eq_getElem h] using hk
     ·simp [Array.getElem?_eq_none (Nat.le_of_not_lt h)]
    have hdir:∀ j,dirB ops i j=true→listed.getD j true=true:=by
     intro j hj
     simp only [dirB,ho,Array.any_eq_true',Bool.and_eq_true,beq_iff_eq] at hj
     obtain ⟨e,he,hb,rfl⟩:=hj
     exact hT _ (hpre e he hb)
    rcases hh with hh | ⟨m,hm,h3,h4⟩
    ·rw [hdir k hh] at hkf;cases hkf
    ·have h5:=hdir m h3
     have h6:m<k:=by
      rcases Nat.lt_or_ge m k with h|h
      ·exact h
      ·rw [h2 m h (by omega)] at h5;cases h5
     have:=(hF.clo m k h4).2.1
     omega
   ·omega
  subst hki
  have hcs:=count_set hlt hnl
  have hdrop:ops.toList.drop i=o::ops.toList.drop (i+1):=by
   have h3:i<ops.toList.length:=by simp;omega
   rw [List.drop_eq_getElem_cons h3]
   congr 1
   have h4:=(Array.getElem?_eq_some_iff.1 ho).2
   simpa using h4
  rw [hdrop] at hw
  have hnext:∀ a w,wpL ro P ops Q (ops.toList.drop (i+1)) a w→wpAnyIn (FW ro) 9 P .any ops Q fuel (listed.setIfInBounds i true) a w:=by
   intro a w hw
   refine ih (i+1) _ a w (by simpa using hs) (fun j hj=>?_) (fun j hj hjs=>?_) (by omega) (fun i' j h3 h4 h5=>hb i' j (by omega) h4 h5) hw
   ·by_cases hji:j=i
    ·subst hji;simp [hlt]
    ·have:=h1 j (by omega)
     simp only [Array.getD_eq_getD_getElem?] at this ⊢
     rw [Array.getElem?_setIfInBounds_ne (by omega)];exact this
   ·have:=h2 j (by omega) hjs
    simp only [Array.getD_eq_getD_getElem?] at this ⊢
    rw [Array.getElem?_setIfInBounds_ne (by omega)];exact this
  unfold wpOpIn
  simp only [ho]
  unfold wpL wpListIn at hw
  split
  ·rename_i hwt
   rw [if_pos hwt] at hw
   exact Oper.wpIn_mono hnext hw
  ·rename_i hwt
   rw [if_neg hwt] at hw
   exact ⟨hw.1,hnext _ _ hw.2⟩
theorem zCo : ∀ (b:List Bool) {T:List Rw},T.Nodup→(fltT b T).Nodup
 | true::b,x::T,h=>by
  have h1:=List.nodup_cons.1 h
  simp only [fltT]
  exact List.nodup_cons.2 ⟨fun hm=>h1.1 (zBo _ _ _ hm),zCo b h1.2⟩
 | false::b,x::T,h=>zCo b (List.nodup_cons.1 h).2
 | [],T,h=>by simp [fltT]
 | _::_,[],h=>by simp [fltT]
theorem zFE {T:List Rw} {listed:Array Bool} {a0 a:Act} {w:World} {G:zAC} {ord:List Rw} (hT:zAN S P w0 n d ops R0 H0 bs T) (h0:∀ t v,lk R0 t=some v→a0.tmps.getD t undef=v) (hI:zEU S w0 n d R0 H0 ops bs a0 T listed a w G ord) (hsz:T.length≤ops.size) (hall:∀ r∈T,r∈ord):Kn w0 n d (regsT T G++R0) (S.at T.length++(zc T G++H0)) a w:=by
 refine ⟨hI.size,hI.defers,fun t v hv=>?_,hI.below,?_⟩
 ·rcases zDL T t v hv with ⟨r,hr,hd,rfl⟩ | ⟨hn,hv'⟩
  ·exact hI.vals r (hall r hr) t hd
  ·rw [hI.rest t (fun r hr=>hn r (hI.sub r hr))];exact h0 t v hv'
 ·have e:S.at T.length=S.now listed:=by
   unfold Pend.at Pend.now
   congr 1
   rcases Nat.lt_or_ge S.k T.length with h|h
   ·obtain ⟨r,hr,hi⟩:=zAy hT S.k h
    have h1:=(hI.iff_ r hr).2 (hall r hr)
    have h2:r.i<listed.size:=by rw [hI.lsize];omega
    rw [hi] at h1 h2
    rw [show Nat.blt S.k T.length=true from Nat.ble_eq_true_of_le h]
    simpa [Array.getElem?_eq_getElem h2] using h1.symm
   ·have h1:Nat.blt S.k T.length=false:=by
     cases hb:Nat.blt S.k T.length with
     | false=>rfl
     | true=>have:=Nat.le_of_ble_eq_true hb;omega
    rw [h1]
    rcases Nat.lt_or_ge S.k ops.size with h2|h2
    ·have h3:=hI.tail S.k h h2
     have h4:S.k<listed.size:=by rw [hI.lsize];omega
     simpa [Array.getElem?_eq_getElem h4] using h3.symm
    ·have h4:¬ S.k<listed.size:=by rw [hI.lsize];omega
     simp [Array.getElem?_eq_none (Nat.le_of_not_lt h4)]
  rw [zCY,e]
  exact Own.family2 hI.nodup (zBr hT) hall hI.own
theorem kn_op (hF:ChkF ops bs) {T Tk:List Rw} {listed:Array Bool} {a0 a:Act} {w:World} {G:zAC} {ord:List Rw} {k:Nat} {o:Oper} {b:List Bool} (hT:zAN S P w0 n d ops R0 H0 bs T) (h0:∀ t v,lk R0 t=some v→a0.tmps.getD t undef=v) (hI:zEU S w0 n d R0 H0 ops bs a0 T listed a w G ord)
  (hr:k∈Region.ready .any ops listed) (ho:ops[k]?=some o) (hb:bs[k]?=some b) (hTk:zAN S P w0 n d ops R0 H0 bs Tk) (hk:Tk.length=k) (hsub:∀ x∈Tk,x∈T):Kn w0 n d (zEf (regsT (fltT b Tk) G++R0) (o.looksAt ops)) (zc (fltT b Tk) G++H0) a w:=by
 have hnl:=(mem_ready.1 hr).1
 have hrc:=zA9 hF hI.closed hr
 have hin:∀ r∈fltT b Tk,r∈ord:=by
  intro r hr'
  have h1:=zBo _ _ _ hr'
  have h2:=(zCn hTk b r h1).1 hr'
  refine (hI.iff_ r (hsub r h1)).1 (hrc r.i ?_)
  unfold bitB
  rw [hb,← hk];exact h2
 refine ⟨hI.size,hI.defers,fun t v hv=>?_,hI.below,?_⟩
 ·obtain ⟨ht,hv⟩:=zEm _ t v hv
  rcases zDL _ t v hv with ⟨r,hr',hd,rfl⟩ | ⟨hn,hv'⟩
  ·exact hI.vals r (hin r hr') t hd
  ·rw [hI.rest t (fun r hro hd=>?_)]
   ·exact h0 t v hv'
   ·have hrT:=hI.sub r hro
    obtain ⟨_,o',b',ho',_,hd',_⟩:=zj hT r hrT
    have hlr:listed.getD r.i true=true:=(hI.iff_ r hrT).2 hro
    have hne:k≠r.i:=by rintro rfl;rw [hlr] at hnl;cases hnl
    have:=hF.reads r.i k o' o t ho' (hd' ▸ hd) ho hne ht
    split at this
    ·rename_i hlt
     obtain ⟨q,hq,hqi⟩:=zAy hTk r.i (by omega)
     have e:=zAk hT q (hsub q hq) r hrT hqi
     subst e
     refine hn q ((zCn hTk b q hq).2 ?_) hd
     unfold bitB at this
     rw [hb] at this
     rw [hk];exact this
    ·have:=hI.closed r.i hlr k this
     rw [this] at hnl;cases hnl
 ·rw [zCY]
  exact Own.family hI.nodup (zCo b (zBr hTk)) hin hI.own.right
theorem zDe (hF:ChkF ops bs) {T Tk:List Rw} {listed:Array Bool} {a0 a:Act} {w:World} {G:zAC} {ord:List Rw} {o:Oper} {b:List Bool} {r:Rw} (hT:zAN S P w0 n d ops R0 H0 bs T) (hlen:T.length≤ops.size) (h0:∀ t v,lk R0 t=some v→a0.tmps.getD t undef=v) (hdst:∀ o∈ops.toList,∀ t,o.dst=some t→t<n) (hI:zEU S w0 n d R0 H0 ops bs a0 T listed a w G ord)
  (hrT:r∈T) (hr:r.i∈Region.ready .any ops listed) (ho:ops[r.i]?=some o) (hb:bs[r.i]?=some b) (hd:r.dst=o.dst) (hTk:zAN S P w0 n d ops R0 H0 bs Tk) (hk:Tk.length=r.i) (hsub:∀ x∈Tk,x∈T) (hstep:Step S P w0 n d ops R0 H0 b r.i o Tk r.f)
  {K:Act→World→Prop} (hK:∀ a' w',(∃ G' ord',zEU S w0 n d R0 H0 ops bs a0 T (listed.setIfInBounds r.i true) a' w' G' ord')→K a' w') :
  if Region.wanted o (yielded ops a.tmps)=true then o.wp P a w K (fun _ _ _=>False) else K (a.put o.dst undef) w:=by
 have hkn:=kn_op hF hT h0 hI hr ho hb hTk hk hsub
 have hnl:=(mem_ready.1 hr).1
 have hrc:=zA9 hF hI.closed hr
 have hil:r.i<listed.size:=by
  rcases Nat.lt_or_ge r.i listed.size with h|h
  ·exact h
  ·simp [Array.getElem?_eq_none h] at hnl
 have hset:∀ k,k≠r.i→(listed.setIfInBounds r.i true).getD k true=listed.getD k true:=by
  intro k hk
  simp only [Array.getD_eq_getD_getElem?]
  rw [Array.getElem?_setIfInBounds_ne (Ne.symm hk)]
 have hsi:(listed.setIfInBounds r.i true).getD r.i true=true:=by simp [hil]
 have hmono:∀ k,listed.getD k true=true→(listed.setIfInBounds r.i true).getD k true=true:=by
  intro k hk
  by_cases hki:k=r.i
  ·rw [hki];exact hsi
  ·rw [hset k hki];exact hk
 have hro:r ∉ ord:=fun h=>by rw [(hI.iff_ r hrT).2 h] at hnl;cases hnl
 rcases hstep with ⟨hfree,hduty⟩ | ⟨hSk,hdn,hf,hst⟩
 rotate_left
 ·have hq:S.now listed=S.e0:=by
   unfold Pend.now
   rw [hSk]
   have:listed.getD r.i false=false:=by simpa [Array.getElem?_eq_getElem hil] using hnl
   rw [this];rfl
  have hq':S.now (listed.setIfInBounds r.i true)=S.e1:=by
   unfold Pend.now
   rw [hSk]
   simp [hil]
  refine hst G (zc (fltT b Tk) G++H0) (ord.flatMap (fun r=>(r.f G).2)++H0) a w (by simpa using hkn) (hq ▸ hI.own) K (fun w' hB hO=>hK _ _ ⟨G,r::ord,?_⟩)
  have hfn:(r.f G).2=[]:=by rw [hf]
  refine ⟨by simpa using hI.lsize,hI.size,hI.defers,List.nodup_cons.2 ⟨hro,hI.nodup⟩,?_,?_,?_,?_,?_,?_,hB,?_⟩
  ·intro q hq
   rcases List.mem_cons.1 hq with rfl|hq
   ·exact hrT
   ·exact hI.sub q hq
  ·intro q hq
   by_cases hqi:q.i=r.i
   ·have:=zAk hT q hq r hrT hqi
    subst this
    simp [hil]
   ·rw [hset _ hqi,hI.iff_ q hq,List.mem_cons]
    constructor
    ·exact .inr
    ·rintro (rfl|h)
     ·exact absurd rfl hqi
     ·exact h
  ·intro k h1 h2
   have:=(zj hT r hrT).1
   rw [hset k (by omega)]
   exact hI.tail k h1 h2
  ·intro k hk j hj
   by_cases hki:k=r.i
   ·subst hki;exact hmono j (hrc j hj)
   ·exact hmono j (hI.closed k (by rw [← hset k hki];exact hk) j hj)
  ·intro q hq t hqt
   rcases List.mem_cons.1 hq with rfl|hq
   ·rw [hd,hdn] at hqt;cases hqt
   ·exact hI.vals q hq t hqt
  ·intro t ht
   exact hI.rest t (fun q hq=>ht q (List.mem_cons_of_mem _ hq))
  ·rw [hq',List.flatMap_cons,hfn]
   exact hO
 have hnow:S.now (listed.setIfInBounds r.i true)=S.now listed:=by
  rcases Pend.free_or hfree with ⟨h1,h2⟩|h1
  ·unfold Pend.now;rw [h1,h2];cases (listed.setIfInBounds r.i true).getD S.k false<;>cases listed.getD S.k false<;>rfl
  ·unfold Pend.now
   simp only [Array.getD_eq_getD_getElem?]
   rw [Array.getElem?_setIfInBounds_ne (Ne.symm h1)]
 refine hduty G a w hkn K ?_
 rintro v E w' ⟨x,hx⟩ hB hE
 refine hK _ _ ⟨upW G r.i x,r::ord,?_⟩
 have hv:v=(r.f (upW G r.i x)).1:=by rw [← hx]
 have hE':E=(r.f (upW G r.i x)).2:=by rw [← hx]
 have hloc:∀ q∈ord,q.f (upW G r.i x)=q.f G:=by
  intro q hq
  obtain ⟨_,o',b',_,hb',_,hl,_⟩:=zj hT q (hI.sub q hq)
  refine (hl G (upW G r.i x) (fun j hj=>?_)).symm
  have hlq:=(hI.iff_ q (hI.sub q hq)).2 hq
  have hne:j≠r.i:=by
   rintro rfl
   rcases hj with hj|hj
   ·rw [hj,hlq] at hnl;cases hnl
   ·have:=hI.closed q.i hlq r.i (by unfold bitB;rw [hb'];exact hj)
    rw [this] at hnl;cases hnl
  simp [upW,hne]
 have hdne:∀ q∈ord,∀ t,q.dst=some t→o.dst≠some t:=by
  intro q hq t hqt
  obtain ⟨_,o',b',ho',_,hd',_⟩:=zj hT q (hI.sub q hq)
  have hlq:=(hI.iff_ q (hI.sub q hq)).2 hq
  exact hF.uniq q.i r.i o' o t ho' (hd' ▸ hqt) ho (by intro e;rw [← e] at hlq;rw [hlq] at hnl;cases hnl)
 refine ⟨by simpa using hI.lsize,size_put.trans hI.size,zCB.trans hI.defers,List.nodup_cons.2 ⟨hro,hI.nodup⟩,?_,?_,?_,?_,?_,?_,hI.below.trans (hB.mono hI.below.size),?_⟩
 ·intro q hq
  rcases List.mem_cons.1 hq with rfl|hq
  ·exact hrT
  ·exact hI.sub q hq
 ·intro q hq
  by_cases hqi:q.i=r.i
  ·have:=zAk hT q hq r hrT hqi
   subst this
   simp [hil]
  ·rw [hset _ hqi,hI.iff_ q hq,List.mem_cons]
   constructor
   ·exact .inr
   ·rintro (rfl|h)
    ·exact absurd rfl hqi
    ·exact h
 ·intro k h1 h2
  have:=(zj hT r hrT).1
  rw [hset k (by omega)]
  exact hI.tail k h1 h2
 ·intro k hk j hj
  by_cases hki:k=r.i
  ·subst hki;exact hmono j (hrc j hj)
  ·exact hmono j (hI.closed k (by rw [← hset k hki];exact hk) j hj)
 ·intro q hq t hqt
  rcases List.mem_cons.1 hq with rfl|hq
  ·rw [hd] at hqt
   have hlt:t<a.tmps.size:=by rw [hI.size];exact hdst o (by rw [Array.mem_toList_iff];exact Array.mem_of_getElem? ho) t hqt
   rw [hqt,← hv]
   simp [Act.put,hlt]
  ·rw [zAV (hdne q hq t hqt),hloc q hq]
   exact hI.vals q hq t hqt
 ·intro t ht
  rw [zAV (hd ▸ ht r (by simp))]
  exact hI.rest t (fun q hq=>ht q (List.mem_cons_of_mem _ hq))
 ·have:=hI.own.join hB hI.below.size hE
  rw [hE'] at this
  have e:(r::ord).flatMap (fun q=>(q.f (upW G r.i x)).2)=(r.f (upW G r.i x)).2++ord.flatMap (fun q=>(q.f G).2):=by
   rw [List.flatMap_cons]
   congr 1
   rw [List.flatMap_def,List.flatMap_def]
   congr 1
   exact List.map_congr_left (fun q hq=>by rw [hloc q hq])
  rw [e,hnow,List.append_assoc]
  exact Own.swap this
theorem zEQ (hF:ChkF ops bs) {T:List Rw} (hT:zAN S P w0 n d ops R0 H0 bs T) (hlen:T.length≤ops.size) (hend:zDC ro S P w0 n d ops R0 H0 Q bs T) {a0:Act} (h0:∀ t v,lk R0 t=some v→a0.tmps.getD t undef=v) (hdst:∀ o∈ops.toList,∀ t,o.dst=some t→t<n) (hdf:∀ o∈ops.toList,zCv o=false) :
  ∀ (fuel:Nat) (listed:Array Bool) (a:Act) (w:World),listed.toList.count false≤fuel→(∃ G ord,zEU S w0 n d R0 H0 ops bs a0 T listed a w G ord)→wpAnyIn (FW ro) 9 P .any ops Q fuel listed a w:=by
 have htail:∀ i j,T.length≤i→i<ops.size→j<i→bitB bs i j=true:=by
  intro i j h1 h2 h3
  have hi:i<bs.length:=by rw [hF.len];exact h2
  unfold bitB
  rw [List.getElem?_eq_getElem hi]
  have h4:=hend.1 i bs[i] h1 (List.getElem?_eq_getElem hi)
  have h5:=hF.blen i bs[i] (List.getElem?_eq_getElem hi)
  simp only [zAg,Bool.and_eq_true]
  refine ⟨Nat.ble_eq_true_of_le h3,?_⟩
  have h6:i - 1 - j<bs[i].length:=by omega
  rw [List.getD_eq_getElem?_getD,List.getElem?_eq_getElem h6]
  have:=List.all_eq_true.1 h4 (bs[i][i - 1 - j]) (List.getElem_mem h6)
  simpa using this
 have hgo:∀ (fuel:Nat) (listed:Array Bool) (a:Act) (w:World) (G:zAC) (ord:List Rw),listed.toList.count false≤fuel→zEU S w0 n d R0 H0 ops bs a0 T listed a w G ord→(∀ r∈T,r∈ord)→wpAnyIn (FW ro) 9 P .any ops Q fuel listed a w:=by
  intro fuel listed a w G ord hc hI hall
  refine zGJ hF fuel T.length listed a w hI.lsize (fun j hj=>?_) hI.tail hc htail (hend.2 G a w (zFE hT h0 hI hlen hall))
  obtain ⟨r,hr,rfl⟩:=zAy hT j hj
  exact (hI.iff_ r hr).2 (hall r hr)
 intro fuel
 induction fuel with
 | zero =>
  rintro listed a w hc ⟨G,ord,hI⟩
  refine hgo 0 listed a w G ord hc hI (fun r hr=>(hI.iff_ r hr).1 ?_)
  cases hl:listed.getD r.i true with
  | true=>rfl
  | false =>
   have hlt:r.i<listed.size:=by have:=(zj hT r hr).1;rw [hI.lsize];omega
   have:=count_le hlt hl
   omega
 | succ fuel ih =>
  rintro listed a w hc ⟨G,ord,hI⟩
  by_cases hall:∀ r∈T,r∈ord
  ·exact hgo _ listed a w G ord hc hI hall
  ·have hnr:∀ i∈Region.ready .any ops listed,i<T.length:=by
    intro i hi
    rcases Nat.lt_or_ge i T.length with h|h
    ·exact h
    ·exfalso
     refine hall (fun r hr=>(hI.iff_ r hr).1 ?_)
     have hr1:=(zj hT r hr).1
     have his:i<ops.size:=by
      obtain ⟨_,o,ho,_⟩:=mem_ready.1 hi
      exact (Array.getElem?_eq_some_iff.1 ho).1
     exact zA9 hF hI.closed hi r.i (htail i r.i h his (by omega))
   have hne:Region.ready .any ops listed≠[]:=by
    intro hr0
    refine hall (fun r hr=>(hI.iff_ r hr).1 ?_)
    -- the least one that is not listed would be ready
    have key:∀ k,k<ops.size→listed.getD k true=true:=by
     intro k
     induction k using Nat.strongRecOn with
     | _ k ihk =>
      intro hk
      cases hl:listed.getD k true with
      | true=>rfl
      | false =>
       have:=zER hF hI.lsize hk hl (fun j hj=>ihk j hj (by omega))
       rw [hr0] at this;cases this
    have:=(zj hT r hr).1
    exact key r.i (by omega)
   refine ⟨fun h=>absurd h hne,fun i hi=>?_⟩
   have hlt:=hnr i hi
   obtain ⟨r,hrT,rfl⟩:=zAy hT i hlt
   obtain ⟨_,o,b,ho,hb,hd,hl,Tk,hk,hsub,hTk,hduty⟩:=zj hT r hrT
   obtain ⟨hnl,_⟩:=mem_ready.1 hi
   have hil:r.i<listed.size:=by
    rcases Nat.lt_or_ge r.i listed.size with h|h
    ·exact h
    ·simp [Array.getElem?_eq_none h] at hnl
   have hcs:=count_set hil hnl
   have hs:=zDe hF hT hlen h0 hdst hI hrT hi ho hb hd hTk hk hsub hduty (K:=wpAnyIn (FW ro) 9 P .any ops Q fuel (listed.setIfInBounds r.i true)) (fun a' w' h=>ih _ a' w' (by omega) h)
   unfold wpOpIn
   simp only [ho]
   split
   ·rename_i hwt
    rw [if_pos hwt] at hs
    exact opIn (hdf o (by have:=Array.mem_of_getElem? ho;simpa using this)) (zC6 hs (fun _ _ h=>h))
   ·rename_i hwt
    rw [if_neg hwt] at hs
    exact ⟨fun _ _=>trivial,hs⟩
theorem zDj (S:Pend) {id:Nat} {H:List Ent} (hS:∀ w,Own w0.heap.size w H→Own w0.heap.size w (S.e0++H0)) {l:List Oper} (hm:P.follows .mixedOrders=true) (bs:List (List Bool)) (hB:chkB l.toArray bs=true) (hD:(l.all fun o=>match o.dst with|some t=>Nat.blt t n|none=>true)=true) (hDf:(l.all fun o=>!zCv o)=true) (h:zAG ro S P w0 n d l.toArray R0 H0 Q bs 0 l []):U w0 n d R0 H ((Code.region id l.toArray true).wpI ro P Q):=fun a w q=>by
 have hF:=chkF hB
 obtain ⟨T,hT,hend⟩:=zCa (S:=S) (P:=P) (w0:=w0) (n:=n) (d:=d) (ops:=l.toArray) (R0:=R0) (H0:=H0) (Q:=Q) (bs:=bs) bs 0 l [] rfl rfl (by simp) zAN.nil h
 have hlen:T.length≤l.toArray.size:=by
  cases hT with
  | nil=>simp
  | @cons T o b f h ho hb hl hd =>
   have:=(Array.getElem?_eq_some_iff.1 ho).1
   simp only [List.length_cons];omega
 refine wpIn_region_any hm ?_
 have hdst:∀ o∈l.toArray.toList,∀ t,o.dst=some t→t<n:=by
  intro o ho t ht
  have:=List.all_eq_true.1 hD o (by simpa using ho)
  rw [ht] at this
  exact Nat.le_of_ble_eq_true this
 have hlist:∀ k,k<l.toArray.size→(Array.replicate l.toArray.size false).getD k true=false:=by
  intro k hk
  have hk':k<l.length:=by simpa using hk
  simp [hk']
 refine zEQ hF hT hlen hend (a0:=a) q.regs hdst (fun o ho=>by have:=List.all_eq_true.1 hDf o (by simpa using ho);simpa using this) _ _ _ _ (by simp) ⟨fun _=>⟨0,none,0⟩,[],?_⟩
 refine ⟨by simp,q.size,q.defers,List.nodup_nil,by simp,fun r hr=>?_,fun k _ hk=>hlist k hk,fun k hk j hj=>?_,by simp,fun _ _=>rfl,?_,?_⟩
 ·have:=(zj hT r hr).1
  rw [hlist r.i (by omega)];simp
 ·have h1:=hF.clo k j hj
  rw [hlist k h1.1] at hk;cases hk
 ·exact ⟨q.below.os,q.below.tape,q.below.output,q.below.size,q.below.block⟩
 ·have e:S.now (Array.replicate l.toArray.size false)=S.e0:=by
   unfold Pend.now
   have:(Array.replicate l.toArray.size false).getD S.k false=false:=by
    simp only [Array.getD_eq_getD_getElem?,Array.getElem?_replicate]
    split<;>rfl
   rw [this];rfl
  rw [e]
  exact (hS _ q.own).past (Nat.le_refl _) (fun _ _ _ _=>rfl)
end
end Go.Proofs.YtcpdjamlhhfbhaaDoor
namespace Go.Proofs.YtcpdjamlhhfbhaaDoor
variable {ro : Option Nat}
open Go.RowKit
def Ev (P:Program) (w0:World) (n:Nat) (d:List Deferred) (R:List (Nat × Value)) (H:List Ent) (o:Oper) (v:Value):Prop :=
 ∀ a w,Kn w0 n d R H a w→(execOp a.eval o).run P w = .ok (.value v) w
section
variable {P : Program} {w0:World} {n:Nat} {d:List Deferred} {R:List (Nat × Value)} {H:List Ent} {o:Oper} {x y:Operand} {v u:Value} {T T':TypeId} {k:IntKind} {i j:Int}
theorem zA5 (hop:o.op = .move x) (hx:evR R x=some v):Ev P w0 n d R H o (v) :=
 (fun a w k=>by unfold execOp;rw [hop];simp only [Sem.run_pure,k.ev hx])
theorem zCA (hop:o.op = .assign x) (hx:evR R x=some v):Ev P w0 n d R H o (v) :=
 (fun a w k=>by unfold execOp;rw [hop];simp only [Sem.run_pure,k.ev hx])
theorem zDc {c:Operand} {b:Bool} (hop:o.op = .pick c x y) (hc:evR R c=some (.bool b)) (hx:evR R (cond b x y)=some v):Ev P w0 n d R H o (v) :=
 (fun a w k=>by
  unfold execOp;rw [hop]
  simp only [Sem.run_bind,k.ev hc,asBool,Sem.run_pure,Result.andThen_ok]
  have:=k.ev hx
  cases b<;>simp_all)
theorem zH9 {i:Nat} {vs:List Value} (hop:o.op = .extract x i) (hx:evR R x=some (.tuple vs.toArray)) (hi:vs[i]?=some v):Ev P w0 n d R H o (v) :=
 (fun a w k=>by unfold execOp;rw [hop];simp [k.ev hx,Instr.extract,hi])
theorem e_not {b:Bool} {T:TypeId} (hop:o.op = .unOp .not T x) (hx:evR R x=some (.bool b)):Ev P w0 n d R H o (.bool (not b)) :=
 (fun a w k=>by unfold execOp;rw [hop];simp [k.ev hx,Op.unary])
theorem zFu {T:TypeId} {k:IntKind} {i:Int} (hop:o.op = .unOp .neg T x) (hx:evR R x=some (.int k i)) (hr:k.wrap (0 - i) = -i):Ev P w0 n d R H o (.int k (-i)) :=
 (fun a w q=>by unfold execOp;rw [hop];simp only [Sem.run_bind,q.ev hx,Op.unary,Op.intArith,Sem.run_pure,Result.andThen_ok,hr])
theorem e_add (hop:o.op = .binOp .add T x y T') (hx:evR R x=some (.int k i)) (hy:evR R y=some (.int k j)) (hr:k.wrap (i+j)=i+j):Ev P w0 n d R H o (.int k (i+j)) :=
 (fun a w q=>by unfold execOp;rw [hop];simp [q.ev hx,q.ev hy,eqGuard,binOp,Op.intArith,hr])
theorem zEN {m:Nat} (hop:o.op = .binOp .add T x y T') (hx:evR R x=some (.int .i64 (m:Int))) (hy:evR R y=some (.int .i64 1)) (hr:m<9223372036854775807):Ev P w0 n d R H o (.int .i64 ((m+1:Nat):Int)) :=
 (fun a w q=>by
  unfold execOp;rw [hop]
  have:=IntWalk.i64_in ((m:Int)+1) (by omega)
  simp [q.ev hx,q.ev hy,eqGuard,binOp,Op.intArith,this])
theorem e_sub (hop:o.op = .binOp .sub T x y T') (hx:evR R x=some (.int k i)) (hy:evR R y=some (.int k j)) (hr:k.wrap (i - j)=i - j):Ev P w0 n d R H o (.int k (i - j)) :=
 (fun a w q=>by unfold execOp;rw [hop];simp [q.ev hx,q.ev hy,eqGuard,binOp,Op.intArith,hr])
theorem zB9 {p:Addr} (hop:o.op = .nilCheck x) (hx:evR R x=some (.pointer (some p))):Ev P w0 n d R H o (.pointer (some p)) :=
 (fun a w q=>by unfold execOp;rw [hop];simp [q.ev hx])
theorem zGp {e:TypeId} {s:Nat} {g:Bool} {A:Option Addr} {m c:Nat} (hop:o.op = .call ⟨.builtin .len,#[x],#[T]⟩) [i1:TyI P T (.slice e) s g] (hx:evR R x=some (.slice A m c)):Ev P w0 n d R H o (.int .i64 (m:Int)) :=
 (fun a w q=>by
  unfold execOp;rw [hop]
  have e1:=run_underlying i1.und w
  simp [q.ev hx,resolve,invoke,builtin,Builtin.len_,e1,goInt])
theorem e_min {ts:Array TypeId} (hop:o.op = .call ⟨.builtin .min,#[x,y],ts⟩) (hx:evR R x=some (.int k i)) (hy:evR R y=some (.int k j)):Ev P w0 n d R H o (.int k (min i j)) :=
 (fun a w q=>by
  unfold execOp;rw [hop]
  have:(if j<i then j else i)=min i j:=by omega
  simp [q.ev hx,q.ev hy,resolve,invoke,builtin,Builtin.min_,Builtin.min2,this])
theorem zAb {m b off off':Nat} (hop:o.op = .fieldAddr T x m) [i1:FoI P T m off'] (hx:evR R x=some (.pointer (some ⟨b,off,none⟩))):Ev P w0 n d R H o (.pointer (some ⟨b,off+off',none⟩)) :=
 (fun a w q=>by
  unfold execOp;rw [hop]
  simp only [q.ev hx,Sem.run_bind,i1.at_,Result.andThen_ok,Sem.run_pure])
theorem zBU {e:TypeId} {s s' b off m c:Nat} {g g':Bool} {td:TypeDesc} {I:Nat} (hop:o.op = .indexAddr T x y) [i1:TyI P T (.slice e) s g] [i2:TyI P e td s' g'] (hx:evR R x=some (.slice (some ⟨b,off,none⟩) m c)) (hy:evR R y=some (.int k i)) (hI:i=(I:Int)) (hi:I<m):Ev P w0 n d R H o (.pointer (some ⟨b,off+I * s',none⟩)) :=
 (fun a w q=>by
  subst hI
  unfold execOp;rw [hop]
  have e1:=run_underlying i1.und w
  have e2:=i2.siz w
  have h0:(0:Int)≤I:=by omega
  have h1:(I:Int)<m:=by omega
  simp [q.ev hx,q.ev hy,Instr.indexAt,asIntOf,e1,e2,hi,zBX])
theorem zA6 {e:TypeId} {s s' b off m:Nat} {g g':Bool} {td:TypeDesc} {I:Nat} (hop:o.op = .indexAddr T x y) [i1:TyI P T (.array m e) s g] [i2:TyI P e td s' g'] (hx:evR R x=some (.pointer (some ⟨b,off,none⟩))) (hy:evR R y=some (.int k i)) (hI:i=(I:Int)) (hi:I<m):Ev P w0 n d R H o (.pointer (some ⟨b,off+I * s',none⟩)) :=
 (fun a w q=>by
  subst hI
  unfold execOp;rw [hop]
  have e1:=run_underlying i1.und w
  have e2:=i2.siz w
  have h0:(0:Int)≤I:=by omega
  have h1:(I:Int)<m:=by omega
  simp [q.ev hx,q.ev hy,Instr.indexAt,asIntOf,e1,e2,hi,zBX,Instr.sureAddr])
theorem e_build {T:TypeId} {ps:Array (Nat × Operand)} {pl:List (Nat × Nat)} {z cs:List Value} {qs:List (Nat × Value)} (hop:o.op = .build T ps) [i1:TyB P T pl z] (hp:evp R ps.toList=some qs)
  (hf:fillL (pl[·]?) z qs=some cs):Ev P w0 n d R H o (.agg cs.toArray) :=
 (fun a w q=>by
  unfold execOp;rw [hop]
  have e1:(ps.map fun (i,x)=>(i,a.eval x)).toList=qs:=by rw [Array.toList_map];exact q.evp hp
  have e2:P.built T (ps.map fun (i,x)=>(i,a.eval x)).toList=some cs.toArray:=by
   rw [i1.bui,e1]
   have:=fill_eq (pl[·]?) qs z cs hf
   simpa using this
  simp only [Sem.run_bind,run_build w T _ _ e2,Result.andThen_ok,Sem.run_pure])
theorem e_load {T:TypeId} {td:TypeDesc} {s b off:Nat} {g:Bool} {vs:List Value} (hop:o.op = .load T x) [i1:TyI P T td s g] (hx:evR R x=some (.pointer (some ⟨b,off,none⟩))) (hs:Src w0 H b off vs) (hv:rdv g vs s=some v):Ev P w0 n d R H o (v) :=
 (fun a w q=>by
  unfold execOp;rw [hop]
  have e1:=i1.agg w
  have e2:=i1.siz w
  have hc:=hs w q.below q.own
  cases g
  ·simp only [rdv] at hv
   have:=hc 0 v hv
   simp only [Nat.add_zero] at this
   simp [q.ev hx,Instr.loadAt,Instr.sureAddr,loadVar,e1,this]
  ·simp only [rdv] at hv
   cases hl:Nat.ble s vs.length with
   | false=>rw [hl] at hv;simp at hv
   | true =>
    rw [hl] at hv
    simp only [cond_true,Option.some.injEq] at hv
    subst hv
    have hlen:(vs.take s).length=s:=by have:=Nat.le_of_ble_eq_true hl;simp;omega
    have:=run_loadCells_list (P:=P) w ⟨b,off,none⟩ (vs.take s) (fun j u hu=>by
     rw [zBX]
     refine hc j u ?_
     rw [List.getElem?_take] at hu
     split at hu
     ·exact hu
     ·cases hu)
    rw [hlen] at this
    simp [q.ev hx,Instr.loadAt,Instr.sureAddr,loadVar,e1,e2,this])
theorem zAA {td:TypeDesc} {s b off:Nat} {g:Bool} {vs:List Value} (hop:o.op = .load T x) [i1:TyI P T td s g] (hx:evR R x=some (.pointer (some ⟨b,off,none⟩))) [i2:zES w0 H b off vs] (hv:rdv g vs s=some v):Ev P w0 n d R H o v:=e_load hop hx i2.src hv
theorem zGq {ps:Array (Nat × Operand)} {pl:List (Nat × Nat)} {z cs:List Value} {qs:List (Nat × Value)} (hop:o.op = .build T ps) [i1:TyB P T pl z] (hp:evp R ps.toList=some qs) (hf:fillL (pl[·]?) z qs=some cs):Ev P w0 n d R H o (.agg cs.toArray):=e_build hop hp hf
end
section
variable {S : Pend} {P:Program} {w0:World} {n:Nat} {d:List Deferred} {R0:List (Nat × Value)} {H0:List Ent} {Q:Exit→Act→World→Prop} {ops:Array Oper} {bs:List (List Bool)} {b:List Bool} {k:Nat} {o:Oper} {rest:List Oper} {T:List Rw} {t:Tmp} {Hk:zAC→List Ent} {x y:Operand} {v:Value}
abbrev Rk (R0:List (Nat × Value)) (ops:Array Oper) (b:List Bool) (o:Oper) (T:List Rw) (G:zAC):List (Nat × Value):=zEf (regsT (fltT b T) G++R0) (o.looksAt ops)
def CAt (ro:Option Nat) (S:Pend) (P:Program) (w0:World) (n:Nat) (d:List Deferred) (ops:Array Oper) (R0:List (Nat × Value)) (H0:List Ent) (Q:Exit→Act→World→Prop) (b:List Bool) (bs:List (List Bool)) (k:Nat) (o:Oper) (rest:List Oper) (T:List Rw) (Hk:zAC→List Ent):Prop :=
 (∀ G,zc (fltT b T) G++H0=Hk G)→S.free k=true→zAG ro S P w0 n d ops R0 H0 Q (b::bs) k (o::rest) T
theorem zB0 (hk:S.free k=true) (h:∃ Hk:zAC→List Ent,(∀ G,zc (fltT b T) G++H0=Hk G)∧CAt ro S P w0 n d ops R0 H0 Q b bs k o rest T Hk):zAG ro S P w0 n d ops R0 H0 Q (b::bs) k (o::rest) T:=by
 obtain ⟨Hk,h1,h2⟩:=h
 exact h2 h1 hk
theorem zAE {F:TypeId} {x:Operand} {i:Nat} (hop:o.op = .fieldAddr F x i) (h:CAt ro S P w0 n d ops R0 H0 Q b bs k o rest T Hk):CAt ro S P w0 n d ops R0 H0 Q b bs k o rest T Hk:=h
theorem zBE (hb:((b::bs).all fun b=>b.all id)=true) (h:∀ G,U w0 n d (regsT T G++R0) (S.at k++(zc T G++H0)) (wpL ro P ops Q (o::rest))):zAG ro S P w0 n d ops R0 H0 Q (b::bs) k (o::rest) T:=.inr ⟨hb,h⟩
theorem zDz {f:zAC→Value × List Ent} (hl:Loc b k f) (hd:∀ G,Grows P w0 n d (Rk R0 ops b o T G) (Hk G) ops o (fun v E=>∃ x,(v,E)=f (upW G k x))) (h:zAG ro S P w0 n d ops R0 H0 Q bs (k+1) rest (⟨k,o.dst,f⟩::T)):CAt ro S P w0 n d ops R0 H0 Q b bs k o rest T Hk :=
 fun hH hk=>.inl ⟨f,hl,.inl ⟨hk,fun G=>by rw [hH G];exact hd G⟩,h⟩
theorem zHe {T1:TypeId} {td:TypeDesc} {s bm off:Nat} {g:Bool} {cs cs':List Value} (hop:o.op = .store T1 x y) [i1:TyI P T1 td s g] (hw:∀ G,want (Rk R0 ops b o T G) ops o=some true) (hd:o.dst=none) (hk:S.k=k) (h0:S.e0=[.blk bm cs]) (h1:S.e1=[.blk bm cs']) (hx:∀ G,evR (Rk R0 ops b o T G) x=some (.pointer (some ⟨bm,off,none⟩))) (hy:∀ G,evR (Rk R0 ops b o T G) y=some v)
  (hv:Nat.beq v.cells.toList.length s=true) (hv1:v.cells.toList.all Value.oneCell'=true) (hl:Nat.ble (off+s) cs.length=true) (hc:put1 cs off v.cells.toList=cs') (h:zAG ro S P w0 n d ops R0 H0 Q bs (k+1) rest (⟨k,none,fun _=>(undef,[])⟩::T)):zAG ro S P w0 n d ops R0 H0 Q (b::bs) k (o::rest) T :=
 .inl ⟨fun _=>(undef,[]),fun _ _ _=>rfl,.inr ⟨hk,hd,rfl,fun G F L a w q ho K hK=>by
  rw [zA7 q (hw G),if_pos rfl]
  rw [h0] at ho
  rw [h1] at hK
  have hb:Blk w bm cs.toArray:=ho.here (.blk bm cs) (by simp)
  have hs:v.cells.toList.length=s:=Nat.eq_of_beq_eq_true hv
  have hlen:=Nat.le_of_ble_eq_true hl
  have e1:=i1.siz w
  obtain ⟨g1,g2,g3,g4,g5,g6⟩:=zBi bm v.cells.toList off w cs hb
  have hfoot:w0.heap.size≤bm:=(ho.foot (.blk bm cs) (by simp) bm rfl).1
  have hrun:(Instr.storeAt T1 (.pointer (some ⟨bm,off,none⟩)) v).run P w = .ok () (w.setCells bm off v.cells.toList):=by
   have:=run_storeCells_cells (P:=P) bm off v.cells.toList 0 w (fun j hj=>by have h9:off+j<cs.length:=(by omega);rw [hb.cell];simp [h9]) (fun j hj=>hb.frozen _) (fun u hu=>List.all_eq_true.1 hv1 u hu)
   simp only [Nat.add_zero] at this
   have hsz:¬ v.cells.size≠s:=by simpa using hs
   unfold Instr.storeAt storeVar
   simp only [Sem.run_bind,Instr.sureAddr,Sem.run_pure,Result.andThen_ok,e1,Sem.run_ite,hsz,if_false,this]
  unfold Oper.wp execOp;rw [hop]
  simp only [Sem.run_bind,q.ev (hx G),q.ev (hy G),hrun,Result.andThen_ok,Sem.run_pure,Oper.upon_skip,hd]
  refine hK _ ?_ ?_
  ·exact q.below.trans ⟨g2,g3,g4,by omega,fun k hk=>g6 k (by omega)⟩
  ·exact ho.turn (by omega) (fun k hk hn=>g6 k hn) q.base (hc ▸ g1) (fun k hk=>by
    cases hk
    exact ⟨.inl rfl,by rw [g5];exact (ho.foot (.blk bm cs) (by simp) bm rfl).2⟩)⟩,by rw [hd];exact h⟩
abbrev zET (b:List Bool) (k:Nat) {α:Type} (f:zAC→α):Prop:=∀ G G':zAC,(∀ j,zAg b k j=true→G j=G' j)→f G=f G'
theorem zET.up {α:Type} {f:zAC→α} (h:zET b k f) (G:zAC) (x:Wit):f (upW G k x)=f G :=
 h _ _ (fun j hj=>by have:=zDA hj;simp [upW];omega)
theorem zET.loc {α:Type} {f:zAC→α} (h:zET b k f) (G G':zAC) (hG:∀ j,(j=k∨zAg b k j=true)→G j=G' j):f G=f G':=h G G' (fun j hj=>hG j (.inr hj))
theorem zK (val:zAC→Value) (he:∀ G,Ev P w0 n d (Rk R0 ops b o T G) (Hk G) o (val G)) (hw:∀ G,want (Rk R0 ops b o T G) ops o=some true) (hd:o.dst=some t) (hl:zET b k val) (h:zAG ro S P w0 n d ops R0 H0 Q bs (k+1) rest (⟨k,some t,fun G=>(val G,[])⟩::T)):CAt ro S P w0 n d ops R0 H0 Q b bs k o rest T Hk:=by
 refine zDz (f:=fun G=>(val G,[])) (fun G G' hG=>by simp only [hl.loc G G' hG]) (fun G a w q K hK=>?_) (by rw [hd];exact h)
 rw [zA7 q (hw G),if_pos rfl]
 unfold Oper.wp
 rw [he G a w q,Oper.upon_value]
 exact hK _ [] _ ⟨⟨0,none,0⟩,by simp only [hl.up]⟩ (Below.refl _ _) (Own.nil _ _)
end
end Go.Proofs.YtcpdjamlhhfbhaaDoor
