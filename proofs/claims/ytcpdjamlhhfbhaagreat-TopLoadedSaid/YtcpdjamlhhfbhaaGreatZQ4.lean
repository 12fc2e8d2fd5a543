/- ZQ4 -/
import Derived.Test.YtcpdjamlhhfbhaaGreatZQ3
set_option linter.unusedSimpArgs false
set_option linter.unusedVariables false
namespace Go.Proofs.YtcpdjamlhhfbhaaGreat.Two
variable {ro : Option Nat}
open Go.RowKit
def vis : List (Nat × Nat)→Nat→List Bool→List Bool
 | [],_,b=>b
 | p::S,k,b=>if p.2=k∨k≤p.1 then vis S k b else (vis S k b).set (k - 1 - p.1) false
def takes (S:List (Nat × Nat)) (k:Nat):Bool:=S.any fun p=>Nat.beq p.2 k
def gone (S:List (Nat × Nat)) (listed:Nat→Bool) (j:Nat):Bool:=S.any fun p=>Nat.beq j p.1 && listed p.2
def lft (S:List (Nat × Nat)) (m:Nat):List Rw→List Rw
 | []=>[]
 | r::T=>cond (gone S (fun k=>Nat.blt k m) r.i) (lft S m T) (r::lft S m T)
theorem zBY {m:Nat}:∀ {T:List Rw},lft [] m T=T
 | []=>rfl
 | r::T=>by unfold lft gone;simp [zBY (T:=T)]
def only (j:Nat):List Rw→List Rw
 | []=>[]
 | r::T=>cond (Nat.beq r.i j) [r] (only j T)
def keyI (I:List (Nat × Nat × Nat × List Ent)) (k:Nat):Bool:=I.any fun p=>Nat.beq p.1 k
def ini : List (Nat × Nat × Nat × List Ent)→(Nat→Bool)→List Ent
 | [],_=>[]
 | p::I,f=>cond (f p.1) (ini I f) (p.2.2.2++ini I f)
def see : List (Nat × Nat × Nat × List Ent)→Nat→List Ent
 | [],_=>[]
 | p::I,k=>if p.2.1≤k∧k<p.2.2.1 then p.2.2.2++see I k else see I k
theorem zII {k:Nat} {f:Nat→Bool}:∀ {I:List (Nat × Nat × Nat × List Ent)},(∀ p∈I,p.2.1≤k→k<p.2.2.1→f p.1=false)→(see I k).Sublist (ini I f)
 | [],_=>List.Sublist.slnil
 | p::I,h=>by
  have ih:=zII (I:=I) (fun q hq=>h q (List.mem_cons_of_mem _ hq))
  simp only [see,ini]
  by_cases hc:p.2.1≤k∧k<p.2.2.1
  ·rw [if_pos hc,h p (by simp) hc.1 hc.2]
   exact List.Sublist.append (List.Sublist.refl _) ih
  ·rw [if_neg hc]
   cases f p.1
   ·exact ih.trans (List.sublist_append_right _ _)
   ·exact ih
theorem Own.sublist {base:Nat} {w:World} {H H':List Ent} (hs:H'.Sublist H) (h:Own base w H):Own base w H' :=
 ⟨fun e he=>h.here e (hs.subset he),fun e he=>h.foot e (hs.subset he),h.apart.sublist hs⟩
def chkV (bs:List (List Bool)) (V:List (Nat × Nat × Nat)):Bool:=V.all fun v=>(List.range v.2.2).all fun k=>Nat.blt k v.2.1 || bitB bs v.1 k
theorem zCl {f g:Nat→Bool}:∀ {I:List (Nat × Nat × Nat × List Ent)},(∀ p∈I,f p.1=g p.1)→ini I f=ini I g
 | [],_=>rfl
 | p::I,h=>by
  simp only [ini]
  rw [h p (by simp),zCl (fun q hq=>h q (List.mem_cons_of_mem _ hq))]
theorem zCR {f:Nat→Bool}:∀ {I J:List (Nat × Nat × Nat × List Ent)},ini (I++J) f=ini I f++ini J f
 | [],_=>rfl
 | p::I,J=>by
  simp only [List.cons_append,ini,zCR]
  cases f p.1<;>simp
theorem zGN : ∀ (S:List (Nat × Nat)) (b:List Bool) (k j:Nat),zBu (vis S k b) k j=true→zBu b k j=true∧∀ p∈S,p.1=j→p.2=k
 | [],b,k,j,h=>⟨h,by simp⟩
 | p::S,b,k,j,h=>by
  simp only [vis] at h
  by_cases hc:p.2=k∨k≤p.1
  ·rw [if_pos hc] at h
   obtain ⟨h1,h2⟩:=zGN S b k j h
   refine ⟨h1,fun q hq hqj=>?_⟩
   rcases List.mem_cons.1 hq with rfl|hq
   ·have:=zD6 h
    omega
   ·exact h2 q hq hqj
  ·rw [if_neg hc] at h
   have hlt:=zD6 h
   by_cases e:p.1=j
   ·exfalso
    simp only [zBu,Bool.and_eq_true] at h
    rw [e] at h
    have:=h.2
    rw [List.getD_eq_getElem?_getD,List.getElem?_set] at this
    simp only [if_true] at this
    split at this<;>simp at this
   ·have h9:zBu (vis S k b) k j=true:=by
     simp only [zBu,Bool.and_eq_true] at h ⊢
     refine ⟨h.1,?_⟩
     have h2:=h.2
     rw [List.getD_eq_getElem?_getD,List.getElem?_set_ne (by omega),← List.getD_eq_getElem?_getD] at h2
     exact h2
    obtain ⟨h1,h2⟩:=zGN S b k j h9
    refine ⟨h1,fun q hq hqj=>?_⟩
    rcases List.mem_cons.1 hq with rfl|hq
    ·exact absurd hqj e
    ·exact h2 q hq hqj
section
variable {S : List (Nat × Nat)} {I:List (Nat × Nat × Nat × List Ent)} {P:Program} {w0:World} {n:Nat} {d:List Deferred} {R0:List (Nat × Value)} {H0:List Ent} {Q:Exit→Act→World→Prop} {ops:Array Oper} {bs:List (List Bool)}
def Duty (S:List (Nat × Nat)) (I:List (Nat × Nat × Nat × List Ent)) (P:Program) (w0:World) (n:Nat) (d:List Deferred) (ops:Array Oper) (R0:List (Nat × Value)) (H0:List Ent) (b:List Bool) (k:Nat) (o:Oper) (T:List Rw) (f:zAr→Value × List Ent):Prop :=
 ∀ G,Grows P w0 n d (opsR (regsT (fltT b T) G++R0) (o.looksAt ops)) (see I k++(zAV (fltT (vis S k b) T) G++H0)) ops o (fun v E=>∃ x,(v,E)=f (upW G k x))
def Takes (S:List (Nat × Nat)) (I:List (Nat × Nat × Nat × List Ent)) (P:Program) (w0:World) (n:Nat) (d:List Deferred) (ops:Array Oper) (R0:List (Nat × Value)) (H0:List Ent) (b:List Bool) (k:Nat) (o:Oper) (T:List Rw) (f:zAr→Value × List Ent) (E0:zAr→List Ent):Prop :=
 ∀ G (L:List Ent) a w,Kn w0 n d (opsR (regsT (fltT b T) G++R0) (o.looksAt ops)) (see I k++(zAV (fltT (vis S k b) T) G++H0)) a w→Own w0.heap.size w (E0 G++L)→∀ K:Act→World→Prop,(∀ v E w',(∃ x,(v,E)=f (upW G k x))→Below w0.heap.size w0 w'→Own w0.heap.size w' (E++L)→K (a.put o.dst v) w') →
  if Region.wanted o (yielded ops a.tmps)=true then o.wp P a w K (fun _ _ _=>False) else K (a.put o.dst undef) w
def Step (S:List (Nat × Nat)) (I:List (Nat × Nat × Nat × List Ent)) (P:Program) (w0:World) (n:Nat) (d:List Deferred) (ops:Array Oper) (R0:List (Nat × Value)) (H0:List Ent) (b:List Bool) (k:Nat) (o:Oper) (T:List Rw) (f:zAr→Value × List Ent):Prop :=
 (keyI I k=false∧takes S k=false∧Duty S I P w0 n d ops R0 H0 b k o T f)∨(keyI I k=false∧∃ j,(j,k)∈S∧Takes S I P w0 n d ops R0 H0 b k o T f (zAV (only j T)))∨(takes S k=false∧∃ lo hi E0,(k,lo,hi,E0)∈I∧Takes S I P w0 n d ops R0 H0 b k o T f (fun _=>E0))
def zBa (ro:Option Nat) (S:List (Nat × Nat)) (I:List (Nat × Nat × Nat × List Ent)) (P:Program) (w0:World) (n:Nat) (d:List Deferred) (ops:Array Oper) (R0:List (Nat × Value)) (H0:List Ent) (Q:Exit→Act→World→Prop):List (List Bool)→Nat→List Oper→List Rw→Prop
 | b::bs,k,o::rest,T =>
  (∃ f,Loc b k f∧Step S I P w0 n d ops R0 H0 b k o T f∧zBa ro S I P w0 n d ops R0 H0 Q bs (k+1) rest (⟨k,o.dst,f⟩::T)) ∨
  (((b::bs).all fun b=>b.all id)=true∧∀ G,U w0 n d (regsT T G++R0) (ini I (fun j=>Nat.blt j k)++(zAV (lft S k T) G++H0)) (wpL ro P ops Q (o::rest)))
 | [],k,[],T=>∀ G,U w0 n d (regsT T G++R0) (ini I (fun j=>Nat.blt j k)++(zAV (lft S k T) G++H0)) (Q .normal)
 | _,_,_,_=>False
inductive zBw (S:List (Nat × Nat)) (I:List (Nat × Nat × Nat × List Ent)) (P:Program) (w0:World) (n:Nat) (d:List Deferred) (ops:Array Oper) (R0:List (Nat × Value)) (H0:List Ent) (bs:List (List Bool)):List Rw→Prop
 | nil:zBw S I P w0 n d ops R0 H0 bs []
 | cons {T:List Rw} {o:Oper} {b:List Bool} {f:zAr→Value × List Ent} (h:zBw S I P w0 n d ops R0 H0 bs T) (ho:ops[T.length]?=some o) (hb:bs[T.length]?=some b) (hl:Loc b T.length f) (hd:Step S I P w0 n d ops R0 H0 b T.length o T f):zBw S I P w0 n d ops R0 H0 bs (⟨T.length,o.dst,f⟩::T)
def zHY (ro:Option Nat) (S:List (Nat × Nat)) (I:List (Nat × Nat × Nat × List Ent)) (P:Program) (w0:World) (n:Nat) (d:List Deferred) (ops:Array Oper) (R0:List (Nat × Value)) (H0:List Ent) (Q:Exit→Act→World→Prop) (bs:List (List Bool)) (T:List Rw):Prop :=
 (∀ k b,T.length≤k→bs[k]?=some b→b.all id=true)∧∀ G,U w0 n d (regsT T G++R0) (ini I (fun j=>Nat.blt j T.length)++(zAV (lft S T.length T) G++H0)) (wpL ro P ops Q (ops.toList.drop T.length))
theorem zGF : ∀ (bs':List (List Bool)) (k:Nat) (rest:List Oper) (T:List Rw),T.length=k→bs.drop k=bs'→ops.toList.drop k=rest→zBw S I P w0 n d ops R0 H0 bs T→zBa ro S I P w0 n d ops R0 H0 Q bs' k rest T →
  ∃ T',zBw S I P w0 n d ops R0 H0 bs T'∧zHY ro S I P w0 n d ops R0 H0 Q bs T'
 | [],k,[],T,hk,hb,ho,hB,h=>by
  refine ⟨T,hB,fun j b hj hbj=>?_,fun G=>?_⟩
  ·have:bs.length≤k:=by simpa using hb
   rw [List.getElem?_eq_none (by omega)] at hbj;cases hbj
  ·rw [hk,ho]
   exact zU (h G)
 | b::bs',k,o::rest,T,hk,hb,ho,hB,h=>by
  rcases h with ⟨f,hl,hd,hc⟩ | ⟨hall,hU⟩
  ·have h1:bs[k]?=some b:=by rw [← List.getElem?_drop_zero_aux hb]
   have h2:ops[k]?=some o:=by
    have:=List.getElem?_drop_zero_aux ho
    simpa using this
   subst hk
   exact zGF bs' (T.length+1) rest _ (by simp) (by rw [← List.drop_drop,hb];rfl) (by rw [← List.drop_drop,ho];rfl) (zBw.cons hB h2 h1 hl hd) hc
  ·refine ⟨T,hB,fun j c hj hcj=>?_,fun G=>?_⟩
   ·refine List.all_eq_true.1 hall c ?_
    rw [← hb]
    refine List.mem_of_getElem? (i:=j - k) ?_
    rw [List.getElem?_drop,show k+(j - k)=j by omega];exact hcj
   ·rw [hk,ho];exact hU G
 | [],k,_::_,T,_,_,_,_,h=>h.elim
 | _::_,k,[],T,_,_,_,_,h=>h.elim
where
 List.getElem?_drop_zero_aux {α:Type} {l r:List α} {k:Nat} {x:α} (h:l.drop k=x::r):l[k]?=some x:=by
  have:(l.drop k)[0]?=some x:=by rw [h];rfl
  simpa [List.getElem?_drop] using this
end
section
variable {S : List (Nat × Nat)} {I:List (Nat × Nat × Nat × List Ent)} {P:Program} {w0:World} {n:Nat} {d:List Deferred} {R0:List (Nat × Value)} {H0:List Ent} {Q:Exit→Act→World→Prop} {ops:Array Oper} {bs:List (List Bool)}
theorem zAv {T:List Rw} (h:zBw S I P w0 n d ops R0 H0 bs T):∀ r∈T,r.i<T.length∧∃ o b,ops[r.i]?=some o∧bs[r.i]?=some b∧r.dst=o.dst∧Loc b r.i r.f∧∃ T',T'.length=r.i∧(∀ x∈T',x∈T)∧zBw S I P w0 n d ops R0 H0 bs T'∧Step S I P w0 n d ops R0 H0 b r.i o T' r.f:=by
 induction h with
 | nil=>intro r hr;cases hr
 | @cons T o b f h ho hb hl hd ih =>
  intro r hr
  rcases List.mem_cons.1 hr with rfl|hr
  ·exact ⟨by simp,o,b,ho,hb,rfl,hl,T,rfl,fun x hx=>List.mem_cons_of_mem _ hx,h,hd⟩
  ·obtain ⟨h1,o',b',h2,h3,h4,h5,T',h6,h7,h8,h9⟩:=ih r hr
   exact ⟨by simp;omega,o',b',h2,h3,h4,h5,T',h6,fun x hx=>List.mem_cons_of_mem _ (h7 x hx),h8,h9⟩
theorem zCp {T:List Rw} (h:zBw S I P w0 n d ops R0 H0 bs T):∀ k,k<T.length→∃ r∈T,r.i=k:=by
 induction h with
 | nil=>intro k hk;simp at hk
 | @cons T o b f h ho hb hl hd ih =>
  intro k hk
  simp only [List.length_cons] at hk
  rcases Nat.lt_or_ge k T.length with h1|h1
  ·obtain ⟨r,hr,hi⟩:=ih k h1
   exact ⟨r,List.mem_cons_of_mem _ hr,hi⟩
  ·exact ⟨_,List.mem_cons_self,by simp;omega⟩
theorem zB4 {T:List Rw} (h:zBw S I P w0 n d ops R0 H0 bs T):∀ r∈T,∀ r'∈T,r.i=r'.i→r=r':=by
 induction h with
 | nil=>intro r hr;cases hr
 | @cons T o b f h ho hb hl hd ih =>
  intro r hr r' hr' e
  rcases List.mem_cons.1 hr with rfl|hr<;>rcases List.mem_cons.1 hr' with rfl|hr'
  ·rfl
  ·have:=(zAv h r' hr').1;simp at e;omega
  ·have:=(zAv h r hr).1;simp at e;omega
  ·exact ih r hr r' hr' e
theorem zEl {T:List Rw} (h:zBw S I P w0 n d ops R0 H0 bs T):T.Nodup:=by
 induction h with
 | nil=>exact List.nodup_nil
 | @cons T o b f h ho hb hl hd ih =>
  refine List.nodup_cons.2 ⟨fun hm=>?_,ih⟩
  have:=(zAv h _ hm).1
  simp at this
theorem zEt {T:List Rw} (h:zBw S I P w0 n d ops R0 H0 bs T):∀ (b:List Bool) (r:Rw),r∈T→(r∈fltT b T↔zBu b T.length r.i=true):=by
 induction h with
 | nil=>intro b r hr;cases hr
 | @cons T o b0 f h ho hb hl hd ih =>
  intro b r hr
  have hlt:=zAv h
  cases b with
  | nil=>simp [fltT,zBu]
  | cons c b =>
   rcases List.mem_cons.1 hr with rfl|hr
   ·have hnot:(⟨T.length,o.dst,f⟩:Rw) ∉ T:=fun hm=>by have:=(hlt _ hm).1;simp at this
    cases c
    ·simp only [fltT,zBu,List.length_cons]
     constructor
     ·intro hm;exact absurd (zCm _ _ _ hm) hnot
     ·intro hm;simp at hm
    ·simp [fltT,zBu]
   ·have hi:=(hlt r hr).1
    have hne:r≠⟨T.length,o.dst,f⟩:=by rintro rfl;simp at hi
    have e1:zBu (c::b) (T.length+1) r.i=zBu b T.length r.i:=by
     have a1:T.length+1 - 1 - r.i=(T.length - 1 - r.i)+1:=by omega
     simp only [zBu,a1,List.getD_cons_succ]
     have a2:Nat.blt r.i (T.length+1)=true:=Nat.ble_eq_true_of_le (by omega)
     have a3:Nat.blt r.i T.length=true:=Nat.ble_eq_true_of_le (by omega)
     rw [a2,a3]
    have:=ih b r hr
    cases c
    ·simp only [fltT,List.length_cons,e1];exact this
    ·simp only [fltT,List.length_cons,e1,List.mem_cons,hne,false_or];exact this
theorem zDy : ∀ (T:List Rw) (m:Nat) (r:Rw),r∈lft S m T↔r∈T∧gone S (fun k=>Nat.blt k m) r.i=false
 | [],m,r=>by simp [lft]
 | x::T,m,r=>by
  simp only [lft]
  cases hg:gone S (fun k=>Nat.blt k m) x.i with
  | true =>
   simp only [cond_true,zDy T m r,List.mem_cons]
   constructor
   ·exact fun h=>⟨.inr h.1,h.2⟩
   ·rintro ⟨rfl|h,h2⟩
    ·rw [hg] at h2;cases h2
    ·exact ⟨h,h2⟩
  | false =>
   simp only [cond_false,List.mem_cons,zDy T m r]
   constructor
   ·rintro (rfl|h)
    ·exact ⟨.inl rfl,hg⟩
    ·exact ⟨.inr h.1,h.2⟩
   ·rintro ⟨rfl|h,h2⟩
    ·exact .inl rfl
    ·exact .inr ⟨h,h2⟩
theorem zEL : ∀ {T:List Rw} (m:Nat),T.Nodup→(lft S m T).Nodup
 | [],m,h=>by simp [lft]
 | x::T,m,h=>by
  have h1:=List.nodup_cons.1 h
  simp only [lft]
  cases gone S (fun k=>Nat.blt k m) x.i with
  | true=>exact zEL m h1.2
  | false=>exact List.nodup_cons.2 ⟨fun hm=>h1.1 ((zDy T m x).1 hm).1,zEL m h1.2⟩
theorem only_eq {T:List Rw} {r:Rw}:(∀ x∈T,∀ y∈T,x.i=y.i→x=y)→r∈T→only r.i T=[r]:=by
 induction T with
 | nil=>intro _ h;cases h
 | cons x T ih =>
  intro hu hr
  simp only [only]
  cases hb:Nat.beq x.i r.i with
  | true =>
   have:=hu x (by simp) r hr (Nat.eq_of_beq_eq_true hb)
   rw [this];rfl
  | false =>
   rcases List.mem_cons.1 hr with rfl|hr
   ·rw [Nat.beq_refl] at hb;cases hb
   ·exact ih (fun a ha b hb=>hu a (List.mem_cons_of_mem _ ha) b (List.mem_cons_of_mem _ hb)) hr
def chkS (bs:List (List Bool)) (S:List (Nat × Nat)):Bool:=(S.all fun p=>bitB bs p.2 p.1) && (S.all fun p=>S.all fun q=>(!(Nat.beq p.1 q.1 || Nat.beq p.2 q.2)) || (Nat.beq p.1 q.1 && Nat.beq p.2 q.2))
structure ChkS (bs:List (List Bool)) (S:List (Nat × Nat)):Prop where
 bit:∀ p∈S,bitB bs p.2 p.1=true
 one:∀ p∈S,∀ q∈S,p.1=q.1∨p.2=q.2→p=q
theorem chkS_of {bs:List (List Bool)} {S:List (Nat × Nat)} (h:chkS bs S=true):ChkS bs S:=by
 simp only [chkS,Bool.and_eq_true] at h
 refine ⟨fun p hp=>List.all_eq_true.1 h.1 p hp,fun p hp q hq he=>?_⟩
 have h1:=List.all_eq_true.1 (List.all_eq_true.1 h.2 p hp) q hq
 simp only [Bool.or_eq_true,Bool.not_eq_true',Bool.or_eq_false_iff,Bool.and_eq_true] at h1
 rcases h1 with h1|h1
 ·rcases he with e|e
  ·rw [e,Nat.beq_refl] at h1;cases h1.1
  ·rw [e,Nat.beq_refl] at h1;cases h1.2
 ·exact Prod.ext (Nat.eq_of_beq_eq_true h1.1) (Nat.eq_of_beq_eq_true h1.2)
def eff (S:List (Nat × Nat)) (listed:Array Bool) (G:zAr) (r:Rw):List Ent:=if gone S (fun k=>listed.getD k false) r.i=true then [] else (r.f G).2
structure CInv (S:List (Nat × Nat)) (I:List (Nat × Nat × Nat × List Ent)) (w0:World) (n:Nat) (d:List Deferred) (R0:List (Nat × Value)) (H0:List Ent) (ops:Array Oper) (bs:List (List Bool)) (a0:Act) (T:List Rw) (listed:Array Bool) (a:Act) (w:World) (G:zAr) (ord:List Rw):Prop where
 lsize:listed.size=ops.size
 size:a.tmps.size=n
 defers:a.defers=d
 nodup:ord.Nodup
 sub:∀ r∈ord,r∈T
 iff_:∀ r∈T,(listed.getD r.i true=true↔r∈ord)
 tail:∀ k,T.length≤k→k<ops.size→listed.getD k true=false
 closed:∀ k,listed.getD k true=true→∀ j,bitB bs k j=true→listed.getD j true=true
 vals:∀ r∈ord,∀ t,r.dst=some t→a.tmps.getD t undef=(r.f G).1
 rest:∀ t,(∀ r∈ord,r.dst≠some t)→a.tmps.getD t undef=a0.tmps.getD t undef
 below:Below w0.heap.size w0 w
 own:Own w0.heap.size w (ini I (fun k=>listed.getD k false)++(ord.flatMap (eff S listed G)++H0))
theorem zCx {l:Array Bool} {k:Nat} (h:l.getD k false=true):l.getD k true=true∧k<l.size:=by
 by_cases hk:k<l.size
 ·exact ⟨by simpa [Array.getElem?_eq_getElem hk] using h,hk⟩
 ·simp [Array.getElem?_eq_none (Nat.le_of_not_lt hk)] at h
theorem getD_tf {l:Array Bool} {k:Nat} (h:l.getD k true=true) (hk:k<l.size):l.getD k false=true:=by
 simpa [Array.getElem?_eq_getElem hk] using h
theorem zB8 {f:Nat→Bool} {j:Nat}:gone S f j=true↔∃ p∈S,p.1=j∧f p.2=true:=by
 unfold gone
 rw [List.any_eq_true]
 constructor
 ·rintro ⟨p,hp,h⟩
  simp only [Bool.and_eq_true] at h
  exact ⟨p,hp,(Nat.eq_of_beq_eq_true h.1).symm,h.2⟩
 ·rintro ⟨p,hp,rfl,h⟩
  exact ⟨p,hp,by simp [h,Nat.beq_refl]⟩
theorem kn_final {T:List Rw} {listed:Array Bool} {a0 a:Act} {w:World} {G:zAr} {ord:List Rw} (hT:zBw S I P w0 n d ops R0 H0 bs T) (h0:∀ t v,lk R0 t=some v→a0.tmps.getD t undef=v) (hI:CInv S I w0 n d R0 H0 ops bs a0 T listed a w G ord) (hsz:T.length≤ops.size) (hall:∀ r∈T,r∈ord):Kn w0 n d (regsT T G++R0) (ini I (fun j=>Nat.blt j T.length)++(zAV (lft S T.length T) G++H0)) a w:=by
 refine ⟨hI.size,hI.defers,fun t v hv=>?_,hI.below,?_⟩
 ·rcases zEs T t v hv with ⟨r,hr,hd,rfl⟩ | ⟨hn,hv'⟩
  ·exact hI.vals r (hall r hr) t hd
  ·rw [hI.rest t (fun r hr=>hn r (hI.sub r hr))];exact h0 t v hv'
 ·rw [zEQ]
  have hini:ini I (fun j=>Nat.blt j T.length)=ini I (fun k=>listed.getD k false):=zCl (fun p _=>by
   rcases Nat.lt_or_ge p.1 T.length with h|h
   ·obtain ⟨r,hr,hi⟩:=zCp hT p.1 h
    have h1:=(hI.iff_ r hr).2 (hall r hr)
    rw [hi] at h1
    rw [show Nat.blt p.1 T.length=true from Nat.ble_eq_true_of_le h]
    exact (getD_tf h1 (by rw [hI.lsize];omega)).symm
   ·have h1:Nat.blt p.1 T.length=false:=by
     cases hb:Nat.blt p.1 T.length with
     | false=>rfl
     | true=>have:=Nat.le_of_ble_eq_true hb;omega
    rw [h1]
    cases hg:listed.getD p.1 false with
    | false=>rfl
    | true =>
     obtain ⟨h2,h3⟩:=zCx hg
     rw [hI.tail p.1 h (by rw [← hI.lsize];exact h3)] at h2
     cases h2)
  rw [hini]
  have h1:=Own.family2 (S':=lft S T.length T) hI.nodup (zEL _ (zEl hT)) (fun r hr=>hall r ((zDy _ _ _).1 hr).1) hI.own
  have e:(lft S T.length T).flatMap (eff S listed G)=(lft S T.length T).flatMap fun r=>(r.f G).2:=by
   rw [List.flatMap_def,List.flatMap_def]
   congr 1
   refine List.map_congr_left (fun r hr=>?_)
   unfold eff
   rw [if_neg]
   intro hg
   obtain ⟨p,hp,he,hl⟩:=zB8.1 hg
   have hlt:p.2<T.length:=by
    rcases Nat.lt_or_ge p.2 T.length with h|h
    ·exact h
    ·obtain ⟨h2,h3⟩:=zCx hl
     rw [hI.tail p.2 h (by rw [← hI.lsize];exact h3)] at h2
     cases h2
   have:=((zDy T T.length r).1 hr).2
   have hx:gone S (fun k=>Nat.blt k T.length) r.i=true:=zB8.2 ⟨p,hp,he,Nat.ble_eq_true_of_le hlt⟩
   rw [hx] at this
   cases this
  rw [e] at h1
  exact h1
theorem kn_op (hV:∀ p∈I,∀ k,p.2.1≤k→k<p.2.2.1→bitB bs p.1 k=true) (hS:ChkS bs S) (hF:ChkF ops bs) {T Tk:List Rw} {listed:Array Bool} {a0 a:Act} {w:World} {G:zAr} {ord:List Rw} {k:Nat} {o:Oper} {b:List Bool} (hT:zBw S I P w0 n d ops R0 H0 bs T) (h0:∀ t v,lk R0 t=some v→a0.tmps.getD t undef=v) (hI:CInv S I w0 n d R0 H0 ops bs a0 T listed a w G ord)
  (hr:k∈Region.ready .any ops listed) (ho:ops[k]?=some o) (hb:bs[k]?=some b) (hTk:zBw S I P w0 n d ops R0 H0 bs Tk) (hk:Tk.length=k) (hsub:∀ x∈Tk,x∈T):Kn w0 n d (opsR (regsT (fltT b Tk) G++R0) (o.looksAt ops)) (see I k++(zAV (fltT (vis S k b) Tk) G++H0)) a w:=by
 have hnl:=(mem_ready.1 hr).1
 have hrc:=zCt hF hI.closed hr
 have hin:∀ r∈fltT b Tk,r∈ord:=by
  intro r hr'
  have h1:=zCm _ _ _ hr'
  have h2:=(zEt hTk b r h1).1 hr'
  refine (hI.iff_ r (hsub r h1)).1 (hrc r.i ?_)
  unfold bitB
  rw [hb,← hk];exact h2
 refine ⟨hI.size,hI.defers,fun t v hv=>?_,hI.below,?_⟩
 ·obtain ⟨ht,hv⟩:=zGe _ t v hv
  rcases zEs _ t v hv with ⟨r,hr',hd,rfl⟩ | ⟨hn,hv'⟩
  ·exact hI.vals r (hin r hr') t hd
  ·rw [hI.rest t (fun r hro hd=>?_)]
   ·exact h0 t v hv'
   ·have hrT:=hI.sub r hro
    obtain ⟨_,o',b',ho',_,hd',_⟩:=zAv hT r hrT
    have hlr:listed.getD r.i true=true:=(hI.iff_ r hrT).2 hro
    have hne:k≠r.i:=by rintro rfl;rw [hlr] at hnl;cases hnl
    have:=hF.reads r.i k o' o t ho' (hd' ▸ hd) ho hne ht
    split at this
    ·rename_i hlt
     obtain ⟨q,hq,hqi⟩:=zCp hTk r.i (by omega)
     have e:=zB4 hT q (hsub q hq) r hrT hqi
     subst e
     refine hn q ((zEt hTk b q hq).2 ?_) hd
     unfold bitB at this
     rw [hb] at this
     rw [hk];exact this
    ·have:=hI.closed r.i hlr k this
     rw [this] at hnl;cases hnl
 ·rw [zEQ]
  have hin2:∀ r∈fltT (vis S k b) Tk,r∈ord∧gone S (fun k=>listed.getD k false) r.i=false:=fun r hr'=>by
   have h1:=zCm _ _ _ hr'
   have h2:=(zEt hTk _ r h1).1 hr'
   rw [hk] at h2
   obtain ⟨h3,h4⟩:=zGN S b k r.i h2
   refine ⟨hin r ((zEt hTk b r h1).2 (by rw [hk];exact h3)),?_⟩
   cases hg:gone S (fun k=>listed.getD k false) r.i with
   | false=>rfl
   | true =>
    obtain ⟨p,hp,he,hl⟩:=zB8.1 hg
    have:=(zCx hl).1
    rw [h4 p hp he,hnl] at this
    cases this
  have h1:=Own.family2 (S':=fltT (vis S k b) Tk) hI.nodup (zDj _ (zEl hTk)) (fun r hr=>(hin2 r hr).1) hI.own
  have e:(fltT (vis S k b) Tk).flatMap (eff S listed G)=(fltT (vis S k b) Tk).flatMap fun r=>(r.f G).2:=by
   rw [List.flatMap_def,List.flatMap_def]
   congr 1
   refine List.map_congr_left (fun r hr=>?_)
   unfold eff
   rw [if_neg (by rw [(hin2 r hr).2];simp)]
  rw [e] at h1
  refine Own.sublist (List.Sublist.append (zII (fun p hp h8 h9=>?_)) (List.Sublist.refl _)) h1
  cases hg:listed.getD p.1 false with
  | false=>rfl
  | true =>
   have:=hI.closed p.1 (zCx hg).1 k (hV p hp k h8 h9)
   rw [this] at hnl;cases hnl
theorem zH1 (hV:∀ p∈I,∀ k,p.2.1≤k→k<p.2.2.1→bitB bs p.1 k=true) (hS:ChkS bs S) (hN:(I.map (·.1)).Nodup) (hF:ChkF ops bs) {T Tk:List Rw} {listed:Array Bool} {a0 a:Act} {w:World} {G:zAr} {ord:List Rw} {o:Oper} {b:List Bool} {r:Rw} (hT:zBw S I P w0 n d ops R0 H0 bs T) (hlen:T.length≤ops.size) (h0:∀ t v,lk R0 t=some v→a0.tmps.getD t undef=v) (hdst:∀ o∈ops.toList,∀ t,o.dst=some t→t<n) (hI:CInv S I w0 n d R0 H0 ops bs a0 T listed a w G ord)
  (hrT:r∈T) (hr:r.i∈Region.ready .any ops listed) (ho:ops[r.i]?=some o) (hb:bs[r.i]?=some b) (hd:r.dst=o.dst) (hTk:zBw S I P w0 n d ops R0 H0 bs Tk) (hk:Tk.length=r.i) (hsub:∀ x∈Tk,x∈T) (hstep:Step S I P w0 n d ops R0 H0 b r.i o Tk r.f)
  {K:Act→World→Prop} (hK:∀ a' w',(∃ G' ord',CInv S I w0 n d R0 H0 ops bs a0 T (listed.setIfInBounds r.i true) a' w' G' ord')→K a' w') :
  if Region.wanted o (yielded ops a.tmps)=true then o.wp P a w K (fun _ _ _=>False) else K (a.put o.dst undef) w:=by
 have hkn:=kn_op hV hS hF hT h0 hI hr ho hb hTk hk hsub
 have hnl:=(mem_ready.1 hr).1
 have hrc:=zCt hF hI.closed hr
 have hil:r.i<listed.size:=by
  rcases Nat.lt_or_ge r.i listed.size with h|h
  ·exact h
  ·simp [Array.getElem?_eq_none h] at hnl
 have hset:∀ k,k≠r.i→(listed.setIfInBounds r.i true).getD k true=listed.getD k true:=by
  intro k hk
  simp only [Array.getD_eq_getD_getElem?]
  rw [Array.getElem?_setIfInBounds_ne (Ne.symm hk)]
 have hsi:(listed.setIfInBounds r.i true).getD r.i true=true:=by simp [hil]
 have hmono:∀ k,listed.getD k true=true→(listed.setIfInBounds r.i true).getD k true=true:=by
  intro k hk
  by_cases hki:k=r.i
  ·rw [hki];exact hsi
  ·rw [hset k hki];exact hk
 have hro:r ∉ ord:=fun h=>by rw [(hI.iff_ r hrT).2 h] at hnl;cases hnl
 have hsetf:∀ k,k≠r.i→(listed.setIfInBounds r.i true).getD k false=listed.getD k false:=by
  intro k hk
  simp only [Array.getD_eq_getD_getElem?]
  rw [Array.getElem?_setIfInBounds_ne (Ne.symm hk)]
 -- nobody has taken over what r makes
 have hrg:gone S (fun k=>(listed.setIfInBounds r.i true).getD k false) r.i=false:=by
  cases hg:gone S (fun k=>(listed.setIfInBounds r.i true).getD k false) r.i with
  | false=>rfl
  | true =>
   obtain ⟨p,hp,he,hl⟩:=zB8.1 hg
   have hbit:=hS.bit p hp
   have hlt:=(hF.clo _ _ hbit).2.1
   rw [hsetf p.2 (by omega)] at hl
   have:=hI.closed p.2 (zCx hl).1 p.1 hbit
   rw [he,hnl] at this
   cases this
 have hgn:∀ q∈ord,(∀ p∈S,p.2=r.i→q.i≠p.1)→gone S (fun k=>(listed.setIfInBounds r.i true).getD k false) q.i=gone S (fun k=>listed.getD k false) q.i:=by
  intro q hq hne
  rw [Bool.eq_iff_iff,zB8,zB8]
  constructor
  ·rintro ⟨p,hp,he,hl⟩
   refine ⟨p,hp,he,?_⟩
   rw [← hsetf p.2 (fun e=>hne p hp e he.symm)];exact hl
  ·rintro ⟨p,hp,he,hl⟩
   refine ⟨p,hp,he,?_⟩
   show (listed.setIfInBounds r.i true).getD p.2 false=true
   rw [hsetf p.2 (fun e=>hne p hp e he.symm)];exact hl
 have hini:keyI I r.i=false→ini I (fun k=>(listed.setIfInBounds r.i true).getD k false)=ini I (fun k=>listed.getD k false):=fun hk=>zCl (fun p hp=>hsetf p.1 (fun e=>by
  unfold keyI at hk
  rw [List.any_eq_false] at hk
  exact hk p hp (by rw [e];exact Nat.beq_refl _)))
 rcases hstep with ⟨hkI,hfree,hduty⟩ | ⟨hkI,j,hjk,hst⟩ | ⟨hfree,lo9,hi9,E0,hkE,hst⟩
 rotate_left
 · -- what operation j made is taken over
  have hbit:=hS.bit _ hjk
  have hlj:=hrc j (by simpa using hbit)
  have hjlt:j<r.i:=(hF.clo _ _ hbit).2.1
  obtain ⟨rj,hrj,hrji⟩:=zCp hTk j (by omega)
  have hrjT:=hsub rj hrj
  have hrjo:rj∈ord:=(hI.iff_ rj hrjT).1 (by rw [hrji];exact hlj)
  have hu:only j Tk=[rj]:=by rw [← hrji];exact only_eq (fun x hx y hy=>zB4 hTk x hx y hy) hrj
  have hjg:gone S (fun k=>listed.getD k false) rj.i=false:=by
   cases hg:gone S (fun k=>listed.getD k false) rj.i with
   | false=>rfl
   | true =>
    obtain ⟨p,hp,he,hl⟩:=zB8.1 hg
    have e:=hS.one p hp _ hjk (.inl (he.trans hrji))
    have:=(zCx hl).1
    rw [e,hnl] at this
    cases this
  obtain ⟨s1,s2,hord⟩:=List.append_of_mem hrjo
  have hnd:=hI.nodup
  rw [hord] at hnd
  have hnd2:=List.nodup_append.1 hnd
  have hne1:∀ q,q∈s1++s2→q∈ord∧q.i≠j:=fun q hq=>by
   have hqo:q∈ord:=by
    rw [hord]
    rcases List.mem_append.1 hq with h|h
    ·exact List.mem_append_left _ h
    ·exact List.mem_append_right _ (List.mem_cons_of_mem _ h)
   refine ⟨hqo,fun e=>?_⟩
   have e2:=zB4 hT q (hI.sub q hqo) rj hrjT (e.trans hrji.symm)
   subst e2
   rcases List.mem_append.1 hq with h|h
   ·exact hnd2.2.2 q h q (by simp) rfl
   ·exact (List.nodup_cons.1 hnd2.2.1).1 h
  have hown:=Own.swap hI.own
  rw [hord,List.flatMap_append,List.flatMap_cons,List.append_assoc,List.append_assoc] at hown
  have heff:eff S listed G rj=(rj.f G).2:=by unfold eff;rw [if_neg (by rw [hjg];simp)]
  rw [heff] at hown
  have hown2:Own w0.heap.size w (zAV (only j Tk) G++((s1++s2).flatMap (eff S listed G)++(ini I (fun k=>listed.getD k false)++H0))):=by
   rw [hu]
   simp only [zAV,List.append_nil,List.flatMap_append,List.append_assoc]
   exact Own.swap hown
  refine hst G _ a w hkn hown2 K ?_
  rintro v E w' ⟨x,hx⟩ hB hE
  refine hK _ _ ⟨upW G r.i x,r::ord,?_⟩
  have hv:v=(r.f (upW G r.i x)).1:=by rw [← hx]
  have hE':E=(r.f (upW G r.i x)).2:=by rw [← hx]
  have hloc:∀ q∈ord,q.f (upW G r.i x)=q.f G:=by
   intro q hq
   obtain ⟨_,o',b',_,hb',_,hl,_⟩:=zAv hT q (hI.sub q hq)
   refine (hl G (upW G r.i x) (fun j hj=>?_)).symm
   have hlq:=(hI.iff_ q (hI.sub q hq)).2 hq
   have hne:j≠r.i:=by
    rintro rfl
    rcases hj with hj|hj
    ·rw [hj,hlq] at hnl;cases hnl
    ·have:=hI.closed q.i hlq r.i (by unfold bitB;rw [hb'];exact hj)
     rw [this] at hnl;cases hnl
   simp [upW,hne]
  have hdne:∀ q∈ord,∀ t,q.dst=some t→o.dst≠some t:=by
   intro q hq t hqt
   obtain ⟨_,o',b',ho',_,hd',_⟩:=zAv hT q (hI.sub q hq)
   have hlq:=(hI.iff_ q (hI.sub q hq)).2 hq
   exact hF.uniq q.i r.i o' o t ho' (hd' ▸ hqt) ho (by intro e;rw [← e] at hlq;rw [hlq] at hnl;cases hnl)
  refine ⟨by simpa using hI.lsize,size_put.trans hI.size,zDl.trans hI.defers,List.nodup_cons.2 ⟨hro,hI.nodup⟩,?_,?_,?_,?_,?_,?_,hB,?_⟩
  ·intro q hq
   rcases List.mem_cons.1 hq with rfl|hq
   ·exact hrT
   ·exact hI.sub q hq
  ·intro q hq
   by_cases hqi:q.i=r.i
   ·have:=zB4 hT q hq r hrT hqi
    subst this
    simp [hil]
   ·rw [hset _ hqi,hI.iff_ q hq,List.mem_cons]
    constructor
    ·exact .inr
    ·rintro (rfl|h)
     ·exact absurd rfl hqi
     ·exact h
  ·intro k h1 h2
   have:=(zAv hT r hrT).1
   rw [hset k (by omega)]
   exact hI.tail k h1 h2
  ·intro k hk j hj
   by_cases hki:k=r.i
   ·subst hki;exact hmono j (hrc j hj)
   ·exact hmono j (hI.closed k (by rw [← hset k hki];exact hk) j hj)
  ·intro q hq t hqt
   rcases List.mem_cons.1 hq with rfl|hq
   ·rw [hd] at hqt
    have hlt:t<a.tmps.size:=by rw [hI.size];exact hdst o (by rw [Array.mem_toList_iff];exact Array.mem_of_getElem? ho) t hqt
    rw [hqt,← hv]
    simp [Act.put,hlt]
   ·rw [zBo (hdne q hq t hqt),hloc q hq]
    exact hI.vals q hq t hqt
  ·intro t ht
   rw [zBo (hd ▸ ht r (by simp))]
   exact hI.rest t (fun q hq=>ht q (List.mem_cons_of_mem _ hq))
  ·have e0:eff S (listed.setIfInBounds r.i true) (upW G r.i x) r=E:=by unfold eff;rw [if_neg (by rw [hrg];simp),← hE']
   have e1:eff S (listed.setIfInBounds r.i true) (upW G r.i x) rj=[]:=by
    unfold eff
    rw [if_pos]
    exact zB8.2 ⟨(j,r.i),hjk,hrji.symm,by simp [hil]⟩
   have e2:∀ q,q∈s1++s2→eff S (listed.setIfInBounds r.i true) (upW G r.i x) q=eff S listed G q:=fun q hq=>by
    obtain ⟨h1,h2⟩:=hne1 q hq
    unfold eff
    rw [hloc q h1,hgn q h1 (fun p hp he e=>h2 (by
     have:=hS.one p hp _ hjk (.inr he)
     rw [this] at e;exact e))]
   have e3:(r::ord).flatMap (eff S (listed.setIfInBounds r.i true) (upW G r.i x))=E++(s1++s2).flatMap (eff S listed G):=by
    rw [List.flatMap_cons,e0,hord,List.flatMap_append,List.flatMap_cons,e1,List.nil_append,List.flatMap_append]
    congr 1
    congr 1
    ·rw [List.flatMap_def,List.flatMap_def];congr 1
     exact List.map_congr_left (fun q hq=>e2 q (List.mem_append_left _ hq))
    ·rw [List.flatMap_def,List.flatMap_def];congr 1
     exact List.map_congr_left (fun q hq=>e2 q (List.mem_append_right _ hq))
   rw [e3,hini hkI]
   exact Own.swap (A:=E++(s1++s2).flatMap (eff S listed G)) (by rw [List.append_assoc];exact hE)
 · -- of what was there,E0 is taken over
  obtain ⟨i1,i2,hI12⟩:=List.append_of_mem hkE
  have hne9:∀ p∈i1++i2,p.1≠r.i:=fun p hp=>by
   have h1:=hN
   rw [hI12,List.map_append,List.map_cons] at h1
   have h2:=List.nodup_append.1 h1
   rcases List.mem_append.1 hp with h|h
   ·exact h2.2.2 p.1 (List.mem_map_of_mem h) r.i (by simp)
   ·intro e
    have h3:p.1∈i2.map (·.1):=List.mem_map_of_mem h
    rw [e] at h3
    exact (List.nodup_cons.1 h2.2.1).1 h3
  have hk0:listed.getD r.i false=false:=by
   cases h:listed.getD r.i false with
   | false=>rfl
   | true=>rw [(zCx h).1] at hnl;cases hnl
  have e1:ini I (fun k=>listed.getD k false)=ini i1 (fun k=>listed.getD k false)++(E0++ini i2 (fun k=>listed.getD k false)):=by
   rw [hI12,zCR]
   simp only [ini,hk0,cond_false]
  have e2:ini I (fun k=>(listed.setIfInBounds r.i true).getD k false)=ini (i1++i2) (fun k=>listed.getD k false):=by
   rw [hI12,zCR]
   simp only [ini]
   rw [show (listed.setIfInBounds r.i true).getD r.i false=true by simp [hil]]
   simp only [cond_true]
   rw [← zCR]
   exact zCl (fun p hp=>hsetf p.1 (hne9 p hp))
  have hown:=hI.own
  rw [e1,List.append_assoc,List.append_assoc] at hown
  have hfree9:∀ p∈S,p.2≠r.i:=fun p hp e=>by
   unfold takes at hfree
   rw [List.any_eq_false] at hfree
   exact hfree p hp (by rw [e];exact Nat.beq_refl _)
  refine hst G _ a w hkn (Own.swap hown) K ?_
  rintro v E w' ⟨x,hx⟩ hB hE
  refine hK _ _ ⟨upW G r.i x,r::ord,?_⟩
  have hv:v=(r.f (upW G r.i x)).1:=by rw [← hx]
  have hE':E=(r.f (upW G r.i x)).2:=by rw [← hx]
  have hloc:∀ q∈ord,q.f (upW G r.i x)=q.f G:=by
   intro q hq
   obtain ⟨_,o',b',_,hb',_,hl,_⟩:=zAv hT q (hI.sub q hq)
   refine (hl G (upW G r.i x) (fun j hj=>?_)).symm
   have hlq:=(hI.iff_ q (hI.sub q hq)).2 hq
   have hne:j≠r.i:=by
    rintro rfl
    rcases hj with hj|hj
    ·rw [hj,hlq] at hnl;cases hnl
    ·have:=hI.closed q.i hlq r.i (by unfold bitB;rw [hb'];exact hj)
     rw [this] at hnl;cases hnl
   simp [upW,hne]
  have hdne:∀ q∈ord,∀ t,q.dst=some t→o.dst≠some t:=by
   intro q hq t hqt
   obtain ⟨_,o',b',ho',_,hd',_⟩:=zAv hT q (hI.sub q hq)
   have hlq:=(hI.iff_ q (hI.sub q hq)).2 hq
   exact hF.uniq q.i r.i o' o t ho' (hd' ▸ hqt) ho (by intro e;rw [← e] at hlq;rw [hlq] at hnl;cases hnl)
  refine ⟨by simpa using hI.lsize,size_put.trans hI.size,zDl.trans hI.defers,List.nodup_cons.2 ⟨hro,hI.nodup⟩,?_,?_,?_,?_,?_,?_,hB,?_⟩
  ·intro q hq
   rcases List.mem_cons.1 hq with rfl|hq
   ·exact hrT
   ·exact hI.sub q hq
  ·intro q hq
   by_cases hqi:q.i=r.i
   ·have:=zB4 hT q hq r hrT hqi
    subst this
    simp [hil]
   ·rw [hset _ hqi,hI.iff_ q hq,List.mem_cons]
    constructor
    ·exact .inr
    ·rintro (rfl|h)
     ·exact absurd rfl hqi
     ·exact h
  ·intro k h1 h2
   have:=(zAv hT r hrT).1
   rw [hset k (by omega)]
   exact hI.tail k h1 h2
  ·intro k hk j hj
   by_cases hki:k=r.i
   ·subst hki;exact hmono j (hrc j hj)
   ·exact hmono j (hI.closed k (by rw [← hset k hki];exact hk) j hj)
  ·intro q hq t hqt
   rcases List.mem_cons.1 hq with rfl|hq
   ·rw [hd] at hqt
    have hlt:t<a.tmps.size:=by rw [hI.size];exact hdst o (by rw [Array.mem_toList_iff];exact Array.mem_of_getElem? ho) t hqt
    rw [hqt,← hv]
    simp [Act.put,hlt]
   ·rw [zBo (hdne q hq t hqt),hloc q hq]
    exact hI.vals q hq t hqt
  ·intro t ht
   rw [zBo (hd ▸ ht r (by simp))]
   exact hI.rest t (fun q hq=>ht q (List.mem_cons_of_mem _ hq))
  ·have e0:eff S (listed.setIfInBounds r.i true) (upW G r.i x) r=E:=by unfold eff;rw [if_neg (by rw [hrg];simp),← hE']
   have e3:(r::ord).flatMap (eff S (listed.setIfInBounds r.i true) (upW G r.i x))=E++ord.flatMap (eff S listed G):=by
    rw [List.flatMap_cons,e0]
    congr 1
    rw [List.flatMap_def,List.flatMap_def]
    congr 1
    refine List.map_congr_left (fun q hq=>?_)
    unfold eff
    rw [hloc q hq,hgn q hq (fun p hp he _=>hfree9 p hp he)]
   rw [e3,e2,zCR,List.append_assoc E]
   exact Own.swap (by rw [List.append_assoc];exact hE)
 have hfree':∀ p∈S,p.2≠r.i:=fun p hp e=>by
  unfold takes at hfree
  rw [List.any_eq_false] at hfree
  exact hfree p hp (by rw [e];exact Nat.beq_refl _)
 refine hduty G a w hkn K ?_
 rintro v E w' ⟨x,hx⟩ hB hE
 refine hK _ _ ⟨upW G r.i x,r::ord,?_⟩
 have hv:v=(r.f (upW G r.i x)).1:=by rw [← hx]
 have hE':E=(r.f (upW G r.i x)).2:=by rw [← hx]
 have hloc:∀ q∈ord,q.f (upW G r.i x)=q.f G:=by
  intro q hq
  obtain ⟨_,o',b',_,hb',_,hl,_⟩:=zAv hT q (hI.sub q hq)
  refine (hl G (upW G r.i x) (fun j hj=>?_)).symm
  have hlq:=(hI.iff_ q (hI.sub q hq)).2 hq
  have hne:j≠r.i:=by
   rintro rfl
   rcases hj with hj|hj
   ·rw [hj,hlq] at hnl;cases hnl
   ·have:=hI.closed q.i hlq r.i (by unfold bitB;rw [hb'];exact hj)
    rw [this] at hnl;cases hnl
  simp [upW,hne]
 have hdne:∀ q∈ord,∀ t,q.dst=some t→o.dst≠some t:=by
  intro q hq t hqt
  obtain ⟨_,o',b',ho',_,hd',_⟩:=zAv hT q (hI.sub q hq)
  have hlq:=(hI.iff_ q (hI.sub q hq)).2 hq
  exact hF.uniq q.i r.i o' o t ho' (hd' ▸ hqt) ho (by intro e;rw [← e] at hlq;rw [hlq] at hnl;cases hnl)
 refine ⟨by simpa using hI.lsize,size_put.trans hI.size,zDl.trans hI.defers,List.nodup_cons.2 ⟨hro,hI.nodup⟩,?_,?_,?_,?_,?_,?_,hI.below.trans (hB.mono hI.below.size),?_⟩
 ·intro q hq
  rcases List.mem_cons.1 hq with rfl|hq
  ·exact hrT
  ·exact hI.sub q hq
 ·intro q hq
  by_cases hqi:q.i=r.i
  ·have:=zB4 hT q hq r hrT hqi
   subst this
   simp [hil]
  ·rw [hset _ hqi,hI.iff_ q hq,List.mem_cons]
   constructor
   ·exact .inr
   ·rintro (rfl|h)
    ·exact absurd rfl hqi
    ·exact h
 ·intro k h1 h2
  have:=(zAv hT r hrT).1
  rw [hset k (by omega)]
  exact hI.tail k h1 h2
 ·intro k hk j hj
  by_cases hki:k=r.i
  ·subst hki;exact hmono j (hrc j hj)
  ·exact hmono j (hI.closed k (by rw [← hset k hki];exact hk) j hj)
 ·intro q hq t hqt
  rcases List.mem_cons.1 hq with rfl|hq
  ·rw [hd] at hqt
   have hlt:t<a.tmps.size:=by rw [hI.size];exact hdst o (by rw [Array.mem_toList_iff];exact Array.mem_of_getElem? ho) t hqt
   rw [hqt,← hv]
   simp [Act.put,hlt]
  ·rw [zBo (hdne q hq t hqt),hloc q hq]
   exact hI.vals q hq t hqt
 ·intro t ht
  rw [zBo (hd ▸ ht r (by simp))]
  exact hI.rest t (fun q hq=>ht q (List.mem_cons_of_mem _ hq))
 ·have:=hI.own.join hB hI.below.size hE
  rw [hE'] at this
  have e0:eff S (listed.setIfInBounds r.i true) (upW G r.i x) r=(r.f (upW G r.i x)).2:=by unfold eff;rw [if_neg (by rw [hrg];simp)]
  have e:(r::ord).flatMap (eff S (listed.setIfInBounds r.i true) (upW G r.i x))=(r.f (upW G r.i x)).2++ord.flatMap (eff S listed G):=by
   rw [List.flatMap_cons,e0]
   congr 1
   rw [List.flatMap_def,List.flatMap_def]
   congr 1
   refine List.map_congr_left (fun q hq=>?_)
   unfold eff
   rw [hloc q hq,hgn q hq (fun p hp he _=>hfree' p hp he)]
  rw [e,hini hkI,List.append_assoc]
  exact Own.swap this
theorem zI0 (hV:∀ p∈I,∀ k,p.2.1≤k→k<p.2.2.1→bitB bs p.1 k=true) (hS:ChkS bs S) (hN:(I.map (·.1)).Nodup) (hF:ChkF ops bs) {T:List Rw} (hT:zBw S I P w0 n d ops R0 H0 bs T) (hlen:T.length≤ops.size) (hend:zHY ro S I P w0 n d ops R0 H0 Q bs T) {a0:Act} (h0:∀ t v,lk R0 t=some v→a0.tmps.getD t undef=v) (hdst:∀ o∈ops.toList,∀ t,o.dst=some t→t<n) (hdf:∀ o∈ops.toList,zDa o=false) :
  ∀ (fuel:Nat) (listed:Array Bool) (a:Act) (w:World),listed.toList.count false≤fuel→(∃ G ord,CInv S I w0 n d R0 H0 ops bs a0 T listed a w G ord)→wpAnyIn (FW ro) 9 P .any ops Q fuel listed a w:=by
 have htail:∀ i j,T.length≤i→i<ops.size→j<i→bitB bs i j=true:=by
  intro i j h1 h2 h3
  have hi:i<bs.length:=by rw [hF.len];exact h2
  unfold bitB
  rw [List.getElem?_eq_getElem hi]
  have h4:=hend.1 i bs[i] h1 (List.getElem?_eq_getElem hi)
  have h5:=hF.blen i bs[i] (List.getElem?_eq_getElem hi)
  simp only [zBu,Bool.and_eq_true]
  refine ⟨Nat.ble_eq_true_of_le h3,?_⟩
  have h6:i - 1 - j<bs[i].length:=by omega
  rw [List.getD_eq_getElem?_getD,List.getElem?_eq_getElem h6]
  have:=List.all_eq_true.1 h4 (bs[i][i - 1 - j]) (List.getElem_mem h6)
  simpa using this
 have hgo:∀ (fuel:Nat) (listed:Array Bool) (a:Act) (w:World) (G:zAr) (ord:List Rw),listed.toList.count false≤fuel→CInv S I w0 n d R0 H0 ops bs a0 T listed a w G ord→(∀ r∈T,r∈ord)→wpAnyIn (FW ro) 9 P .any ops Q fuel listed a w:=by
  intro fuel listed a w G ord hc hI hall
  refine tail_any hF fuel T.length listed a w hI.lsize (fun j hj=>?_) hI.tail hc htail (hend.2 G a w (kn_final hT h0 hI hlen hall))
  obtain ⟨r,hr,rfl⟩:=zCp hT j hj
  exact (hI.iff_ r hr).2 (hall r hr)
 intro fuel
 induction fuel with
 | zero =>
  rintro listed a w hc ⟨G,ord,hI⟩
  refine hgo 0 listed a w G ord hc hI (fun r hr=>(hI.iff_ r hr).1 ?_)
  cases hl:listed.getD r.i true with
  | true=>rfl
  | false =>
   have hlt:r.i<listed.size:=by have:=(zAv hT r hr).1;rw [hI.lsize];omega
   have:=count_le hlt hl
   omega
 | succ fuel ih =>
  rintro listed a w hc ⟨G,ord,hI⟩
  by_cases hall:∀ r∈T,r∈ord
  ·exact hgo _ listed a w G ord hc hI hall
  ·have hnr:∀ i∈Region.ready .any ops listed,i<T.length:=by
    intro i hi
    rcases Nat.lt_or_ge i T.length with h|h
    ·exact h
    ·exfalso
     refine hall (fun r hr=>(hI.iff_ r hr).1 ?_)
     have hr1:=(zAv hT r hr).1
     have his:i<ops.size:=by
      obtain ⟨_,o,ho,_⟩:=mem_ready.1 hi
      exact (Array.getElem?_eq_some_iff.1 ho).1
     exact zCt hF hI.closed hi r.i (htail i r.i h his (by omega))
   have hne:Region.ready .any ops listed≠[]:=by
    intro hr0
    refine hall (fun r hr=>(hI.iff_ r hr).1 ?_)
    -- the least one that is not listed would be ready
    have key:∀ k,k<ops.size→listed.getD k true=true:=by
     intro k
     induction k using Nat.strongRecOn with
     | _ k ihk =>
      intro hk
      cases hl:listed.getD k true with
      | true=>rfl
      | false =>
       have:=zGJ hF hI.lsize hk hl (fun j hj=>ihk j hj (by omega))
       rw [hr0] at this;cases this
    have:=(zAv hT r hr).1
    exact key r.i (by omega)
   refine ⟨fun h=>absurd h hne,fun i hi=>?_⟩
   have hlt:=hnr i hi
   obtain ⟨r,hrT,rfl⟩:=zCp hT i hlt
   obtain ⟨_,o,b,ho,hb,hd,hl,Tk,hk,hsub,hTk,hduty⟩:=zAv hT r hrT
   obtain ⟨hnl,_⟩:=mem_ready.1 hi
   have hil:r.i<listed.size:=by
    rcases Nat.lt_or_ge r.i listed.size with h|h
    ·exact h
    ·simp [Array.getElem?_eq_none h] at hnl
   have hcs:=count_set hil hnl
   have hs:=zH1 hV hS hN hF hT hlen h0 hdst hI hrT hi ho hb hd hTk hk hsub hduty (K:=wpAnyIn (FW ro) 9 P .any ops Q fuel (listed.setIfInBounds r.i true)) (fun a' w' h=>ih _ a' w' (by omega) h)
   unfold wpOpIn
   simp only [ho]
   split
   ·rename_i hwt
    rw [if_pos hwt] at hs
    exact opIn (hdf o (by have:=Array.mem_of_getElem? ho;simpa using this)) (zHA hs (fun _ _ h=>h))
   ·rename_i hwt
    rw [if_neg hwt] at hs
    exact ⟨fun _ _=>trivial,hs⟩
theorem zA9 (S:List (Nat × Nat)) (I:List (Nat × Nat × Nat × List Ent)) (V:List (Nat × Nat × Nat)) (hV:I.map (fun p=>(p.1,p.2.1,p.2.2.1))=V) (hN:(I.map (·.1)).Nodup) {H:List Ent} (hH:∀ w,Own w0.heap.size w H→Own w0.heap.size w (ini I (fun _=>false)++H0)) {id:Nat} {l:List Oper} (hm:P.follows .mixedOrders=true) (bs:List (List Bool)) (hB:chkB l.toArray bs=true) (hD:(l.all fun o=>match o.dst with|some t=>Nat.blt t n|none=>true)=true) (hDf:(l.all fun o=>!zDa o)=true) (hC:chkS bs S=true) (hVc:chkV bs V=true) (h:zBa ro S I P w0 n d l.toArray R0 H0 Q bs 0 l []):U w0 n d R0 H ((Code.region id l.toArray true).wpI ro P Q):=fun a w q=>by
 have hF:=chkF hB
 have hVV:∀ p∈I,∀ k,p.2.1≤k→k<p.2.2.1→bitB bs p.1 k=true:=fun p hp k h1 h2=>by
  have h3:(p.1,p.2.1,p.2.2.1)∈V:=by rw [← hV];exact List.mem_map.2 ⟨p,hp,rfl⟩
  have h4:=List.all_eq_true.1 (List.all_eq_true.1 hVc _ h3) k (List.mem_range.2 h2)
  rcases Bool.or_eq_true_iff.1 h4 with h5|h5
  ·have:=Nat.le_of_ble_eq_true h5;dsimp only at this;omega
  ·exact h5
 obtain ⟨T,hT,hend⟩:=zGF (S:=S) (I:=I) (P:=P) (w0:=w0) (n:=n) (d:=d) (ops:=l.toArray) (R0:=R0) (H0:=H0) (Q:=Q) (bs:=bs) bs 0 l [] rfl rfl (by simp) zBw.nil h
 have hlen:T.length≤l.toArray.size:=by
  cases hT with
  | nil=>simp
  | @cons T o b f h ho hb hl hd =>
   have:=(Array.getElem?_eq_some_iff.1 ho).1
   simp only [List.length_cons];omega
 refine wpIn_region_any hm ?_
 have hdst:∀ o∈l.toArray.toList,∀ t,o.dst=some t→t<n:=by
  intro o ho t ht
  have:=List.all_eq_true.1 hD o (by simpa using ho)
  rw [ht] at this
  exact Nat.le_of_ble_eq_true this
 have hlist:∀ k,k<l.toArray.size→(Array.replicate l.toArray.size false).getD k true=false:=by
  intro k hk
  have hk':k<l.length:=by simpa using hk
  simp [hk']
 refine zI0 hVV (chkS_of hC) hN hF hT hlen hend (a0:=a) q.regs hdst (fun o ho=>by have:=List.all_eq_true.1 hDf o (by simpa using ho);simpa using this) _ _ _ _ (by simp) ⟨fun _=>⟨0,none,0⟩,[],?_⟩
 refine ⟨by simp,q.size,q.defers,List.nodup_nil,by simp,fun r hr=>?_,fun k _ hk=>hlist k hk,fun k hk j hj=>?_,by simp,fun _ _=>rfl,?_,?_⟩
 ·have:=(zAv hT r hr).1
  rw [hlist r.i (by omega)];simp
 ·have h1:=hF.clo k j hj
  rw [hlist k h1.1] at hk;cases hk
 ·exact ⟨q.below.os,q.below.tape,q.below.output,q.below.size,q.below.block⟩
 ·have e:ini I (fun k=>(Array.replicate l.toArray.size false).getD k false)=ini I (fun _=>false):=zCl (fun p _=>by
   simp only [Array.getD_eq_getD_getElem?,Array.getElem?_replicate]
   split<;>rfl)
  rw [e]
  exact (hH _ q.own).past (Nat.le_refl _) (fun _ _ _ _=>rfl)
end
section
variable {S : List (Nat × Nat)} {I:List (Nat × Nat × Nat × List Ent)} {P:Program} {w0:World} {n:Nat} {d:List Deferred} {R0:List (Nat × Value)} {H0:List Ent} {Q:Exit→Act→World→Prop} {ops:Array Oper} {bs:List (List Bool)} {b:List Bool} {k:Nat} {o:Oper} {rest:List Oper} {T:List Rw} {t:Tmp} {Hk:zAr→List Ent} {x y:Operand} {v:Value}
abbrev Rk (R0:List (Nat × Value)) (ops:Array Oper) (b:List Bool) (o:Oper) (T:List Rw) (G:zAr):List (Nat × Value):=opsR (regsT (fltT b T) G++R0) (o.looksAt ops)
def CAt (ro:Option Nat) (S:List (Nat × Nat)) (I:List (Nat × Nat × Nat × List Ent)) (P:Program) (w0:World) (n:Nat) (d:List Deferred) (ops:Array Oper) (R0:List (Nat × Value)) (H0:List Ent) (Q:Exit→Act→World→Prop) (b:List Bool) (bs:List (List Bool)) (k:Nat) (o:Oper) (rest:List Oper) (T:List Rw) (Hk:zAr→List Ent):Prop :=
 (∀ G,see I k++(zAV (fltT (vis S k b) T) G++H0)=Hk G)→(keyI I k || takes S k)=false→zBa ro S I P w0 n d ops R0 H0 Q (b::bs) k (o::rest) T
theorem zDU (hk:(keyI I k || takes S k)=false) (h:∃ Hk:zAr→List Ent,(∀ G,see I k++(zAV (fltT (vis S k b) T) G++H0)=Hk G)∧CAt ro S I P w0 n d ops R0 H0 Q b bs k o rest T Hk):zBa ro S I P w0 n d ops R0 H0 Q (b::bs) k (o::rest) T:=by
 obtain ⟨Hk,h1,h2⟩:=h
 exact h2 h1 hk
theorem zBp {F:TypeId} {x:Operand} {i:Nat} (hop:o.op = .fieldAddr F x i) (h:CAt ro S I P w0 n d ops R0 H0 Q b bs k o rest T Hk):CAt ro S I P w0 n d ops R0 H0 Q b bs k o rest T Hk:=h
theorem zCb (h:∀ G,U w0 n d (regsT T G++R0) (ini I (fun j=>Nat.blt j k)++(zAV (lft S k T) G++H0)) (Q .normal)):zBa ro S I P w0 n d ops R0 H0 Q [] k [] T:=h
theorem zBk (hb:((b::bs).all fun b=>b.all id)=true) (h:∀ G,U w0 n d (regsT T G++R0) (ini I (fun j=>Nat.blt j k)++(zAV (lft S k T) G++H0)) (wpL ro P ops Q (o::rest))):zBa ro S I P w0 n d ops R0 H0 Q (b::bs) k (o::rest) T:=.inr ⟨hb,h⟩
theorem zGH {f:zAr→Value × List Ent} (hl:Loc b k f) (hd:∀ G,Grows P w0 n d (Rk R0 ops b o T G) (Hk G) ops o (fun v E=>∃ x,(v,E)=f (upW G k x))) (h:zBa ro S I P w0 n d ops R0 H0 Q bs (k+1) rest (⟨k,o.dst,f⟩::T)):CAt ro S I P w0 n d ops R0 H0 Q b bs k o rest T Hk :=
 fun hH hk=>.inl ⟨f,hl,.inl ⟨(Bool.or_eq_false_iff.1 hk).1,(Bool.or_eq_false_iff.1 hk).2,fun G=>by rw [hH G];exact hd G⟩,h⟩
abbrev LocB (b:List Bool) (k:Nat) {α:Type} (f:zAr→α):Prop:=∀ G G':zAr,(∀ j,zBu b k j=true→G j=G' j)→f G=f G'
theorem LocB.up {α:Type} {f:zAr→α} (h:LocB b k f) (G:zAr) (x:Wit):f (upW G k x)=f G :=
 h _ _ (fun j hj=>by have:=zD6 hj;simp [upW];omega)
theorem LocB.loc {α:Type} {f:zAr→α} (h:LocB b k f) (G G':zAr) (hG:∀ j,(j=k∨zBu b k j=true)→G j=G' j):f G=f G':=h G G' (fun j hj=>hG j (.inr hj))
theorem zw (val:zAr→Value) (he:∀ G,Ev P w0 n d (Rk R0 ops b o T G) (Hk G) o (val G)) (hw:∀ G,want (Rk R0 ops b o T G) ops o=some true) (hd:o.dst=some t) (hl:LocB b k val) (h:zBa ro S I P w0 n d ops R0 H0 Q bs (k+1) rest (⟨k,some t,fun G=>(val G,[])⟩::T)):CAt ro S I P w0 n d ops R0 H0 Q b bs k o rest T Hk:=by
 refine zGH (f:=fun G=>(val G,[])) (fun G G' hG=>by simp only [hl.loc G G' hG]) (fun G a w q K hK=>?_) (by rw [hd];exact h)
 rw [zBh q (hw G),if_pos rfl]
 unfold Oper.wp
 rw [he G a w q,Oper.upon_value]
 exact hK _ [] _ ⟨⟨0,none,0⟩,by simp only [hl.up]⟩ (Below.refl _ _) (Own.nil _ _)
theorem zCI {f:FuncId} {fx:Operand} {xs:Array Operand} {ts:Array TypeId} {vs:zAr→List Value} {cap:Array Value} (val:zAr→Value) (hop:o.op = .call ⟨.value fx,xs,ts⟩) (hw:∀ G,want (Rk R0 ops b o T G) ops o=some true) (hd:o.dst=some t) (hf:∀ G,evR (Rk R0 ops b o T G) fx=some (.func (.func f) #[] cap)) (hx:∀ G,evs (Rk R0 ops b o T G) xs.toList=some (vs G)) [ci:zi P f]
  (hc:∀ G a w,Kn w0 n d (Rk R0 ops b o T G) (Hk G) a w→Gv P f (vs G++cap.toList) w (val G)) (hl:LocB b k val) (h:zBa ro S I P w0 n d ops R0 H0 Q bs (k+1) rest (⟨k,some t,fun G=>(val G,[])⟩::T)):CAt ro S I P w0 n d ops R0 H0 Q b bs k o rest T Hk:=by
 refine zGH (f:=fun G=>(val G,[])) (fun G G' hG=>by simp only [hl.loc G G' hG]) (fun G a w q K hK=>?_) (by rw [hd];exact h)
 rw [zBh q (hw G),if_pos rfl]
 unfold Oper.wp execOp;rw [hop]
 have e1:xs.map a.eval=(vs G).toArray:=by apply Array.ext';simpa using q.evs (hx G)
 have e2:(vs G).toArray++cap=(vs G++cap.toList).toArray:=by apply Array.ext';simp
 simp only [resolve,q.ev (hf G),e1,Deferred.ofValue,Sem.run_bind,Sem.run_pure,Result.andThen_ok,invoke,Array.empty_append,e2,ci.ent,Oper.upon_enter]
 refine Calls.mono (hc G a w q).ret.calls ?_
 rintro e w' ⟨z,hp,rfl,hb,hE⟩
 exact hK _ [] _ ⟨⟨0,none,0⟩,by simp only [hl.up]⟩ hb (Own.nil _ _)
theorem c_newsl {α:Type} {enc:α→List Value} {kk:Nat} {zs:List α} {V:Value→Value} {f:FuncId} {fx:Operand} {xs:Array Operand} {ts:Array TypeId} {vs:zAr→List Value} {cap:Array Value} (hop:o.op = .call ⟨.value fx,xs,ts⟩) (hw:∀ G,want (Rk R0 ops b o T G) ops o=some true) (hd:o.dst=some t) (hf:∀ G,evR (Rk R0 ops b o T G) fx=some (.func (.func f) #[] cap)) (hx:∀ G,evs (Rk R0 ops b o T G) xs.toList=some (vs G)) [ci:zi P f]
  (hc:∀ G a w,Kn w0 n d (Rk R0 ops b o T G) (Hk G) a w→zCV enc kk zs V P f (vs G++cap.toList) w) (h:zBa ro S I P w0 n d ops R0 H0 Q bs (k+1) rest (⟨k,some t,fun G=>(V (.slice (G k).A zs.length (G k).m),[.sl enc kk (G k).A zs])⟩::T)):CAt ro S I P w0 n d ops R0 H0 Q b bs k o rest T Hk:=by
 refine zGH (f:=fun G=>(V (.slice (G k).A zs.length (G k).m),[.sl enc kk (G k).A zs])) (fun G G' hG=>by simp only [hG k (.inl rfl)]) (fun G a w q K hK=>?_) (by rw [hd];exact h)
 rw [zBh q (hw G),if_pos rfl]
 unfold Oper.wp execOp;rw [hop]
 have e1:xs.map a.eval=(vs G).toArray:=by apply Array.ext';simpa using q.evs (hx G)
 have e2:(vs G).toArray++cap=(vs G++cap.toList).toArray:=by apply Array.ext';simp
 simp only [resolve,q.ev (hf G),e1,Deferred.ofValue,Sem.run_bind,Sem.run_pure,Result.andThen_ok,invoke,Array.empty_append,e2,ci.ent,Oper.upon_enter]
 refine Calls.mono (hc G a w q).ret.calls ?_
 rintro e w' ⟨⟨A,m⟩,hp,rfl,hb,hE⟩
 exact hK _ _ _ ⟨⟨0,A,m⟩,by simp [upW]⟩ hb hE
theorem zIM (w:World) (cs:List Value) (ty:TypeId):Own w.heap.size (w.alloc (.cells cs.toArray ty)) [.blk w.heap.size cs] :=
 ⟨fun e he=>by simp only [List.mem_singleton] at he;subst he;exact Blk.new _ _ _,fun e he b hb=>by simp only [List.mem_singleton] at he;subst he;cases hb;simp,by simp⟩
theorem zGl {Ty:TypeId} {z:List Value} (hop:o.op = .alloc Ty) [i1:TyZ P Ty z] (hw:∀ G,want (Rk R0 ops b o T G) ops o=some true) (hd:o.dst=some t) (h:zBa ro S I P w0 n d ops R0 H0 Q bs (k+1) rest (⟨k,some t,fun G=>(.pointer (some ⟨(G k).g,0,none⟩),[.blk (G k).g z])⟩::T)):CAt ro S I P w0 n d ops R0 H0 Q b bs k o rest T Hk:=by
 refine zGH (f:=fun G=>(.pointer (some ⟨(G k).g,0,none⟩),[.blk (G k).g z])) (fun G G' hG=>by simp only [hG k (.inl rfl)]) (fun G a w q K hK=>?_) (by rw [hd];exact h)
 rw [zBh q (hw G),if_pos rfl]
 obtain ⟨v,e1,e2⟩:=i1.zero w
 unfold Oper.wp execOp;rw [hop]
 simp only [Sem.run_bind,Instr.alloc,e1,Result.andThen_ok,newVar,newRow,run_newObj,Sem.run_pure,e2,Oper.upon_value]
 exact hK _ _ _ ⟨⟨w.heap.size,none,0⟩,by simp only [upW,if_true]⟩ (zAK w (.cells z.toArray Ty)) (zIM w z Ty)
theorem zGk {T1 e:TypeId} {len s s':Nat} {g g':Bool} {td:TypeDesc} {ps:Array (Nat × Operand)} {z:List Value} {qs:zAr→List (Nat × Value)} {cs:zAr→List Value} (hop:o.op = .buildSlice T1 len ps) [i1:TyI P T1 (.slice e) s g] [i2:TyI P e td s' g'] [i3:TyZ P e z] (hw:∀ G,want (Rk R0 ops b o T G) ops o=some true) (hd:o.dst=some t) (hp:∀ G,evp (Rk R0 ops b o T G) ps.toList=some (qs G))
  (hz:(Nat.beq z.length s' && Nat.blt 0 s' && Nat.ble (len * s') 16777216)=true) (hf:∀ G,fillL (fun i=>some (i * s',s')) (zCM z len) (qs G)=some (cs G)) (hl:LocB b k cs) (h:zBa ro S I P w0 n d ops R0 H0 Q bs (k+1) rest (⟨k,some t,fun G=>(.slice (some ⟨(G k).g,0,none⟩) len len,[.blk (G k).g (cs G)])⟩::T)):CAt ro S I P w0 n d ops R0 H0 Q b bs k o rest T Hk:=by
 refine zGH (f:=fun G=>(.slice (some ⟨(G k).g,0,none⟩) len len,[.blk (G k).g (cs G)])) (fun G G' hG=>by simp only [hG k (.inl rfl),hl.loc G G' hG]) (fun G a w q K hK=>?_) (by rw [hd];exact h)
 rw [zBh q (hw G),if_pos rfl]
 simp only [Bool.and_eq_true] at hz
 have:=zBs (P:=P) (w:=w) (o:=o) (a:=a) hop i1 i2 i3 (q.evp (hp G)) hz.1.1 hz.1.2 hz.2 (hf G)
 unfold Oper.wp execOp;rw [hop]
 simp only [Sem.run_bind,this,Result.andThen_ok,Sem.run_pure,Oper.upon_value]
 exact hK _ _ _ ⟨⟨w.heap.size,none,0⟩,by simp only [upW,if_true,hl.up]⟩ (zAK w (.cells (cs G).toArray e)) (zIM w (cs G) e)
end
end Go.Proofs.YtcpdjamlhhfbhaaGreat.Two
