/- ZQ3 -/
import Derived.Test.YtcpdjamlhhfbhaaGreatZQ2
set_option linter.unusedSimpArgs false
set_option linter.unusedVariables false
namespace Go.Proofs.YtcpdjamlhhfbhaaGreat
variable {ro : Option Nat}
open Go.RowKit
structure Wit where
 g:Nat
 A:Option Addr
 m:Nat
abbrev zAr := Nat→Wit
structure Rw where
 i:Nat
 dst:Option Tmp
 f:zAr→Value × List Ent
def regsT : List Rw→zAr→List (Nat × Value)
 | [],_=>[]
 | r::T,G=>match r.dst with|some t=>(t,(r.f G).1)::regsT T G|none=>regsT T G
def zAV : List Rw→zAr→List Ent
 | [],_=>[]
 | r::T,G=>(r.f G).2++zAV T G
def fltT : List Bool→List Rw→List Rw
 | true::b,r::T=>r::fltT b T
 | false::b,_::T=>fltT b T
 | _,_=>[]
def opsR (R:List (Nat × Value)):List Tmp→List (Nat × Value)
 | []=>[]
 | t::ts=>match lk R t with|some v=>(t,v)::opsR R ts|none=>opsR R ts
def zBu (b:List Bool) (k j:Nat):Bool:=Nat.blt j k && b.getD (k - 1 - j) false
def upW (G:zAr) (k:Nat) (x:Wit):zAr:=fun j=>if j=k then x else G j
def Loc (b:List Bool) (k:Nat) (f:zAr→Value × List Ent):Prop:=∀ G G':zAr,(∀ j,(j=k∨zBu b k j=true)→G j=G' j)→f G=f G'
structure Pend where
 k:Nat
 e0:List Ent
 e1:List Ent
def Pend.none : Pend:=⟨0,[],[]⟩
def Pend.at (S:Pend) (k:Nat):List Ent:=cond (Nat.blt S.k k) S.e1 S.e0
def Pend.now (S:Pend) (listed:Array Bool):List Ent:=cond (listed.getD S.k false) S.e1 S.e0
def Pend.free (S:Pend) (k:Nat):Bool:=match S.e0,S.e1 with | [],[]=>true | _,_=>!Nat.beq S.k k
def Grows (P:Program) (w0:World) (n:Nat) (d:List Deferred) (R:List (Nat × Value)) (H:List Ent) (ops:Array Oper) (o:Oper) (A:Value→List Ent→Prop):Prop :=
 ∀ a w,Kn w0 n d R H a w→∀ K:Act→World→Prop,(∀ v E w',A v E→Below w.heap.size w w'→Own w.heap.size w' E→K (a.put o.dst v) w') →
  if Region.wanted o (yielded ops a.tmps)=true then o.wp P a w K (fun _ _ _=>False) else K (a.put o.dst undef) w
def Stores (S:Pend) (P:Program) (w0:World) (n:Nat) (d:List Deferred) (R:List (Nat × Value)) (H:List Ent) (ops:Array Oper) (o:Oper):Prop :=
 ∀ (F L:List Ent) a w,Kn w0 n d R (H++F) a w→Own w0.heap.size w (S.e0++L)→∀ K:Act→World→Prop,(∀ w',Below w0.heap.size w0 w'→Own w0.heap.size w' (S.e1++L)→K a w') →
  if Region.wanted o (yielded ops a.tmps)=true then o.wp P a w K (fun _ _ _=>False) else K (a.put o.dst undef) w
def bitB (bs:List (List Bool)) (k j:Nat):Bool:=match bs[k]? with|some b=>zBu b k j|none=>false
def chkB (ops:Array Oper) (bs:List (List Bool)):Bool :=
 (Nat.beq bs.length ops.size && (List.range ops.size).all fun k=>match bs[k]? with|some b=>Nat.beq b.length k|none=>true) &&
 ((List.range ops.size).all fun k=>(List.range k).all fun j=>!bitB bs k j || (dirB ops k j || (List.range k).any fun m=>dirB ops k m && bitB bs m j)) &&
 ((List.range ops.size).all fun k=>match ops[k]? with|some o=>o.after.all fun e=>!Region.binds .any e || Nat.blt e.on k|none=>true) &&
 (List.range ops.size).all fun k=>match (ops[k]?).bind (·.dst) with
  | none=>true
  | some t=>(List.range ops.size).all fun j=>j == k || match ops[j]? with
   | none=>true
   | some o=>o.dst != some t && (!(o.looksAt ops).contains t || (if k<j then bitB bs j k else bitB bs k j))
structure ChkF (ops:Array Oper) (bs:List (List Bool)):Prop where
 len:bs.length=ops.size
 blen:∀ (k:Nat) (b:List Bool),bs[k]?=some b→b.length=k
 clo:∀ k j,bitB bs k j=true→k<ops.size∧j<k∧(dirB ops k j=true∨∃ m,m<k∧dirB ops k m=true∧bitB bs m j=true)
 acy:∀ k j,dirB ops k j=true→j<k
 uniq:∀ (k j:Nat) (ok oj:Oper) (t:Tmp),ops[k]?=some ok→ok.dst=some t→ops[j]?=some oj→j≠k→oj.dst≠some t
 reads:∀ (k j:Nat) (ok oj:Oper) (t:Tmp),ops[k]?=some ok→ok.dst=some t→ops[j]?=some oj→j≠k→t∈oj.looksAt ops→if k<j then bitB bs j k=true else bitB bs k j=true
theorem zD6 {b:List Bool} {k j:Nat} (h:zBu b k j=true):j<k:=by
 simp only [zBu,Bool.and_eq_true] at h
 exact Nat.le_of_ble_eq_true h.1
theorem chkF {ops:Array Oper} {bs:List (List Bool)} (h:chkB ops bs=true):ChkF ops bs:=by
 simp only [chkB,Bool.and_eq_true] at h
 obtain ⟨⟨⟨⟨h1,h0⟩,h2⟩,h3⟩,h4⟩:=h
 have hlen:bs.length=ops.size:=Nat.eq_of_beq_eq_true h1
 have hbl:∀ (k:Nat) (b:List Bool),bs[k]?=some b→b.length=k:=by
  intro k b hb
  have hk:=(List.getElem?_eq_some_iff.1 hb).1
  have:=List.all_eq_true.1 h0 k (List.mem_range.2 (by omega))
  rw [hb] at this
  exact Nat.eq_of_beq_eq_true this
 have hk:∀ k j,bitB bs k j=true→k<ops.size∧j<k:=by
  intro k j hb
  unfold bitB at hb
  cases hbk:bs[k]? with
  | none=>rw [hbk] at hb;cases hb
  | some b =>
   rw [hbk] at hb
   have:=(List.getElem?_eq_some_iff.1 hbk).1
   exact ⟨by omega,zD6 hb⟩
 refine ⟨hlen,hbl,fun k j hb=>?_,fun k j hd=>?_,fun k j ok oj t e1 e2 e3 e4=>?_,fun k j ok oj t e1 e2 e3 e4 e5=>?_⟩
 ·obtain ⟨a1,a2⟩:=hk k j hb
  have:=List.all_eq_true.1 (List.all_eq_true.1 h2 k (List.mem_range.2 a1)) j (List.mem_range.2 a2)
  simp only [hb,Bool.not_true,Bool.false_or,Bool.or_eq_true,List.any_eq_true,List.mem_range,Bool.and_eq_true] at this
  refine ⟨a1,a2,?_⟩
  rcases this with h | ⟨m,hm,h5,h6⟩
  ·exact .inl h
  ·exact .inr ⟨m,hm,h5,h6⟩
 ·have a1:=dirB_lt hd
  have h5:=List.all_eq_true.1 h3 k (List.mem_range.2 a1)
  unfold dirB at hd
  rw [Array.getElem?_eq_getElem a1] at hd h5
  simp only at hd h5
  rw [Array.any_eq_true'] at hd
  obtain ⟨e,he,hb⟩:=hd
  rw [Array.all_eq_true_iff_forall_mem] at h5
  have h6:=h5 e he
  simp only [Bool.and_eq_true,beq_iff_eq,Bool.or_eq_true,Bool.not_eq_true'] at hb h6
  rcases h6 with h7|h7
  ·rw [hb.1] at h7;cases h7
  ·rw [← hb.2];exact Nat.le_of_ble_eq_true h7
 ·have a1:k<ops.size:=(Array.getElem?_eq_some_iff.1 e1).1
  have a2:j<ops.size:=(Array.getElem?_eq_some_iff.1 e3).1
  have:=List.all_eq_true.1 h4 k (List.mem_range.2 a1)
  simp only [e1,Option.bind_some,e2,List.all_eq_true,List.mem_range] at this
  have:=this j a2
  simp only [e3,Bool.or_eq_true,beq_iff_eq,e4,false_or,Bool.and_eq_true,bne_iff_ne] at this
  exact this.1
 ·have a1:k<ops.size:=(Array.getElem?_eq_some_iff.1 e1).1
  have a2:j<ops.size:=(Array.getElem?_eq_some_iff.1 e3).1
  have:=List.all_eq_true.1 h4 k (List.mem_range.2 a1)
  simp only [e1,Option.bind_some,e2,List.all_eq_true,List.mem_range] at this
  have:=this j a2
  simp only [e3,Bool.or_eq_true,beq_iff_eq,e4,false_or,Bool.and_eq_true,bne_iff_ne,Bool.not_eq_true',List.contains_eq_mem,e5,decide_true,Bool.true_eq_false] at this
  have h:=this.2
  split<;>rename_i hkj<;>simpa [hkj] using h
section
variable {S : Pend} {P:Program} {w0:World} {n:Nat} {d:List Deferred} {R0:List (Nat × Value)} {H0:List Ent} {Q:Exit→Act→World→Prop} {ops:Array Oper} {bs:List (List Bool)}
theorem zCm : ∀ (b:List Bool) (T:List Rw) (r:Rw),r∈fltT b T→r∈T
 | true::b,x::T,r,h=>by
  simp only [fltT,List.mem_cons] at h
  rcases h with rfl|h
  ·simp
  ·exact List.mem_cons_of_mem _ (zCm b T r h)
 | false::b,x::T,r,h=>by
  simp only [fltT] at h
  exact List.mem_cons_of_mem _ (zCm b T r h)
 | [],T,r,h=>by simp [fltT] at h
 | _::_,[],r,h=>by simp [fltT] at h
theorem zGe {R:List (Nat × Value)}:∀ (ts:List Tmp) (t:Tmp) (v:Value),lk (opsR R ts) t=some v→t∈ts∧lk R t=some v
 | [],t,v,h=>by cases h
 | u::ts,t,v,h=>by
  simp only [opsR] at h
  cases hu:lk R u with
  | none =>
   rw [hu] at h
   have:=zGe ts t v h
   exact ⟨List.mem_cons_of_mem _ this.1,this.2⟩
  | some x =>
   rw [hu] at h
   by_cases e:u=t
   ·subst e;rw [zBR] at h;cases h;exact ⟨by simp,hu⟩
   ·rw [zBQ e] at h
    have:=zGe ts t v h
    exact ⟨List.mem_cons_of_mem _ this.1,this.2⟩
theorem zEs {G:zAr}:∀ (T:List Rw) (t:Tmp) (v:Value),lk (regsT T G++R0) t=some v→(∃ r∈T,r.dst=some t∧(r.f G).1=v)∨((∀ r∈T,r.dst≠some t)∧lk R0 t=some v)
 | [],t,v,h=>.inr ⟨by simp,h⟩
 | r::T,t,v,h=>by
  simp only [regsT] at h
  cases hd:r.dst with
  | none =>
   rw [hd] at h
   rcases zEs T t v h with ⟨q,hq,h1,h2⟩ | ⟨h1,h2⟩
   ·exact .inl ⟨q,List.mem_cons_of_mem _ hq,h1,h2⟩
   ·refine .inr ⟨fun q hq=>?_,h2⟩
    rcases List.mem_cons.1 hq with rfl|hq
    ·rw [hd];simp
    ·exact h1 q hq
  | some u =>
   rw [hd] at h
   simp only [List.cons_append] at h
   by_cases e:u=t
   ·subst e;rw [zBR] at h;cases h;exact .inl ⟨r,by simp,hd,rfl⟩
   ·rw [zBQ e] at h
    rcases zEs T t v h with ⟨q,hq,h1,h2⟩ | ⟨h1,h2⟩
    ·exact .inl ⟨q,List.mem_cons_of_mem _ hq,h1,h2⟩
    ·refine .inr ⟨fun q hq=>?_,h2⟩
     rcases List.mem_cons.1 hq with rfl|hq
     ·rw [hd];simpa using e
     ·exact h1 q hq
theorem zEQ {G:zAr}:∀ T:List Rw,zAV T G=T.flatMap fun r=>(r.f G).2
 | []=>rfl
 | r::T=>by simp [zAV,zEQ T]
theorem zIL {α:Type} {R:α→α→Prop} (hsym:∀ a b,R a b→R b a):∀ {S:List α},S.Pairwise R→∀ r∈S,∀ r'∈S,r≠r'→R r r'
 | [],_,r,hr,_,_=>by cases hr
 | a::l,h,r,h1,r',h2=>by
  obtain ⟨h3,h4⟩:=List.pairwise_cons.1 h
  intro hne
  rcases List.mem_cons.1 h1 with e1|e1<;>rcases List.mem_cons.1 h2 with e2|e2
  ·exact absurd (e1.trans e2.symm) hne
  ·exact e1 ▸ h3 r' e2
  ·exact e2 ▸ hsym _ _ (h3 r e1)
  ·exact zIL hsym h4 r e1 r' e2 hne
theorem Own.family {base:Nat} {w:World} {S S':List Rw} {F:Rw→List Ent} (hn:S.Nodup) (hn':S'.Nodup) (hs:∀ r∈S',r∈S) (h:Own base w (S.flatMap F++H0)):Own base w (S'.flatMap F++H0):=by
 have hp:=List.pairwise_append.1 h.apart
 have hf:=List.pairwise_flatMap.1 hp.1
 have hpair:=zIL (R:=fun r r'=>∀ x∈F r,∀ y∈F r',∀ b,x.S b→¬ y.S b) (fun r r' hh x hx y hy b h1 h2=>hh y hy x hx b h2 h1) hf.2
 refine ⟨fun e he=>?_,fun e he=>?_,List.pairwise_append.2 ⟨List.pairwise_flatMap.2 ⟨fun r hr=>hf.1 r (hs r hr),?_⟩,hp.2.1,fun e he f hf'=>?_⟩⟩
 ·refine h.here e ?_
  rcases List.mem_append.1 he with he|he
  ·obtain ⟨r,hr,hx⟩:=List.mem_flatMap.1 he
   exact List.mem_append_left _ (List.mem_flatMap.2 ⟨r,hs r hr,hx⟩)
  ·exact List.mem_append_right _ he
 ·refine h.foot e ?_
  rcases List.mem_append.1 he with he|he
  ·obtain ⟨r,hr,hx⟩:=List.mem_flatMap.1 he
   exact List.mem_append_left _ (List.mem_flatMap.2 ⟨r,hs r hr,hx⟩)
  ·exact List.mem_append_right _ he
 ·refine hn'.imp_of_mem (fun {a b} ha hb hab=>?_)
  exact hpair a (hs a ha) b (hs b hb) hab
 ·obtain ⟨r,hr,hx⟩:=List.mem_flatMap.1 he
  exact hp.2.2 e (List.mem_flatMap.2 ⟨r,hs r hr,hx⟩) f hf'
theorem Own.append {base:Nat} {w:World} {A B:List Ent}:Own base w (A++B)↔Own base w A∧Own base w B∧∀ e∈A,∀ f∈B,∀ b,e.S b→¬ f.S b:=by
 constructor
 ·intro h
  obtain ⟨h1,h2,h3⟩:=List.pairwise_append.1 h.apart
  exact ⟨⟨fun e he=>h.here e (List.mem_append_left _ he),fun e he=>h.foot e (List.mem_append_left _ he),h1⟩,⟨fun e he=>h.here e (List.mem_append_right _ he),fun e he=>h.foot e (List.mem_append_right _ he),h2⟩,h3⟩
 ·rintro ⟨h1,h2,h3⟩
  refine ⟨fun e he=>?_,fun e he=>?_,List.pairwise_append.2 ⟨h1.apart,h2.apart,h3⟩⟩
  ·rcases List.mem_append.1 he with he|he
   ·exact h1.here e he
   ·exact h2.here e he
  ·rcases List.mem_append.1 he with he|he
   ·exact h1.foot e he
   ·exact h2.foot e he
theorem Own.family2 {base:Nat} {w:World} {A:List Ent} {S S':List Rw} {F:Rw→List Ent} (hn:S.Nodup) (hn':S'.Nodup) (hs:∀ r∈S',r∈S) (h:Own base w (A++(S.flatMap F++H0))):Own base w (A++(S'.flatMap F++H0)):=by
 obtain ⟨h1,h2,h3⟩:=Own.append.1 h
 refine Own.append.2 ⟨h1,Own.family hn hn' hs h2,fun e he f hf=>h3 e he f ?_⟩
 rcases List.mem_append.1 hf with hf|hf
 ·obtain ⟨r,hr,hx⟩:=List.mem_flatMap.1 hf
  exact List.mem_append_left _ (List.mem_flatMap.2 ⟨r,hs r hr,hx⟩)
 ·exact List.mem_append_right _ hf
theorem Own.swap {base:Nat} {w:World} {A B C:List Ent} (h:Own base w (A++(B++C))):Own base w (B++(A++C)):=by
 obtain ⟨h1,h2,h3⟩:=Own.append.1 h
 obtain ⟨h4,h5,h6⟩:=Own.append.1 h2
 refine Own.append.2 ⟨h4,Own.append.2 ⟨h1,h5,fun e he f hf=>h3 e he f (List.mem_append_right _ hf)⟩,fun e he f hf b hb hb'=>?_⟩
 rcases List.mem_append.1 hf with hf|hf
 ·exact h3 f hf e (List.mem_append_left _ he) b hb' hb
 ·exact h6 e he f hf b hb hb'
end
section
variable {S : Pend} {P:Program} {w0:World} {n:Nat} {d:List Deferred} {R0:List (Nat × Value)} {H0:List Ent} {Q:Exit→Act→World→Prop} {ops:Array Oper} {bs:List (List Bool)}
theorem zCt (hF:ChkF ops bs) {listed:Array Bool} (hcl:∀ k,listed.getD k true=true→∀ j,bitB bs k j=true→listed.getD j true=true) {k:Nat} (hr:k∈Region.ready .any ops listed):∀ j,bitB bs k j=true→listed.getD j true=true:=by
 intro j hj
 obtain ⟨hnl,o,ho,hpre⟩:=mem_ready.1 hr
 have hT:∀ k,listed.getD k false=true→listed.getD k true=true:=by
  intro k hk
  by_cases h:k<listed.size
  ·simpa [Array.getElem?_eq_getElem h] using hk
  ·simp [Array.getElem?_eq_none (Nat.le_of_not_lt h)]
 have hdir:∀ j,dirB ops k j=true→listed.getD j true=true:=by
  intro j hj
  simp only [dirB,ho,Array.any_eq_true',Bool.and_eq_true,beq_iff_eq] at hj
  obtain ⟨e,he,hb,rfl⟩:=hj
  exact hT _ (hpre e he hb)
 obtain ⟨_,_,h⟩:=hF.clo k j hj
 rcases h with h | ⟨m,hm,h1,h2⟩
 ·exact hdir j h
 ·exact hcl m (hdir m h1) j h2
theorem zGJ (hF:ChkF ops bs) {listed:Array Bool} (hs:listed.size=ops.size) {k:Nat} (hk:k<ops.size) (hl:listed.getD k true=false) (hb:∀ j,j<k→listed.getD j true=true):k∈Region.ready .any ops listed:=by
 refine mem_ready.2 ⟨hl,ops[k],Array.getElem?_eq_getElem hk,fun e he hbd=>?_⟩
 have hd:dirB ops k e.on=true:=by
  unfold dirB
  rw [Array.getElem?_eq_getElem hk]
  simp only [Array.any_eq_true']
  exact ⟨e,he,by simp [hbd]⟩
 have hlt:=hF.acy k e.on hd
 have h:=hb e.on hlt
 have:e.on<listed.size:=by omega
 simpa [Array.getElem?_eq_getElem this] using h
theorem count_le {listed:Array Bool} {k:Nat} (hk:k<listed.size) (hl:listed.getD k true=false):0<listed.toList.count false:=by
 have hv:listed[k]=false:=by simpa [Array.getElem?_eq_getElem hk] using hl
 rw [List.count_pos_iff]
 have:listed.toList[k]'(by simpa using hk)=false:=by simpa using hv
 rw [← this];exact List.getElem_mem _
theorem tail_any (hF:ChkF ops bs):∀ (fuel k:Nat) (listed:Array Bool) (a:Act) (w:World),listed.size=ops.size→(∀ j,j<k→listed.getD j true=true)→(∀ j,k≤j→j<ops.size→listed.getD j true=false)→listed.toList.count false≤fuel →
  (∀ i j,k≤i→i<ops.size→j<i→bitB bs i j=true)→wpL ro P ops Q (ops.toList.drop k) a w→wpAnyIn (FW ro) 9 P .any ops Q fuel listed a w:=by
 intro fuel
 have hnil:∀ (k:Nat) (listed:Array Bool) (a:Act) (w:World),listed.size=ops.size→(∀ j,j<k→listed.getD j true=true)→(∀ j,k≤j→j<ops.size→listed.getD j true=false)→wpL ro P ops Q (ops.toList.drop k) a w→Region.ready .any ops listed=[]→Q .normal a w:=by
  intro k listed a w hs h1 h2 hw hr
  rcases Nat.lt_or_ge k ops.size with hk|hk
  ·have:=zGJ hF hs hk (h2 k (Nat.le_refl _) hk) h1
   rw [hr] at this;cases this
  ·rw [List.drop_eq_nil_of_le (by simpa using hk)] at hw
   exact hw
 induction fuel with
 | zero =>
  intro k listed a w hs h1 h2 hc hb hw
  have hr:Region.ready .any ops listed=[]:=by
   apply List.eq_nil_iff_forall_not_mem.2
   intro i hi
   obtain ⟨hnl,_⟩:=mem_ready.1 hi
   have hlt:i<listed.size:=by
    rcases Nat.lt_or_ge i listed.size with h|h
    ·exact h
    ·simp [Array.getElem?_eq_none h] at hnl
   have:=count_le hlt hnl
   omega
  exact ⟨hr,hnil k listed a w hs h1 h2 hw hr⟩
 | succ fuel ih =>
  intro k listed a w hs h1 h2 hc hb hw
  refine ⟨hnil k listed a w hs h1 h2 hw,fun i hi=>?_⟩
  obtain ⟨hnl,o,ho,hpre⟩:=mem_ready.1 hi
  have hlt:i<listed.size:=by
   rcases Nat.lt_or_ge i listed.size with h|h
   ·exact h
   ·simp [Array.getElem?_eq_none h] at hnl
  have hik:k≤i:=by
   rcases Nat.lt_or_ge i k with h|h
   ·rw [h1 i h] at hnl;cases hnl
   ·exact h
  have hki:i=k:=by
   rcases Nat.lt_or_ge k i with h|h
   · -- k is before i,and not listed
    have hkb:=hb i k hik (by omega) h
    have hkf:=h2 k (Nat.le_refl _) (by omega)
    obtain ⟨_,_,hh⟩:=hF.clo i k hkb
    have hT:∀ k,listed.getD k false=true→listed.getD k true=true:=by
     intro k hk
     by_cases h:k<listed.size
     ·simpa [Array.getElem?_eq_getElem h] using hk
     ·simp [Array.getElem?_eq_none (Nat.le_of_not_lt h)]
    have hdir:∀ j,dirB ops i j=true→listed.getD j true=true:=by
     intro j hj
     simp only [dirB,ho,Array.any_eq_true',Bool.and_eq_true,beq_iff_eq] at hj
     obtain ⟨e,he,hb,rfl⟩:=hj
     exact hT _ (hpre e he hb)
    rcases hh with hh | ⟨m,hm,h3,h4⟩
    ·rw [hdir k hh] at hkf;cases hkf
    ·have h5:=hdir m h3
     have h6:m<k:=by
      rcases Nat.lt_or_ge m k with h|h
      ·exact h
      ·rw [h2 m h (by omega)] at h5;cases h5
     have:=(hF.clo m k h4).2.1
     omega
   ·omega
  subst hki
  have hcs:=count_set hlt hnl
  have hdrop:ops.toList.drop i=o::ops.toList.drop (i+1):=by
   have h3:i<ops.toList.length:=by simp;omega
   rw [List.drop_eq_getElem_cons h3]
   congr 1
   have h4:=(Array.getElem?_eq_some_iff.1 ho).2
   simpa using h4
  rw [hdrop] at hw
  have hnext:∀ a w,wpL ro P ops Q (ops.toList.drop (i+1)) a w→wpAnyIn (FW ro) 9 P .any ops Q fuel (listed.setIfInBounds i true) a w:=by
   intro a w hw
   refine ih (i+1) _ a w (by simpa using hs) (fun j hj=>?_) (fun j hj hjs=>?_) (by omega) (fun i' j h3 h4 h5=>hb i' j (by omega) h4 h5) hw
   ·by_cases hji:j=i
    ·subst hji;simp [hlt]
    ·have:=h1 j (by omega)
     simp only [Array.getD_eq_getD_getElem?] at this ⊢
     rw [Array.getElem?_setIfInBounds_ne (by omega)];exact this
   ·have:=h2 j (by omega) hjs
    simp only [Array.getD_eq_getD_getElem?] at this ⊢
    rw [Array.getElem?_setIfInBounds_ne (by omega)];exact this
  unfold wpOpIn
  simp only [ho]
  unfold wpL wpListIn at hw
  split
  ·rename_i hwt
   rw [if_pos hwt] at hw
   exact Oper.wpIn_mono hnext hw
  ·rename_i hwt
   rw [if_neg hwt] at hw
   exact ⟨hw.1,hnext _ _ hw.2⟩
theorem zDj : ∀ (b:List Bool) {T:List Rw},T.Nodup→(fltT b T).Nodup
 | true::b,x::T,h=>by
  have h1:=List.nodup_cons.1 h
  simp only [fltT]
  exact List.nodup_cons.2 ⟨fun hm=>h1.1 (zCm _ _ _ hm),zDj b h1.2⟩
 | false::b,x::T,h=>zDj b (List.nodup_cons.1 h).2
 | [],T,h=>by simp [fltT]
 | _::_,[],h=>by simp [fltT]
end
end Go.Proofs.YtcpdjamlhhfbhaaGreat
namespace Go.Proofs.YtcpdjamlhhfbhaaGreat
variable {ro : Option Nat}
open Go.RowKit
def Ev (P:Program) (w0:World) (n:Nat) (d:List Deferred) (R:List (Nat × Value)) (H:List Ent) (o:Oper) (v:Value):Prop :=
 ∀ a w,Kn w0 n d R H a w→(execOp a.eval o).run P w = .ok (.value v) w
section
variable {P : Program} {w0:World} {n:Nat} {d:List Deferred} {R:List (Nat × Value)} {H:List Ent} {o:Oper} {x y:Operand} {v u:Value} {T T':TypeId} {k:IntKind} {i j:Int}
theorem zAT (hop:o.op = .move x) (hx:evR R x=some v):Ev P w0 n d R H o (v) :=
 (fun a w k=>by unfold execOp;rw [hop];simp only [Sem.run_pure,k.ev hx])
theorem zAS (hop:o.op = .assign x) (hx:evR R x=some v):Ev P w0 n d R H o (v) :=
 (fun a w k=>by unfold execOp;rw [hop];simp only [Sem.run_pure,k.ev hx])
theorem zAz {c:Operand} {b:Bool} (hop:o.op = .pick c x y) (hc:evR R c=some (.bool b)) (hx:evR R (cond b x y)=some v):Ev P w0 n d R H o (v) :=
 (fun a w k=>by
  unfold execOp;rw [hop]
  simp only [Sem.run_bind,k.ev hc,asBool,Sem.run_pure,Result.andThen_ok]
  have:=k.ev hx
  cases b<;>simp_all)
theorem zAM {i:Nat} {vs:List Value} (hop:o.op = .extract x i) (hx:evR R x=some (.tuple vs.toArray)) (hi:vs[i]?=some v):Ev P w0 n d R H o (v) :=
 (fun a w k=>by unfold execOp;rw [hop];simp [k.ev hx,Instr.extract,hi])
theorem zBU {b:Bool} {T:TypeId} (hop:o.op = .unOp .not T x) (hx:evR R x=some (.bool b)):Ev P w0 n d R H o (.bool (not b)) :=
 (fun a w k=>by unfold execOp;rw [hop];simp [k.ev hx,Op.unary])
theorem e_neg {T:TypeId} {k:IntKind} {i:Int} (hop:o.op = .unOp .neg T x) (hx:evR R x=some (.int k i)) (hr:k.wrap (0 - i) = -i):Ev P w0 n d R H o (.int k (-i)) :=
 (fun a w q=>by unfold execOp;rw [hop];simp only [Sem.run_bind,q.ev hx,Op.unary,Op.intArith,Sem.run_pure,Result.andThen_ok,hr])
theorem zA8 (hop:o.op = .binOp .add T x y T') (hx:evR R x=some (.int k i)) (hy:evR R y=some (.int k j)) (hr:k.wrap (i+j)=i+j):Ev P w0 n d R H o (.int k (i+j)) :=
 (fun a w q=>by unfold execOp;rw [hop];simp [q.ev hx,q.ev hy,eqGuard,binOp,Op.intArith,hr])
theorem zAl {m:Nat} (hop:o.op = .binOp .add T x y T') (hx:evR R x=some (.int .i64 (m:Int))) (hy:evR R y=some (.int .i64 1)) (hr:m<9223372036854775807):Ev P w0 n d R H o (.int .i64 ((m+1:Nat):Int)) :=
 (fun a w q=>by
  unfold execOp;rw [hop]
  have:=IntWalk.i64_in ((m:Int)+1) (by omega)
  simp [q.ev hx,q.ev hy,eqGuard,binOp,Op.intArith,this])
theorem zBB (hop:o.op = .binOp .sub T x y T') (hx:evR R x=some (.int k i)) (hy:evR R y=some (.int k j)) (hr:k.wrap (i - j)=i - j):Ev P w0 n d R H o (.int k (i - j)) :=
 (fun a w q=>by unfold execOp;rw [hop];simp [q.ev hx,q.ev hy,eqGuard,binOp,Op.intArith,hr])
theorem zA6 (hop:o.op = .binOp .mul T x y T') (hx:evR R x=some (.int k i)) (hy:evR R y=some (.int k j)) (hr:k.wrap (i * j)=i * j):Ev P w0 n d R H o (.int k (i * j)) :=
 (fun a w q=>by unfold execOp;rw [hop];simp [q.ev hx,q.ev hy,eqGuard,binOp,Op.intArith,hr])
theorem zBE (hop:o.op = .binOp .quo T x y T') (hx:evR R x=some (.int k i)) (hy:evR R y=some (.int k j)) (h0:0≤i) (h1:0<j) (hr:k.wrap (i / j)=i / j):Ev P w0 n d R H o (.int k (i / j)) :=
 (fun a w q=>by
  unfold execOp;rw [hop]
  have h2:¬ j=0:=by omega
  simp [q.ev hx,q.ev hy,eqGuard,binOp,Op.intDiv,h2,Int.tdiv_eq_ediv_of_nonneg h0,hr])
theorem zBT (hop:o.op = .binOp .rem T x y T') (hx:evR R x=some (.int k i)) (hy:evR R y=some (.int k j)) (h0:0≤i) (h1:0<j):Ev P w0 n d R H o (.int k (i % j)) :=
 (fun a w q=>by
  unfold execOp;rw [hop]
  have h2:¬ j=0:=by omega
  simp [q.ev hx,q.ev hy,eqGuard,binOp,Op.intDiv,h2,Int.tmod_eq_emod_of_nonneg h0])
theorem zAR {T1 T2:TypeId} {d1:TypeDesc} {s1 s2:Nat} {g1 g2:Bool} {k':IntKind} (hop:o.op = .convert T1 T2 x) [i1:TyI P T1 d1 s1 g1] [i2:TyI P T2 (.int k') s2 g2] (hx:evR R x=some (.int k i)) (hr:k'.wrap i=i):Ev P w0 n d R H o (.int k' i) :=
 (fun a w q=>by
  unfold execOp;rw [hop]
  have e1:=run_underlying i1.und w
  have e2:=run_underlying i2.und w
  simp [q.ev hx,convert,e1,e2,Conv.intToInt,hr])
theorem zAE {p:Addr} (hop:o.op = .nilCheck x) (hx:evR R x=some (.pointer (some p))):Ev P w0 n d R H o (.pointer (some p)) :=
 (fun a w q=>by unfold execOp;rw [hop];simp [q.ev hx])
theorem zAI {fn:Fn} {fs cs:Array Operand} {us vs:List Value} (hop:o.op = .makeFunc fn fs cs) (hx:evs R fs.toList=some us) (hy:evs R cs.toList=some vs):Ev P w0 n d R H o (.func fn us.toArray vs.toArray) :=
 (fun a w q=>by
  unfold execOp;rw [hop]
  have e1:fs.map a.eval=us.toArray:=by apply Array.ext';simpa using q.evs hx
  have e2:cs.map a.eval=vs.toArray:=by apply Array.ext';simpa using q.evs hy
  simp [e1,e2,Instr.makeFunc])
theorem zBM {e:TypeId} {s:Nat} {g:Bool} {A:Option Addr} {m c:Nat} (hop:o.op = .call ⟨.builtin .len,#[x],#[T]⟩) [i1:TyI P T (.slice e) s g] (hx:evR R x=some (.slice A m c)):Ev P w0 n d R H o (.int .i64 (m:Int)) :=
 (fun a w q=>by
  unfold execOp;rw [hop]
  have e1:=run_underlying i1.und w
  simp [q.ev hx,resolve,invoke,builtin,Builtin.len_,e1,goInt])
theorem zBV {e:TypeId} {s:Nat} {g:Bool} {A:Option Addr} {m c:Nat} (hop:o.op = .call ⟨.builtin .cap,#[x],#[T]⟩) [i1:TyI P T (.slice e) s g] (hx:evR R x=some (.slice A m c)):Ev P w0 n d R H o (.int .i64 (c:Int)) :=
 (fun a w q=>by
  unfold execOp;rw [hop]
  have e1:=run_underlying i1.und w
  simp [q.ev hx,resolve,invoke,builtin,Builtin.cap_,e1,goInt])
theorem zBF {ts:Array TypeId} (hop:o.op = .call ⟨.builtin .min,#[x,y],ts⟩) (hx:evR R x=some (.int k i)) (hy:evR R y=some (.int k j)):Ev P w0 n d R H o (.int k (min i j)) :=
 (fun a w q=>by
  unfold execOp;rw [hop]
  have:(if j<i then j else i)=min i j:=by omega
  simp [q.ev hx,q.ev hy,resolve,invoke,builtin,Builtin.min_,Builtin.min2,this])
theorem zA7 {ts:Array TypeId} (hop:o.op = .call ⟨.builtin .max,#[x,y],ts⟩) (hx:evR R x=some (.int k i)) (hy:evR R y=some (.int k j)):Ev P w0 n d R H o (.int k (max i j)) :=
 (fun a w q=>by
  unfold execOp;rw [hop]
  have:(if i<j then j else i)=max i j:=by omega
  simp [q.ev hx,q.ev hy,resolve,invoke,builtin,Builtin.max_,Builtin.max2,this])
theorem zAQ {m b off off':Nat} (hop:o.op = .fieldAddr T x m) [i1:FoI P T m off'] (hx:evR R x=some (.pointer (some ⟨b,off,none⟩))):Ev P w0 n d R H o (.pointer (some ⟨b,off+off',none⟩)) :=
 (fun a w q=>by
  unfold execOp;rw [hop]
  simp only [q.ev hx,Sem.run_bind,i1.at_,Result.andThen_ok,Sem.run_pure])
theorem zu {e:TypeId} {s s' b off m c:Nat} {g g':Bool} {td:TypeDesc} {I:Nat} (hop:o.op = .indexAddr T x y) [i1:TyI P T (.slice e) s g] [i2:TyI P e td s' g'] (hx:evR R x=some (.slice (some ⟨b,off,none⟩) m c)) (hy:evR R y=some (.int k i)) (hI:i=(I:Int)) (hi:I<m):Ev P w0 n d R H o (.pointer (some ⟨b,off+I * s',none⟩)) :=
 (fun a w q=>by
  subst hI
  unfold execOp;rw [hop]
  have e1:=run_underlying i1.und w
  have e2:=i2.siz w
  have h0:(0:Int)≤I:=by omega
  have h1:(I:Int)<m:=by omega
  simp [q.ev hx,q.ev hy,Instr.indexAt,asIntOf,e1,e2,hi,zBg])
theorem zAJ {e:TypeId} {s s' b off m:Nat} {g g':Bool} {td:TypeDesc} {I:Nat} (hop:o.op = .indexAddr T x y) [i1:TyI P T (.array m e) s g] [i2:TyI P e td s' g'] (hx:evR R x=some (.pointer (some ⟨b,off,none⟩))) (hy:evR R y=some (.int k i)) (hI:i=(I:Int)) (hi:I<m):Ev P w0 n d R H o (.pointer (some ⟨b,off+I * s',none⟩)) :=
 (fun a w q=>by
  subst hI
  unfold execOp;rw [hop]
  have e1:=run_underlying i1.und w
  have e2:=i2.siz w
  have h0:(0:Int)≤I:=by omega
  have h1:(I:Int)<m:=by omega
  simp [q.ev hx,q.ev hy,Instr.indexAt,asIntOf,e1,e2,hi,zBg,Instr.sureAddr])
theorem e_build {T:TypeId} {ps:Array (Nat × Operand)} {pl:List (Nat × Nat)} {z cs:List Value} {qs:List (Nat × Value)} (hop:o.op = .build T ps) [i1:TyB P T pl z] (hp:evp R ps.toList=some qs)
  (hf:fillL (pl[·]?) z qs=some cs):Ev P w0 n d R H o (.agg cs.toArray) :=
 (fun a w q=>by
  unfold execOp;rw [hop]
  have e1:(ps.map fun (i,x)=>(i,a.eval x)).toList=qs:=by rw [Array.toList_map];exact q.evp hp
  have e2:P.built T (ps.map fun (i,x)=>(i,a.eval x)).toList=some cs.toArray:=by
   rw [i1.bui,e1]
   have:=fill_eq (pl[·]?) qs z cs hf
   simpa using this
  simp only [Sem.run_bind,run_build w T _ _ e2,Result.andThen_ok,Sem.run_pure])
theorem e_load {T:TypeId} {td:TypeDesc} {s b off:Nat} {g:Bool} {vs:List Value} (hop:o.op = .load T x) [i1:TyI P T td s g] (hx:evR R x=some (.pointer (some ⟨b,off,none⟩))) (hs:Src w0 H b off vs) (hv:rdv g vs s=some v):Ev P w0 n d R H o (v) :=
 (fun a w q=>by
  unfold execOp;rw [hop]
  have e1:=i1.agg w
  have e2:=i1.siz w
  have hc:=hs w q.below q.own
  cases g
  ·simp only [rdv] at hv
   have:=hc 0 v hv
   simp only [Nat.add_zero] at this
   simp [q.ev hx,Instr.loadAt,Instr.sureAddr,loadVar,e1,this]
  ·simp only [rdv] at hv
   cases hl:Nat.ble s vs.length with
   | false=>rw [hl] at hv;simp at hv
   | true =>
    rw [hl] at hv
    simp only [cond_true,Option.some.injEq] at hv
    subst hv
    have hlen:(vs.take s).length=s:=by have:=Nat.le_of_ble_eq_true hl;simp;omega
    have:=run_loadCells_list (P:=P) w ⟨b,off,none⟩ (vs.take s) (fun j u hu=>by
     rw [zBg]
     refine hc j u ?_
     rw [List.getElem?_take] at hu
     split at hu
     ·exact hu
     ·cases hu)
    rw [hlen] at this
    simp [q.ev hx,Instr.loadAt,Instr.sureAddr,loadVar,e1,e2,this])
theorem zAF {td:TypeDesc} {s b off:Nat} {g:Bool} {vs:List Value} (hop:o.op = .load T x) [i1:TyI P T td s g] (hx:evR R x=some (.pointer (some ⟨b,off,none⟩))) [i2:zET w0 H b off vs] (hv:rdv g vs s=some v):Ev P w0 n d R H o v:=e_load hop hx i2.src hv
theorem zAN {ps:Array (Nat × Operand)} {pl:List (Nat × Nat)} {z cs:List Value} {qs:List (Nat × Value)} (hop:o.op = .build T ps) [i1:TyB P T pl z] (hp:evp R ps.toList=some qs) (hf:fillL (pl[·]?) z qs=some cs):Ev P w0 n d R H o (.agg cs.toArray):=e_build hop hp hf
end
end Go.Proofs.YtcpdjamlhhfbhaaGreat
