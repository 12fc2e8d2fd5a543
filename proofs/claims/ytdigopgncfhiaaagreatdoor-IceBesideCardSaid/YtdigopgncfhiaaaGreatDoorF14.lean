/- F14 -/
import Derived.Test.YtdigopgncfhiaaaGreatDoorRows
set_option linter.unusedSimpArgs false
set_option linter.unusedVariables false
namespace Go.Proofs.YtdigopgncfhiaaaGreatDoor.Flow
def sumL {α:Type}:List α→(α→Int)→Int
 | [],_=>0
 | x::r,f=>f x+sumL r f
section
variable {α β:Type}
theorem zAJ {f g:α→Int}:∀ {l:List α},(∀ x∈l,f x=g x)→sumL l f=sumL l g
 | [],_=>rfl
 | x::r,h=>by
  simp only [sumL]
  rw [h x (by simp),zAJ fun y hy=>h y (List.mem_cons_of_mem _ hy)]
theorem zBQ {f g:α→Int}:∀ {l:List α},(∀ x∈l,f x≤g x)→sumL l f≤sumL l g
 | [],_=>by simp [sumL]
 | x::r,h=>by
  have h1:=h x (by simp)
  have h2:=zBQ (l:=r) fun y hy=>h y (List.mem_cons_of_mem _ hy)
  simp only [sumL];omega
theorem zAh {f:α→Int}:∀ {l:List α},(∀ x∈l,f x=0)→sumL l f=0
 | [],_=>rfl
 | x::r,h=>by
  simp only [sumL]
  rw [h x (by simp),zAh fun y hy=>h y (List.mem_cons_of_mem _ hy)];rfl
theorem zBC {f:α→Int} {l:List α} (h:∀ x∈l,0≤f x):0≤sumL l f:=by
 have:=zBQ (f:=fun _=>0) (g:=f) (l:=l) h
 rwa [zAh (fun _ _=>rfl)] at this
theorem zCs (f g:α→Int):∀ l:List α,sumL l (fun x=>f x+g x)=sumL l f+sumL l g
 | []=>rfl
 | x::r=>by simp only [sumL];rw [zCs f g r];omega
theorem zEl (f g:α→Int):∀ l:List α,sumL l (fun x=>f x - g x)=sumL l f - sumL l g
 | []=>rfl
 | x::r=>by simp only [sumL];rw [zEl f g r];omega
theorem zHl (f:α→Int):∀ l:List α,sumL l (fun x=>- f x) = - sumL l f
 | []=>rfl
 | x::r=>by simp only [sumL];rw [zHl f r];omega
theorem zCr (f:α→Int):∀ l m:List α,sumL (l++m) f=sumL l f+sumL m f
 | [],m=>by simp [sumL]
 | x::r,m=>by simp only [List.cons_append,sumL];rw [zCr f r m];omega
theorem zGZ (f:α→β→Int):∀ (l:List α) (m:List β),sumL l (fun x=>sumL m (fun y=>f x y))=sumL m (fun y=>sumL l (fun x=>f x y))
 | [],m=>by simp only [sumL];rw [zAh (fun _ _=>rfl)]
 | x::r,m=>by simp only [sumL];rw [zGZ f r m,zCs]
theorem zHm (g:α→β) (f:β→Int):∀ l:List α,sumL (l.map g) f=sumL l (fun x=>f (g x))
 | []=>rfl
 | x::r=>by simp only [List.map_cons,sumL];rw [zHm g f r]
theorem zEO (g:α→List β) (f:β→Int):∀ l:List α,sumL (l.flatMap g) f=sumL l (fun x=>sumL (g x) f)
 | []=>rfl
 | x::r=>by simp only [List.flatMap_cons,sumL];rw [zCr,zEO g f r]
theorem zF1 [DecidableEq α] {a:α} {c:Int}:∀ {l:List α},l.Nodup→a∈l→sumL l (fun x=>if x=a then c else 0)=c
 | [],_,h=>by cases h
 | x::r,hn,h=>by
  rw [List.nodup_cons] at hn
  simp only [sumL]
  by_cases hx:x=a
  ·subst hx
   rw [if_pos rfl,zAh (fun y hy=>if_neg (fun e=>hn.1 (by rw [← e];exact hy)))];omega
  ·rw [if_neg hx]
   rcases List.mem_cons.1 h with rfl|h
   ·exact absurd rfl hx
   ·rw [zF1 hn.2 h];omega
theorem zNQ {l:List α} {f:α→α→Int} (h:∀ u v,f u v = - f v u) (p:α→Bool):sumL l (fun u=>sumL l (fun v=>if p u && p v then f u v else 0))=0:=by
 have e:sumL l (fun u=>sumL l (fun v=>if p u && p v then f u v else 0)) = - sumL l (fun u=>sumL l (fun v=>if p u && p v then f u v else 0)):=by
  refine (zGZ _ l l).trans ?_
  rw [← zHl]
  refine zAJ fun u _=>?_
  rw [← zHl]
  refine zAJ fun v _=>?_
  cases p u<;>cases p v<;>simp
  have:=h v u;omega
 omega
theorem zM4 {l:List α} {f:α→α→Int} (h:∀ u v,f u v = - f v u) (p:α→Bool):sumL l (fun u=>if p u then sumL l (f u) else 0)=sumL l (fun u=>sumL l (fun v=>if p u && !p v then f u v else 0)):=by
 have h0:=zNQ (l:=l) h p
 have e:sumL l (fun u=>if p u then sumL l (f u) else 0)=sumL l (fun u=>sumL l (fun v=>if p u && p v then f u v else 0))+sumL l (fun u=>sumL l (fun v=>if p u && !p v then f u v else 0)):=by
  rw [← zCs]
  refine zAJ fun u _=>?_
  rw [← zCs]
  cases p u
  ·simp [zAh]
  ·simp only [if_true,Bool.true_and]
   refine zAJ fun v _=>?_
   cases p v<;>simp
 omega
end
structure Nd where
 k:Nat
 a:Nat
 b:Nat
 deriving DecidableEq
abbrev Rm := Nd × Nd→Option Int
def upd {α β:Type} [DecidableEq α] (f:α→β) (a:α) (b:β):α→β:=fun x=>if x=a then b else f x
def rg (rm:Rm) (u v:Nd):Int:=(rm (u,v)).getD 0
structure St where
 rm:Rm
 un:Nd→Bool
def dec (rm:Rm) (u v:Nd):Rm:=upd rm (u,v) (some (rg rm u v - 1))
def inc (rm:Rm) (u v:Nd):Rm:=upd rm (u,v) (some (rg rm u v+1))
def bump (rm:Rm) (u v:Nd):Rm:=inc (dec rm u v) v u
def scan (p:Nd→St→Bool × St) (u:Nd):List Nd→St→Bool × St
 | [],s=>(false,s)
 | v::r,s =>
  if rg s.rm u v=0∨s.un v=false then scan p u r s
  else if (p v s).1 then (true,{ (p v s).2 with rm:=bump (p v s).2.rm u v }) else scan p u r (p v s).2
def push (e:Nd) (nx:Nd→List Nd):Nat→Nd→St→Bool × St
 | 0,_,s=>(false,s)
 | f+1,u,s=>if u=e then (true,s) else scan (push e nx f) u (nx u) { s with un:=upd s.un u false }
theorem rg_dec {rm:Rm} {u v x y:Nd}:rg (dec rm u v) x y=rg rm x y - (if x=u∧y=v then 1 else 0):=by
 unfold rg dec upd
 by_cases h:(x,y)=(u,v)
 ·rw [if_pos h];simp only [Prod.mk.injEq] at h;simp [h];rfl
 ·rw [if_neg h];simp only [Prod.mk.injEq] at h;simp [h]
theorem rg_inc {rm:Rm} {u v x y:Nd}:rg (inc rm u v) x y=rg rm x y+(if x=u∧y=v then 1 else 0):=by
 unfold rg inc upd
 by_cases h:(x,y)=(u,v)
 ·rw [if_pos h];simp only [Prod.mk.injEq] at h;simp [h];rfl
 ·rw [if_neg h];simp only [Prod.mk.injEq] at h;simp [h]
theorem zF5 {rm:Rm} {u v x y:Nd}:rg (bump rm u v) x y=rg rm x y - (if x=u∧y=v then 1 else 0)+(if x=v∧y=u then 1 else 0):=by
 unfold bump;rw [rg_inc,rg_dec]
def cnt (V:List Nd) (un:Nd→Bool):Nat:=(V.filter un).length
theorem zIR {V:List Nd} {un un':Nd→Bool} (h:∀ x,un' x=true→un x=true):cnt V un'≤cnt V un:=by
 unfold cnt
 induction V with
 | nil=>simp
 | cons x r ih =>
  simp only [List.filter_cons]
  have:=h x
  cases h1:un' x<;>cases h2:un x<;>simp_all<;>omega
theorem zGM {V:List Nd} {un:Nd→Bool} {u:Nd} (hV:u∈V) (hu:un u=true):cnt V (upd un u false)<cnt V un:=by
 have hs:∀ x,upd un u false x=true→un x=true:=fun x hx=>by
  unfold upd at hx;split at hx<;>simp_all
 induction V with
 | nil=>cases hV
 | cons x r ih =>
  have hle:=zIR (V:=r) hs
  unfold cnt at ih hle ⊢
  by_cases hx:x=u
  ·subst hx
   have e:upd un x false x=false:=by simp [upd]
   rw [List.filter_cons_of_neg (by simp [e]),List.filter_cons_of_pos hu,List.length_cons];omega
  ·have hV':u∈r:=by
    rcases List.mem_cons.1 hV with rfl|h
    ·exact absurd rfl hx
    ·exact h
   have:=ih hV'
   have e:upd un u false x=un x:=by simp [upd,hx]
   cases h9:un x
   ·rw [List.filter_cons_of_neg (by simp [e,h9]),List.filter_cons_of_neg (by simp [h9])];exact this
   ·rw [List.filter_cons_of_pos (by rw [e,h9]),List.filter_cons_of_pos h9,List.length_cons,List.length_cons];omega
structure zGS (e:Nd) (nx:Nd→List Nd) (s s':St):Prop where
 rm:s'.rm=s.rm
 un:∀ x,s'.un x=true→s.un x=true
 e:s'.un e=s.un e
 closed:∀ x,s.un x=true→s'.un x=false→∀ v∈nx x,rg s.rm x v≠0→s'.un v=false
theorem zGS.trans {e:Nd} {nx:Nd→List Nd} {s t r:St} (h:zGS e nx s t) (h2:zGS e nx t r):zGS e nx s r :=
 ⟨h2.rm.trans h.rm,fun x hx=>h.un x (h2.un x hx),h2.e.trans h.e,fun x hx hx' v hv hr=>by
  cases ht:t.un x with
  | true=>exact h2.closed x ht hx' v hv (by rw [h.rm];exact hr)
  | false =>
   have:=h.closed x hx ht v hv hr
   cases h3:r.un v with
   | false=>rfl
   | true=>rw [h2.un v h3] at this;cases this⟩
theorem zFd {V:List Nd} {e:Nd} {nx:Nd→List Nd} {f:Nat} (u:Nd) (ih:∀ v s s',v∈V→s.un v=true→cnt V s.un≤f→push e nx f v s=(false,s')→zGS e nx s s'∧s'.un v=false) :
  ∀ (l:List Nd) (s s':St),(∀ v∈l,v∈V)→cnt V s.un≤f→scan (push e nx f) u l s=(false,s')→zGS e nx s s'∧∀ v∈l,rg s.rm u v≠0→s'.un v=false
 | [],s,s',_,_,h=>by
  simp only [scan,Prod.mk.injEq,true_and] at h
  subst h
  exact ⟨⟨rfl,fun _ h=>h,rfl,fun x h1 h2=>by rw [h1] at h2;cases h2⟩,by simp⟩
 | v::r,s,s',hl,hc,h=>by
  simp only [scan] at h
  by_cases h0:rg s.rm u v=0∨s.un v=false
  ·rw [if_pos h0] at h
   obtain ⟨h1,h2⟩:=zFd u ih r s s' (fun x hx=>hl x (List.mem_cons_of_mem _ hx)) hc h
   refine ⟨h1,fun x hx hr=>?_⟩
   rcases List.mem_cons.1 hx with rfl|hx
   ·rcases h0 with h0|h0
    ·exact absurd h0 hr
    ·cases h3:s'.un x with
     | false=>rfl
     | true=>rw [h1.un x h3] at h0;cases h0
   ·exact h2 x hx hr
  ·rw [if_neg h0] at h
   have hv:s.un v=true:=by
    cases h9:s.un v with
    | true=>rfl
    | false=>exact absurd (.inr h9) h0
   cases hp:(push e nx f v s).1 with
   | true=>rw [hp] at h;simp at h
   | false =>
    rw [hp] at h
    simp only [Bool.false_eq_true,if_false] at h
    obtain ⟨h3,h4⟩:=ih v s (push e nx f v s).2 (hl v (by simp)) hv hc (by rw [← hp])
    have hc':cnt V (push e nx f v s).2.un≤f:=Nat.le_trans (zIR h3.un) hc
    obtain ⟨h1,h2⟩:=zFd u ih r _ s' (fun x hx=>hl x (List.mem_cons_of_mem _ hx)) hc' h
    refine ⟨h3.trans h1,fun x hx hr=>?_⟩
    rcases List.mem_cons.1 hx with rfl|hx
    ·cases h5:s'.un x with
     | false=>rfl
     | true=>rw [h1.un x h5] at h4;cases h4
    ·exact h2 x hx (by rw [h3.rm];exact hr)
theorem zFh {V:List Nd} {e:Nd} {nx:Nd→List Nd} (hV:∀ u v,v∈nx u→v∈V):∀ (f:Nat) (u:Nd) (s s':St),cnt V (upd s.un u false)<f→push e nx f u s=(false,s') →
  u≠e∧zGS e nx { s with un:=upd s.un u false } s'∧∀ v∈nx u,rg s.rm u v≠0→s'.un v=false
 | 0,_,_,_,h,_=>by omega
 | f+1,u,s,s',hc,h=>by
  simp only [push] at h
  by_cases hu:u=e
  ·rw [if_pos hu] at h;simp at h
  ·rw [if_neg hu] at h
   refine ⟨hu,zFd (V:=V) (f:=f) u ?_ (nx u) _ s' (hV u) (by exact Nat.le_of_lt_succ hc) h⟩
   intro v s1 s2 hv hun hcn h1
   obtain ⟨hve,h2,h3⟩:=zFh hV f v s1 s2 (Nat.lt_of_lt_of_le (zGM hv hun) hcn) h1
   have hfv:s2.un v=false:=by
    cases h5:s2.un v with
    | false=>rfl
    | true=>have:=h2.un v h5;simp [upd] at this
   refine ⟨⟨h2.rm,fun x hx=>?_,?_,fun x hx hx' w hw hr=>?_⟩,hfv⟩
   ·have:=h2.un x hx
    simp only [upd] at this
    split at this
    ·cases this
    ·exact this
   ·rw [h2.e];simp [upd];intro _ h;exact absurd h.symm hve
   ·by_cases hxv:x=v
    ·subst hxv;exact h3 w hw hr
    ·exact h2.closed x (by simp [upd,hxv,hx]) hx' w hw hr
structure Comes (V:List Nd) (e u:Nd) (s s':St):Prop where
 sum:∀ x y,rg s'.rm x y+rg s'.rm y x=rg s.rm x y+rg s.rm y x
 far:∀ x y,¬ ((x=u∨s.un x=true)∧(y=u∨s.un y=true))→rg s'.rm x y=rg s.rm x y
 pos:(∀ x y,0≤rg s.rm x y)→∀ x y,0≤rg s'.rm x y
 bal:∀ x,sumL V (rg s'.rm x)=sumL V (rg s.rm x) - (if x=u then 1 else 0)+(if x=e then 1 else 0)
theorem zMn {V:List Nd} (hn:V.Nodup) {x u v:Nd} (hv:v∈V):sumL V (fun y=>if x=u∧y=v then (1:Int) else 0)=if x=u then 1 else 0:=by
 by_cases h:x=u
 ·rw [if_pos h]
  refine Eq.trans (zAJ fun y _=>?_) (zF1 (c:=1) hn hv)
  by_cases hy:y=v
  ·rw [if_pos ⟨h,hy⟩,if_pos hy]
  ·rw [if_neg (fun e=>hy e.2),if_neg hy]
 ·rw [if_neg h]
  exact zAh fun y _=>by simp [h]
theorem bump_bal {V:List Nd} (hn:V.Nodup) {rm:Rm} {u v:Nd} (hu:u∈V) (hv:v∈V) (x:Nd):sumL V (rg (bump rm u v) x)=sumL V (rg rm x) - (if x=u then 1 else 0)+(if x=v then 1 else 0):=by
 have e:sumL V (rg (bump rm u v) x)=sumL V (fun y=>(rg rm x y - (if x=u∧y=v then 1 else 0))+(if x=v∧y=u then 1 else 0)):=zAJ fun y _=>zF5
 rw [e,zCs,zEl,zMn hn hv,zMn hn hu]
theorem zGd {V:List Nd} (hn:V.Nodup) {e:Nd} {nx:Nd→List Nd} {f:Nat} (u:Nd) (hu:u∈V) (ih:∀ v s s',v∈V→s.un v=true→cnt V s.un≤f→push e nx f v s=(true,s')→Comes V e v s s')
  (ihf:∀ v s s',v∈V→s.un v=true→cnt V s.un≤f→push e nx f v s=(false,s')→zGS e nx s s') :
  ∀ (l:List Nd) (s s':St),(∀ v∈l,v∈V)→s.un u=false→cnt V s.un≤f→scan (push e nx f) u l s=(true,s')→Comes V e u s s'
 | [],s,s',_,_,_,h=>by simp [scan] at h
 | v::r,s,s',hl,hs,hc,h=>by
  simp only [scan] at h
  by_cases h0:rg s.rm u v=0∨s.un v=false
  ·rw [if_pos h0] at h
   exact zGd hn u hu ih ihf r s s' (fun x hx=>hl x (List.mem_cons_of_mem _ hx)) hs hc h
  ·rw [if_neg h0] at h
   have hv:s.un v=true:=by
    cases h9:s.un v with
    | true=>rfl
    | false=>exact absurd (.inr h9) h0
   have huv:u≠v:=fun e=>by rw [e,hv] at hs;cases hs
   cases hp:(push e nx f v s).1 with
   | true =>
    rw [hp] at h
    simp only [if_true,Prod.mk.injEq,true_and] at h
    subst h
    have hC:=ih v s (push e nx f v s).2 (hl v (by simp)) hv hc (by rw [← hp])
    generalize (push e nx f v s).2=t at hC
    have hsame:rg t.rm u v=rg s.rm u v:=hC.far u v (by
     rintro ⟨h|h,_⟩
     ·exact huv h
     ·rw [hs] at h;cases h)
    refine ⟨fun x y=>?_,fun x y hxy=>?_,fun hp x y=>?_,fun x=>?_⟩
    ·have:=hC.sum x y
     simp only [zF5]
     by_cases h1:x=u∧y=v
     ·obtain ⟨rfl,rfl⟩:=h1
      simp [huv,huv.symm];omega
     ·by_cases h2:x=v∧y=u
      ·obtain ⟨rfl,rfl⟩:=h2
       simp [huv,huv.symm];omega
      ·have h3:¬ (y=u∧x=v):=fun h=>h2 ⟨h.2,h.1⟩
       have h4:¬ (y=v∧x=u):=fun h=>h1 ⟨h.2,h.1⟩
       simp only [if_neg h1,if_neg h2,if_neg h3,if_neg h4];omega
    ·simp only [zF5]
     have h1:¬ (x=u∧y=v):=fun h=>hxy ⟨.inl h.1,.inr (h.2 ▸ hv)⟩
     have h2:¬ (x=v∧y=u):=fun h=>hxy ⟨.inr (h.1 ▸ hv),.inl h.2⟩
     rw [if_neg h1,if_neg h2,hC.far x y (fun h=>hxy ⟨.inr (h.1.elim (fun e=>e ▸ hv) id),.inr (h.2.elim (fun e=>e ▸ hv) id)⟩)]
     omega
    ·have h1:=hC.pos hp x y
     have h2:=hp u v
     simp only [zF5]
     by_cases h3:x=u∧y=v
     ·obtain ⟨rfl,rfl⟩:=h3
      have:rg s.rm x y≠0:=fun h=>h0 (.inl h)
      simp [huv];omega
     ·rw [if_neg h3];split<;>omega
    ·show sumL V (rg (bump t.rm u v) x)=_
     rw [bump_bal hn hu (hl v (by simp)),hC.bal x]
     omega
   | false =>
    rw [hp] at h
    simp only [Bool.false_eq_true,if_false] at h
    have h3:=ihf v s (push e nx f v s).2 (hl v (by simp)) hv hc (by rw [← hp])
    have hs':(push e nx f v s).2.un u=false:=by
     cases h9:(push e nx f v s).2.un u with
     | false=>rfl
     | true=>rw [h3.un u h9] at hs;cases hs
    have hC:=zGd hn u hu ih ihf r _ s' (fun x hx=>hl x (List.mem_cons_of_mem _ hx)) hs' (Nat.le_trans (zIR h3.un) hc) h
    refine ⟨fun x y=>?_,fun x y hxy=>?_,fun hp=>?_,fun x=>?_⟩
    ·have:=hC.sum x y;rw [h3.rm] at this;exact this
    ·have:=hC.far x y (fun h=>hxy ⟨h.1.imp id (h3.un x),h.2.imp id (h3.un y)⟩);rw [h3.rm] at this;exact this
    ·have:=hC.pos;rw [h3.rm] at this;exact this hp
    ·have:=hC.bal x;rw [h3.rm] at this;exact this
theorem zIO {V:List Nd} {e:Nd} {nx:Nd→List Nd} (hV:∀ u v,v∈nx u→v∈V) {f:Nat} {v:Nd} {s s2:St} (hv:v∈V) (hun:s.un v=true) (hcn:cnt V s.un≤f) (h1:push e nx f v s=(false,s2)):zGS e nx s s2:=by
 obtain ⟨hve,h2,h3⟩:=zFh hV f v s s2 (Nat.lt_of_lt_of_le (zGM hv hun) hcn) h1
 refine ⟨h2.rm,fun x hx=>?_,?_,fun x hx hx' w hw hr=>?_⟩
 ·have:=h2.un x hx
  simp only [upd] at this
  split at this
  ·cases this
  ·exact this
 ·rw [h2.e];simp [upd];intro _ h;exact absurd h.symm hve
 ·by_cases hxv:x=v
  ·subst hxv;exact h3 w hw hr
  ·exact h2.closed x (by simp [upd,hxv,hx]) hx' w hw hr
theorem zGk {V:List Nd} (hn:V.Nodup) {e:Nd} {nx:Nd→List Nd} (hV:∀ u v,v∈nx u→v∈V):∀ (f:Nat) (u:Nd) (s s':St),u∈V→cnt V (upd s.un u false)<f→push e nx f u s=(true,s')→Comes V e u s s'
 | 0,_,_,_,_,h,_=>by omega
 | f+1,u,s,s',hu,hc,h=>by
  simp only [push] at h
  by_cases hue:u=e
  ·rw [if_pos hue] at h
   simp only [Prod.mk.injEq,true_and] at h
   subst h
   exact ⟨fun _ _=>rfl,fun _ _ _=>rfl,fun h=>h,fun x=>by rw [hue];omega⟩
  ·rw [if_neg hue] at h
   have hC:=zGd (V:=V) hn (f:=f) u hu (fun v s1 s2 hv hun hcn h1=>zGk hn hV f v s1 s2 hv (Nat.lt_of_lt_of_le (zGM hv hun) hcn) h1) (fun v s1 s2 hv hun hcn h1=>zIO hV hv hun hcn h1) (nx u) _ s' (hV u) (by simp [upd]) (by exact Nat.le_of_lt_succ hc) h
   refine ⟨hC.sum,fun x y hxy=>hC.far x y fun h=>hxy ⟨?_,?_⟩,hC.pos,hC.bal⟩
   ·rcases h.1 with h|h
    ·exact .inl h
    ·simp only [upd] at h
     split at h
     ·cases h
     ·exact .inr h
   ·rcases h.2 with h|h
    ·exact .inl h
    ·simp only [upd] at h
     split at h
     ·cases h
     ·exact .inr h
def solve (e:Nd) (nx:Nd→List Nd) (un:Nd→Bool) (f:Nat):List Nd→Rm→Bool
 | [],_=>true
 | s::r,rm=>if (push e nx f s ⟨rm,un⟩).1 then solve e nx un f r (push e nx f s ⟨rm,un⟩).2.rm else false
structure zGR (cap:Nd→Nd→Int) (rm:Rm):Prop where
 sum:∀ x y,rg rm x y+rg rm y x=cap x y+cap y x
 pos:∀ x y,0≤rg rm x y
def out (V:List Nd) (cap:Nd→Nd→Int) (rm:Rm) (x:Nd):Int:=sumL V (fun y=>cap x y - rg rm x y)
structure Net (V:List Nd) (e:Nd) (nx:Nd→List Nd) (un:Nd→Bool) (cap:Nd→Nd→Int):Prop where
 nodup:V.Nodup
 e:e∈V
 inV:∀ u v,v∈nx u→v∈V
 adj:∀ u v,cap u v≠0→v∈nx u∧u∈nx v
 un:∀ u v,v∈nx u→un v=true
 pos:∀ u v,0≤cap u v
theorem zHV {V:List Nd} {un:Nd→Bool}:cnt V un≤V.length:=List.length_filter_le _ _
def occ (l:List Nd) (x:Nd):Int:=sumL l (fun y=>if x=y then 1 else 0)
theorem zHr {V:List Nd} {e:Nd} {nx:Nd→List Nd} {un:Nd→Bool} {cap:Nd→Nd→Int} (hN:Net V e nx un cap) {f:Nat} (hf:V.length<f):∀ (l:List Nd) (rm:Rm),(∀ s∈l,s∈V)→zGR cap rm→solve e nx un f l rm=true →
  ∃ rm',zGR cap rm'∧∀ x,x≠e→out V cap rm' x=out V cap rm x+occ l x
 | [],rm,_,hF,_=>⟨rm,hF,fun x _=>by simp [occ,sumL]⟩
 | s::r,rm,hl,hF,h=>by
  simp only [solve] at h
  cases hp:(push e nx f s ⟨rm,un⟩).1 with
  | false=>rw [hp] at h;simp at h
  | true =>
   rw [hp] at h
   simp only [if_true] at h
   have hC:=zGk hN.nodup hN.inV f s ⟨rm,un⟩ (push e nx f s ⟨rm,un⟩).2 (hl s (by simp)) (Nat.lt_of_le_of_lt zHV hf) (by rw [← hp])
   obtain ⟨rm',h1,h2⟩:=zHr hN hf r _ (fun x hx=>hl x (List.mem_cons_of_mem _ hx)) ⟨fun x y=>by rw [hC.sum x y];exact hF.sum x y,hC.pos hF.pos⟩ h
   refine ⟨rm',h1,fun x hx=>?_⟩
   rw [h2 x hx]
   have e1:sumL V (rg (push e nx f s ⟨rm,un⟩).2.rm x)=sumL V (rg rm x) - (if x=s then 1 else 0)+0:=by
    have:=hC.bal x
    rw [if_neg hx] at this
    exact this
   simp only [out,zEl,occ,sumL]
   by_cases hxs:x=s
   ·rw [if_pos hxs] at e1 ⊢;omega
   ·rw [if_neg hxs] at e1 ⊢;omega
theorem zG2 {V:List Nd} {e:Nd} {nx:Nd→List Nd} {un:Nd→Bool} {cap:Nd→Nd→Int} (hN:Net V e nx un cap) (hue:un e=true) {f:Nat} (hf:V.length<f):∀ (l:List Nd) (rm:Rm),(∀ s∈l,s∈V)→(∀ s∈l,s≠e)→zGR cap rm→solve e nx un f l rm=false →
  ∃ (l1:List Nd) (s:Nd) (l2:List Nd) (rm':Rm) (p:Nd→Bool),l=l1++s::l2∧zGR cap rm'∧(∀ x,x≠e→out V cap rm' x=out V cap rm x+occ l1 x)∧p s=true∧p e=false∧∀ x y,p x=true→p y=false→rg rm' x y=0
 | [],rm,_,_,_,h=>by simp [solve] at h
 | s::r,rm,hl,hle,hF,h=>by
  simp only [solve] at h
  cases hp:(push e nx f s ⟨rm,un⟩).1 with
  | true =>
   rw [hp] at h
   simp only [if_true] at h
   have hC:=zGk hN.nodup hN.inV f s ⟨rm,un⟩ (push e nx f s ⟨rm,un⟩).2 (hl s (by simp)) (Nat.lt_of_le_of_lt zHV hf) (by rw [← hp])
   obtain ⟨l1,s',l2,rm',p,h0,h1,h2,h3⟩:=zG2 hN hue hf r _ (fun x hx=>hl x (List.mem_cons_of_mem _ hx)) (fun x hx=>hle x (List.mem_cons_of_mem _ hx)) ⟨fun x y=>by rw [hC.sum x y];exact hF.sum x y,hC.pos hF.pos⟩ h
   refine ⟨s::l1,s',l2,rm',p,by rw [h0];rfl,h1,fun x hx=>?_,h3⟩
   rw [h2 x hx]
   have e1:sumL V (rg (push e nx f s ⟨rm,un⟩).2.rm x)=sumL V (rg rm x) - (if x=s then 1 else 0)+0:=by
    have:=hC.bal x
    rw [if_neg hx] at this
    exact this
   simp only [out,zEl,occ,sumL]
   by_cases hxs:x=s
   ·rw [if_pos hxs] at e1 ⊢;omega
   ·rw [if_neg hxs] at e1 ⊢;omega
  | false =>
   obtain ⟨hse,hFa,hsc⟩:=zFh hN.inV f s ⟨rm,un⟩ (push e nx f s ⟨rm,un⟩).2 (Nat.lt_of_le_of_lt zHV hf) (by rw [← hp])
   generalize (push e nx f s ⟨rm,un⟩).2=t at hFa hsc
   have hts:t.un s=false:=by
    cases h5:t.un s with
    | false=>rfl
    | true=>have:=hFa.un s h5;simp [upd] at this
   refine ⟨[],s,r,rm,fun x=>(decide (x=s) || un x) && !t.un x,rfl,hF,fun x _=>by simp [occ,sumL],by simp [hts],?_,?_⟩
   ·have:t.un e=true:=by rw [hFa.e];simp [upd,hue];exact fun h=>hse h.symm
    simp [this]
   ·intro x y hx hy
    by_cases hc:cap x y=0∧cap y x=0
    ·have h1:=hF.sum x y;have h2:=hF.pos x y;have h3:=hF.pos y x;omega
    ·have hyx:y∈nx x:=by
      by_cases h1:cap x y=0
      ·exact (hN.adj y x (fun h2=>hc ⟨h1,h2⟩)).2
      ·exact (hN.adj x y h1).1
     have huy:=hN.un x y hyx
     simp only [huy,Bool.or_true,Bool.true_and,Bool.not_eq_false'] at hy
     simp only [Bool.and_eq_true,Bool.or_eq_true,decide_eq_true_eq,Bool.not_eq_true'] at hx
     rcases Classical.em (rg rm x y=0) with h9|h9
     ·exact h9
     ·exfalso
      by_cases hxs:x=s
      ·subst hxs
       have:=hsc y hyx h9
       rw [this] at hy;cases hy
      ·have hux:un x=true:=hx.1.resolve_left hxs
       have:=hFa.closed x (by simp [upd,hxs,hux]) hx.2 y hyx h9
       rw [this] at hy;cases hy
theorem cut_le {V:List Nd} {cap:Nd→Nd→Int} {rm:Rm} (hF:zGR cap rm) (p:Nd→Bool):sumL V (fun u=>if p u then out V cap rm u else 0)≤sumL V (fun u=>sumL V (fun v=>if p u && !p v then cap u v else 0)):=by
 unfold out
 rw [zM4 (f:=fun u v=>cap u v - rg rm u v) (fun u v=>by have:=hF.sum u v;omega) p]
 refine zBQ fun u _=>zBQ fun v _=>?_
 have:=hF.pos u v
 split<;>omega
theorem cut_eq {V:List Nd} {cap:Nd→Nd→Int} {rm:Rm} (hF:zGR cap rm) (p:Nd→Bool) (h0:∀ x y,p x=true→p y=false→rg rm x y=0):sumL V (fun u=>if p u then out V cap rm u else 0)=sumL V (fun u=>sumL V (fun v=>if p u && !p v then cap u v else 0)):=by
 unfold out
 rw [zM4 (f:=fun u v=>cap u v - rg rm u v) (fun u v=>by have:=hF.sum u v;omega) p]
 refine zAJ fun u _=>zAJ fun v _=>?_
 cases hu:p u<;>cases hv:p v<;>simp
 rw [h0 u v hu hv];omega
end Go.Proofs.YtdigopgncfhiaaaGreatDoor.Flow
namespace Go.Proofs.YtdigopgncfhiaaaGreatDoor.Flow
section
variable {α : Type}
theorem zEm {l:List α} {f:α→Int} {a:α} (h:∀ x∈l,0≤f x) (ha:a∈l):f a≤sumL l f:=by
 induction l with
 | nil=>cases ha
 | cons x r ih =>
  simp only [sumL]
  have h1:=h x (by simp)
  have h2:=zBC (l:=r) (f:=f) fun y hy=>h y (List.mem_cons_of_mem _ hy)
  rcases List.mem_cons.1 ha with rfl|ha
  ·omega
  ·have:=ih (fun y hy=>h y (List.mem_cons_of_mem _ hy)) ha;omega
theorem zI0 [DecidableEq α] {l:List α} {f:α→Int} {a:α} (hn:l.Nodup) (ha:a∈l) (h:∀ x∈l,x≠a→f x=0):sumL l f=f a:=by
 rw [← zF1 (c:=f a) hn ha]
 refine zAJ fun x hx=>?_
 by_cases e:x=a
 ·rw [if_pos e,e]
 ·rw [if_neg e,h x hx e]
end
theorem zG6 (n:Nat):List.range (n+1)=List.range n++[n]:=List.range_succ
theorem zAq (f:Nat→Int) (n:Nat):sumL (List.range (n+1)) f=sumL (List.range n) f+f n:=by
 rw [zG6,zCr];simp [sumL]
theorem zBy (f:Nat→Int) (q:Nat):∀ n,q≤n→sumL (List.range n) (fun h=>if h<q then f h else 0)=sumL (List.range q) f
  | 0, h => by obtain rfl : q = 0 := by omega
               rfl
  | n+1,h=>by
    rw [zAq]
    by_cases e:q=n+1
    · subst e
      rw [zAq,if_pos (by omega)]
      congr 1
      exact zAJ fun x hx=>by rw [if_pos (by have:=List.mem_range.1 hx;omega)]
    · rw [zBy f q n (by omega),if_neg (by omega)];omega
theorem zCf (q:Nat):sumL (List.range q) (fun _=>(1:Int))=q:=by
 induction q with
 | zero=>rfl
 | succ q ih=>rw [zAq,ih];omega
def nS (i n:Nat):Nd:=⟨0,i,n⟩
def nT (i h:Nat):Nd:=⟨1,i,h⟩
def nH (h:Nat):Nd:=⟨2,h,0⟩
def nE : Nd:=⟨3,0,0⟩
structure Job where
 nb:Nat
 nh:Nat
 nd:Nat→Nat→Int
 my:Nat→Nat→Bool
 hd:Nat→Int
 top:Nat→Nat
 due:Nat→Nat→Nat
structure Job.Ok (J:Job):Prop where
 due:∀ i n,i<J.nb→n<J.top i→J.due i n<J.nh∧(n:Int)<J.nd i (J.due i n)∧∀ h,h<J.due i n→J.nd i h≤n
 top:∀ i h,i<J.nb→h<J.nh→J.nd i h≤J.top i
 hd:∀ h,0≤J.hd h
def lackF (nd:Nat→Int) (my sm:Nat→Bool):Nat→Int × Int
 | 0=>(0,0)
 | h+1=>(max (lackF nd my sm h).1 (nd h - (lackF nd my sm h).2),if my h && !sm h then (lackF nd my sm h).2+1 else (lackF nd my sm h).2)
def zFM (my sm:Nat→Bool) (h:Nat):Int:=sumL (List.range h) (fun k=>if my k && !sm k then 1 else 0)
theorem zGq {nd:Nat→Int} {my sm:Nat→Bool}:∀ k,(lackF nd my sm k).2=zFM my sm k
 | 0=>rfl
 | k+1=>by
  simp only [lackF,zFM]
  rw [zAq,zGq k]
  unfold zFM
  split<;>simp_all
theorem zFD {nd:Nat→Int} {my sm:Nat→Bool}:∀ k,0≤(lackF nd my sm k).1
 | 0=>by simp [lackF]
 | k+1=>by have:=zFD (nd:=nd) (my:=my) (sm:=sm) k;simp only [lackF];omega
theorem zIG {nd:Nat→Int} {my sm:Nat→Bool}:∀ k h,h<k→nd h - zFM my sm h≤(lackF nd my sm k).1
 | 0,h,hh=>by omega
 | k+1,h,hh=>by
  simp only [lackF]
  by_cases e:h=k
  ·subst e;rw [zGq];omega
  ·have:=zIG (nd:=nd) (my:=my) (sm:=sm) k h (by omega);omega
theorem zLA {nd:Nat→Int} {my sm:Nat→Bool}:∀ k,(lackF nd my sm k).1=0∨∃ h,h<k∧(lackF nd my sm k).1=nd h - zFM my sm h
 | 0=>.inl rfl
 | k+1=>by
  simp only [lackF]
  rw [zGq]
  rcases Int.le_total (nd k - zFM my sm k) (lackF nd my sm k).1 with h|h
  ·rw [Int.max_eq_left h]
   rcases zLA (nd:=nd) (my:=my) (sm:=sm) k with h1 | ⟨h',h1,h2⟩
   ·exact .inl h1
   ·exact .inr ⟨h',by omega,h2⟩
  ·rw [Int.max_eq_right h]
   exact .inr ⟨k,by omega,rfl⟩
def shortF (J:Job) (sm:Nat→Bool):Prop:=sumL (List.range J.nh) (fun h=>if sm h then J.hd h else 0)<sumL (List.range J.nb) (fun i=>(lackF (J.nd i) (J.my i) sm J.nh).1)
def zB8 (J:Job):List Nd:=(List.range J.nb).flatMap fun i=>(List.range (J.top i)).map (nS i)
def zKy (J:Job):List Nd:=(List.range J.nb).flatMap fun i=>(List.range J.nh).map (nT i)
def zH9 (J:Job):List Nd:=(List.range J.nh).map nH
def nodes (J:Job):List Nd:=zB8 J++(zKy J++(zH9 J++[nE]))
theorem zC7 {J:Job} {x:Nd}:x∈zB8 J↔∃ i n,i<J.nb∧n<J.top i∧x=nS i n:=by
 simp only [zB8,List.mem_flatMap,List.mem_range,List.mem_map]
 constructor
 ·rintro ⟨i,hi,n,hn,rfl⟩;exact ⟨i,n,hi,hn,rfl⟩
 ·rintro ⟨i,n,hi,hn,rfl⟩;exact ⟨i,hi,n,hn,rfl⟩
theorem zGo {J:Job} {x:Nd}:x∈zKy J↔∃ i h,i<J.nb∧h<J.nh∧x=nT i h:=by
 simp only [zKy,List.mem_flatMap,List.mem_range,List.mem_map]
 constructor
 ·rintro ⟨i,hi,n,hn,rfl⟩;exact ⟨i,n,hi,hn,rfl⟩
 ·rintro ⟨i,n,hi,hn,rfl⟩;exact ⟨i,hi,n,hn,rfl⟩
theorem zE9 {J:Job} {x:Nd}:x∈zH9 J↔∃ h,h<J.nh∧x=nH h:=by
 simp only [zH9,List.mem_map,List.mem_range]
 constructor
 ·rintro ⟨h,hh,rfl⟩;exact ⟨h,hh,rfl⟩
 ·rintro ⟨h,hh,rfl⟩;exact ⟨h,hh,rfl⟩
theorem zH8 {f:Nat→Nat→Nd} (hf:∀ i n i' n',f i n=f i' n'→i=i'∧n=n') (t:Nat→Nat) (m:Nat):((List.range m).flatMap fun i=>(List.range (t i)).map (f i)).Nodup:=by
 induction m with
 | zero=>simp
 | succ m ih =>
  rw [zG6,List.flatMap_append]
  simp only [List.flatMap_cons,List.flatMap_nil,List.append_nil]
  rw [List.nodup_append]
  refine ⟨ih,?_,?_⟩
  ·have:=List.nodup_range (n:=t m)
   unfold List.Nodup at this ⊢
   rw [List.pairwise_map]
   exact this.imp fun {a b} h e=>h (hf _ _ _ _ e).2
  ·intro a ha b hb e
   subst e
   simp only [List.mem_flatMap,List.mem_range,List.mem_map] at ha hb
   obtain ⟨i,hi,n,_,h1⟩:=ha
   obtain ⟨n',_,h2⟩:=hb
   have:=(hf _ _ _ _ (h1.trans h2.symm)).1
   omega
theorem zHB (J:Job):(zB8 J).Nodup:=zH8 (fun i n i' n' h=>by simp [nS] at h;exact h) _ _
theorem zDY (J:Job):(nodes J).Nodup:=by
 unfold nodes
 rw [List.nodup_append]
 refine ⟨zHB J,?_,?_⟩
 ·rw [List.nodup_append]
  refine ⟨zH8 (fun i n i' n' h=>by simp [nT] at h;exact h) _ _,?_,?_⟩
  ·rw [List.nodup_append]
   refine ⟨?_,by simp,?_⟩
   ·have:=List.nodup_range (n:=J.nh)
    unfold zH9 List.Nodup at *
    rw [List.pairwise_map]
    exact this.imp fun {a b} h e=>h (by simp [nH] at e;exact e)
   ·intro a ha b hb e
    obtain ⟨h,_,rfl⟩:=zE9.1 ha
    simp only [List.mem_singleton] at hb
    rw [hb] at e;simp [nH,nE] at e
  ·intro a ha b hb e
   obtain ⟨i,h,_,_,rfl⟩:=zGo.1 ha
   rcases List.mem_append.1 hb with hb|hb
   ·obtain ⟨h,_,rfl⟩:=zE9.1 hb
    simp [nT,nH] at e
   ·simp only [List.mem_singleton] at hb
    rw [hb] at e;simp [nT,nE] at e
 ·intro a ha b hb e
  obtain ⟨i,h,_,_,rfl⟩:=zC7.1 ha
  rcases List.mem_append.1 hb with hb|hb
  ·obtain ⟨i,h,_,_,rfl⟩:=zGo.1 hb
   simp [nS,nT] at e
  ·rcases List.mem_append.1 hb with hb|hb
   ·obtain ⟨h,_,rfl⟩:=zE9.1 hb
    simp [nS,nH] at e
   ·simp only [List.mem_singleton] at hb
    rw [hb] at e;simp [nS,nE] at e
theorem zE4 (J:Job) (f:Nd→Int):sumL (nodes J) f=sumL (List.range J.nb) (fun i=>sumL (List.range (J.top i)) (fun n=>f (nS i n)))+sumL (List.range J.nb) (fun i=>sumL (List.range J.nh) (fun h=>f (nT i h)))+sumL (List.range J.nh) (fun h=>f (nH h))+f nE:=by
 simp only [nodes,zCr,zB8,zKy,zH9,zEO,zHm]
 simp only [sumL];omega
def okE (J:Job) (i n h:Nat):Prop:=i<J.nb∧n<J.top i∧h<J.due i n∧J.my i h=true
structure Cap (J:Job) (cap:Nd→Nd→Int):Prop where
 st:∀ i n h,okE J i n h→cap (nS i n) (nT i h)=1
 th:∀ i n h,okE J i n h→cap (nT i h) (nH h)=1
 he:∀ i n h,okE J i n h→cap (nH h) nE=J.hd h
 all:∀ u v,cap u v≠0→∃ i n h,okE J i n h∧((u=nS i n∧v=nT i h)∨(u=nT i h∧v=nH h)∨(u=nH h∧v=nE))
section
variable {J : Job} {cap:Nd→Nd→Int}
theorem Cap.pos (hJ:J.Ok) (hC:Cap J cap) (u v:Nd):0≤cap u v:=by
 by_cases h:cap u v=0
 ·omega
 ·obtain ⟨i,n,k,ho,⟨rfl,rfl⟩ | ⟨rfl,rfl⟩ | ⟨rfl,rfl⟩⟩:=hC.all u v h
  ·rw [hC.st i n k ho];omega
  ·rw [hC.th i n k ho];omega
  ·rw [hC.he i n k ho];exact hJ.hd k
theorem Cap.ofS (hC:Cap J cap) {i n:Nat} {v:Nd} (h:cap (nS i n) v≠0):∃ k,okE J i n k∧v=nT i k:=by
 obtain ⟨i',n',k,ho,⟨h1,rfl⟩ | ⟨h1,rfl⟩ | ⟨h1,rfl⟩⟩:=hC.all _ v h<;>simp only [nS,nT,nH,Nd.mk.injEq] at h1<;>try omega
 obtain ⟨_,rfl,rfl⟩:=h1
 exact ⟨k,ho,rfl⟩
theorem Cap.ofT (hC:Cap J cap) {i k:Nat} {v:Nd} (h:cap (nT i k) v≠0):∃ n,okE J i n k∧v=nH k:=by
 obtain ⟨i',n',k,ho,⟨h1,rfl⟩ | ⟨h1,rfl⟩ | ⟨h1,rfl⟩⟩:=hC.all _ v h<;>simp only [nS,nT,nH,Nd.mk.injEq] at h1<;>try omega
 obtain ⟨_,rfl,rfl⟩:=h1
 exact ⟨n',ho,rfl⟩
theorem Cap.ofH (hC:Cap J cap) {k:Nat} {v:Nd} (h:cap (nH k) v≠0):∃ i n,okE J i n k∧v=nE:=by
 obtain ⟨i',n',k,ho,⟨h1,rfl⟩ | ⟨h1,rfl⟩ | ⟨h1,rfl⟩⟩:=hC.all _ v h<;>simp only [nS,nT,nH,Nd.mk.injEq] at h1<;>try omega
 obtain ⟨_,rfl,_⟩:=h1
 exact ⟨i',n',ho,rfl⟩
theorem Cap.ofE (hC:Cap J cap) {v:Nd}:cap nE v=0:=by
 rcases Classical.em (cap nE v=0) with h|h
 ·exact h
 ·obtain ⟨i',n',k,ho,⟨h1,rfl⟩ | ⟨h1,rfl⟩ | ⟨h1,rfl⟩⟩:=hC.all _ v h<;>simp [nS,nT,nH,nE] at h1
theorem okE.h (hJ:J.Ok) {i n h:Nat} (ho:okE J i n h):h<J.nh:=by
 have:=(hJ.due i n ho.1 ho.2.1).1
 have:=ho.2.2.1
 omega
theorem nT_mem {i h:Nat} (hi:i<J.nb) (hh:h<J.nh):nT i h∈nodes J:=by
 simp only [nodes,List.mem_append];exact .inr (.inl (zGo.2 ⟨i,h,hi,hh,rfl⟩))
theorem zJ2 {h:Nat} (hh:h<J.nh):nH h∈nodes J:=by
 simp only [nodes,List.mem_append];exact .inr (.inr (.inl (zE9.2 ⟨h,hh,rfl⟩)))
theorem zJ3 : nE∈nodes J:=by simp [nodes]
theorem nS_mem {i n:Nat} (hi:i<J.nb) (hn:n<J.top i):nS i n∈nodes J:=by
 simp only [nodes,List.mem_append];exact .inl (zC7.2 ⟨i,n,hi,hn,rfl⟩)
theorem zNh {x:Nd} (h:x∈zB8 J):occ (zB8 J) x=1:=by
 refine Eq.trans (zAJ fun y _=>?_) (zF1 (c:=1) (zHB J) h)
 by_cases e:x=y
 ·rw [if_pos e,if_pos e.symm]
 ·rw [if_neg e,if_neg fun h=>e h.symm]
theorem occ_no {l:List Nd} {x:Nd} (h:x ∉ l):occ l x=0:=by
 refine zAh fun y hy=>?_
 exact if_neg fun e=>h (by rw [e];exact hy)
theorem zOB (hJ:J.Ok) (hC:Cap J cap) {rm:Rm} (hF:zGR cap rm) (ho:∀ x,x≠nE→out (nodes J) cap rm x=occ (zB8 J) x) (sm:Nat→Bool):¬ shortF J sm:=by
 -- for each stretch the hour that lacks the most
 have hq:∀ i,∃ q w:Nat,q≤J.nh∧(lackF (J.nd i) (J.my i) sm J.nh).1≤w - zFM (J.my i) sm q∧(i<J.nb→w≤J.top i∧∀ n,n<w→J.due i n≤q):=by
  intro i
  rcases zLA (nd:=J.nd i) (my:=J.my i) (sm:=sm) J.nh with h | ⟨h,h1,h2⟩
  ·exact ⟨0,0,by omega,by rw [h];simp [zFM,sumL],fun _=>⟨by omega,by omega⟩⟩
  ·have hp:=zFD (nd:=J.nd i) (my:=J.my i) (sm:=sm) J.nh
   refine ⟨h,(J.nd i h).toNat,by omega,by rw [h2];omega,fun hi=>⟨?_,fun n hn=>?_⟩⟩
   ·have:=hJ.top i h hi h1;omega
   ·have h3:=hJ.top i h hi h1
    obtain ⟨_,_,h4⟩:=hJ.due i n hi (by omega)
    rcases Nat.lt_or_ge h (J.due i n) with h5|h5
    ·have:=h4 h h5;omega
    ·exact h5
 obtain ⟨q,hq⟩:=Classical.axiomOfChoice hq
 obtain ⟨w,hq⟩:=Classical.axiomOfChoice hq
 let p:Nd→Bool:=fun x=>match x.k with | 0=>decide (x.b<w x.a) | 1=>decide (x.b<q x.a) | 2=>sm x.a | _=>false
 have hcut:=cut_le (V:=nodes J) hF p
 have e1:sumL (nodes J) (fun u=>if p u then out (nodes J) cap rm u else 0)=sumL (List.range J.nb) (fun i=>(w i:Int)):=by
  rw [zE4]
  rw [zAh (l:=List.range J.nb) (f:=fun i=>sumL (List.range J.nh) _) (fun i hi=>zAh fun h hh=>?_),zAh (l:=List.range J.nh) (fun h hh=>?_),if_neg (by simp [p,nE]),Int.add_zero,Int.add_zero,Int.add_zero]
  ·refine zAJ fun i hi=>?_
   have hi:=List.mem_range.1 hi
   rw [← zCf (w i),← zBy _ (w i) (J.top i) ((hq i).2.2 hi).1]
   refine zAJ fun n hn=>?_
   have hn:=List.mem_range.1 hn
   show (if decide (n<w i)=true then _ else _)=_
   by_cases h:n<w i
   ·rw [if_pos (by simpa using h),if_pos h,ho _ (by simp [nS,nE]),zNh (zC7.2 ⟨i,n,hi,hn,rfl⟩)]
   ·rw [if_neg (by simpa using h),if_neg h]
  ·rw [ho _ (by simp [nH,nE]),occ_no (fun h=>by obtain ⟨_,_,_,_,e⟩:=zC7.1 h;simp [nH,nS] at e)];simp
  ·rw [ho _ (by simp [nT,nE]),occ_no (fun h=>by obtain ⟨_,_,_,_,e⟩:=zC7.1 h;simp [nT,nS] at e)];simp
 have e2:sumL (nodes J) (fun u=>sumL (nodes J) (fun v=>if p u && !p v then cap u v else 0))≤sumL (List.range J.nb) (fun i=>zFM (J.my i) sm (q i))+sumL (List.range J.nh) (fun h=>if sm h then J.hd h else 0):=by
  rw [zE4]
  have z1:sumL (List.range J.nb) (fun i=>sumL (List.range (J.top i)) (fun n=>sumL (nodes J) (fun v=>if p (nS i n) && !p v then cap (nS i n) v else 0)))=0:=by
   refine zAh fun i hi=>zAh fun n hn=>zAh fun v hv=>?_
   have hi:=List.mem_range.1 hi
   cases hu:p (nS i n)
   ·simp
   ·rcases Classical.em (cap (nS i n) v=0) with h|h
    ·simp [h]
    ·obtain ⟨k,hok,rfl⟩:=hC.ofS h
     have:decide (n<w i)=true:=hu
     have:=((hq i).2.2 hi).2 n (by simpa using this)
     have h3:p (nT i k)=true:=by show decide (k<q i)=true;have:=hok.2.2.1;simp;omega
     simp [h3]
  have z2:sumL (List.range J.nb) (fun i=>sumL (List.range J.nh) (fun h=>sumL (nodes J) (fun v=>if p (nT i h) && !p v then cap (nT i h) v else 0)))≤sumL (List.range J.nb) (fun i=>zFM (J.my i) sm (q i)):=by
   refine zBQ fun i hi=>?_
   unfold zFM
   rw [← zBy _ (q i) J.nh (hq i).1]
   refine zBQ fun h hh=>?_
   have hh:=List.mem_range.1 hh
   rw [zI0 (a:=nH h) (zDY J) (zJ2 hh) (fun v _ hv=>?_)]
   ·show (if decide (h<q i) && !sm h then _ else _)≤_
    by_cases h1:h<q i
    ·rw [if_pos h1]
     cases h2:sm h
     ·simp only [h1,decide_true,Bool.not_false,Bool.and_self,if_true,Bool.and_true]
      rcases Classical.em (cap (nT i h) (nH h)=0) with h|h
      ·rw [h];split<;>omega
      ·obtain ⟨n,hok,_⟩:=hC.ofT h
       rw [hC.th i n _ hok,hok.2.2.2];simp
     ·simp
    ·rw [if_neg h1];simp [h1]
   ·rcases Classical.em (cap (nT i h) v=0) with h|h
    ·simp [h]
    ·obtain ⟨n,hok,e⟩:=hC.ofT h;exact absurd e hv
  have z3:sumL (List.range J.nh) (fun h=>sumL (nodes J) (fun v=>if p (nH h) && !p v then cap (nH h) v else 0))≤sumL (List.range J.nh) (fun h=>if sm h then J.hd h else 0):=by
   refine zBQ fun h hh=>?_
   rw [zI0 (a:=nE) (zDY J) zJ3 (fun v _ hv=>?_)]
   ·show (if sm h && !false then _ else _)≤_
    cases sm h
    ·simp
    ·simp only [Bool.not_false,Bool.and_self,if_true]
     rcases Classical.em (cap (nH h) nE=0) with h9|h9
     ·rw [h9];exact hJ.hd h
     ·obtain ⟨i,n,hok,_⟩:=hC.ofH h9
      rw [hC.he i n h hok];omega
   ·rcases Classical.em (cap (nH h) v=0) with h|h
    ·simp [h]
    ·obtain ⟨_,_,hok,e⟩:=hC.ofH h;exact absurd e hv
  have z4:sumL (nodes J) (fun v=>if p nE && !p v then cap nE v else 0)=0:=zAh fun v _=>by rw [hC.ofE];simp
  omega
 have e3:sumL (List.range J.nb) (fun i=>(lackF (J.nd i) (J.my i) sm J.nh).1)≤sumL (List.range J.nb) (fun i=>(w i:Int)) - sumL (List.range J.nb) (fun i=>zFM (J.my i) sm (q i)):=by
  rw [← zEl]
  exact zBQ fun i _=>(hq i).2.1
 unfold shortF
 omega
theorem zJb {f:Nat→Bool}:∀ (m:Nat),(∀ n,n<m→f n=false)∨∃ k,k<m∧f k=true∧(∀ n,n<m→f n=true→n≤k) 
 | 0=>.inl (by omega)
 | m+1=>by
  cases h:f m with
  | true=>exact .inr ⟨m,by omega,h,fun n hn _=>by omega⟩
  | false =>
   rcases zJb (f:=f) m with h1 | ⟨k,h1,h2,h3⟩
   ·refine .inl fun n hn=>?_
    by_cases e:n=m
    ·rw [e,h]
    ·exact h1 n (by omega)
   ·refine .inr ⟨k,by omega,h2,fun n hn hf=>?_⟩
    by_cases e:n=m
    ·rw [e,h] at hf;cases hf
    ·exact h3 n (by omega) hf
theorem zKV (hJ:J.Ok) (hC:Cap J cap) {rm:Rm} (hF:zGR cap rm) {l1 l2:List Nd} {s:Nd} (hl:zB8 J=l1++s::l2) (ho:∀ x,x≠nE→out (nodes J) cap rm x=occ l1 x) {p:Nd→Bool} (hs:p s=true) (he:p nE=false) (h0:∀ x y,p x=true→p y=false→rg rm x y=0):∃ sm,shortF J sm:=by
 have hcut:=cut_eq (V:=nodes J) hF p h0
 have hpos:=hC.pos hJ
 -- sprayings of the part
 have e1:sumL (nodes J) (fun u=>if p u then out (nodes J) cap rm u else 0)=sumL l1 (fun y=>if p y then 1 else 0):=by
  have:sumL (nodes J) (fun u=>if p u then out (nodes J) cap rm u else 0)=sumL (nodes J) (fun u=>sumL l1 (fun y=>if u=y then (if p y then 1 else 0) else 0)):=by
   refine zAJ fun u _=>?_
   by_cases hu:u=nE
   ·subst hu
    rw [he]
    rw [zAh (fun y hy=>?_)]
    ·simp
    ·split
     ·rename_i h;rw [← h,he];rfl
     ·rfl
   ·rw [ho u hu]
    unfold occ
    cases hp:p u
    ·simp only [Bool.false_eq_true,if_false]
     refine (zAh fun y hy=>?_).symm
     split
     ·rename_i h;rw [← h,hp];rfl
     ·rfl
    ·simp only [if_true]
     refine zAJ fun y _=>?_
     split
     ·rename_i h;rw [← h,hp];rfl
     ·rfl
  rw [this,zGZ]
  refine zAJ fun y hy=>?_
  refine zF1 (zDY J) ?_
  unfold nodes;rw [hl];simp [hy]
 have e2:sumL l1 (fun y=>if p y then (1:Int) else 0)+1≤sumL (List.range J.nb) (fun i=>sumL (List.range (J.top i)) (fun n=>if p (nS i n) then 1 else 0)):=by
  have:sumL (zB8 J) (fun y=>if p y then (1:Int) else 0)=sumL (List.range J.nb) (fun i=>sumL (List.range (J.top i)) (fun n=>if p (nS i n) then 1 else 0)):=by
   simp only [zB8,zEO,zHm]
  rw [← this,hl,zCr]
  simp only [sumL,hs,if_true]
  have:=zBC (l:=l2) (f:=fun y=>if p y then (1:Int) else 0) (fun y _=>by split<;>omega)
  omega
 let sm:Nat→Bool:=fun h=>p (nH h) && decide (cap (nH h) nE=J.hd h)
 have hsm:∀ i n h,okE J i n h→sm h=p (nH h):=fun i n h hok=>by simp [sm,hC.he i n h hok]
 refine ⟨sm,?_⟩
 let okb:Nat→Nat→Nat→Bool:=fun i n h=>@decide (okE J i n h) (Classical.propDecidable _)
 have hokb:∀ i n h,okb i n h=true↔okE J i n h:=fun i n h=>by simp [okb]
 let okt:Nat→Nat→Bool:=fun i h=>@decide (∃ n,okE J i n h) (Classical.propDecidable _)
 have hokt:∀ i h,okt i h=true↔∃ n,okE J i n h:=fun i h=>by simp [okt]
 let A:Nat→Int:=fun i=>sumL (List.range (J.top i)) (fun n=>sumL (List.range J.nh) (fun h=>if p (nS i n) && (okb i n h && !p (nT i h)) then 1 else 0))
 let B:Nat→Int:=fun i=>sumL (List.range J.nh) (fun h=>if p (nT i h) && (okt i h && !p (nH h)) then 1 else 0)
 have hg:∀ u v,0≤(if p u && !p v then cap u v else 0):=fun u v=>by have:=hpos u v;split<;>omega
 have e3:sumL (List.range J.nb) A+sumL (List.range J.nb) B+sumL (List.range J.nh) (fun h=>if sm h then J.hd h else 0)≤sumL (nodes J) (fun u=>sumL (nodes J) (fun v=>if p u && !p v then cap u v else 0)):=by
  rw [zE4]
  have z1:sumL (List.range J.nb) A≤sumL (List.range J.nb) (fun i=>sumL (List.range (J.top i)) (fun n=>sumL (nodes J) (fun v=>if p (nS i n) && !p v then cap (nS i n) v else 0))):=by
   refine zBQ fun i hi=>zBQ fun n hn=>?_
   rw [zE4]
   have hi:=List.mem_range.1 hi
   have y1:=zBC (l:=List.range J.nb) (f:=fun i'=>sumL (List.range (J.top i')) (fun n'=>if p (nS i n) && !p (nS i' n') then cap (nS i n) (nS i' n') else 0)) (fun i' _=>zBC fun n' _=>hg _ _)
   have y2:=zBC (l:=List.range J.nh) (f:=fun h=>if p (nS i n) && !p (nH h) then cap (nS i n) (nH h) else 0) (fun _ _=>hg _ _)
   have y3:=hg (nS i n) nE
   have y4:=zEm (l:=List.range J.nb) (f:=fun i'=>sumL (List.range J.nh) (fun h=>if p (nS i n) && !p (nT i' h) then cap (nS i n) (nT i' h) else 0)) (a:=i) (fun i' _=>zBC fun _ _=>hg _ _) (List.mem_range.2 hi)
   have y5:sumL (List.range J.nh) (fun h=>if p (nS i n) && (okb i n h && !p (nT i h)) then (1:Int) else 0)≤sumL (List.range J.nh) (fun h=>if p (nS i n) && !p (nT i h) then cap (nS i n) (nT i h) else 0):=by
    refine zBQ fun h _=>?_
    cases hb:okb i n h
    ·simpa using hg (nS i n) (nT i h)
    ·rw [hC.st i n h ((hokb i n h).1 hb)];simp
   omega
  have z2:sumL (List.range J.nb) B≤sumL (List.range J.nb) (fun i=>sumL (List.range J.nh) (fun h=>sumL (nodes J) (fun v=>if p (nT i h) && !p v then cap (nT i h) v else 0))):=by
   refine zBQ fun i hi=>zBQ fun h hh=>?_
   have hh:=List.mem_range.1 hh
   have y1:=zEm (l:=nodes J) (f:=fun v=>if p (nT i h) && !p v then cap (nT i h) v else 0) (a:=nH h) (fun _ _=>hg _ _) (zJ2 hh)
   refine Int.le_trans ?_ y1
   cases hb:okt i h
   ·simpa using hg (nT i h) (nH h)
   ·obtain ⟨n,hok⟩:=(hokt i h).1 hb
    rw [hC.th i n h hok];simp
  have z3:sumL (List.range J.nh) (fun h=>if sm h then J.hd h else 0)≤sumL (List.range J.nh) (fun h=>sumL (nodes J) (fun v=>if p (nH h) && !p v then cap (nH h) v else 0)):=by
   refine zBQ fun h hh=>?_
   have y1:=zEm (l:=nodes J) (f:=fun v=>if p (nH h) && !p v then cap (nH h) v else 0) (a:=nE) (fun _ _=>hg _ _) zJ3
   refine Int.le_trans ?_ y1
   simp only [he,sm]
   by_cases hp:p (nH h)=true
   rotate_left
   ·simp [hp]
   ·simp only [hp,Bool.true_and,Bool.not_false]
    by_cases hc:cap (nH h) nE=J.hd h
    ·simp [hc]
    ·simp [hc];exact hpos _ _
  have z4:0≤sumL (nodes J) (fun v=>if p nE && !p v then cap nE v else 0):=zBC fun _ _=>hg _ _
  omega
 have e4:sumL (List.range J.nb) (fun i=>sumL (List.range (J.top i)) (fun n=>if p (nS i n) then (1:Int) else 0))≤sumL (List.range J.nb) (fun i=>(lackF (J.nd i) (J.my i) sm J.nh).1)+sumL (List.range J.nb) A+sumL (List.range J.nb) B:=by
  rw [← zCs,← zCs]
  refine zBQ fun i hi=>?_
  have hi:=List.mem_range.1 hi
  have hA:0≤A i:=zBC fun _ _=>zBC fun _ _=>by split<;>omega
  have hB:0≤B i:=zBC fun _ _=>by split<;>omega
  rcases zJb (f:=fun n=>p (nS i n)) (J.top i) with h1 | ⟨k,h1,h2,h3⟩
  ·rw [zAh (fun n hn=>by rw [h1 n (List.mem_range.1 hn)];rfl)]
   have:=zFD (nd:=J.nd i) (my:=J.my i) (sm:=sm) J.nh
   omega
  ·obtain ⟨d1,d2,_⟩:=hJ.due i k hi h1
   have y1:=zIG (nd:=J.nd i) (my:=J.my i) (sm:=sm) J.nh (J.due i k) d1
   have y2:sumL (List.range (J.top i)) (fun n=>if p (nS i n) then (1:Int) else 0)≤((k+1:Nat):Int):=by
    rw [← zCf (k+1),← zBy _ (k+1) (J.top i) (by omega)]
    refine zBQ fun n hn=>?_
    by_cases hn':n<k+1
    ·rw [if_pos hn'];split<;>omega
    ·rw [if_neg hn',if_neg (fun h=>hn' (by have:=h3 n (List.mem_range.1 hn) h;omega))];omega
   have y3:zFM (J.my i) sm (J.due i k)≤sumL (List.range J.nh) (fun h=>if p (nS i k) && (okb i k h && !p (nT i h)) then 1 else 0)+B i:=by
    unfold zFM
    rw [← zBy _ (J.due i k) J.nh (by omega)]
    show _≤_+sumL (List.range J.nh) _
    rw [← zCs]
    refine zBQ fun h _=>?_
    by_cases hd:h<J.due i k
    ·rw [if_pos hd]
     by_cases hm:(J.my i h && !sm h)=true
     ·rw [if_pos hm]
      simp only [Bool.and_eq_true,Bool.not_eq_true'] at hm
      have hok:okE J i k h:=⟨hi,h1,hd,hm.1⟩
      have hb:=(hokb i k h).2 hok
      have ht:=(hokt i h).2 ⟨k,hok⟩
      have hp:=hsm i k h hok
      rw [hm.2] at hp
      have h2:p (nS i k)=true:=h2
      rw [hb,ht,← hp,h2]
      cases p (nT i h)<;>simp
     ·rw [if_neg hm];split<;>split<;>omega
    ·rw [if_neg hd];split<;>split<;>omega
   have y4:sumL (List.range J.nh) (fun h=>if p (nS i k) && (okb i k h && !p (nT i h)) then (1:Int) else 0)≤A i :=
    zEm (l:=List.range (J.top i)) (f:=fun n=>sumL (List.range J.nh) (fun h=>if p (nS i n) && (okb i n h && !p (nT i h)) then 1 else 0)) (a:=k) (fun _ _=>zBC fun _ _=>by split<;>omega) (List.mem_range.2 h1)
   omega
 unfold shortF
 omega
end
end Go.Proofs.YtdigopgncfhiaaaGreatDoor.Flow
namespace Go.Proofs.YtdigopgncfhiaaaGreatDoor.Flow
structure Gr where
 rm:Rm
 nx:Nd→List Nd
def gr0 : Gr:=⟨fun _=>none,fun _=>[]⟩
def zEz (g:Gr) (x:Nd × Nd × Int):Gr :=
 ⟨upd g.rm (x.1,x.2.1) (some x.2.2),if (g.rm (x.1,x.2.1)).isSome then g.nx else upd (upd g.nx x.1 (g.nx x.1++[x.2.1])) x.2.1 (g.nx x.2.1++[x.1])⟩
structure GrOk (l:List (Nd × Nd × Int)) (g:Gr):Prop where
 rm:∀ u v c,g.rm (u,v)=some c↔(u,v,c)∈l
 nx:∀ u v,v∈g.nx u↔∃ c,(u,v,c)∈l∨(v,u,c)∈l
structure zIa (l:List (Nd × Nd × Int)):Prop where
 one:∀ u v c c',(u,v,c)∈l→(u,v,c')∈l→c=c'
 ne:∀ u v c,(u,v,c)∈l→u≠v
theorem GrOk.add {l:List (Nd × Nd × Int)} {g:Gr} {x:Nd × Nd × Int} (h:GrOk l g) (hp:zIa (l++[x])):GrOk (l++[x]) (zEz g x):=by
 obtain ⟨a,b,c⟩:=x
 have hne:=hp.ne a b c (by simp)
 refine ⟨fun u v d=>?_,fun u v=>?_⟩
 ·simp only [zEz,upd]
  by_cases e:(u,v)=(a,b)
  ·rw [if_pos e]
   simp only [Prod.mk.injEq] at e
   obtain ⟨rfl,rfl⟩:=e
   constructor
   ·intro h1;simp only [Option.some.injEq] at h1;subst h1;simp
   ·intro h1;rw [hp.one u v c d (by simp) h1]
  ·rw [if_neg e,h.rm]
   simp only [Prod.mk.injEq] at e
   simp only [List.mem_append,List.mem_singleton,Prod.mk.injEq]
   constructor
   ·exact fun h=>.inl h
   ·rintro (h | ⟨rfl,rfl,_⟩)
    ·exact h
    ·exact absurd ⟨rfl,rfl⟩ e
 ·have hm:∀ u v d,(u,v,d)∈l++[(a,b,c)]↔(u,v,d)∈l∨(u=a∧v=b∧d=c):=fun u v d=>by simp
  simp only [hm]
  simp only [zEz]
  cases hs:(g.rm (a,b)).isSome with
  | true =>
   simp only [if_true]
   obtain ⟨c0,hc0⟩:=Option.isSome_iff_exists.1 hs
   have hc0:=(h.rm a b c0).1 hc0
   rw [h.nx]
   constructor
   ·rintro ⟨d,h1|h1⟩
    ·exact ⟨d,.inl (.inl h1)⟩
    ·exact ⟨d,.inr (.inl h1)⟩
   ·rintro ⟨d,(h1 | ⟨rfl,rfl,rfl⟩)|(h1 | ⟨rfl,rfl,rfl⟩)⟩
    ·exact ⟨d,.inl h1⟩
    ·exact ⟨c0,.inl hc0⟩
    ·exact ⟨d,.inr h1⟩
    ·exact ⟨c0,.inr hc0⟩
  | false =>
   simp only [Bool.false_eq_true,if_false,upd]
   by_cases hub:u=b
   ·subst hub
    rw [if_pos rfl,List.mem_append,List.mem_singleton,h.nx]
    constructor
    ·rintro (⟨d,h1|h1⟩|rfl)
     ·exact ⟨d,.inl (.inl h1)⟩
     ·exact ⟨d,.inr (.inl h1)⟩
     ·exact ⟨c,.inr (.inr ⟨rfl,rfl,rfl⟩)⟩
    ·rintro ⟨d,(h1 | ⟨rfl,rfl,rfl⟩)|(h1 | ⟨rfl,_,rfl⟩)⟩
     ·exact .inl ⟨d,.inl h1⟩
     ·exact absurd rfl hne
     ·exact .inl ⟨d,.inr h1⟩
     ·exact .inr rfl
   ·rw [if_neg hub]
    by_cases hua:u=a
    ·subst hua
     rw [if_pos rfl,List.mem_append,List.mem_singleton,h.nx]
     constructor
     ·rintro (⟨d,h1|h1⟩|rfl)
      ·exact ⟨d,.inl (.inl h1)⟩
      ·exact ⟨d,.inr (.inl h1)⟩
      ·exact ⟨c,.inl (.inr ⟨rfl,rfl,rfl⟩)⟩
     ·rintro ⟨d,(h1 | ⟨_,rfl,rfl⟩)|(h1 | ⟨rfl,h2,rfl⟩)⟩
      ·exact .inl ⟨d,.inl h1⟩
      ·exact .inr rfl
      ·exact .inl ⟨d,.inr h1⟩
      ·exact absurd h2 hub
    ·rw [if_neg hua,h.nx]
     constructor
     ·rintro ⟨d,h1|h1⟩
      ·exact ⟨d,.inl (.inl h1)⟩
      ·exact ⟨d,.inr (.inl h1)⟩
     ·rintro ⟨d,(h1 | ⟨h2,_,_⟩)|(h1 | ⟨_,h2,_⟩)⟩
      ·exact ⟨d,.inl h1⟩
      ·exact absurd h2 hua
      ·exact ⟨d,.inr h1⟩
      ·exact absurd h2 hub
theorem zIa.sub {l m:List (Nd × Nd × Int)} (h:zIa l) (hs:∀ x∈m,x∈l):zIa m:=⟨fun u v c c' h1 h2=>h.one u v c c' (hs _ h1) (hs _ h2),fun u v c h1=>h.ne u v c (hs _ h1)⟩
theorem zJU : ∀ (l l0:List (Nd × Nd × Int)) (g:Gr),GrOk l0 g→zIa (l0++l)→GrOk (l0++l) (l.foldl zEz g)
 | [],l0,g,h,_=>by simpa using h
 | x::r,l0,g,h,hp=>by
  have e:l0++x::r=(l0++[x])++r:=by simp
  rw [e] at hp ⊢
  exact zJU r (l0++[x]) (zEz g x) (h.add (hp.sub fun y hy=>List.mem_append_left _ hy)) hp
theorem grOk_all {l:List (Nd × Nd × Int)} (hp:zIa l):GrOk l (l.foldl zEz gr0):=by
 have:=zJU l [] gr0 ⟨fun u v c=>by simp [gr0],fun u v=>by simp [gr0]⟩ (by simpa using hp)
 simpa using this
def edg (J:Job) (i n h:Nat):List (Nd × Nd × Int):=[(nS i n,nT i h,1),(nT i h,nH h,1),(nH h,nE,J.hd h)]
def edgS (J:Job) (i n:Nat):List (Nd × Nd × Int):=(List.range (J.due i n)).flatMap fun h=>if J.my i h then edg J i n h else []
def edgR (J:Job) (i:Nat):List (Nd × Nd × Int):=(List.range (J.top i)).flatMap (edgS J i)
def edges (J:Job):List (Nd × Nd × Int):=(List.range J.nb).flatMap (edgR J)
def graph (J:Job):Gr:=(edges J).foldl zEz gr0
def seen0 (g:Gr) (x:Nd):Bool:=decide (x=nE) || !(g.nx x).isEmpty
section
variable {J : Job}
theorem zB6 {x:Nd × Nd × Int}:x∈edges J↔∃ i n h,okE J i n h∧x∈edg J i n h:=by
 simp only [edges,edgR,edgS,List.mem_flatMap,List.mem_range,okE]
 constructor
 ·rintro ⟨i,hi,n,hn,h,hh,hx⟩
  cases hm:J.my i h
  ·rw [hm] at hx;simp at hx
  ·rw [hm] at hx;exact ⟨i,n,h,⟨hi,hn,hh,hm⟩,by simpa using hx⟩
 ·rintro ⟨i,n,h,⟨hi,hn,hh,hm⟩,hx⟩
  exact ⟨i,hi,n,hn,h,hh,by rw [hm];simpa using hx⟩
theorem zGB {i n h:Nat} {u v:Nd} {c:Int}:(u,v,c)∈edg J i n h↔(u=nS i n∧v=nT i h∧c=1)∨(u=nT i h∧v=nH h∧c=1)∨(u=nH h∧v=nE∧c=J.hd h):=by
 simp [edg]
theorem zLO : zIa (edges J):=by
 constructor
 ·intro u v c c' h1 h2
  obtain ⟨i,n,h,_,h1⟩:=zB6.1 h1
  obtain ⟨i',n',h',_,h2⟩:=zB6.1 h2
  rcases zGB.1 h1 with ⟨rfl,rfl,rfl⟩ | ⟨rfl,rfl,rfl⟩ | ⟨rfl,rfl,rfl⟩<;>rcases zGB.1 h2 with ⟨h3,h4,rfl⟩ | ⟨h3,h4,rfl⟩ | ⟨h3,h4,rfl⟩<;>simp [nS,nT,nH,nE] at h3 h4 ⊢
  rw [h3]
 ·intro u v c h1 e
  obtain ⟨i,n,h,_,h1⟩:=zB6.1 h1
  subst e
  rcases zGB.1 h1 with ⟨rfl,h4,_⟩ | ⟨rfl,h4,_⟩ | ⟨rfl,h4,_⟩<;>simp [nS,nT,nH,nE] at h4
theorem zDI : GrOk (edges J) (graph J):=grOk_all zLO
theorem zHx {u v:Nd} {c:Int} (h:(u,v,c)∈edges J):rg (graph J).rm u v=c:=by
 unfold rg;rw [(zDI.rm u v c).2 h];rfl
theorem zLq {u v:Nd} (h:rg (graph J).rm u v≠0):(u,v,rg (graph J).rm u v)∈edges J:=by
 unfold rg at h ⊢
 cases hc:(graph J).rm (u,v) with
 | none=>rw [hc] at h;exact absurd rfl h
 | some c=>exact (zDI.rm u v c).1 hc
theorem zGt : Cap J (rg (graph J).rm):=by
 refine ⟨fun i n h ho=>zHx (zB6.2 ⟨i,n,h,ho,by simp [edg]⟩),fun i n h ho=>zHx (zB6.2 ⟨i,n,h,ho,by simp [edg]⟩),fun i n h ho=>zHx (zB6.2 ⟨i,n,h,ho,by simp [edg]⟩),fun u v hc=>?_⟩
 obtain ⟨i,n,h,ho,hm⟩:=zB6.1 (zLq hc)
 refine ⟨i,n,h,ho,?_⟩
 rcases zGB.1 hm with ⟨h1,h2,_⟩ | ⟨h1,h2,_⟩ | ⟨h1,h2,_⟩
 ·exact .inl ⟨h1,h2⟩
 ·exact .inr (.inl ⟨h1,h2⟩)
 ·exact .inr (.inr ⟨h1,h2⟩)
theorem zLP (hJ:J.Ok) {u v:Nd} {c:Int} (h:(u,v,c)∈edges J):u∈nodes J∧v∈nodes J:=by
 obtain ⟨i,n,k,ho,h⟩:=zB6.1 h
 have hk:=ho.h hJ
 rcases zGB.1 h with ⟨rfl,rfl,_⟩ | ⟨rfl,rfl,_⟩ | ⟨rfl,rfl,_⟩
 ·exact ⟨nS_mem ho.1 ho.2.1,nT_mem ho.1 hk⟩
 ·exact ⟨nT_mem ho.1 hk,zJ2 hk⟩
 ·exact ⟨zJ2 hk,zJ3⟩
theorem zJT (hJ:J.Ok):Net (nodes J) nE (graph J).nx (seen0 (graph J)) (rg (graph J).rm):=by
 refine ⟨zDY J,zJ3,fun u v hv=>?_,fun u v hc=>?_,fun u v hv=>?_,fun u v=>zGt.pos hJ u v⟩
 ·obtain ⟨c,h|h⟩:=(zDI.nx u v).1 hv
  ·exact (zLP hJ h).2
  ·exact (zLP hJ h).1
 ·have:=zLq hc
  exact ⟨(zDI.nx u v).2 ⟨_,.inl this⟩,(zDI.nx v u).2 ⟨_,.inr this⟩⟩
 ·obtain ⟨c,h⟩:=(zDI.nx u v).1 hv
  have:u∈(graph J).nx v:=(zDI.nx v u).2 ⟨c,h.symm⟩
  unfold seen0
  cases hx:(graph J).nx v with
  | nil=>rw [hx] at this;cases this
  | cons _ _=>simp
theorem zNS (hJ:J.Ok) {f:Nat} (hf:(nodes J).length<f):solve nE (graph J).nx (seen0 (graph J)) f (zB8 J) (graph J).rm=true↔∀ sm,¬ shortF J sm:=by
 have hN:=zJT hJ
 have hF:zGR (rg (graph J).rm) (graph J).rm:=⟨fun _ _=>rfl,hN.pos⟩
 have hS:∀ s∈zB8 J,s∈nodes J:=fun s hs=>by unfold nodes;exact List.mem_append_left _ hs
 have hE:∀ s∈zB8 J,s≠nE:=fun s hs e=>by obtain ⟨_,_,_,_,h⟩:=zC7.1 hs;rw [h] at e;simp [nS,nE] at e
 have h0:∀ x,out (nodes J) (rg (graph J).rm) (graph J).rm x=0:=fun x=>zAh fun y _=>by omega
 constructor
 ·intro h sm
  obtain ⟨rm',h1,h2⟩:=zHr hN hf (zB8 J) _ hS hF h
  exact zOB hJ zGt h1 (fun x hx=>by rw [h2 x hx,h0];omega) sm
 ·intro h
  cases hs:solve nE (graph J).nx (seen0 (graph J)) f (zB8 J) (graph J).rm with
  | true=>rfl
  | false =>
   obtain ⟨l1,s,l2,rm',p,h1,h2,h3,h4,h5,h6⟩:=zG2 hN (by simp [seen0]) hf (zB8 J) _ hS hE hF hs
   obtain ⟨sm,h7⟩:=zKV hJ zGt h2 h1 (fun x hx=>by rw [h3 x hx,h0];omega) h4 h5 h6
   exact absurd h7 (h sm)
end
def zBl : List Int→Int
 | []=>0
 | x::r=>r.foldl max x
theorem zGG : ∀ (r:List Int) (x:Int),x≤r.foldl max x∧∀ y∈r,y≤r.foldl max x
 | [],x=>by simp
 | y::r,x=>by
  simp only [List.foldl_cons]
  obtain ⟨h1,h2⟩:=zGG r (max x y)
  refine ⟨by omega,fun z hz=>?_⟩
  rcases List.mem_cons.1 hz with rfl|hz
  ·omega
  ·exact h2 z hz
theorem zFU : ∀ (r:List Int) (x:Int),r.foldl max x=x∨r.foldl max x∈r
 | [],x=>.inl rfl
 | y::r,x=>by
  simp only [List.foldl_cons]
  rcases zFU r (max x y) with h|h
  ·rw [h]
   rcases Int.le_total x y with h1|h1
   ·right;rw [Int.max_eq_right h1];simp
   ·left;rw [Int.max_eq_left h1]
  ·exact .inr (List.mem_cons_of_mem _ h)
theorem maxL_ge {l:List Int} {x:Int} (h:x∈l):x≤zBl l:=by
 cases l with
 | nil=>cases h
 | cons y r =>
  obtain ⟨h1,h2⟩:=zGG r y
  rcases List.mem_cons.1 h with rfl|h
  ·exact h1
  ·exact h2 x h
theorem zIB {l:List Int} (h:l≠[]):zBl l∈l:=by
 cases l with
 | nil=>exact absurd rfl h
 | cons y r =>
  rcases zFU r y with h|h
  ·show r.foldl max y∈_;rw [h];simp
  ·exact List.mem_cons_of_mem _ h
def zFq (row:List Int) (n:Nat):Nat:=row.findIdx fun k=>decide ((n:Int)<k)
def zCD (needs:List (List Int)) (may:List (List Bool)) (hands:List Int):Job :=
 { nb:=needs.length,nh:=hands.length,nd:=fun i h=>(needs.getD i []).getD h 0,my:=fun i h=>(may.getD i []).getD h false,hd:=fun h=>hands.getD h 0,top:=fun i=>(zBl (needs.getD i [])).toNat,due:=fun i n=>zFq (needs.getD i []) n }
theorem zAZ {α:Type} {l:List α} {i:Nat} {d:α} (h:i<l.length):l.getD i d=l[i]:=by simp [List.getD_eq_getElem?_getD,h]
theorem zMz {needs:List (List Int)} {may:List (List Bool)} {hands:List Int} (hr:∀ r∈needs,r.length=hands.length) (hh:∀ n∈hands,0≤n) (h1:0<hands.length):(zCD needs may hands).Ok:=by
 have hrow:∀ i,i<needs.length→(needs.getD i []).length=hands.length:=fun i hi=>by rw [zAZ hi];exact hr _ (List.getElem_mem hi)
 refine ⟨fun i n hi hn=>?_,fun i h hi hh'=>?_,fun h=>?_⟩
 ·have hl:=hrow i hi
  have hne:needs.getD i []≠[]:=fun e=>by rw [e] at hl;simp at hl;omega
  have hm:=zIB hne
  simp only [zCD] at hn ⊢
  generalize needs.getD i []=row at *
  have hlt:row.findIdx (fun k=>decide ((n:Int)<k))<row.length:=List.findIdx_lt_length_of_exists ⟨_,hm,by simp;omega⟩
  refine ⟨by unfold zFq;omega,?_,fun h hh=>?_⟩
  ·unfold zFq
   rw [zAZ hlt]
   simpa using List.findIdx_getElem (w:=hlt)
  ·unfold zFq at hh
   have:=List.not_of_lt_findIdx hh
   rw [zAZ (by omega)]
   simp at this;exact this
 ·have hl:=hrow i hi
  simp only [zCD] at hh' ⊢
  rw [zAZ (l:=needs.getD i []) (by rw [hl];exact hh')]
  have:=maxL_ge (List.getElem_mem (l:=needs.getD i []) (n:=h) (by rw [hl];exact hh'))
  omega
 ·simp only [zCD]
  by_cases h9:h<hands.length
  ·rw [zAZ h9];exact hh _ (List.getElem_mem h9)
  ·simp [List.getD_eq_getElem?_getD,List.getElem?_eq_none (by omega:hands.length≤h)]
theorem zLY (sm:Nat→Bool):∀ n,∃ m,m<2 ^ n∧∀ h,h<n→m.testBit h=sm h
 | 0=>⟨0,by simp,by omega⟩
 | n+1=>by
  obtain ⟨m,h1,h2⟩:=zLY sm n
  refine ⟨m+(if sm n then 2 ^ n else 0),?_,fun h hh=>?_⟩
  ·rw [Nat.pow_succ];split<;>omega
  ·cases hs:sm n
   ·simp only [Bool.false_eq_true,if_false,Nat.add_zero]
    by_cases e:h=n
    ·subst e;rw [hs];exact Nat.testBit_lt_two_pow h1
    ·exact h2 h (by omega)
   ·simp only [if_true]
    by_cases e:h=n
    ·subst e
     rw [Nat.add_comm,Nat.testBit_two_pow_add_eq,Nat.testBit_lt_two_pow h1,hs];rfl
    ·rw [Nat.add_comm,Nat.testBit_two_pow_add_gt (by omega)];exact h2 h (by omega)
theorem zDc {nd:Nat→Int} {my sm sm':Nat→Bool}:∀ k,(∀ h,h<k→sm h=sm' h)→lackF nd my sm k=lackF nd my sm' k
 | 0,_=>rfl
 | k+1,h=>by
  simp only [lackF]
  rw [zDc k fun x hx=>h x (by omega),h k (by omega)]
theorem zJw {J:Job} {sm sm':Nat→Bool} (h:∀ x,x<J.nh→sm x=sm' x):shortF J sm↔shortF J sm':=by
 unfold shortF
 rw [zAJ (l:=List.range J.nh) (g:=fun h=>if sm' h then J.hd h else 0) fun x hx=>by rw [h x (List.mem_range.1 hx)]]
 rw [zAJ (l:=List.range J.nb) (g:=fun i=>(lackF (J.nd i) (J.my i) sm' J.nh).1) fun x hx=>by rw [zDc J.nh h]]
def zLL (needs:List (List Int)) (may:List (List Bool)) (hands:List Int):Bool :=
 needs.all (fun r=>(List.range r.length).all fun h=>decide (r.getD h 0≤h)) &&
  solve nE (graph (zCD needs may hands)).nx (seen0 (graph (zCD needs may hands))) ((nodes (zCD needs may hands)).length+1) (zB8 (zCD needs may hands)) (graph (zCD needs may hands)).rm
def canL (needs:List (List Int)) (may:List (List Bool)) (hands:List Int):Prop:=∀ m,m<2 ^ hands.length→¬ shortF (zCD needs may hands) m.testBit
theorem feas_iff {needs:List (List Int)} {may:List (List Bool)} {hands:List Int} (hr:∀ r∈needs,r.length=hands.length) (hh:∀ n∈hands,0≤n) (h1:0<hands.length):zLL needs may hands=true↔canL needs may hands:=by
 have hJ:=zMz (may:=may) hr hh h1
 have hall:canL needs may hands↔∀ sm,¬ shortF (zCD needs may hands) sm:=by
  constructor
  ·intro h sm hs
   obtain ⟨m,hm,hb⟩:=zLY sm hands.length
   exact h m hm ((zJw hb).2 hs)
  ·exact fun h m _=>h _
 unfold zLL
 rw [Bool.and_eq_true,zNS hJ (Nat.lt_succ_self _),hall]
 constructor
 ·exact fun h=>h.2
 ·refine fun h=>⟨?_,h⟩
  rw [List.all_eq_true]
  intro r hr'
  rw [List.all_eq_true]
  intro k hk
  rw [decide_eq_true_eq]
  rcases Int.lt_or_le (k:Int) (r.getD k 0) with h9|h9
  ·exfalso
   refine h (fun _=>false) ?_
   unfold shortF
   rw [zAh (l:=List.range (zCD needs may hands).nh) (fun _ _=>by simp)]
   obtain ⟨i,hi,rfl⟩:=List.getElem_of_mem hr'
   have h2:=zEm (l:=List.range (zCD needs may hands).nb) (f:=fun i=>(lackF ((zCD needs may hands).nd i) ((zCD needs may hands).my i) (fun _=>false) (zCD needs may hands).nh).1) (a:=i) (fun i _=>zFD _) (List.mem_range.2 hi)
   have hk':k<hands.length:=by rw [← hr _ hr'];exact List.mem_range.1 hk
   have h3:=zIG (nd:=(zCD needs may hands).nd i) (my:=(zCD needs may hands).my i) (sm:=fun _=>false) (zCD needs may hands).nh k hk'
   have h4:zFM ((zCD needs may hands).my i) (fun _=>false) k≤k:=by
    unfold zFM
    rw [← zCf k]
    exact zBQ fun _ _=>by split<;>omega
   have h5:(zCD needs may hands).nd i k=needs[i].getD k 0:=by simp only [zCD];rw [zAZ hi]
   rw [h5] at h3
   omega
  ·exact h9
end Go.Proofs.YtdigopgncfhiaaaGreatDoor.Flow
