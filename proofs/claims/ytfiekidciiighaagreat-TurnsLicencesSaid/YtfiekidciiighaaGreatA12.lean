/- A12 -/
import Derived.Test.YtfiekidciiighaaGreatA11
import Derived.Test.YtfiekidciiighaaGreatA1
import Derived.Test.YtfiekidciiighaaGreatA7
import Derived.Test.YtfiekidciiighaaGreatA10
import Derived.Test.YtfiekidciiighaaGreatA8
import Derived.Scope
set_option linter.unusedSimpArgs false
set_option linter.unusedVariables false
namespace Go.Proofs.YtfiekidciiighaaGreat
def zCJ (k:RdK):Nat→List Opn→Int→List (List Opn)
 | f,pre,x=>if k.misses<(zBH pre).missed then [] else (if k.nsig - (zBH pre).right≤k.fakes then [pre] else [])++(if pre.length=k.m then [] else match f with
  | 0=>[]
  | f+1=>(k.opts pre.length).flatMap fun o=>if zAi k pre.length x o≤min o.hi k.now then zCJ k f (pre++[o]) (zAi k pre.length x o) else [])
def zBb (k:RdK):List (List Opn):=zCJ k k.m [] k.start
def zAs (k:RdK):List Nat:=(List.range (k.m+1)).filter fun n=>(zBb k).any fun os=>os.length == n
section
variable {k : RdK}
theorem zHO {t:Tal} (h:zEN k t=true):t.missed≤k.misses∧k.nsig - t.right≤k.fakes:=by
 simpa [zEN] using h
theorem zFx : ∀ (f:Nat) (pre:List Opn) (x:Int),pre.length+f=k.m→∀ os,os∈zCJ k f pre x↔∃ suf,os=pre++suf∧pre.length+suf.length≤k.m∧feas k pre.length x suf∧zEN k (zBH os)=true
 | f,pre,x,hf,os=>by
  have hm:∀ suf,zEN k (zBH (pre++suf))=true→(zBH pre).missed≤k.misses:=fun suf h=>by
   have h1:=(zHO h).1
   rw [zC4] at h1
   have:=zDc suf
   simp only [Tal.plus] at h1;omega
  unfold zCJ
  by_cases h0:k.misses<(zBH pre).missed
  ·rw [if_pos h0]
   constructor
   ·intro h;cases h
   ·rintro ⟨suf,rfl,_,_,h⟩;have:=hm suf h;omega
  rw [if_neg h0,List.mem_append]
  have hfirst:os∈(if k.nsig - (zBH pre).right≤k.fakes then [pre] else [])↔os=pre∧zEN k (zBH os)=true:=by
   split
   ·next h=>simp only [List.mem_singleton];exact ⟨fun e=>⟨e,by subst e;simp [zEN];omega⟩,fun e=>e.1⟩
   ·next h =>
     constructor
     ·intro h;cases h
     ·rintro ⟨rfl,h2⟩;exact absurd (zHO h2).2 h
  rw [hfirst]
  constructor
  ·rintro (⟨rfl,h⟩|h)
   ·exact ⟨[],by simp,by simp;omega,trivial,h⟩
   ·split at h
    ·cases h
    ·next hne =>
     cases f with
     | zero=>cases h
     | succ f =>
      obtain ⟨o,ho,h2⟩:=List.mem_flatMap.1 h
      split at h2
      ·next hle =>
       obtain ⟨suf,rfl,a,b,c⟩:=(zFx f (pre++[o]) _ (by simp;omega) os).1 h2
       simp only [List.length_append,List.length_cons,List.length_nil] at a b
       exact ⟨o::suf,by simp,by simp;omega,⟨ho,by omega,b⟩,c⟩
      ·cases h2
  ·rintro ⟨suf,rfl,a,b,c⟩
   cases suf with
   | nil=>exact .inl ⟨by simp,c⟩
   | cons o suf =>
    simp only [List.length_cons] at a
    obtain ⟨b1,b2,b3⟩:=b
    refine .inr ?_
    rw [if_neg (by omega)]
    cases f with
    | zero=>omega
    | succ f =>
     refine List.mem_flatMap.2 ⟨o,b1,?_⟩
     rw [if_pos (by omega)]
     refine (zFx f (pre++[o]) _ (by simp;omega) _).2 ⟨suf,by simp,by simp;omega,?_,c⟩
     simpa using b3
theorem zDU {os:List Opn}:os∈zBb k↔zEW k os:=by
 unfold zBb
 rw [zFx k.m [] k.start (by simp) os]
 constructor
 ·rintro ⟨suf,rfl,a,b,c⟩;exact ⟨by simpa using a,b,c⟩
 ·rintro ⟨a,b,c⟩;exact ⟨os,rfl,by simpa using a,b,c⟩
theorem zIB {n:Nat}:n∈zAs k↔n≤k.m∧∃ os,os.length=n∧zEW k os:=by
 unfold zAs
 simp only [List.mem_filter,List.mem_range,List.any_eq_true,beq_iff_eq]
 constructor
 ·rintro ⟨h,os,h1,h2⟩;exact ⟨by omega,os,h2,zDU.1 h1⟩
 ·rintro ⟨h,os,h1,h2⟩;exact ⟨by omega,os,zDU.2 h2,h1⟩
def zCG (k:RdK) (b:Nat):Option (Int × Int) :=
 ((zBb k).filter fun os=>decide (b<os.length)).foldl (fun s os=>match s with
  | none=>some (zAv k os b,zBe k os b)
  | some p=>some (min (zAv k os b) p.1,max (zBe k os b) p.2)) none
def zBn (S:Int→Int→Prop):Option (Int × Int)→Prop
 | none=>∀ a b,¬ S a b
 | some (lo,hi)=>(∃ b,S lo b)∧(∃ a,S a hi)∧∀ a b,S a b→lo≤a∧b≤hi
theorem zBn.uniq {S:Int→Int→Prop} {x y:Option (Int × Int)} (hx:zBn S x) (hy:zBn S y):x=y:=by
 cases x with
 | none=>cases y with
  | none=>rfl
  | some q=>obtain ⟨lo,hi⟩:=q;obtain ⟨⟨b,h⟩,_⟩:=hy;exact absurd h (hx _ _)
 | some p =>
  obtain ⟨lo,hi⟩:=p
  obtain ⟨⟨b,h1⟩,⟨a,h2⟩,h3⟩:=hx
  cases y with
  | none=>exact absurd h1 (hy _ _)
  | some q =>
   obtain ⟨lo',hi'⟩:=q
   obtain ⟨⟨b',g1⟩,⟨a',g2⟩,g3⟩:=hy
   have:=h3 _ _ g1;have:=h3 _ _ g2;have:=g3 _ _ h1;have:=g3 _ _ h2
   simp only [Option.some.injEq,Prod.mk.injEq];omega
theorem zBn.about {S S':Int→Int→Prop} {x:Option (Int × Int)} (hx:zBn S x) (h1:∀ a b,S a b→S' a b) (h2:∀ a b,S' a b→∃ c d,S c d∧c≤a∧b≤d):zBn S' x:=by
 cases x with
 | none=>intro a b h;obtain ⟨c,d,h3,_⟩:=h2 a b h;exact hx c d h3
 | some p =>
  obtain ⟨lo,hi⟩:=p
  obtain ⟨⟨b,q1⟩,⟨a,q2⟩,q3⟩:=hx
  refine ⟨⟨b,h1 _ _ q1⟩,⟨a,h1 _ _ q2⟩,fun a b h=>?_⟩
  obtain ⟨c,d,h3,h4,h5⟩:=h2 a b h
  have:=q3 c d h3;omega
def addS (s:Option (Int × Int)) (a b:Int):Option (Int × Int):=match s with|none=>some (a,b)|some p=>some (min a p.1,max b p.2)
theorem zBn.add {S:Int→Int→Prop} {x:Option (Int × Int)} (hx:zBn S x) (a b:Int):zBn (fun c d=>S c d∨(c=a∧d=b)) (addS x a b):=by
 cases x with
 | none=>exact ⟨⟨b,.inr ⟨rfl,rfl⟩⟩,⟨a,.inr ⟨rfl,rfl⟩⟩,fun c d h=>by rcases h with h | ⟨rfl,rfl⟩;exact absurd h (hx _ _);exact ⟨Int.le_refl _,Int.le_refl _⟩⟩
 | some p =>
  obtain ⟨lo,hi⟩:=p
  obtain ⟨⟨b',q1⟩,⟨a',q2⟩,q3⟩:=hx
  refine ⟨?_,?_,fun c d h=>?_⟩
  ·rcases Int.le_total a lo with h|h
   ·exact ⟨b,.inr ⟨by omega,rfl⟩⟩
   ·exact ⟨b',.inl (by rw [show min a lo=lo by omega];exact q1)⟩
  ·rcases Int.le_total b hi with h|h
   ·exact ⟨a',.inl (by rw [show max b hi=hi by omega];exact q2)⟩
   ·exact ⟨a,.inr ⟨rfl,by omega⟩⟩
  ·rcases h with h | ⟨rfl,rfl⟩
   ·have:=q3 c d h;simp only;omega
   ·simp only;omega
theorem zBn.congr {S S':Int→Int→Prop} {x:Option (Int × Int)} (hx:zBn S x) (h:∀ a b,S a b↔S' a b):zBn S' x :=
 hx.about (fun a b h1=>(h a b).1 h1) (fun a b h1=>⟨a,b,(h a b).2 h1,Int.le_refl _,Int.le_refl _⟩)
theorem zD3 (b:Nat):zBn (fun lo hi=>∃ os,b<os.length∧zEW k os∧zAv k os b=lo∧zBe k os b=hi) (zCG k b):=by
 have key:∀ (l:List (List Opn)) (S:Int→Int→Prop) (s:Option (Int × Int)),zBn S s→zBn (fun lo hi=>S lo hi∨∃ os∈l,zAv k os b=lo∧zBe k os b=hi) (l.foldl (fun s os=>match s with
  | none=>some (zAv k os b,zBe k os b)
  | some p=>some (min (zAv k os b) p.1,max (zBe k os b) p.2)) s):=by
  intro l
  induction l with
  | nil=>intro S s h;exact h.congr (by simp)
  | cons os l ih =>
   intro S s h
   rw [List.foldl_cons]
   have h1:=ih _ _ (h.add (zAv k os b) (zBe k os b))
   refine zBn.congr ?_ (S:=fun c d=>(S c d∨(c=zAv k os b∧d=zBe k os b))∨∃ os∈l,zAv k os b=c∧zBe k os b=d) ?_
   ·exact h1
   ·intro c d
    simp only [List.mem_cons,exists_eq_or_imp]
    constructor
    ·rintro ((h | ⟨rfl,rfl⟩)|h)
     ·exact .inl h
     ·exact .inr (.inl ⟨rfl,rfl⟩)
     ·exact .inr (.inr h)
    ·rintro (h | ⟨rfl,rfl⟩|h)
     ·exact .inl (.inl h)
     ·exact .inl (.inr ⟨rfl,rfl⟩)
     ·exact .inr h
 have h:=key ((zBb k).filter fun os=>decide (b<os.length)) (fun _ _=>False) none (fun _ _ h=>h)
 refine h.congr fun lo hi=>?_
 simp only [false_or,List.mem_filter,decide_eq_true_eq,zDU]
 exact ⟨fun ⟨os,⟨h1,h2⟩,h3⟩=>⟨os,h2,h1,h3⟩,fun ⟨os,h1,h2,h3⟩=>⟨os,⟨h2,h1⟩,h3⟩⟩
theorem zJX (hl:∀ b,0≤k.least b) (hs:k.start≤k.now) {b:Nat} (hb:b<k.m) {f g:Tal→Option Int} (hf:zAy (SF k b) f) (hg:zA4 (SB k (b+1)) g):zBn (fun lo hi=>∃ sg,zDv k f g b sg lo hi) (zCG k b):=by
 cases e:zCG k b with
 | none =>
  have:=zD3 (k:=k) b
  rw [e] at this
  rintro lo hi ⟨sg,h⟩
  obtain ⟨os,h1,h2,h3,h4⟩:=zI8 hl hf hg h
  exact this lo hi ⟨os,h1,h2,h3,h4⟩
 | some p =>
  obtain ⟨lo,hi⟩:=p
  have:=zD3 (k:=k) b
  rw [e] at this
  obtain ⟨⟨b1,os1,a1,a2,a3,a4⟩,⟨b2,os2,c1,c2,c3,c4⟩,h3⟩:=this
  have out:∀ sg l h,zDv k f g b sg l h→lo≤l∧h≤hi:=fun sg l h hp=>by
   obtain ⟨os,h1,h2,h5,h4⟩:=zI8 hl hf hg hp
   exact h3 l h ⟨os,h1,h2,h5,h4⟩
  obtain ⟨sg1,lo1,hi1,p1,p2,p3⟩:=zJY hl hs hb hf hg a1 a2
  obtain ⟨sg2,lo2,hi2,q1,q2,q3⟩:=zJY hl hs hb hf hg c1 c2
  have r1:=out _ _ _ p1
  have r2:=out _ _ _ q1
  obtain rfl:lo1=lo:=by omega
  obtain rfl:hi2=hi:=by omega
  exact ⟨⟨hi1,sg1,p1⟩,⟨lo2,sg2,q1⟩,fun a b ⟨sg,h⟩=>out sg a b h⟩
end
end Go.Proofs.YtfiekidciiighaaGreat
namespace Go.Proofs.YtfiekidciiighaaGreat
structure Sy where
 at_:Int
 ah:Sp
deriving DecidableEq
instance : Inhabited Sy:=⟨⟨0,⟨0,0⟩⟩⟩
structure Clk where
 drift:Int
 syncs:List Sy
deriving DecidableEq
instance : Inhabited Clk:=⟨⟨0,[]⟩⟩
def upI (n by_:Int):Int:=(n+by_ - 1) / by_
def zBI (c:Clk) (a b:Int):Int:=upI (c.drift * max (a - b) (b - a)) 1000000
def zAb (c:Clk) (t:Int):Sp:=c.syncs.foldl (fun s x=>⟨max s.lo (x.ah.lo - zBI c t x.at_),min s.hi (x.ah.hi+zBI c t x.at_)⟩) ⟨-1099511627776,1099511627776⟩
def bsF (p:Int→Bool):Nat→Int→Int→Int
 | 0,lo,_=>lo
 | f+1,lo,hi=>if lo<hi then (if p (lo+(hi - lo) / 2) then bsF p f lo (lo+(hi - lo) / 2) else bsF p f (lo+(hi - lo) / 2+1) hi) else lo
theorem zFU (p:Int→Bool):∀ (f:Nat) (lo hi:Int),lo≤hi→lo≤bsF p f lo hi∧bsF p f lo hi≤hi
 | 0,lo,hi,h=>⟨Int.le_refl _,h⟩
 | f+1,lo,hi,h=>by
  unfold bsF
  by_cases h0:lo<hi
  ·rw [if_pos h0]
   split
   ·have:=zFU p f lo (lo+(hi - lo) / 2) (by omega);omega
   ·have:=zFU p f (lo+(hi - lo) / 2+1) hi (by omega);omega
  ·rw [if_neg h0];omega
theorem zHe {p:Int→Bool}:∀ (f:Nat) (lo hi:Int),lo≤hi→hi - lo<2 ^ f→(∀ a b,lo≤a→a≤b→b<hi→p a=true→p b=true)→(∀ a,lo≤a→a<bsF p f lo hi→p a=false)∧∀ a,bsF p f lo hi≤a→a<hi→p a=true
 | 0,lo,hi,h,hf,hm=>by
  simp only [Int.pow_zero] at hf
  simp only [bsF]
  exact ⟨fun a h1 h2=>by omega,fun a h1 h2=>by omega⟩
 | f+1,lo,hi,h,hf,hm=>by
  rw [Int.pow_succ] at hf
  unfold bsF
  by_cases h0:lo<hi
  ·rw [if_pos h0]
   by_cases hp:p (lo+(hi - lo) / 2)=true
   ·rw [if_pos hp]
    have hb:=zFU p f lo (lo+(hi - lo) / 2) (by omega)
    obtain ⟨a1,a2⟩:=zHe (p:=p) f lo (lo+(hi - lo) / 2) (by omega) (by omega) (fun a b h1 h2 h3=>hm a b h1 h2 (by omega))
    refine ⟨a1,fun a h1 h2=>?_⟩
    by_cases h3:a<lo+(hi - lo) / 2
    ·exact a2 a h1 h3
    ·exact hm _ a (by omega) (by omega) h2 hp
   ·rw [if_neg hp]
    have hb:=zFU p f (lo+(hi - lo) / 2+1) hi (by omega)
    obtain ⟨a1,a2⟩:=zHe (p:=p) f (lo+(hi - lo) / 2+1) hi (by omega) (by omega) (fun a b h1 h2 h3=>hm a b (by omega) h2 h3)
    refine ⟨fun a h1 h2=>?_,a2⟩
    by_cases h3:lo+(hi - lo) / 2+1≤a
    ·exact a1 a h3 h2
    ·cases hpa:p a with
     | false=>rfl
     | true=>exact absurd (hm a _ h1 (by omega) (by omega) hpa) hp
  ·rw [if_neg h0]
   exact ⟨fun a h1 h2=>by omega,fun a h1 h2=>by omega⟩
theorem zJ1 {p:Int→Bool} {f:Nat} {lo hi r:Int} (h:lo≤hi) (hf:hi - lo<2 ^ f) (h1:lo≤r) (h2:r≤hi) (h3:∀ a,lo≤a→a<r→p a=false) (h4:∀ a,r≤a→a<hi→p a=true):bsF p f lo hi=r:=by
 have hm:∀ a b,lo≤a→a≤b→b<hi→p a=true→p b=true:=fun a b q1 q2 q3 q4=>by
  by_cases h5:r≤b
  ·exact h4 b h5 q3
  ·rw [h3 a q1 (by omega)] at q4;cases q4
 obtain ⟨a1,a2⟩:=zHe f lo hi h hf hm
 have hb:=zFU p f lo hi h
 rcases Int.lt_trichotomy (bsF p f lo hi) r with h5|h5|h5
 ·have:=a2 _ (Int.le_refl _) (by omega)
  rw [h3 _ hb.1 h5] at this;cases this
 ·exact h5
 ·have:=a1 r h1 h5
  rw [h4 r (Int.le_refl _) (by omega)] at this;cases this
theorem bsF_step {p:Int→Bool} {f:Nat} {lo hi:Int} (h:lo<hi):bsF p (f+1) lo hi=if p (lo+(hi - lo) / 2) then bsF p f lo (lo+(hi - lo) / 2) else bsF p f (lo+(hi - lo) / 2+1) hi:=by
 rw [bsF,if_pos h]
theorem bsF_done {p:Int→Bool} {f:Nat} {lo:Int}:bsF p f lo lo=lo:=by
 cases f with
 | zero=>rfl
 | succ f=>rw [bsF,if_neg (by omega)]
def zBd (c:Clk) (read:Int):Sp:=⟨bsF (fun t=>decide (read≤t+(zAb c t).hi)) 32 0 86400001,bsF (fun t=>decide (read<t+(zAb c t).lo)) 32 0 86400001 - 1⟩
structure Clk.Ok (c:Clk):Prop where
 drift:0≤c.drift∧c.drift≤1000
 ats:∀ s∈c.syncs,0≤s.at_∧s.at_≤86400000
 ahs:∀ s∈c.syncs,-10000≤s.ah.lo∧s.ah.lo≤s.ah.hi∧s.ah.hi≤10000
theorem zL6 {c:Clk} (h:c.Ok) (a b:Int):0≤zBI c a b:=by
 unfold zBI upI
 have:=Int.mul_nonneg h.drift.1 (show 0≤max (a - b) (b - a) by omega)
 exact Int.ediv_nonneg (by omega) (by omega)
theorem zKu {c:Clk} (h:c.Ok) (t b:Int):zBI c t b≤zBI c (t+1) b+1∧zBI c (t+1) b≤zBI c t b+1:=by
 unfold zBI upI
 obtain ⟨h1,h2⟩:=h.drift
 have e:max (t+1 - b) (b - (t+1))=max (t - b) (b - t)+1∨max (t - b) (b - t)=max (t+1 - b) (b - (t+1))+1:=by omega
 rcases e with e|e
 ·rw [e,Int.mul_add,Int.mul_one]
  generalize c.drift * max (t - b) (b - t)=x
  omega
 ·rw [e,Int.mul_add,Int.mul_one]
  generalize c.drift * max (t+1 - b) (b - (t+1))=x
  omega
theorem zK3 {c:Clk} (h:c.Ok) (t:Int):t+(zAb c t).hi≤t+1+(zAb c (t+1)).hi∧t+(zAb c t).lo≤t+1+(zAb c (t+1)).lo:=by
 have key:∀ (l:List Sy) (s s':Sp),s.hi≤1+s'.hi→s.lo≤1+s'.lo →
   (l.foldl (fun s x=>(⟨max s.lo (x.ah.lo - zBI c t x.at_),min s.hi (x.ah.hi+zBI c t x.at_)⟩:Sp)) s).hi≤1+(l.foldl (fun s x=>(⟨max s.lo (x.ah.lo - zBI c (t+1) x.at_),min s.hi (x.ah.hi+zBI c (t+1) x.at_)⟩:Sp)) s').hi ∧
   (l.foldl (fun s x=>(⟨max s.lo (x.ah.lo - zBI c t x.at_),min s.hi (x.ah.hi+zBI c t x.at_)⟩:Sp)) s).lo≤1+(l.foldl (fun s x=>(⟨max s.lo (x.ah.lo - zBI c (t+1) x.at_),min s.hi (x.ah.hi+zBI c (t+1) x.at_)⟩:Sp)) s').lo:=by
  intro l
  induction l with
  | nil=>intro s s' h1 h2;exact ⟨h1,h2⟩
  | cons x l ih =>
   intro s s' h1 h2
   have:=zKu h t x.at_
   rw [List.foldl_cons,List.foldl_cons]
   exact ih _ _ (by simp only;omega) (by simp only;omega)
 have:=key c.syncs ⟨-1099511627776,1099511627776⟩ ⟨-1099511627776,1099511627776⟩ (by simp) (by simp)
 unfold zAb
 omega
theorem zEU {c:Clk} (h:c.Ok) {a b:Int} (hab:a≤b):a+(zAb c a).hi≤b+(zAb c b).hi∧a+(zAb c a).lo≤b+(zAb c b).lo:=by
 obtain ⟨n,rfl⟩:∃ n:Nat,b=a+n:=⟨(b - a).toNat,by omega⟩
 induction n with
 | zero=>simp
 | succ n ih =>
  have h1:=ih (by omega)
  have h2:=zK3 h (a+n)
  rw [show a+((n+1:Nat):Int)=a+n+1 by omega]
  omega
theorem zF3 (c:Clk) (read:Int):0≤(zBd c read).lo∧(zBd c read).lo≤86400001∧-1≤(zBd c read).hi∧(zBd c read).hi≤86400000:=by
 have h1:=zFU (fun t=>decide (read≤t+(zAb c t).hi)) 32 0 86400001 (by decide)
 have h2:=zFU (fun t=>decide (read<t+(zAb c t).lo)) 32 0 86400001 (by decide)
 simp only [zBd];omega
end Go.Proofs.YtfiekidciiighaaGreat
namespace Go.Proofs.YtfiekidciiighaaGreat
def wentW (k:RdK) (fin:Nat) (most:Int):Nat:=match zCG k fin with
 | none=>0
 | some s=>if most<s.1 - k.start then 0 else if (zAs k).all (fun n=>decide (fin<n)) && decide (s.2 - k.start≤most) then 2 else 1
section
variable {k k':RdK}
inductive Wide (k:RdK):Nat→List Opn→List Opn→Prop
 | nil (b:Nat):Wide k b [] []
 | cons {b:Nat} {o o':Opn} {os os':List Opn}:o∈k.opts b→o.sig=o'.sig→o.lo≤o'.lo→o'.hi≤o.hi→Wide k (b+1) os os'→Wide k b (o::os) (o'::os')
theorem Wide.len {b:Nat} {os os':List Opn} (h:Wide k b os os'):os.length=os'.length:=by
 induction h with
 | nil=>rfl
 | cons _ _ _ _ _ ih=>simp [ih]
theorem Wide.get {b:Nat} {os os':List Opn} (h:Wide k b os os') (n:Nat) {o':Opn} (ho:os'[n]?=some o'):∃ o,os[n]?=some o∧o'.hi≤o.hi:=by
 induction h generalizing n with
 | nil=>simp at ho
 | cons a1 a2 a3 a4 _ ih =>
  cases n with
  | zero=>simp at ho;subst ho;exact ⟨_,rfl,a4⟩
  | succ n=>simpa using ih n (by simpa using ho)
end
end Go.Proofs.YtfiekidciiighaaGreat
namespace Go.Proofs.YtfiekidciiighaaGreat
section
variable {k k':RdK} {n:Int}
inductive Late (n:Int) (k k':RdK):Nat→List Opn→List Opn→Prop
 | nil (b:Nat):Late n k k' b [] []
 | cons {b:Nat} {o o':Opn} {os os':List Opn}:o'∈k'.opts b→o'.sig=o.sig→(∀ t,k.start≤t→t≤k.now→(o.lo≤t↔o'.lo≤t+n)∧(t≤o.hi↔t+n≤o'.hi))→Late n k k' (b+1) os os'→Late n k k' b (o::os) (o'::os')
theorem Late.len {b:Nat} {os os':List Opn} (h:Late n k k' b os os'):os'.length=os.length:=by
 induction h with
 | nil=>rfl
 | cons _ _ _ _ ih=>simp [ih]
theorem Late.get {b:Nat} {os os':List Opn} (h:Late n k k' b os os') (j:Nat) {o:Opn} (ho:os[j]?=some o):∃ o',os'[j]?=some o'∧∀ t,k.start≤t→t≤k.now→(o.lo≤t↔o'.lo≤t+n)∧(t≤o.hi↔t+n≤o'.hi):=by
 induction h generalizing j with
 | nil=>simp at ho
 | cons a1 a2 a3 _ ih =>
  cases j with
  | zero=>simp at ho;subst ho;exact ⟨_,rfl,a3⟩
  | succ j=>simpa using ih j (by simpa using ho)
end
end Go.Proofs.YtfiekidciiighaaGreat
namespace Go.Proofs.YtfiekidciiighaaGreat
structure Sgn where
 beam:Int
 read:Int
deriving DecidableEq
instance : Inhabited Sgn:=⟨⟨0,0⟩⟩
structure Rid where
 start:Int
 now:Int
 sigs:List Sgn
deriving DecidableEq
instance : Inhabited Rid:=⟨⟨0,0,[]⟩⟩
def sigO (c:Clk) (b:Nat) (x:Sgn × Nat):Option Opn:=if x.1.beam=(b:Int)∧(zBd c x.1.read).lo≤(zBd c x.1.read).hi then some ⟨x.2,(zBd c x.1.read).lo,(zBd c x.1.read).hi⟩ else none
def zJT (way:Nat→Int) (fast:Int) (clk:Nat→Clk) (m:Nat) (misses fakes:Int) (r:Rid):RdK :=
 ⟨m,fun b=>upI (1000 * way b) fast,fun b=>⟨-1,r.start,r.now⟩::r.sigs.zipIdx.filterMap (sigO (clk b) b),r.start,r.now,misses,fakes,r.sigs.length⟩
theorem zHx {c:Clk} {b:Nat} {x:Sgn × Nat} {o:Opn}:sigO c b x=some o↔x.1.beam=(b:Int)∧(zBd c x.1.read).lo≤(zBd c x.1.read).hi∧o=⟨x.2,(zBd c x.1.read).lo,(zBd c x.1.read).hi⟩:=by
 unfold sigO
 split
 ·next h=>simp only [Option.some.injEq];exact ⟨fun e=>⟨h.1,h.2,e.symm⟩,fun e=>e.2.2.symm⟩
 ·next h =>
   constructor
   ·intro e;cases e
   ·rintro ⟨a,b,_⟩;exact absurd ⟨a,b⟩ h
section
variable {way : Nat→Int} {fast:Int} {clk clk':Nat→Clk} {m:Nat} {misses fakes:Int} {r:Rid}
theorem opts_mem {b:Nat} {o:Opn}:o∈(zJT way fast clk m misses fakes r).opts b↔o=⟨-1,r.start,r.now⟩∨∃ (s:Sgn) (i:Nat),r.sigs[i]?=some s∧s.beam=(b:Int)∧(zBd (clk b) s.read).lo≤(zBd (clk b) s.read).hi∧o=⟨(i:Int),(zBd (clk b) s.read).lo,(zBd (clk b) s.read).hi⟩:=by
 unfold zJT
 simp only [List.mem_cons,List.mem_filterMap,zHx,Prod.exists,List.mem_zipIdx_iff_getElem?]
end
end Go.Proofs.YtfiekidciiighaaGreat
namespace Go.Proofs.YtfiekidciiighaaGreat
variable {ro : Option Nat}
open Go.RowKit
set_option maxRecDepth 20000
def zBV (s:Sy):List Value:=[.int .i64 s.at_,.int .i64 s.ah.lo,.int .i64 s.ah.hi]
structure CkM where
 c:Clk
 A:Option Addr
 cap:Nat
instance : Inhabited CkM:=⟨⟨default,none,0⟩⟩
def zB8 (x:CkM):List Value:=[.int .i64 x.c.drift,.slice x.A x.c.syncs.length x.cap]
def vCk (x:CkM):Value:=.agg #[.int .i64 x.c.drift,.slice x.A x.c.syncs.length x.cap]
structure Bm where
 spot:Spot
 clock:Int
instance : Inhabited Bm:=⟨⟨⟨0,⟨0,0⟩⟩,0⟩⟩
def zDj (b:Bm):List Value:=[.int .i64 b.spot.st,.int .i64 b.spot.off.lo,.int .i64 b.spot.off.hi,.int .i64 b.clock]
def vBm (b:Bm):Value:=.agg #[.int .i64 b.spot.st,.int .i64 b.spot.off.lo,.int .i64 b.spot.off.hi,.int .i64 b.clock]
def zAw (s:Sgn):List Value:=[.int .i64 s.beam,.int .i64 s.read]
def vSg (s:Sgn):Value:=.agg #[.int .i64 s.beam,.int .i64 s.read]
theorem one_sy (b:Sy):∀ v∈zBV b,v.oneCell'=true:=by intro v hv;simp [zBV] at hv;rcases hv with rfl|rfl|rfl<;>rfl
theorem one_ck (b:CkM):∀ v∈zB8 b,v.oneCell'=true:=by intro v hv;simp [zB8] at hv;rcases hv with rfl|rfl<;>rfl
theorem one_bm (b:Bm):∀ v∈zDj b,v.oneCell'=true:=by intro v hv;simp [zDj] at hv;rcases hv with rfl|rfl|rfl|rfl<;>rfl
theorem one_sg (b:Sgn):∀ v∈zAw b,v.oneCell'=true:=by intro v hv;simp [zAw] at hv;rcases hv with rfl|rfl<;>rfl
instance : zCZ zBV 3:=⟨fun _=>rfl,one_sy⟩
instance : zCZ zB8 2:=⟨fun _=>rfl,one_ck⟩
instance : zCZ zDj 4:=⟨fun _=>rfl,one_bm⟩
instance : zCZ zAw 2:=⟨fun _=>rfl,one_sg⟩
structure LnM where
 t:List St
 TA:Option Addr
 tc:Nat
 fast:Int
 cks:List CkM
 CA:Option Addr
 cc:Nat
 bms:List Bm
 BA:Option Addr
 bc:Nat
 finish:Int
 fakes:Int
 misses:Int
def zAH (l:LnM):List Value:=[.slice l.TA l.t.length l.tc,.int .i64 l.fast,.slice l.CA l.cks.length l.cc,.slice l.BA l.bms.length l.bc,.int .i64 l.finish,.int .i64 l.fakes,.int .i64 l.misses]
def vLn (l:LnM):Value:=.agg #[.slice l.TA l.t.length l.tc,.int .i64 l.fast,.slice l.CA l.cks.length l.cc,.slice l.BA l.bms.length l.bc,.int .i64 l.finish,.int .i64 l.fakes,.int .i64 l.misses]
structure zCY (w:World) (l:LnM):Prop where
 t:zAC zBq 9 w l.TA l.t
 c:zAC zB8 2 w l.CA l.cks
 s:∀ x∈l.cks,zAC zBV 3 w x.A x.c.syncs
 cap:∀ x∈l.cks,x.c.syncs.length≤x.cap
 b:zAC zDj 4 w l.BA l.bms
theorem zCY.below {w W:World} {l:LnM} (h:zCY w l) (hb:Below w.heap.size w W):zCY W l:=⟨h.t.below hb,h.c.below hb,fun x hx=>(h.s x hx).below hb,h.cap,h.b.below hb⟩
structure zBA (l:LnM):Prop where
 fit:zEx l.t
 t:l.t.length≤20
 c:l.cks.length≤8
 s:∀ x∈l.cks,x.c.syncs.length≤10
 b:l.bms.length≤10
theorem zHT {α:Type} {p:α→Bool} {l:List α} {i:Nat} (h:i<l.length) (hp:p l[i]=true) (hb:∀ j y,j<i→l[j]?=some y→p y=false):zEY p l=i:=by
 have:l.findIdx? p=some i:=List.findIdx?_eq_some_iff_getElem.2 ⟨h,hp,fun j hj=>by
  have:=hb j l[j] hj (List.getElem?_eq_getElem (by omega))
  simp [this]⟩
 unfold zEY;rw [this]
theorem zFR {α:Type} {p:α→Bool} {l:List α} (h:∀ y∈l,p y=false):zEY p l = -1:=by
 have:l.findIdx? p=none:=by rw [List.findIdx?_eq_none_iff];intro x hx;simp [h x hx]
 unfold zEY;rw [this]
set_option maxHeartbeats 1000000 in
theorem zKv (l:List Int) (A:Option Addr) (cap:Nat) (kf:FuncId) [zr Tryz.prog kf] (cs:Array Value) (p:Int→Bool) (w:World) (hk:zAC encI 1 w A l) (hl:l.length≤1000000)
  (hp:∀ x W,x∈l→Below w.heap.size w W→Gv Tryz.prog kf ([.int .i64 x]++cs.toList) W (.bool (p x))) :
  Gv Tryz.prog 48 [.slice A l.length cap,.func (.func kf) #[] cs] w (.int .i64 (zEY p l)):=by
 unfold Gv
 (refine zK (n:=19) Tryz.func48 rfl rfl rfl ?_)
 (repeat' (first|((with_reducible refine zG ?_);first|refine zD rfl rfl rfl ?_|refine zC rfl rfl rfl ?_|refine zn rfl rfl rfl ?_)|(with_reducible first|refine zI ?_|refine zB ?_|refine zE ?_|refine zA ?_|refine zQ ?_)))
 refine zAB (ι:=Nat) [0,1,7] rfl (fun i=>i≤l.length∧∀ j y,j<i→l[j]?=some y→p y=false) (fun i=>[(8,.int .i64 (i:Int))]) (fun _=>[]) (fun i=>l.length - i) 0 ⟨Nat.zero_le _,fun j y h=>by omega⟩ (by (repeat first|exact lK1|refine zT rfl ?_)) (by (repeat constructor)) ?_
 rintro i ⟨hi,hb⟩
 simp only [zAk,List.cons_append,List.nil_append]
 by_cases hlt:i<l.length
 ·have hx:l[i]?=some l[i]:=by simp [hlt]
  obtain ⟨b,o,rfl,hblt,hc⟩:=hk.at_ hlt
  have:InS w b o encI 1 l:=⟨hk⟩
  have:zAT l i l[i]:=⟨hx⟩
  (repeat' (first|((with_reducible refine zG ?_);first|refine zD rfl rfl rfl ?_|refine zC rfl rfl rfl ?_|(refine zJ rfl rfl rfl ?_;refine ⟨_,rfl,?_⟩)|(refine zS rfl rfl rfl rfl rfl (fun h=>?_) (fun h=>?_)<;>(dsimp only [cmpP] at h;(try (exfalso;omega))))|(refine zAf rfl rfl rfl rfl (fun _ _ q=>hp _ _ (List.getElem_mem hlt) q.below) (fun h=>?_) (fun h=>?_)<;>(try (exfalso;omega)))|refine zu rfl rfl rfl rfl (by omega) ?_|refine zo rfl rfl rfl rfl rfl (by omega) ?_)|(with_reducible first|refine zI ?_|refine zB ?_|refine zE ?_|refine zA ?_|refine zV ?_|refine zR ?_|refine zU ?_|refine zQ ?_|refine zj ?_|refine zAV ?_)|((with_reducible refine zH ?_ ?_);(· exact rfl))|((with_reducible refine zF ?_ ?_);(· exact rfl))))
  ·have e1:=zHT hlt h hb
   exact zP (by exact rTm rfl) () trivial (by rw [e1];rfl) (fun _ h=>h.sub (by (repeat constructor)))
  ·refine zd (i+1) ⟨by omega,fun j y hj hy=>?_⟩ (by omega) (by (repeat first|exact lK1|refine zT rfl ?_)) (by (repeat constructor))
   by_cases e:j=i
   ·subst e;rw [hx] at hy;cases hy;exact h
   ·exact hb j y (by omega) hy
 ·obtain rfl:i=l.length:=by omega
  have e1:=zFR (p:=p) (l:=l) (fun y hy=>by
   obtain ⟨j,hj⟩:=List.mem_iff_getElem?.1 hy
   exact hb j y (List.getElem?_eq_some_iff.1 hj).1 hj)
  (repeat' (first|((with_reducible refine zG ?_);first|refine zC rfl rfl rfl ?_|(refine zS rfl rfl rfl rfl rfl (fun h=>?_) (fun h=>?_)<;>(dsimp only [cmpP] at h;(try (exfalso;omega)))))|(with_reducible first|refine zI ?_|refine zB ?_|refine zE ?_|refine zA ?_|refine zV ?_|refine zz ?_|refine zZ ?_|refine ze ?_)|((with_reducible refine zF ?_ ?_);(· exact rfl))))
  exact zP (by exact rTm rfl) () trivial (by rw [e1];rfl) (fun _ h=>h.sub (by (repeat constructor)))
theorem ci_con (l:List Int) (A:Option Addr) (cap:Nat) (kf:FuncId) [zr Tryz.prog kf] (cs:Array Value) (p:Int→Bool) (w:World) (hk:zAC encI 1 w A l) (hl:l.length≤1000000)
  (hp:∀ x W,x∈l→Below w.heap.size w W→Gv Tryz.prog kf ([.int .i64 x]++cs.toList) W (.bool (p x))) :
  Gv Tryz.prog 31 [.slice A l.length cap,.func (.func kf) #[] cs] w (.bool (l.any p)):=by
 unfold Gv
 have hf:=zE7 p l
 (refine zK (n:=9) Tryz.func31 rfl rfl rfl ?_)
 (repeat' (first|((with_reducible refine zG ?_);first|refine zD rfl rfl rfl ?_|refine zC rfl rfl rfl ?_|(refine zS rfl rfl rfl rfl rfl (fun h=>?_) (fun h=>?_)<;>(dsimp only [cmpP] at h;(try (exfalso;omega))))|refine zO rfl rfl rfl rfl (fun _ _ q=>zKv l A cap kf cs p _ (hk.below q.below) hl (fun x W hx hW=>hp x W hx (q.below.trans (hW.mono q.base)))) ?_)|(with_reducible first|refine zI ?_|refine zB ?_|refine zE ?_|refine zA ?_|refine zV ?_)))
 all_goals exact zP (by exact rTm rfl) () trivial (by simp only [resV];rw [← hf];simp;omega) (fun _ h=>h.sub (by (repeat constructor)))
set_option maxHeartbeats 1000000 in
theorem zKx (l:List CkM) (A:Option Addr) (cap:Nat) (kf:FuncId) [zr Tryz.prog kf] (cs:Array Value) (p:CkM→Bool) (w:World) (hk:zAC zB8 2 w A l) (hl:l.length≤1000000)
  (hp:∀ x W,x∈l→Below w.heap.size w W→Gv Tryz.prog kf ([vCk x]++cs.toList) W (.bool (p x))) :
  Gv Tryz.prog 100 [.slice A l.length cap,.func (.func kf) #[] cs] w (.int .i64 (zEY p l)):=by
 unfold Gv
 (refine zK (n:=19) Tryz.func100 rfl rfl rfl ?_)
 (repeat' (first|((with_reducible refine zG ?_);first|refine zD rfl rfl rfl ?_|refine zC rfl rfl rfl ?_|refine zn rfl rfl rfl ?_)|(with_reducible first|refine zI ?_|refine zB ?_|refine zE ?_|refine zA ?_|refine zQ ?_)))
 refine zAB (ι:=Nat) [0,1,7] rfl (fun i=>i≤l.length∧∀ j y,j<i→l[j]?=some y→p y=false) (fun i=>[(8,.int .i64 (i:Int))]) (fun _=>[]) (fun i=>l.length - i) 0 ⟨Nat.zero_le _,fun j y h=>by omega⟩ (by (repeat first|exact lK1|refine zT rfl ?_)) (by (repeat constructor)) ?_
 rintro i ⟨hi,hb⟩
 simp only [zAk,List.cons_append,List.nil_append]
 by_cases hlt:i<l.length
 ·have hx:l[i]?=some l[i]:=by simp [hlt]
  obtain ⟨b,o,rfl,hblt,hc⟩:=hk.at_ hlt
  have:InS w b o zB8 2 l:=⟨hk⟩
  have:zAT l i l[i]:=⟨hx⟩
  (repeat' (first|((with_reducible refine zG ?_);first|refine zD rfl rfl rfl ?_|refine zC rfl rfl rfl ?_|(refine zJ rfl rfl rfl ?_;refine ⟨_,rfl,?_⟩)|(refine zS rfl rfl rfl rfl rfl (fun h=>?_) (fun h=>?_)<;>(dsimp only [cmpP] at h;(try (exfalso;omega))))|(refine zAf rfl rfl rfl rfl (fun _ _ q=>hp _ _ (List.getElem_mem hlt) q.below) (fun h=>?_) (fun h=>?_)<;>(try (exfalso;omega)))|refine zu rfl rfl rfl rfl (by omega) ?_|refine zo rfl rfl rfl rfl rfl (by omega) ?_)|(with_reducible first|refine zI ?_|refine zB ?_|refine zE ?_|refine zA ?_|refine zV ?_|refine zR ?_|refine zU ?_|refine zQ ?_|refine zj ?_|refine zAV ?_)|((with_reducible refine zH ?_ ?_);(· exact rfl))|((with_reducible refine zF ?_ ?_);(· exact rfl))))
  ·have e1:=zHT hlt h hb
   exact zP (by exact rTm rfl) () trivial (by rw [e1];rfl) (fun _ h=>h.sub (by (repeat constructor)))
  ·refine zd (i+1) ⟨by omega,fun j y hj hy=>?_⟩ (by omega) (by (repeat first|exact lK1|refine zT rfl ?_)) (by (repeat constructor))
   by_cases e:j=i
   ·subst e;rw [hx] at hy;cases hy;exact h
   ·exact hb j y (by omega) hy
 ·obtain rfl:i=l.length:=by omega
  have e1:=zFR (p:=p) (l:=l) (fun y hy=>by
   obtain ⟨j,hj⟩:=List.mem_iff_getElem?.1 hy
   exact hb j y (List.getElem?_eq_some_iff.1 hj).1 hj)
  (repeat' (first|((with_reducible refine zG ?_);first|refine zC rfl rfl rfl ?_|(refine zS rfl rfl rfl rfl rfl (fun h=>?_) (fun h=>?_)<;>(dsimp only [cmpP] at h;(try (exfalso;omega)))))|(with_reducible first|refine zI ?_|refine zB ?_|refine zE ?_|refine zA ?_|refine zV ?_|refine zz ?_|refine zZ ?_|refine ze ?_)|((with_reducible refine zF ?_ ?_);(· exact rfl))))
  exact zP (by exact rTm rfl) () trivial (by rw [e1];rfl) (fun _ h=>h.sub (by (repeat constructor)))
theorem cc_con (l:List CkM) (A:Option Addr) (cap:Nat) (kf:FuncId) [zr Tryz.prog kf] (cs:Array Value) (p:CkM→Bool) (w:World) (hk:zAC zB8 2 w A l) (hl:l.length≤1000000)
  (hp:∀ x W,x∈l→Below w.heap.size w W→Gv Tryz.prog kf ([vCk x]++cs.toList) W (.bool (p x))) :
  Gv Tryz.prog 77 [.slice A l.length cap,.func (.func kf) #[] cs] w (.bool (l.any p)):=by
 unfold Gv
 have hf:=zE7 p l
 (refine zK (n:=9) Tryz.func77 rfl rfl rfl ?_)
 (repeat' (first|((with_reducible refine zG ?_);first|refine zD rfl rfl rfl ?_|refine zC rfl rfl rfl ?_|(refine zS rfl rfl rfl rfl rfl (fun h=>?_) (fun h=>?_)<;>(dsimp only [cmpP] at h;(try (exfalso;omega))))|refine zO rfl rfl rfl rfl (fun _ _ q=>zKx l A cap kf cs p _ (hk.below q.below) hl (fun x W hx hW=>hp x W hx (q.below.trans (hW.mono q.base)))) ?_)|(with_reducible first|refine zI ?_|refine zB ?_|refine zE ?_|refine zA ?_|refine zV ?_)))
 all_goals exact zP (by exact rTm rfl) () trivial (by simp only [resV];rw [← hf];simp;omega) (fun _ h=>h.sub (by (repeat constructor)))
set_option maxHeartbeats 1000000 in
theorem zKy (l:List Bm) (A:Option Addr) (cap:Nat) (kf:FuncId) [zr Tryz.prog kf] (cs:Array Value) (p:Bm→Bool) (w:World) (hk:zAC zDj 4 w A l) (hl:l.length≤1000000)
  (hp:∀ x W,x∈l→Below w.heap.size w W→Gv Tryz.prog kf ([vBm x]++cs.toList) W (.bool (p x))) :
  Gv Tryz.prog 101 [.slice A l.length cap,.func (.func kf) #[] cs] w (.int .i64 (zEY p l)):=by
 unfold Gv
 (refine zK (n:=19) Tryz.func101 rfl rfl rfl ?_)
 (repeat' (first|((with_reducible refine zG ?_);first|refine zD rfl rfl rfl ?_|refine zC rfl rfl rfl ?_|refine zn rfl rfl rfl ?_)|(with_reducible first|refine zI ?_|refine zB ?_|refine zE ?_|refine zA ?_|refine zQ ?_)))
 refine zAB (ι:=Nat) [0,1,7] rfl (fun i=>i≤l.length∧∀ j y,j<i→l[j]?=some y→p y=false) (fun i=>[(8,.int .i64 (i:Int))]) (fun _=>[]) (fun i=>l.length - i) 0 ⟨Nat.zero_le _,fun j y h=>by omega⟩ (by (repeat first|exact lK1|refine zT rfl ?_)) (by (repeat constructor)) ?_
 rintro i ⟨hi,hb⟩
 simp only [zAk,List.cons_append,List.nil_append]
 by_cases hlt:i<l.length
 ·have hx:l[i]?=some l[i]:=by simp [hlt]
  obtain ⟨b,o,rfl,hblt,hc⟩:=hk.at_ hlt
  have:InS w b o zDj 4 l:=⟨hk⟩
  have:zAT l i l[i]:=⟨hx⟩
  (repeat' (first|((with_reducible refine zG ?_);first|refine zD rfl rfl rfl ?_|refine zC rfl rfl rfl ?_|(refine zJ rfl rfl rfl ?_;refine ⟨_,rfl,?_⟩)|(refine zS rfl rfl rfl rfl rfl (fun h=>?_) (fun h=>?_)<;>(dsimp only [cmpP] at h;(try (exfalso;omega))))|(refine zAf rfl rfl rfl rfl (fun _ _ q=>hp _ _ (List.getElem_mem hlt) q.below) (fun h=>?_) (fun h=>?_)<;>(try (exfalso;omega)))|refine zu rfl rfl rfl rfl (by omega) ?_|refine zo rfl rfl rfl rfl rfl (by omega) ?_)|(with_reducible first|refine zI ?_|refine zB ?_|refine zE ?_|refine zA ?_|refine zV ?_|refine zR ?_|refine zU ?_|refine zQ ?_|refine zj ?_|refine zAV ?_)|((with_reducible refine zH ?_ ?_);(· exact rfl))|((with_reducible refine zF ?_ ?_);(· exact rfl))))
  ·have e1:=zHT hlt h hb
   exact zP (by exact rTm rfl) () trivial (by rw [e1];rfl) (fun _ h=>h.sub (by (repeat constructor)))
  ·refine zd (i+1) ⟨by omega,fun j y hj hy=>?_⟩ (by omega) (by (repeat first|exact lK1|refine zT rfl ?_)) (by (repeat constructor))
   by_cases e:j=i
   ·subst e;rw [hx] at hy;cases hy;exact h
   ·exact hb j y (by omega) hy
 ·obtain rfl:i=l.length:=by omega
  have e1:=zFR (p:=p) (l:=l) (fun y hy=>by
   obtain ⟨j,hj⟩:=List.mem_iff_getElem?.1 hy
   exact hb j y (List.getElem?_eq_some_iff.1 hj).1 hj)
  (repeat' (first|((with_reducible refine zG ?_);first|refine zC rfl rfl rfl ?_|(refine zS rfl rfl rfl rfl rfl (fun h=>?_) (fun h=>?_)<;>(dsimp only [cmpP] at h;(try (exfalso;omega)))))|(with_reducible first|refine zI ?_|refine zB ?_|refine zE ?_|refine zA ?_|refine zV ?_|refine zz ?_|refine zZ ?_|refine ze ?_)|((with_reducible refine zF ?_ ?_);(· exact rfl))))
  exact zP (by exact rTm rfl) () trivial (by rw [e1];rfl) (fun _ h=>h.sub (by (repeat constructor)))
theorem cb_con (l:List Bm) (A:Option Addr) (cap:Nat) (kf:FuncId) [zr Tryz.prog kf] (cs:Array Value) (p:Bm→Bool) (w:World) (hk:zAC zDj 4 w A l) (hl:l.length≤1000000)
  (hp:∀ x W,x∈l→Below w.heap.size w W→Gv Tryz.prog kf ([vBm x]++cs.toList) W (.bool (p x))) :
  Gv Tryz.prog 81 [.slice A l.length cap,.func (.func kf) #[] cs] w (.bool (l.any p)):=by
 unfold Gv
 have hf:=zE7 p l
 (refine zK (n:=9) Tryz.func81 rfl rfl rfl ?_)
 (repeat' (first|((with_reducible refine zG ?_);first|refine zD rfl rfl rfl ?_|refine zC rfl rfl rfl ?_|(refine zS rfl rfl rfl rfl rfl (fun h=>?_) (fun h=>?_)<;>(dsimp only [cmpP] at h;(try (exfalso;omega))))|refine zO rfl rfl rfl rfl (fun _ _ q=>zKy l A cap kf cs p _ (hk.below q.below) hl (fun x W hx hW=>hp x W hx (q.below.trans (hW.mono q.base)))) ?_)|(with_reducible first|refine zI ?_|refine zB ?_|refine zE ?_|refine zA ?_|refine zV ?_)))
 all_goals exact zP (by exact rTm rfl) () trivial (by simp only [resV];rw [← hf];simp;omega) (fun _ h=>h.sub (by (repeat constructor)))
theorem bin_fn (x lo hi:Int) (b c:Nat) (w:World) (h1:InC w b 0 [.int .i64 lo]) (h2:InC w c 0 [.int .i64 hi]):Gv Tryz.prog 93 [.int .i64 x,.pointer (some ⟨b,0,none⟩),.pointer (some ⟨c,0,none⟩)] w (.bool (!inB lo hi x)):=by
 unfold Gv
 (refine zK (n:=13) Tryz.func93 rfl rfl rfl ?_)
 (repeat' (first|((with_reducible refine zG ?_);first|refine zD rfl rfl rfl ?_|refine zC rfl rfl rfl ?_|(refine zJ rfl rfl rfl ?_;refine ⟨_,rfl,?_⟩)|refine z7 rfl rfl rfl rfl ?_|refine zf rfl rfl rfl ?_|(refine zS rfl rfl rfl rfl rfl (fun h=>?_) (fun h=>?_)<;>(dsimp only [cmpP] at h;(try (exfalso;omega)))))|(with_reducible first|refine zI ?_|refine zB ?_|refine zE ?_|refine zA ?_|refine zV ?_)))
 all_goals exact zP (by exact rTm rfl) () trivial (by simp [resV,inB];omega) (fun _ h=>h.sub (by (repeat constructor)))
theorem zLQ (lo hi:Int) (l:List Int) (A:Option Addr) (cap:Nat) (w:World) (hk:zAC encI 1 w A l) (hl:l.length≤1000000):Gv Tryz.prog 68 [.int .i64 lo,.int .i64 hi,.slice A l.length cap] w (.bool (l.all (inB lo hi))):=by
 unfold Gv
 rw [← zI3]
 (refine zK (n:=11) Tryz.func68 rfl rfl rfl ?_)
 (repeat' (first|((with_reducible refine zG ?_);first|refine zD rfl rfl rfl ?_|refine zC rfl rfl rfl ?_|refine zO rfl rfl rfl rfl (fun _ _ q=>ci_con l A cap _ _ (fun n=>!inB lo hi n) _ (hk.below q.below) hl (fun x W' _ hW'=>bin_fn x lo hi _ _ W' (zA7 q.own hW' rfl) (zA7 q.own hW' rfl))) ?_|refine zAI rfl rfl rfl ?_|(refine zp rfl rfl rfl rfl (fun b=>?_))|refine zB2 rfl rfl rfl rfl ?_)|(with_reducible first|refine zI ?_|refine zB ?_|refine zE ?_|refine zA ?_|refine zV ?_)))
 all_goals exact zP (by exact rTm rfl) () trivial rfl (fun _ h=>h.sub (by (repeat constructor)))
theorem bin1 (lo hi a:Int) (c:Nat) (A:Option Addr) (w:World) (hk:zAC encI 1 w A [a]):Gv Tryz.prog 68 [.int .i64 lo,.int .i64 hi,.slice A 1 c] w (.bool (inB lo hi a)):=by
 have:=zLQ lo hi [a] A c w hk (by simp)
 simpa using this
theorem bin2 (lo hi a b:Int) (c:Nat) (A:Option Addr) (w:World) (hk:zAC encI 1 w A [a,b]):Gv Tryz.prog 68 [.int .i64 lo,.int .i64 hi,.slice A 2 c] w (.bool (inB lo hi a && inB lo hi b)):=by
 have:=zLQ lo hi [a,b] A c w hk (by simp)
 simpa using this
theorem zAX (n lo hi:Int) (w:World):Gv Tryz.prog 63 [.int .i64 n,.int .i64 lo,.int .i64 hi] w (.bool (inB lo hi n)):=by
 unfold Gv
 (refine zK (n:=15) Tryz.func63 rfl rfl rfl ?_)
 (repeat' (first|((with_reducible refine zG ?_);first|refine zD rfl rfl rfl ?_|refine zC rfl rfl rfl ?_|refine z7 rfl rfl rfl rfl ?_|refine zf rfl rfl rfl ?_|(refine zS rfl rfl rfl rfl rfl (fun h=>?_) (fun h=>?_)<;>(dsimp only [cmpP] at h;(try (exfalso;omega)))))|(with_reducible first|refine zI ?_|refine zB ?_|refine zE ?_|refine zA ?_|refine zV ?_)))
 all_goals exact zP (by exact rTm rfl) () trivial (by simp [resV,inB];omega) (fun _ h=>h.sub (by (repeat constructor)))
theorem mulIn {a b A B:Int} (h1:0≤a) (h2:a≤A) (h3:0≤b) (h4:b≤B):0≤a * b∧a * b≤A * B :=
 ⟨Int.mul_nonneg h1 h3,Int.le_trans (Int.mul_le_mul_of_nonneg_right h2 h3) (Int.mul_le_mul_of_nonneg_left h4 (Int.le_trans h1 h2))⟩
def upWr (n b:Int):Int:=IntKind.i64.wrap ((IntKind.i64.wrap (IntKind.i64.wrap (n+b) - 1)).tdiv b)
theorem upWr_eq {n b:Int} (h1:0≤n) (h2:n≤4611686018427387904) (h3:1≤b) (h4:b≤1000000000):upWr n b=upI n b:=by
 unfold upWr upI
 rw [IntWalk.i64_in (n+b) (by omega),IntWalk.i64_in (n+b - 1) (by omega),Int.tdiv_eq_ediv_of_nonneg (by omega)]
 have h5:0≤(n+b - 1) / b:=Int.ediv_nonneg (by omega) (by omega)
 have h6:(n+b - 1) / b≤n+b - 1:=Int.ediv_le_self _ (by omega)
 exact IntWalk.i64_in _ (by omega)
theorem zIc (n b:Int) (w:World) (h:b≠0):Gv Tryz.prog 86 [.int .i64 n,.int .i64 b] w (.int .i64 (upWr n b)):=by
 unfold Gv
 (refine zK (n:=11) Tryz.func86 rfl rfl rfl ?_)
 (repeat' (first|((with_reducible refine zG ?_);first|refine zD rfl rfl rfl ?_|refine zC rfl rfl rfl ?_|refine u_addW rfl rfl rfl rfl ?_|refine zIe rfl rfl rfl rfl ?_|refine u_quoW rfl rfl rfl rfl h ?_)|(with_reducible first|refine zI ?_|refine zB ?_|refine zE ?_|refine zA ?_|refine zV ?_)))
 exact zP (by exact rTm rfl) () trivial rfl (fun _ h=>h.sub (by (repeat constructor)))
theorem up_ok (n b:Int) (w:World) (h1:0≤n) (h2:n≤4611686018427387904) (h3:1≤b) (h4:b≤1000000000):Gv Tryz.prog 86 [.int .i64 n,.int .i64 b] w (.int .i64 (upI n b)):=by
 rw [← upWr_eq h1 h2 h3 h4];exact zIc n b w (by omega)
theorem zKA {n b:Int} (h1:0≤n) (h3:1≤b):0≤upI n b∧upI n b≤n:=by
 unfold upI
 refine ⟨Int.ediv_nonneg (by omega) (by omega),?_⟩
 rcases Int.lt_or_le n 1 with h|h
 ·obtain rfl:n=0:=by omega
  rw [Int.zero_add,Int.ediv_eq_zero_of_lt (by omega) (by omega)];omega
 ·have:=Int.mul_le_mul_of_nonneg_left h3 (show 0≤n by omega)
  have h5:=Int.mul_le_mul_of_nonneg_right (show 1≤n by omega) (show 0≤b - 1 by omega)
  rw [Int.one_mul] at h5
  refine Int.le_of_lt_add_one (Int.ediv_lt_of_lt_mul (by omega) ?_)
  rw [Int.add_mul,Int.one_mul]
  have:n * (b - 1)=n * b - n:=by rw [Int.mul_sub,Int.mul_one]
  omega
theorem zGQ (a b:Int) (w:World) (h1:0≤a * b) (h2:a * b≤4611686018427387904):Gv Tryz.prog 90 [.int .i64 a,.int .i64 b] w (.int .i64 (upI (a * b) 1000000)):=by
 unfold Gv
 have e:upI (a * b) 1000000=if 0<a * b % 1000000 then a * b / 1000000+1 else a * b / 1000000:=by
  unfold upI;split<;>omega
 rw [e]
 generalize hn:a * b=n at *
 (refine zK (n:=17) Tryz.func90 rfl rfl rfl ?_)
 (repeat' (first|((with_reducible refine zG ?_);first|refine zD rfl rfl rfl ?_|refine zC rfl rfl rfl ?_|(refine zS rfl rfl rfl rfl rfl (fun h=>?_) (fun h=>?_)<;>(dsimp only [cmpP] at h;(try (exfalso;omega))))|(refine u_mul (i:=a) (j:=b) rfl rfl rfl rfl (IntWalk.i64_in _ (by omega)) ?_;rw [hn])|refine zBp rfl rfl rfl rfl (IntWalk.i64_in _ (by omega)) ?_|refine zJD rfl rfl rfl rfl (by omega) (by omega) (IntWalk.i64_in _ (by omega)) ?_|refine u_rem rfl rfl rfl rfl (by omega) (by omega) ?_)|(with_reducible first|refine zI ?_|refine zB ?_|refine zE ?_|refine zA ?_|refine zV ?_|refine zR ?_|refine zU ?_)|((with_reducible refine zH ?_ ?_);(· exact rfl))|((with_reducible refine zF ?_ ?_);(· exact rfl))))
 ·rw [if_pos h]
  exact zP (by exact rTm rfl) () trivial rfl (fun _ h=>h.sub (by (repeat constructor)))
 ·rw [if_neg h]
  exact zP (by exact rTm rfl) () trivial rfl (fun _ h=>h.sub (by (repeat constructor)))
def zBQ (c:Clk) (t:Int) (i:Nat):Sp:=(c.syncs.take i).foldl (fun s x=>⟨max s.lo (x.ah.lo - zBI c t x.at_),min s.hi (x.ah.hi+zBI c t x.at_)⟩) ⟨-1099511627776,1099511627776⟩
theorem zDM (c:Clk) (t:Int):zBQ c t c.syncs.length=zAb c t:=by unfold zBQ zAb;rw [List.take_length]
theorem zEV {c:Clk} {t:Int} {i:Nat} {s:Sy} (h:c.syncs[i]?=some s):zBQ c t (i+1)=⟨max (zBQ c t i).lo (s.ah.lo - zBI c t s.at_),min (zBQ c t i).hi (s.ah.hi+zBI c t s.at_)⟩:=by
 unfold zBQ;rw [List.take_add_one,h];simp [List.foldl_append]
theorem zHY {c:Clk} (h:c.Ok) {t b:Int} (ht:-86400002≤t∧t≤86400002) (hb:0≤b∧b≤86400000):0≤c.drift * max (t - b) (b - t)∧c.drift * max (t - b) (b - t)≤172800002000∧0≤zBI c t b∧zBI c t b≤172801:=by
 have:=mulIn (B:=172800002) h.drift.1 h.drift.2 (show 0≤max (t - b) (b - t) by omega) (by omega)
 refine ⟨this.1,by omega,zL6 h t b,?_⟩
 unfold zBI upI
 generalize c.drift * max (t - b) (b - t)=x at *
 omega
theorem zC9 {c:Clk} (h:c.Ok) {t:Int} (ht:-86400002≤t∧t≤86400002):∀ i,-1099511627776≤(zBQ c t i).lo∧(zBQ c t i).lo≤1099511627776∧-1099511627776≤(zBQ c t i).hi∧(zBQ c t i).hi≤1099511627776
 | 0=>by simp [zBQ]
 | i+1=>by
  have ih:=zC9 h ht i
  cases hs:c.syncs[i]? with
  | none =>
   have:zBQ c t (i+1)=zBQ c t i:=by unfold zBQ;rw [List.take_add_one,hs];simp
   rw [this];exact ih
  | some s =>
   have hm:=List.mem_of_getElem? hs
   have h1:=zHY h ht (h.ats s hm)
   have h2:=h.ahs s hm
   rw [zEV hs]
   simp only;omega
set_option maxHeartbeats 2000000 in
theorem zIW (x:CkM) (t:Int) (w:World) (hs:zAC zBV 3 w x.A x.c.syncs) (hok:x.c.Ok) (hl:x.c.syncs.length≤10) (ht:-86400002≤t∧t≤86400002) :
  Gv Tryz.prog 109 [vCk x,.int .i64 t] w (vSp (zAb x.c t)):=by
 have hin:=zC9 hok ht
 have e0:zBQ x.c t 0=⟨-1099511627776,1099511627776⟩:=rfl
 rw [← zDM]
 unfold Gv vCk vSp
 (refine zK (n:=49) Tryz.func109 rfl rfl rfl ?_)
 (repeat' (first|((with_reducible refine zG ?_);first|refine zD rfl rfl rfl ?_|(refine zJ rfl rfl rfl ?_;refine ⟨_,rfl,?_⟩)|refine zL rfl rfl rfl ?_|refine zn rfl rfl rfl ?_|(refine zX rfl rfl rfl rfl rfl ?_;refine ⟨rfl,by first|decide|exact Nat.le_of_ble_eq_true rfl|(simp;omega),_,rfl,?_⟩)|(refine zb rfl rfl (fun b=>?_))|(refine zp rfl rfl rfl rfl (fun b=>?_))|(refine zAZ rfl rfl rfl ?_;refine ⟨_,rfl,?_⟩))|(with_reducible first|refine zI ?_|refine zB ?_|refine zE ?_|refine zA ?_|refine zQ ?_)))
 rename_i b2 b4
 refine zAB (ι:=Nat) [1,2,4,5,11,12] rfl (fun i=>i≤x.c.syncs.length) (fun i=>[(13,.int .i64 (i:Int))]) (fun i=>[.blk b (zAr (zBQ x.c t i)),.blk b4 [.int .i64 0,.int .i64 0],.blk b2 [.int .i64 x.c.drift,.slice x.A x.c.syncs.length x.cap]]) (fun i=>x.c.syncs.length - i) 0 (Nat.zero_le _) (by (repeat first|exact lK1|refine zT rfl ?_)) (by rw [e0];(repeat constructor)) ?_
 rintro i hi
 simp only [zAk,zAr,List.cons_append,List.nil_append]
 by_cases hlt:i<x.c.syncs.length
 ·obtain ⟨s,hx⟩:∃ s,x.c.syncs[i]?=some s:=⟨_,List.getElem?_eq_getElem hlt⟩
  have hm:=List.mem_of_getElem? hx
  obtain ⟨d1,d2,d3,d4⟩:=zHY hok ht (hok.ats s hm)
  have h2:=hok.ahs s hm
  have h3:=hok.ats s hm
  have h4:=hin i
  have e1:=zEV (t:=t) hx
  have hU:=fun W=>up_ok (x.c.drift * max (t - s.at_) (s.at_ - t)) 1000000 W (by omega) (by omega) (by decide) (by decide)
  have e2:upI (x.c.drift * max (t - s.at_) (s.at_ - t)) 1000000=zBI x.c t s.at_:=rfl
  rw [e2] at hU
  obtain ⟨bb,o,hA,hblt,hc⟩:=hs.at_ hlt
  rw [hA] at hs
  have:InS w bb o zBV 3 x.c.syncs:=⟨hs⟩
  have:zAT x.c.syncs i s:=⟨hx⟩
  rw [hA]
  generalize zBI x.c t s.at_=dr at *
  generalize zBQ x.c t i=a at *
  (repeat' (first|((with_reducible refine zG ?_);first|refine zD rfl rfl rfl ?_|refine zC rfl rfl rfl ?_|(refine zJ rfl rfl rfl ?_;refine ⟨_,rfl,?_⟩)|refine zL rfl rfl rfl ?_|(refine zS rfl rfl rfl rfl rfl (fun h=>?_) (fun h=>?_)<;>(dsimp only [cmpP] at h;(try (exfalso;omega))))|refine zO rfl rfl rfl rfl (fun _ _ q=>hU _) ?_|refine zu rfl rfl rfl rfl (by omega) ?_|refine zBp rfl rfl rfl rfl (IntWalk.i64_in _ (by omega)) ?_|refine zAc rfl rfl rfl rfl (IntWalk.i64_in _ (by omega)) ?_|refine u_mul rfl rfl rfl rfl (IntWalk.i64_in _ (by omega)) ?_|refine zo rfl rfl rfl rfl rfl (by omega) ?_|(refine zX rfl rfl rfl rfl rfl ?_;refine ⟨rfl,by first|decide|exact Nat.le_of_ble_eq_true rfl|(simp;omega),_,rfl,?_⟩)|(refine zb rfl rfl (fun b=>?_))|(refine zAZ rfl rfl rfl ?_;refine ⟨_,rfl,?_⟩)|refine zCF rfl rfl rfl rfl ?_|refine zGJ rfl rfl rfl rfl ?_)|(with_reducible first|refine zI ?_|refine zB ?_|refine zE ?_|refine zA ?_|refine zR ?_|refine zQ ?_|refine zj ?_)|((with_reducible refine zH ?_ ?_);(· exact rfl))))
  exact zd (ι:=Nat) (i+1) (by omega) (by omega) (by (repeat first|exact lK1|refine zT rfl ?_)) (by (try simp only [e1,zAr]);(repeat constructor))
 ·obtain rfl:i=x.c.syncs.length:=by omega
  (repeat' (first|((with_reducible refine zG ?_);first|(refine zJ rfl rfl rfl ?_;refine ⟨_,rfl,?_⟩)|(refine zS rfl rfl rfl rfl rfl (fun h=>?_) (fun h=>?_)<;>(dsimp only [cmpP] at h;(try (exfalso;omega))))|(refine zX rfl rfl rfl rfl rfl ?_;refine ⟨rfl,by first|decide|exact Nat.le_of_ble_eq_true rfl|(simp;omega),_,rfl,?_⟩))|(with_reducible first|refine zI ?_|refine zB ?_|refine zE ?_|refine zA ?_|refine zV ?_|refine zz ?_|refine zZ ?_|refine ze ?_)|((with_reducible refine zF ?_ ?_);(· exact rfl))))
  exact zP (by (exact zh.cons (by exact res1c rfl (by exact rfl)) zh.nil)) () trivial rfl (fun _ h=>h.sub (by (repeat constructor)))
end Go.Proofs.YtfiekidciiighaaGreat
namespace Go.Proofs.YtfiekidciiighaaGreat
variable {ro : Option Nat}
open Go.RowKit
theorem zCk {P:Program} {b:Frame} {a:Act} {k:List Item} {cs:List Frame} {w:World} {c:Code}:step P (lone (b.atR a (.code (.scope c)::k)) cs w) = .next (lone (b.atR a (.code c :: .inScope c::k)) cs w) :=
 step_lone_go (by simp [stepG,stepG.exec,Frame.atR])
theorem zHp {P:Program} {b:Frame} {a:Act} {k:List Item} {cs:List Frame} {w:World} {c:Code}:step P (lone (b.atR a (.inScope c::k)) cs w) = .next (lone (b.atR a k) cs w) :=
 step_lone_go (by simp [stepG,stepG.exec,Frame.atR])
theorem zJ8 {F:Fence} {n:Nat} {P:Program} {Q:Exit→Act→World→Prop} {a:Act} {w:World} {c:Code} (h:c.wpIn F n P (Exit.noGoto Q) a w):(Code.scope c).wpIn F n P Q a w:=by
 intro b k cs hro hb hr
 have h0:(lone (b.atR a (.code (.scope c)::k)) cs w).fenced P F:=fenced_calm hb hr rfl
 obtain ⟨e,a₁,w₁,hq,harr⟩:=h b (.inScope c::k) cs hro hb hr
 cases e with
 | normal=>exact ⟨.normal,a₁,w₁,hq,.head h0 zCk (StepsIn.trans harr (.one (fenced_calm hb hr rfl) zHp))⟩
 | exit id =>
  have hx:exitTo id (.inScope c::k)=exitTo id k:=by simp [exitTo]
  exact ⟨.exit id,a₁,w₁,hq,fun k' hk=>.head h0 zCk (harr.1 k' (by rw [hx];exact hk)),
   fun hr' hk=>let ⟨k₁,h1,h2⟩:=harr.2 hr' (by rw [hx];exact hk);⟨k₁,h1,.head h0 zCk h2⟩⟩
 | goto l=>exact hq.elim
 | ret=>exact ⟨_,a₁,w₁,hq,.of_steps (.one h0 zCk) harr⟩
 | panic ch=>exact ⟨_,a₁,w₁,hq,.of_steps (.one h0 zCk) harr⟩
 | outgrown=>exact ⟨_,a₁,w₁,hq,.of_steps (.one h0 zCk) harr⟩
section
variable {P : Program} {w0:World} {n:Nat} {d:List Deferred} {R:List (Nat × Value)} {H:List Ent} {Q:Exit→Act→World→Prop}
theorem zK6 {c:Code} (h:U w0 n d R H (c.wpI ro P (Exit.noGoto Q))):U w0 n d R H ((Code.scope c).wpI ro P Q):=fun a w k=>zJ8 (h a w k)
theorem zDV (h:U w0 n d R H (Q .ret)):U w0 n d R H (Exit.noGoto Q .ret):=h
end
section
variable {P : Program} {w0:World} {n:Nat} {d:List Deferred} {R:List (Nat × Value)} {H H':List Ent} {Q:Exit→Act→World→Prop} {ops:Array Oper} {rest:List Oper} {o:Oper} {t:Tmp} {x y:Operand}
theorem x_buildA {T1:TypeId} {ps:Array (Nat × Operand)} {s:Nat} {z:List Value} {qs:List (Nat × Value)} (hop:o.op = .build T1 ps) [i1:TyBA P T1 s z] (hrd:rdy R ops n o=some t) (hp:evp R ps.toList=some qs)
  (h:∃ cs,fillL (fun i=>some (i * s,s)) z qs=some cs∧U w0 n d ((t,.agg cs.toArray)::R) H (wpL ro P ops Q rest)):U w0 n d R H (wpL ro P ops Q (o::rest)):=by
 obtain ⟨cs,hf,h⟩:=h
 exact zBD hrd (fun a w q=>by
  unfold execOp;rw [hop]
  have e1:(ps.map fun (i,x)=>(i,a.eval x)).toList=qs:=by rw [Array.toList_map];exact q.evp hp
  have e2:P.built T1 (ps.map fun (i,x)=>(i,a.eval x)).toList=some cs.toArray:=by
   rw [i1.bui,e1]
   exact fill_eq _ qs z cs hf
  simp only [Sem.run_bind,run_build w T1 _ _ e2,Result.andThen_ok,Sem.run_pure]) h
end
end Go.Proofs.YtfiekidciiighaaGreat
