/- B31 -/
import Derived.Test.YtdigopgncfhiaaaGreatDoorB1
import Derived.Test.YtdigopgncfhiaaaGreatDoorB27
import Derived.Test.YtdigopgncfhiaaaGreatDoorB30
set_option linter.unusedSimpArgs false
set_option linter.unusedVariables false
namespace Go.Proofs.YtdigopgncfhiaaaGreatDoor
open Go.RowKit
open Flow (lackF zBl sumL)
set_option linter.unusedSectionVars false
structure zPU (c d:Cov):Prop where
 wear:d.wear=c.wear
 layer:d.layer=c.layer
 limit:d.limit=c.limit
 base:d.base=c.base
 bl:d.beds.length=c.beds.length
 hl:d.hours.length=c.hours.length
 bed:∀ i,i<c.beds.length→(d.beds.getD i default).sun≤(c.beds.getD i default).sun∧(c.beds.getD i default).thick.lo≤(d.beds.getD i default).thick.lo∧(c.beds.getD i default).thick.hi≤(d.beds.getD i default).thick.hi
 hour:∀ h,h<c.hours.length→(d.hours.getD h default).melt=(c.hours.getD h default).melt∧(d.hours.getD h default).runs≤(c.hours.getD h default).runs∧(c.hours.getD h default).crew≤(d.hours.getD h default).crew∧((c.hours.getD h default).cold=true→(d.hours.getD h default).cold=true)
section
variable {c d:Cov} (e:zPU c d) (hf:zBm c) (hg:zBm d)
include e hf hg
theorem zGD {i h:Nat} (hi:i<c.beds.length) (hh:h<c.hours.length):(zBB d (d.beds.getD i default) (d.hours.getD h default)).lo≤(zBB c (c.beds.getD i default) (c.hours.getD h default)).lo∧(zBB d (d.beds.getD i default) (d.hours.getD h default)).hi≤(zBB c (c.beds.getD i default) (c.hours.getD h default)).hi:=by
 have h1:=hf.hour (c.hours.getD h default) (by rw [Flow.zm hh];exact List.getElem_mem _)
 have h2:=hf.wear
 obtain ⟨k1,k2,k3⟩:=e.bed i hi
 obtain ⟨m1,m2,m3,m4⟩:=e.hour h hh
 simp only [zBR,Bool.and_eq_true,zAE,zx] at h1 h2
 simp only [zBB,e.wear,m1]
 have a1:=Int.mul_le_mul_of_nonneg_right k1 (show 0≤(c.hours.getD h default).melt.lo by omega)
 have a2:=Int.mul_le_mul_of_nonneg_right k1 (show 0≤(c.hours.getD h default).melt.hi by omega)
 have a3:=Int.mul_le_mul_of_nonneg_right m2 (show 0≤c.wear.lo by omega)
 have a4:=Int.mul_le_mul_of_nonneg_right m2 (show 0≤c.wear.hi by omega)
 exact ⟨Int.add_le_add a1 a3,Int.add_le_add a2 a4⟩
theorem zJA {h:Nat} (hh:h<c.hours.length):zCZ d (d.hours.getD h default)≤zCZ c (c.hours.getD h default):=by
 obtain ⟨m1,m2,m3,m4⟩:=e.hour h hh
 have h1:=hf.base
 rw [zx] at h1
 unfold zCZ
 rw [e.limit,e.base]
 split<;>split<;>omega
theorem zHT {pl:List Sli} {i:Nat} (hi:i<c.beds.length):∀ k,k≤c.hours.length→(thickN c pl (c.beds.getD i default) i k).lo≤(thickN d pl (d.beds.getD i default) i k).lo∧(thickN c pl (c.beds.getD i default) i k).hi≤(thickN d pl (d.beds.getD i default) i k).hi
 | 0,_=>(e.bed i hi).2
 | k+1,hk=>by
  have ih:=zHT (pl:=pl) hi k zRU
  have hl:=zGD e hf hg hi (show k<c.hours.length by omega)
  simp only [thickN,layered,thinned,e.layer]
  split<;>constructor<;>simp only<;>omega
theorem zM9 {pl:List Sli} {en:Sp→Sp→Int} (hen:en=zAa∨en=zC2) {p:Int × Int} (hp:p∈zAm d pl en):p∈zAm c pl en:=by
 obtain ⟨i,h,hi,hh,ht,rfl⟩:=zFA.1 hp
 rw [e.bl] at hi
 rw [e.hl] at hh
 refine zFA.2 ⟨i,h,hi,hh,?_,rfl⟩
 have h1:=zHT e hf hg (pl:=pl) hi h zRU
 have h2:=zGD e hf hg hi hh
 have h3:=zJA e hf hg hh
 unfold zBL at ht ⊢
 rw [decide_eq_true_eq] at ht ⊢
 rcases hen with rfl|rfl
 ·unfold zAa at ht ⊢;omega
 ·unfold zC2 at ht ⊢;omega
theorem zLB {pl:List Sli} {en:Sp→Sp→Int} (hen:en=zAa∨en=zC2) (h:(zAm c pl en).length=0):(zAm d pl en).length=0:=by
 rw [List.length_eq_zero_iff] at h ⊢
 rw [List.eq_nil_iff_forall_not_mem] at h ⊢
 exact fun p hp=>h p (zM9 e hf hg hen hp)
theorem zNL {pl:List Sli} (h1:zCC c pl=0) (h2:zCC d pl=0):zBN c pl≤zBN d pl:=by
 unfold zBN
 rw [if_pos h1,if_pos h2]
 by_cases h3:(zAm c pl zAa).length=0
 ·rw [if_pos h3,if_pos (zLB e hf hg (.inl rfl) h3)];omega
 ·rw [if_neg h3]
  by_cases h4:(zAm c pl zC2).length=0
  ·rw [if_pos h4,if_pos (zLB e hf hg (.inr rfl) h4)]
   split<;>omega
  ·rw [if_neg h4]
   split
   ·omega
   ·split<;>omega
theorem zF9 {i:Nat} (hi:i<c.beds.length):∀ k,k≤c.hours.length→(needG c (c.beds.getD i default) k).1≤(needG d (d.beds.getD i default) k).1∧(needG d (d.beds.getD i default) k).2≤(needG c (c.beds.getD i default) k).2
 | 0,_=>⟨(e.bed i hi).2.1,Int.le_refl _⟩
 | k+1,hk=>by
  obtain ⟨h1,h2⟩:=zF9 hi k zRU
  have hl:=(zGD e hf hg hi (show k<c.hours.length by omega)).2
  have ha:=zJA e hf hg (show k<c.hours.length by omega)
  have hL:=hf.layer
  simp only [zAE] at hL
  simp only [needG]
  refine ⟨by omega,?_⟩
  rw [e.layer]
  have hd:=Int.ediv_le_ediv (c:=c.layer.lo) zRU (show zCZ d (d.hours.getD k default) - ((needG d (d.beds.getD i default) k).1 - (zBB d (d.beds.getD i default) (d.hours.getD k default)).hi)+c.layer.lo - 1≤zCZ c (c.hours.getD k default) - ((needG c (c.beds.getD i default) k).1 - (zBB c (c.beds.getD i default) (c.hours.getD k default)).hi)+c.layer.lo - 1 by omega)
  split
  ·rw [if_pos zRU];omega
  ·split<;>omega
theorem zMW (h1:zAp c=0) (h2:zAp d=0):(zD6 c).2=0∧(zD6 d).2=0∧(zD6 c).1.length=c.beds.length∧(zD6 d).1.length=c.beds.length∧∀ i,i<c.beds.length→(zD6 d).1.getD i 0≤(zD6 c).1.getD i 0:=by
 have hh1:=hf.hours
 rw [zx] at hh1
 have key:∀ x:Cov,zAp x=0→zBm x→x.hours.length=c.hours.length→zD6 x=(x.beds.map fun z=>(needG x z c.hours.length).2,0):=fun x hx hfx hl=>by
  unfold zD6
  rw [if_pos hx]
  unfold zAu
  rw [List.map_map,hl]
  congr 1
  obtain ⟨m,hm⟩:∃ m,c.hours.length=m+1:=⟨c.hours.length - 1,by omega⟩
  rw [hm]
  exact List.map_congr_left fun z _=>by simp only [Function.comp_apply,zIz]
 rw [key c h1 hf rfl,key d h2 hg e.hl]
 refine ⟨rfl,rfl,by simp,by simp [e.bl],fun i hi=>?_⟩
 dsimp only
 rw [Flow.zm (by simp [e.bl];exact hi),Flow.zm (by simp;exact hi),List.getElem_map,List.getElem_map]
 have:=(zF9 e hf hg hi c.hours.length (Nat.le_refl _)).2
 rw [Flow.zm hi,Flow.zm (by rw [e.bl];exact hi)] at this
 exact this
theorem zKv {pl:List Sli} (h:zA2 c pl=true):zA2 d pl=true:=by
 obtain ⟨h1,h2⟩:=zAj.1 h
 refine zAj.2 ⟨by rw [h1,e.hl],fun i u s hu hs=>?_⟩
 have hi:=(List.getElem?_eq_some_iff.1 hu).1
 rw [e.hl] at hi
 have hr:=h2 i _ s (List.getElem?_eq_getElem hi) hs
 obtain ⟨m1,m2,m3,m4⟩:=e.hour i hi
 rw [zAS hu,Flow.zm hi] at m3 m4
 unfold zDL at hr ⊢
 rw [e.bl]
 simp only [Bool.and_eq_true,Bool.or_eq_true,decide_eq_true_eq] at hr ⊢
 refine ⟨⟨⟨by omega,?_⟩,hr.1.2⟩,hr.2⟩
 rcases hr.1.1.2 with h9|h9
 ·exact .inl h9
 ·exact .inr (m4 h9)
end
theorem zL4 {my my' m:Nat→Bool}:∀ k,(∀ j,j<k→my j=true→my' j=true)→zBl my m k≤zBl my' m k
 | 0,_=>Int.le_refl _
 | k+1,h=>by
  have ih:=zL4 (my:=my) (my':=my') (m:=m) k fun j hj=>h j zRU
  have hk:=h k zRU
  rw [zBx,zBx]
  revert hk
  cases my k<;>cases my' k<;>cases m k<;>intro hk<;>simp at hk ⊢<;>omega
theorem can_more {nb nh:Nat} {nd nd':Nat→Nat→Int} {my my':Nat→Nat→Bool} {hd hd':Nat→Int} (h1:∀ i k,i<nb→k<nh→nd' i k≤nd i k) (h2:∀ i k,i<nb→k<nh→my i k=true→my' i k=true) (h3:∀ k,k<nh→hd k≤hd' k) (h:zHO nb nh nd my hd):zHO nb nh nd' my' hd':=by
 intro m
 refine Int.le_trans ?_ (h m)
 unfold zDO
 have a:sumL (List.range nb) (fun i=>(lackF (nd' i) (my' i) m nh).1)≤sumL (List.range nb) (fun i=>(lackF (nd i) (my i) m nh).1):=Flow.zAs fun i hi=>by
  have hi:=List.mem_range.1 hi
  refine zDP (Flow.zBJ nh) fun k hk=>?_
  have b1:=Flow.zBr (nd:=nd i) (my:=my i) (sm:=m) nh k hk
  have b2:=h1 i k hi hk
  have b3:=zL4 (my:=my i) (my':=my' i) (m:=m) k fun j hj=>h2 i j hi zRU
  omega
 have b:sumL (List.range nh) (fun h=>if m h then hd h else 0)≤sumL (List.range nh) (fun h=>if m h then hd' h else 0):=Flow.zAs fun k hk=>by
  have:=h3 k (List.mem_range.1 hk)
  split<;>omega
 omega
theorem zPP {c d:Cov} (e:zPU c d) (hf:zBm c) (hg:zBm d) (hs:Small c) (hs2:Small d) (h:zC1 (zAu c) (zCs c) (zAk c)=true):zC1 (zAu d) (zCs d) (zAk d)=true:=by
 have ok:=zCV hf hs (zDt hf)
 have ok2:=zCV hg hs2 (zDt hg)
 refine (zEp ok2).2 ?_
 rw [e.bl,e.hl]
 refine can_more (fun i k hi hk=>?_) (fun i k hi hk=>?_) (fun k hk=>?_) ((zEp ok).1 h)
 ·show ((zAu d).getD i []).getD k 0≤((zAu c).getD i []).getD k 0
  rw [zE8 hi k hk,zE8 (by rw [e.bl];exact hi) k (by rw [e.hl];exact hk)]
  exact (zF9 e hf hg hi (k+1) zRU).2
 ·show ((zCs c).getD i []).getD k false=true→((zCs d).getD i []).getD k false=true
  rw [zJK hi,zJK (by rw [e.bl];exact hi)]
  obtain ⟨m1,m2,m3,m4⟩:=e.hour k hk
  rw [Flow.zm hk,Flow.zm (by rw [e.hl];exact hk)] at m4
  rw [Flow.zm (by simp;exact hk),Flow.zm (by simp [e.hl];exact hk),List.getElem_map,List.getElem_map]
  exact m4
 ·show (zAk c).getD k 0≤(zAk d).getD k 0
  obtain ⟨m1,m2,m3,m4⟩:=e.hour k hk
  have h9:=hg.hour (d.hours.getD k default) (by rw [Flow.zm (by rw [e.hl];exact hk)];exact List.getElem_mem _)
  simp only [zBR,Bool.and_eq_true,zx] at h9
  unfold zAk
  rw [Flow.zm (by simp;exact hk),Flow.zm (by simp [e.hl];exact hk),List.getElem_map,List.getElem_map,← Flow.zm (d:=default) hk,← Flow.zm (d:=default) (show k<d.hours.length by rw [e.hl];exact hk)]
  unfold zFK
  by_cases hc:(c.hours.getD k default).cold=true
  ·rw [if_pos hc,if_pos (m4 hc)];exact m3
  ·rw [if_neg hc];split<;>omega
def zEt {α:Type} (f:Nat→α→α) (l:List α) (k:Nat):List α:=l.mapIdx fun i x=>if i<k then f i x else x
theorem zK5 {α:Type} {f:Nat→α→α} {l:List α}:zEt f l 0=l:=by
 unfold zEt;apply List.ext_getElem?;intro i;simp [List.getElem?_mapIdx]
theorem zCb {α:Type} {f:Nat→α→α} {l:List α} {k:Nat}:(zEt f l k).length=l.length:=by simp [zEt]
theorem zHQ {α:Type} {f:Nat→α→α} {l:List α} {k i:Nat}:(zEt f l k)[i]?=l[i]?.map fun x=>if i<k then f i x else x:=by simp [zEt,List.getElem?_mapIdx]
theorem zM7 {α:Type} {f:Nat→α→α} {l:List α} {k:Nat} {u:α} (hu:l[k]?=some u):(zEt f l k)[k]?=some u:=by rw [zHQ,hu];simp
theorem zM5 {α:Type} {f:Nat→α→α} {l:List α} {k:Nat} {u:α} (hu:l[k]?=some u):(zEt f l k).set k (f k u)=zEt f l (k+1):=by
 have hk:=(List.getElem?_eq_some_iff.1 hu).1
 apply List.ext_getElem?
 intro i
 rw [List.getElem?_set,zHQ,zHQ,zCb]
 by_cases e:k=i
 ·subst e
  rw [if_pos rfl,if_pos hk,hu];simp
 ·rw [if_neg e]
  by_cases h1:i<k
  ·simp only [if_pos h1,if_pos (show i<k+1 by omega)]
  ·simp only [if_neg h1,if_neg (show ¬ i<k+1 by omega)]
theorem zK6 {α:Type} {f:Nat→α→α} {l:List α} {i:Nat} {d:α} (hi:i<l.length):(zEt f l l.length).getD i d=f i (l.getD i d):=by
 rw [List.getD_eq_getElem?_getD,zHQ,List.getElem?_eq_getElem hi,Flow.zm hi];simp [hi]
theorem zM6 {α:Type} {f:Nat→α→α} {l:List α} {x:α} (h:x∈zEt f l l.length):∃ i y,l[i]?=some y∧x=f i y:=by
 obtain ⟨i,hi⟩:=List.getElem?_of_mem h
 rw [zHQ] at hi
 cases e:l[i]? with
 | none=>rw [e] at hi;cases hi
 | some y =>
  have hl:=(List.getElem?_eq_some_iff.1 e).1
  rw [e] at hi
  simp [hl] at hi
  exact ⟨i,y,e,hi.symm⟩
def zE9 (ch:List Int) (i:Nat) (u:Hour):Hour:=⟨u.melt,u.runs - chW ch (3 * i+2) % (u.runs+1),min 12 (u.crew+chW ch (3 * i) % 2),u.cold || decide (chW ch (3 * i+1) % 3=0)⟩
def zGB (ch:List Int) (i:Nat) (z:Bed):Bed:=⟨⟨min 2000 (z.thick.lo+chW ch (31+2 * i) % 40),min 2000 (z.thick.hi+chW ch (31+2 * i) % 40)⟩,z.sun - chW ch (30+2 * i) % (z.sun+1)⟩
def zBq (c:Cov) (ch:List Int):Cov:={ c with beds:=zEt (zGB ch) c.beds c.beds.length,hours:=zEt (zE9 ch) c.hours c.hours.length }
theorem zC6 {x n:Int} (hn:0<n):0≤x % n∧x % n<n:=⟨Int.emod_nonneg _ zRU,Int.emod_lt_of_pos _ hn⟩
theorem zI0 {c:Cov} {ch:List Int} (hf:zBm c):zPU c (zBq c ch)∧zBm (zBq c ch):=by
 refine ⟨⟨rfl,rfl,rfl,rfl,zCb,zCb,fun i hi=>?_,fun h hh=>?_⟩,⟨fun z hz=>?_,fun u hu=>?_,hf.wear,hf.layer,hf.rate,hf.limit,hf.base,zCb.trans hf.beds,by
  have:=hf.hours
  rw [zx] at this ⊢
  show 1≤((zEt (zE9 ch) c.hours c.hours.length).length:Int)∧((zEt (zE9 ch) c.hours c.hours.length).length:Int)≤8
  rw [zCb];exact this⟩⟩
 ·have h1:=hf.bed (c.beds.getD i default) (by rw [Flow.zm hi];exact List.getElem_mem _)
  simp only [zCm,Bool.and_eq_true,zAE,zx] at h1
  have h2:=zC6 (x:=chW ch (30+2 * i)) (n:=(c.beds.getD i default).sun+1) zRU
  have h3:=zC6 (x:=chW ch (31+2 * i)) (n:=40) zRU
  simp only [zBq,zK6 hi,zGB]
  omega
 ·have h1:=hf.hour (c.hours.getD h default) (by rw [Flow.zm hh];exact List.getElem_mem _)
  simp only [zBR,Bool.and_eq_true,zAE,zx] at h1
  have h2:=zC6 (x:=chW ch (3 * h+2)) (n:=(c.hours.getD h default).runs+1) zRU
  have h3:=zC6 (x:=chW ch (3 * h)) (n:=2) zRU
  simp only [zBq,zK6 hh,zE9]
  refine ⟨trivial,by omega,by omega,fun q=>by rw [q];rfl⟩
 ·obtain ⟨i,y,hy,rfl⟩:=zM6 hz
  have h1:=hf.bed y (List.mem_of_getElem? hy)
  simp only [zCm,Bool.and_eq_true,zAE,zx] at h1 ⊢
  have h2:=zC6 (x:=chW ch (30+2 * i)) (n:=y.sun+1) zRU
  have h3:=zC6 (x:=chW ch (31+2 * i)) (n:=40) zRU
  simp only [zGB]
  omega
 ·obtain ⟨i,y,hy,rfl⟩:=zM6 hu
  have h1:=hf.hour y (List.mem_of_getElem? hy)
  simp only [zBR,Bool.and_eq_true,zAE,zx] at h1 ⊢
  have h2:=zC6 (x:=chW ch (3 * i+2)) (n:=y.runs+1) zRU
  have h3:=zC6 (x:=chW ch (3 * i)) (n:=2) zRU
  simp only [zE9]
  omega
theorem zOr {c:Cov} {ch:List Int} (hs:Small c):Small (zBq c ch):=⟨hs.fit,hs.t,by simp only [zBq,zCb];exact hs.b,by simp only [zBq,zCb];exact hs.h⟩
theorem more_err {c:Cov} {ch:List Int} (h:zAp c=0):zAp (zBq c ch)=0:=errI_of (show valid (zBq c ch).t=true from errI_val (c:=c) h) (zI0 (zAy h)).2
end Go.Proofs.YtdigopgncfhiaaaGreatDoor
