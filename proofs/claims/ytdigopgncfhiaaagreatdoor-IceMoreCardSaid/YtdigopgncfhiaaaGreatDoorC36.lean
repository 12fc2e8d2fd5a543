/- C36 -/
import Derived.Test.YtdigopgncfhiaaaGreatDoorC32
import Derived.Test.YtdigopgncfhiaaaGreatDoorC30
import Derived.Test.YtdigopgncfhiaaaGreatDoorC29
set_option linter.unusedSimpArgs false
set_option linter.unusedVariables false
namespace Go.Proofs.YtdigopgncfhiaaaGreatDoor
open Go.RowKit
open Flow (lackF zBq sumL)
set_option linter.unusedSectionVars false
structure zQH (c d:Cov):Prop where
 wear:d.wear=c.wear
 layer:d.layer=c.layer
 limit:d.limit=c.limit
 base:d.base=c.base
 bl:d.beds.length=c.beds.length
 hl:d.hours.length=c.hours.length
 bed:∀ i,i<c.beds.length→(d.beds.getD i default).sun≤(c.beds.getD i default).sun∧(c.beds.getD i default).thick.lo≤(d.beds.getD i default).thick.lo∧(c.beds.getD i default).thick.hi≤(d.beds.getD i default).thick.hi
 hour:∀ h,h<c.hours.length→(d.hours.getD h default).melt=(c.hours.getD h default).melt∧(d.hours.getD h default).runs≤(c.hours.getD h default).runs∧(c.hours.getD h default).crew≤(d.hours.getD h default).crew∧((c.hours.getD h default).cold=true→(d.hours.getD h default).cold=true)
section
variable {c d:Cov} (e:zQH c d) (hf:zBl c) (hg:zBl d)
include e hf hg
theorem zGY {i h:Nat} (hi:i<c.beds.length) (hh:h<c.hours.length):(zBF d (d.beds.getD i default) (d.hours.getD h default)).lo≤(zBF c (c.beds.getD i default) (c.hours.getD h default)).lo∧(zBF d (d.beds.getD i default) (d.hours.getD h default)).hi≤(zBF c (c.beds.getD i default) (c.hours.getD h default)).hi:=by
 have h1:=hf.hour (c.hours.getD h default) (by rw [Flow.zt hh];exact List.getElem_mem _)
 have h2:=hf.wear
 obtain ⟨k1,k2,k3⟩:=e.bed i hi
 obtain ⟨m1,m2,m3,m4⟩:=e.hour h hh
 simp only [zBX,Bool.and_eq_true,zAF,zAA] at h1 h2
 simp only [zBF,e.wear,m1]
 have a1:=Int.mul_le_mul_of_nonneg_right k1 (show 0≤(c.hours.getD h default).melt.lo by omega)
 have a2:=Int.mul_le_mul_of_nonneg_right k1 (show 0≤(c.hours.getD h default).melt.hi by omega)
 have a3:=Int.mul_le_mul_of_nonneg_right m2 (show 0≤c.wear.lo by omega)
 have a4:=Int.mul_le_mul_of_nonneg_right m2 (show 0≤c.wear.hi by omega)
 exact ⟨Int.add_le_add a1 a3,Int.add_le_add a2 a4⟩
theorem zJZ {h:Nat} (hh:h<c.hours.length):zCl d (d.hours.getD h default)≤zCl c (c.hours.getD h default):=by
 obtain ⟨m1,m2,m3,m4⟩:=e.hour h hh
 have h1:=hf.base
 rw [zAA] at h1
 unfold zCl
 rw [e.limit,e.base]
 split<;>split<;>omega
theorem zHr {pl:List Sli} {i:Nat} (hi:i<c.beds.length):∀ k,k≤c.hours.length→(thickN c pl (c.beds.getD i default) i k).lo≤(thickN d pl (d.beds.getD i default) i k).lo∧(thickN c pl (c.beds.getD i default) i k).hi≤(thickN d pl (d.beds.getD i default) i k).hi
 | 0,_=>(e.bed i hi).2
 | k+1,hk=>by
  have ih:=zHr (pl:=pl) hi k (by omega)
  have hl:=zGY e hf hg hi (show k<c.hours.length by omega)
  simp only [thickN,layered,thinned,e.layer]
  split<;>constructor<;>simp only<;>omega
theorem zNi {pl:List Sli} {en:Sp→Sp→Int} (hen:en=zAZ∨en=zDH) {p:Int × Int} (hp:p∈zAg d pl en):p∈zAg c pl en:=by
 obtain ⟨i,h,hi,hh,ht,rfl⟩:=zEU.1 hp
 rw [e.bl] at hi
 rw [e.hl] at hh
 refine zEU.2 ⟨i,h,hi,hh,?_,rfl⟩
 have h1:=zHr e hf hg (pl:=pl) hi h (by omega)
 have h2:=zGY e hf hg hi hh
 have h3:=zJZ e hf hg hh
 unfold zA6 at ht ⊢
 rw [decide_eq_true_eq] at ht ⊢
 rcases hen with rfl|rfl
 ·unfold zAZ at ht ⊢;omega
 ·unfold zDH at ht ⊢;omega
theorem zLg {pl:List Sli} {en:Sp→Sp→Int} (hen:en=zAZ∨en=zDH) (h:(zAg c pl en).length=0):(zAg d pl en).length=0:=by
 rw [List.length_eq_zero_iff] at h ⊢
 rw [List.eq_nil_iff_forall_not_mem] at h ⊢
 exact fun p hp=>h p (zNi e hf hg hen hp)
theorem zNu {pl:List Sli} (h1:zCG c pl=0) (h2:zCG d pl=0):zBR c pl≤zBR d pl:=by
 unfold zBR
 rw [if_pos h1,if_pos h2]
 by_cases h3:(zAg c pl zAZ).length=0
 ·rw [if_pos h3,if_pos (zLg e hf hg (.inl rfl) h3)];omega
 ·rw [if_neg h3]
  by_cases h4:(zAg c pl zDH).length=0
  ·rw [if_pos h4,if_pos (zLg e hf hg (.inr rfl) h4)]
   split<;>omega
  ·rw [if_neg h4]
   split
   ·omega
   ·split<;>omega
theorem zGU {i:Nat} (hi:i<c.beds.length):∀ k,k≤c.hours.length→(needG c (c.beds.getD i default) k).1≤(needG d (d.beds.getD i default) k).1∧(needG d (d.beds.getD i default) k).2≤(needG c (c.beds.getD i default) k).2
 | 0,_=>⟨(e.bed i hi).2.1,Int.le_refl _⟩
 | k+1,hk=>by
  obtain ⟨h1,h2⟩:=zGU hi k (by omega)
  have hl:=(zGY e hf hg hi (show k<c.hours.length by omega)).2
  have ha:=zJZ e hf hg (show k<c.hours.length by omega)
  have hL:=hf.layer
  simp only [zAF] at hL
  simp only [needG]
  refine ⟨by omega,?_⟩
  rw [e.layer]
  have hd:=Int.ediv_le_ediv (c:=c.layer.lo) (by omega) (show zCl d (d.hours.getD k default) - ((needG d (d.beds.getD i default) k).1 - (zBF d (d.beds.getD i default) (d.hours.getD k default)).hi)+c.layer.lo - 1≤zCl c (c.hours.getD k default) - ((needG c (c.beds.getD i default) k).1 - (zBF c (c.beds.getD i default) (c.hours.getD k default)).hi)+c.layer.lo - 1 by omega)
  split
  ·rw [if_pos (by omega)];omega
  ·split<;>omega
theorem zM6 (h1:zAr c=0) (h2:zAr d=0):(zDm c).2=0∧(zDm d).2=0∧(zDm c).1.length=c.beds.length∧(zDm d).1.length=c.beds.length∧∀ i,i<c.beds.length→(zDm d).1.getD i 0≤(zDm c).1.getD i 0:=by
 have hh1:=hf.hours
 rw [zAA] at hh1
 have key:∀ x:Cov,zAr x=0→zBl x→x.hours.length=c.hours.length→zDm x=(x.beds.map fun z=>(needG x z c.hours.length).2,0):=fun x hx hfx hl=>by
  unfold zDm
  rw [if_pos hx]
  unfold zA2
  rw [List.map_map,hl]
  congr 1
  obtain ⟨m,hm⟩:∃ m,c.hours.length=m+1:=⟨c.hours.length - 1,by omega⟩
  rw [hm]
  exact List.map_congr_left fun z _=>by simp only [Function.comp_apply,zJO]
 rw [key c h1 hf rfl,key d h2 hg e.hl]
 refine ⟨rfl,rfl,by simp,by simp [e.bl],fun i hi=>?_⟩
 dsimp only
 rw [Flow.zt (by simp [e.bl];exact hi),Flow.zt (by simp;exact hi),List.getElem_map,List.getElem_map]
 have:=(zGU e hf hg hi c.hours.length (Nat.le_refl _)).2
 rw [Flow.zt hi,Flow.zt (by rw [e.bl];exact hi)] at this
 exact this
theorem zLR {pl:List Sli} (h:zAz c pl=true):zAz d pl=true:=by
 obtain ⟨h1,h2⟩:=zAc.1 h
 refine zAc.2 ⟨by rw [h1,e.hl],fun i u s hu hs=>?_⟩
 have hi:=(List.getElem?_eq_some_iff.1 hu).1
 rw [e.hl] at hi
 have hr:=h2 i _ s (List.getElem?_eq_getElem hi) hs
 obtain ⟨m1,m2,m3,m4⟩:=e.hour i hi
 rw [zAW hu,Flow.zt hi] at m3 m4
 unfold zDR at hr ⊢
 rw [e.bl]
 simp only [Bool.and_eq_true,Bool.or_eq_true,decide_eq_true_eq] at hr ⊢
 refine ⟨⟨⟨by omega,?_⟩,hr.1.2⟩,hr.2⟩
 rcases hr.1.1.2 with h9|h9
 ·exact .inl h9
 ·exact .inr (m4 h9)
end
theorem zMe {my my' m:Nat→Bool}:∀ k,(∀ j,j<k→my j=true→my' j=true)→zBq my m k≤zBq my' m k
 | 0,_=>Int.le_refl _
 | k+1,h=>by
  have ih:=zMe (my:=my) (my':=my') (m:=m) k fun j hj=>h j (by omega)
  have hk:=h k (by omega)
  rw [zB4,zB4]
  revert hk
  cases my k<;>cases my' k<;>cases m k<;>intro hk<;>simp at hk ⊢<;>omega
theorem can_more {nb nh:Nat} {nd nd':Nat→Nat→Int} {my my':Nat→Nat→Bool} {hd hd':Nat→Int} (h1:∀ i k,i<nb→k<nh→nd' i k≤nd i k) (h2:∀ i k,i<nb→k<nh→my i k=true→my' i k=true) (h3:∀ k,k<nh→hd k≤hd' k) (h:zHl nb nh nd my hd):zHl nb nh nd' my' hd':=by
 intro m
 refine Int.le_trans ?_ (h m)
 unfold zDd
 have a:sumL (List.range nb) (fun i=>(lackF (nd' i) (my' i) m nh).1)≤sumL (List.range nb) (fun i=>(lackF (nd i) (my i) m nh).1):=Flow.zA0 fun i hi=>by
  have hi:=List.mem_range.1 hi
  refine zDe (Flow.zBS nh) fun k hk=>?_
  have b1:=Flow.zBz (nd:=nd i) (my:=my i) (sm:=m) nh k hk
  have b2:=h1 i k hi hk
  have b3:=zMe (my:=my i) (my':=my' i) (m:=m) k fun j hj=>h2 i j hi (by omega)
  omega
 have b:sumL (List.range nh) (fun h=>if m h then hd h else 0)≤sumL (List.range nh) (fun h=>if m h then hd' h else 0):=Flow.zA0 fun k hk=>by
  have:=h3 k (List.mem_range.1 hk)
  split<;>omega
 omega
theorem zQA {c d:Cov} (e:zQH c d) (hf:zBl c) (hg:zBl d) (hs:Small c) (hs2:Small d) (h:zDG (zA2 c) (zC6 c) (zAp c)=true):zDG (zA2 d) (zC6 d) (zAp d)=true:=by
 have ok:=zCf hf hs (zD6 hf)
 have ok2:=zCf hg hs2 (zD6 hg)
 refine (zFD ok2).2 ?_
 rw [e.bl,e.hl]
 refine can_more (fun i k hi hk=>?_) (fun i k hi hk=>?_) (fun k hk=>?_) ((zFD ok).1 h)
 ·show ((zA2 d).getD i []).getD k 0≤((zA2 c).getD i []).getD k 0
  rw [zFV hi k hk,zFV (by rw [e.bl];exact hi) k (by rw [e.hl];exact hk)]
  exact (zGU e hf hg hi (k+1) (by omega)).2
 ·show ((zC6 c).getD i []).getD k false=true→((zC6 d).getD i []).getD k false=true
  rw [zJk hi,zJk (by rw [e.bl];exact hi)]
  obtain ⟨m1,m2,m3,m4⟩:=e.hour k hk
  rw [Flow.zt hk,Flow.zt (by rw [e.hl];exact hk)] at m4
  rw [Flow.zt (by simp;exact hk),Flow.zt (by simp [e.hl];exact hk),List.getElem_map,List.getElem_map]
  exact m4
 ·show (zAp c).getD k 0≤(zAp d).getD k 0
  obtain ⟨m1,m2,m3,m4⟩:=e.hour k hk
  have h9:=hg.hour (d.hours.getD k default) (by rw [Flow.zt (by rw [e.hl];exact hk)];exact List.getElem_mem _)
  simp only [zBX,Bool.and_eq_true,zAA] at h9
  unfold zAp
  rw [Flow.zt (by simp;exact hk),Flow.zt (by simp [e.hl];exact hk),List.getElem_map,List.getElem_map,← Flow.zt (d:=default) hk,← Flow.zt (d:=default) (show k<d.hours.length by rw [e.hl];exact hk)]
  unfold zFf
  by_cases hc:(c.hours.getD k default).cold=true
  ·rw [if_pos hc,if_pos (m4 hc)];exact m3
  ·rw [if_neg hc];split<;>omega
def zEH {α:Type} (f:Nat→α→α) (l:List α) (k:Nat):List α:=l.mapIdx fun i x=>if i<k then f i x else x
theorem zIX {α:Type} {f:Nat→α→α} {l:List α}:zEH f l 0=l:=by
 unfold zEH;apply List.ext_getElem?;intro i;simp [List.getElem?_mapIdx]
theorem zBv {α:Type} {f:Nat→α→α} {l:List α} {k:Nat}:(zEH f l k).length=l.length:=by simp [zEH]
theorem zHo {α:Type} {f:Nat→α→α} {l:List α} {k i:Nat}:(zEH f l k)[i]?=l[i]?.map fun x=>if i<k then f i x else x:=by simp [zEH,List.getElem?_mapIdx]
theorem zJx {α:Type} {f:Nat→α→α} {l:List α} {k:Nat} {u:α} (hu:l[k]?=some u):(zEH f l k)[k]?=some u:=by rw [zHo,hu];simp
theorem zJw {α:Type} {f:Nat→α→α} {l:List α} {k:Nat} {u:α} (hu:l[k]?=some u):(zEH f l k).set k (f k u)=zEH f l (k+1):=by
 have hk:=(List.getElem?_eq_some_iff.1 hu).1
 apply List.ext_getElem?
 intro i
 rw [List.getElem?_set,zHo,zHo,zBv]
 by_cases e:k=i
 ·subst e
  rw [if_pos rfl,if_pos hk,hu];simp
 ·rw [if_neg e]
  by_cases h1:i<k
  ·simp only [if_pos h1,if_pos (show i<k+1 by omega)]
  ·simp only [if_neg h1,if_neg (show ¬ i<k+1 by omega)]
theorem zIY {α:Type} {f:Nat→α→α} {l:List α} {i:Nat} {d:α} (hi:i<l.length):(zEH f l l.length).getD i d=f i (l.getD i d):=by
 rw [List.getD_eq_getElem?_getD,zHo,List.getElem?_eq_getElem hi,Flow.zt hi];simp [hi]
theorem zNe {α:Type} {f:Nat→α→α} {l:List α} {x:α} (h:x∈zEH f l l.length):∃ i y,l[i]?=some y∧x=f i y:=by
 obtain ⟨i,hi⟩:=List.getElem?_of_mem h
 rw [zHo] at hi
 cases e:l[i]? with
 | none=>rw [e] at hi;cases hi
 | some y =>
  have hl:=(List.getElem?_eq_some_iff.1 e).1
  rw [e] at hi
  simp [hl] at hi
  exact ⟨i,y,e,hi.symm⟩
def zFW (ch:List Int) (i:Nat) (u:Hour):Hour:=⟨u.melt,u.runs - chW ch (3 * i+2) % (u.runs+1),min 12 (u.crew+chW ch (3 * i) % 2),u.cold || decide (chW ch (3 * i+1) % 3=0)⟩
def zGW (ch:List Int) (i:Nat) (z:Bed):Bed:=⟨⟨min 2000 (z.thick.lo+chW ch (31+2 * i) % 40),min 2000 (z.thick.hi+chW ch (31+2 * i) % 40)⟩,z.sun - chW ch (30+2 * i) % (z.sun+1)⟩
def zBy (c:Cov) (ch:List Int):Cov:={ c with beds:=zEH (zGW ch) c.beds c.beds.length,hours:=zEH (zFW ch) c.hours c.hours.length }
theorem zJP {c:Cov} {ch:List Int} (hf:zBl c):zQH c (zBy c ch)∧zBl (zBy c ch):=by
 refine ⟨⟨rfl,rfl,rfl,rfl,zBv,zBv,fun i hi=>?_,fun h hh=>?_⟩,⟨fun z hz=>?_,fun u hu=>?_,hf.wear,hf.layer,hf.rate,hf.limit,hf.base,zBv.trans hf.beds,by
  have:=hf.hours
  rw [zAA] at this ⊢
  show 1≤((zEH (zFW ch) c.hours c.hours.length).length:Int)∧((zEH (zFW ch) c.hours c.hours.length).length:Int)≤8
  rw [zBv];exact this⟩⟩
 ·have h1:=hf.bed (c.beds.getD i default) (by rw [Flow.zt hi];exact List.getElem_mem _)
  simp only [zC0,Bool.and_eq_true,zAF,zAA] at h1
  have h2:=zDL (x:=chW ch (30+2 * i)) (n:=(c.beds.getD i default).sun+1) (by omega)
  have h3:=zDL (x:=chW ch (31+2 * i)) (n:=40) (by omega)
  simp only [zBy,zIY hi,zGW]
  omega
 ·have h1:=hf.hour (c.hours.getD h default) (by rw [Flow.zt hh];exact List.getElem_mem _)
  simp only [zBX,Bool.and_eq_true,zAF,zAA] at h1
  have h2:=zDL (x:=chW ch (3 * h+2)) (n:=(c.hours.getD h default).runs+1) (by omega)
  have h3:=zDL (x:=chW ch (3 * h)) (n:=2) (by omega)
  simp only [zBy,zIY hh,zFW]
  refine ⟨trivial,by omega,by omega,fun q=>by rw [q];rfl⟩
 ·obtain ⟨i,y,hy,rfl⟩:=zNe hz
  have h1:=hf.bed y (List.mem_of_getElem? hy)
  simp only [zC0,Bool.and_eq_true,zAF,zAA] at h1 ⊢
  have h2:=zDL (x:=chW ch (30+2 * i)) (n:=y.sun+1) (by omega)
  have h3:=zDL (x:=chW ch (31+2 * i)) (n:=40) (by omega)
  simp only [zGW]
  omega
 ·obtain ⟨i,y,hy,rfl⟩:=zNe hu
  have h1:=hf.hour y (List.mem_of_getElem? hy)
  simp only [zBX,Bool.and_eq_true,zAF,zAA] at h1 ⊢
  have h2:=zDL (x:=chW ch (3 * i+2)) (n:=y.runs+1) (by omega)
  have h3:=zDL (x:=chW ch (3 * i)) (n:=2) (by omega)
  simp only [zFW]
  omega
theorem zPb {c:Cov} {ch:List Int} (hs:Small c):Small (zBy c ch):=⟨hs.fit,hs.t,by simp only [zBy,zBv];exact hs.b,by simp only [zBy,zBv];exact hs.h⟩
theorem more_err {c:Cov} {ch:List Int} (h:zAr c=0):zAr (zBy c ch)=0:=errI_of (show valid (zBy c ch).t=true from errI_val (c:=c) h) (zJP (zA1 h)).2
end Go.Proofs.YtdigopgncfhiaaaGreatDoor
