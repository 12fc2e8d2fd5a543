/- C34 -/
import Derived.Test.YtdigopgncfhiaaaGreatDoorC30
import Derived.Test.YtdigopgncfhiaaaGreatDoorC29
import Derived.Test.YtdigopgncfhiaaaGreatDoorC18
import Derived.Test.YtdigopgncfhiaaaGreatDoorC20
import Derived.Test.YtdigopgncfhiaaaGreatDoorC13
set_option linter.unusedSimpArgs false
set_option linter.unusedVariables false
namespace Go.Proofs.YtdigopgncfhiaaaGreatDoor
open Go.RowKit
structure Tru where
 th:List Int
 me:List Int
 we:Int
 la:Int
def zHN (t:Tru) (z:Bed) (u:Hour) (h:Nat):Int:=z.sun * t.me.getD h 0+u.runs * t.we
def layX (t:Tru) (on:Bool) (x:Int):Int:=if on then x+t.la else x
def goT (c:Cov) (pl:List Sli) (t:Tru) (z:Bed) (i:Nat):Nat→Int
 | 0=>t.th.getD i 0
 | h+1=>layX t ((pl.getD h default).xs.contains (i:Int)) (max 0 (goT c pl t z i h - zHN t z (c.hours.getD h default) h))
def thinX (c:Cov) (u:Hour) (x:Int):Bool:=decide (x<c.base) || (decide (0<u.runs) && decide (x<c.limit))
def goB (c:Cov) (pl:List Sli) (t:Tru) (z:Bed) (i h:Nat):Bool:=thinX c (c.hours.getD h default) (goT c pl t z i h - zHN t z (c.hours.getD h default) h)
def goR (c:Cov) (pl:List Sli) (t:Tru) (h i:Nat):List (Int × Int):=((List.range i).filter fun i=>goB c pl t (c.beds.getD i default) i h).map fun (i:Nat)=>((h:Int),(i:Int))
def goS (c:Cov) (pl:List Sli) (t:Tru) (k:Nat):List (Int × Int):=(List.range k).flatMap fun h=>goR c pl t h c.beds.length
def goA (c:Cov) (pl:List Sli) (t:Tru) (h:Nat):List Int:=(List.range c.beds.length).map fun i=>goT c pl t (c.beds.getD i default) i h
theorem goR_succ {c:Cov} {pl:List Sli} {t:Tru} {h i:Nat}:goR c pl t h (i+1)=goR c pl t h i++(if goB c pl t (c.beds.getD i default) i h then [((h:Int),(i:Int))] else []):=by
 unfold goR
 rw [List.range_succ,List.filter_append,List.map_append]
 congr 1
 cases e:goB c pl t (c.beds.getD i default) i h with
 | false=>simp only [List.filter_cons,List.filter_nil,e];rfl
 | true=>simp only [List.filter_cons,List.filter_nil,e];rfl
theorem zOk {c:Cov} {pl:List Sli} {t:Tru} {k:Nat}:goS c pl t (k+1)=goS c pl t k++goR c pl t k c.beds.length:=by
 unfold goS;rw [List.range_succ,List.flatMap_append];simp
theorem zQZ {c:Cov} {pl:List Sli} {t:Tru} {k:Nat} {p:Int × Int}:p∈goS c pl t k↔∃ i h,i<c.beds.length∧h<k∧goB c pl t (c.beds.getD i default) i h=true∧p=((h:Int),(i:Int)):=by
 simp only [goS,goR,List.mem_flatMap,List.mem_range,List.mem_map,List.mem_filter]
 constructor
 ·rintro ⟨h,hh,i,⟨hi,hb⟩,rfl⟩;exact ⟨i,h,hi,hh,hb,rfl⟩
 ·rintro ⟨i,h,hi,hh,hb,rfl⟩;exact ⟨h,hh,i,⟨hi,hb⟩,rfl⟩
theorem zQk {c:Cov} {pl:List Sli} {t:Tru} {h i:Nat}:(goR c pl t h i).length≤i:=by
 unfold goR
 rw [List.length_map]
 exact Nat.le_trans (List.length_filter_le _ _) (by simp)
theorem zNH {c:Cov} {pl:List Sli} {t:Tru}:∀ k,(goS c pl t k).length≤k * c.beds.length
 | 0=>by simp [goS]
 | k+1=>by
  have:=zNH (c:=c) (pl:=pl) (t:=t) k
  have:=zQk (c:=c) (pl:=pl) (t:=t) (h:=k) (i:=c.beds.length)
  rw [zOk,List.length_append,Nat.succ_mul];omega
theorem zCk {c:Cov} {pl:List Sli} {t:Tru} {h:Nat}:(goA c pl t h).length=c.beds.length:=by simp [goA]
theorem zNI {c:Cov} {pl:List Sli} {t:Tru} {h i:Nat} (hi:i<c.beds.length):(goA c pl t h)[i]?=some (goT c pl t (c.beds.getD i default) i h):=by simp [goA,hi]
def goM (c:Cov) (pl:List Sli) (t:Tru) (h k:Nat):List Int:=(List.range c.beds.length).map fun i=>goT c pl t (c.beds.getD i default) i (if i<k then h+1 else h)
theorem goM_zero {c:Cov} {pl:List Sli} {t:Tru} {h:Nat}:goM c pl t h 0=goA c pl t h:=by simp [goM,goA]
theorem goM_end {c:Cov} {pl:List Sli} {t:Tru} {h:Nat}:goM c pl t h c.beds.length=goA c pl t (h+1):=by
 unfold goM goA
 refine List.map_congr_left fun i hi=>?_
 rw [if_pos (List.mem_range.1 hi)]
theorem goM_len {c:Cov} {pl:List Sli} {t:Tru} {h k:Nat}:(goM c pl t h k).length=c.beds.length:=by simp [goM]
theorem goM_at {c:Cov} {pl:List Sli} {t:Tru} {h k:Nat} (hk:k<c.beds.length):(goM c pl t h k)[k]?=some (goT c pl t (c.beds.getD k default) k h):=by simp [goM,hk]
theorem goM_set {c:Cov} {pl:List Sli} {t:Tru} {h k:Nat} (hk:k<c.beds.length):(goM c pl t h k).set k (goT c pl t (c.beds.getD k default) k (h+1))=goM c pl t h (k+1):=by
 apply List.ext_getElem?
 intro i
 rw [List.getElem?_set]
 unfold goM
 simp only [List.length_map,List.length_range,List.getElem?_map]
 by_cases e:k=i
 ·subst e
  rw [if_pos rfl,if_pos hk,List.getElem?_range hk];simp
 ·rw [if_neg e]
  by_cases h1:i<c.beds.length
  ·rw [List.getElem?_range h1]
   simp only [Option.map_some]
   by_cases h2:i<k
   ·rw [if_pos h2,if_pos (show i<k+1 by omega)]
   ·rw [if_neg h2,if_neg (show ¬ i<k+1 by omega)]
  ·rw [List.getElem?_eq_none (by simp;omega)];rfl
structure zFv (c:Cov) (t:Tru):Prop where
 tl:t.th.length=c.beds.length
 ml:t.me.length=c.hours.length
 th:∀ i,i<c.beds.length→(c.beds.getD i default).thick.lo≤t.th.getD i 0∧t.th.getD i 0≤(c.beds.getD i default).thick.hi
 me:∀ h,h<c.hours.length→(c.hours.getD h default).melt.lo≤t.me.getD h 0∧t.me.getD h 0≤(c.hours.getD h default).melt.hi
 we:c.wear.lo≤t.we∧t.we≤c.wear.hi
 la:c.layer.lo≤t.la∧t.la≤c.layer.hi
section
variable {c : Cov} {t:Tru} {pl:List Sli}
theorem zGs (hf:zBl c) {u:Hour} {x:Int}:thinX c u x=true↔x<zCl c u:=by
 have h1:=hf.base
 rw [zAA] at h1
 unfold thinX zCl
 simp only [Bool.or_eq_true,Bool.and_eq_true,decide_eq_true_eq]
 split<;>omega
theorem zKY (hf:zBl c) (ht:zFv c t) {i h:Nat} (hi:i<c.beds.length) (hh:h<c.hours.length):(zBF c (c.beds.getD i default) (c.hours.getD h default)).lo≤zHN t (c.beds.getD i default) (c.hours.getD h default) h∧zHN t (c.beds.getD i default) (c.hours.getD h default) h≤(zBF c (c.beds.getD i default) (c.hours.getD h default)).hi:=by
 have h1:=hf.hour (c.hours.getD h default) (by rw [Flow.zt hh];exact List.getElem_mem _)
 have h2:=hf.bed (c.beds.getD i default) (by rw [Flow.zt hi];exact List.getElem_mem _)
 simp only [zC0,zBX,Bool.and_eq_true,zAF,zAA] at h1 h2
 have h3:=ht.me h hh
 have h4:=ht.we
 have a1:=Int.mul_le_mul_of_nonneg_left h3.1 (show 0≤(c.beds.getD i default).sun by omega)
 have a2:=Int.mul_le_mul_of_nonneg_left h3.2 (show 0≤(c.beds.getD i default).sun by omega)
 have a3:=Int.mul_le_mul_of_nonneg_left h4.1 (show 0≤(c.hours.getD h default).runs by omega)
 have a4:=Int.mul_le_mul_of_nonneg_left h4.2 (show 0≤(c.hours.getD h default).runs by omega)
 simp only [zBF,zHN]
 exact ⟨Int.add_le_add a1 a3,Int.add_le_add a2 a4⟩
theorem zKu (hf:zBl c) (ht:zFv c t) {i:Nat} (hi:i<c.beds.length):∀ h,h≤c.hours.length→(thickN c pl (c.beds.getD i default) i h).lo≤goT c pl t (c.beds.getD i default) i h∧goT c pl t (c.beds.getD i default) i h≤(thickN c pl (c.beds.getD i default) i h).hi
 | 0,_=>ht.th i hi
 | h+1,hh=>by
  have ih:=zKu hf ht hi h (by omega)
  have hl:=zKY hf ht hi (show h<c.hours.length by omega)
  have h4:=ht.la
  simp only [thickN,goT,layered,layX,thinned]
  split<;>constructor<;>simp only<;>omega
theorem zKt (hf:zBl c) (ht:zFv c t) {p:Int × Int} (hp:p∈goS c pl t c.hours.length):p∈zAg c pl zAZ:=by
 obtain ⟨i,h,hi,hh,hb,rfl⟩:=zQZ.1 hp
 refine zEU.2 ⟨i,h,hi,hh,?_,rfl⟩
 have h1:=zKu hf ht (pl:=pl) hi h (by omega)
 have h2:=zKY hf ht hi hh
 have h3:=(zGs hf).1 hb
 unfold zA6 zAZ
 rw [decide_eq_true_eq];omega
theorem zQj (hf:zBl c) (ht:zFv c t) {p:Int × Int} (hp:p∈zAg c pl zDH):p∈goS c pl t c.hours.length:=by
 obtain ⟨i,h,hi,hh,hb,rfl⟩:=zEU.1 hp
 refine zQZ.2 ⟨i,h,hi,hh,(zGs hf).2 ?_,rfl⟩
 have h1:=zKu hf ht (pl:=pl) hi h (by omega)
 have h2:=zKY hf ht hi hh
 unfold zA6 zDH at hb
 rw [decide_eq_true_eq] at hb;omega
theorem goT_room (hf:zBl c) (ht:zFv c t) {i:Nat} (hi:i<c.beds.length) {h:Nat} (hh:h≤c.hours.length) (h12:c.hours.length≤12):0≤goT c pl t (c.beds.getD i default) i h∧goT c pl t (c.beds.getD i default) i h≤3200:=by
 have h1:=zKu hf ht (pl:=pl) hi h hh
 have h2:=zGN (pl:=pl) (i:=(i:Int)) hf (z:=c.beds.getD i default) (by rw [Flow.zt hi];exact List.getElem_mem _) h hh
 omega
end
def zI4 (c:Cov):Tru:=⟨c.beds.map (·.thick.lo),c.hours.map (·.melt.hi),c.wear.hi,c.layer.lo⟩
def zI5 (c:Cov):Tru:=⟨c.beds.map (·.thick.hi),c.hours.map (·.melt.lo),c.wear.lo,c.layer.hi⟩
theorem zDS {α:Type} {l:List α} {f:α→Int} {i:Nat} {d:α} (h:i<l.length):(l.map f).getD i 0=f (l.getD i d):=by
 rw [Flow.zt (by simp;exact h),List.getElem_map,Flow.zt h]
section
variable {c : Cov} {pl:List Sli}
theorem zNL (hf:zBl c):zFv c (zI4 c):=by
 have h1:=hf.wear;have h2:=hf.layer
 simp only [zAF] at h1 h2
 refine ⟨by simp [zI4],by simp [zI4],fun i hi=>?_,fun h hh=>?_,⟨by simp only [zI4];omega,Int.le_refl _⟩,⟨Int.le_refl _,by simp only [zI4];omega⟩⟩
 ·have h3:=hf.bed (c.beds.getD i default) (by rw [Flow.zt hi];exact List.getElem_mem _)
  simp only [zC0,Bool.and_eq_true,zAF] at h3
  simp only [zI4,zDS (d:=default) hi];omega
 ·have h3:=hf.hour (c.hours.getD h default) (by rw [Flow.zt hh];exact List.getElem_mem _)
  simp only [zBX,Bool.and_eq_true,zAF] at h3
  simp only [zI4,zDS (d:=default) hh];omega
theorem endB_ok (hf:zBl c):zFv c (zI5 c):=by
 have h1:=hf.wear;have h2:=hf.layer
 simp only [zAF] at h1 h2
 refine ⟨by simp [zI5],by simp [zI5],fun i hi=>?_,fun h hh=>?_,⟨Int.le_refl _,by simp only [zI5];omega⟩,⟨by simp only [zI5];omega,Int.le_refl _⟩⟩
 ·have h3:=hf.bed (c.beds.getD i default) (by rw [Flow.zt hi];exact List.getElem_mem _)
  simp only [zC0,Bool.and_eq_true,zAF] at h3
  simp only [zI5,zDS (d:=default) hi];omega
 ·have h3:=hf.hour (c.hours.getD h default) (by rw [Flow.zt hh];exact List.getElem_mem _)
  simp only [zBX,Bool.and_eq_true,zAF] at h3
  simp only [zI5,zDS (d:=default) hh];omega
theorem zMU {i h:Nat} (hh:h<c.hours.length) {z:Bed}:zHN (zI4 c) z (c.hours.getD h default) h=(zBF c z (c.hours.getD h default)).hi:=by
 simp only [zHN,zBF,zI4,zDS (d:=default) hh]
theorem zMV {i h:Nat} (hh:h<c.hours.length) {z:Bed}:zHN (zI5 c) z (c.hours.getD h default) h=(zBF c z (c.hours.getD h default)).lo:=by
 simp only [zHN,zBF,zI5,zDS (d:=default) hh]
theorem zI1 {i:Nat} (hi:i<c.beds.length):∀ h,h≤c.hours.length→goT c pl (zI4 c) (c.beds.getD i default) i h=(thickN c pl (c.beds.getD i default) i h).lo
 | 0,_=>by simp only [goT,thickN,zI4,zDS (d:=default) hi]
 | h+1,hh=>by
  have ih:=zI1 hi h (by omega)
  simp only [goT,thickN,ih,zMU (i:=i) (show h<c.hours.length by omega),layX,layered,thinned]
  split<;>rfl
theorem zKv {i:Nat} (hi:i<c.beds.length):∀ h,h≤c.hours.length→goT c pl (zI5 c) (c.beds.getD i default) i h=(thickN c pl (c.beds.getD i default) i h).hi
 | 0,_=>by simp only [goT,thickN,zI5,zDS (d:=default) hi]
 | h+1,hh=>by
  have ih:=zKv hi h (by omega)
  simp only [goT,thickN,ih,zMV (i:=i) (show h<c.hours.length by omega),layX,layered,thinned]
  split<;>rfl
theorem goS_eq {en:Sp→Sp→Int} {t:Tru} (hb:∀ i h,i<c.beds.length→h<c.hours.length→goB c pl t (c.beds.getD i default) i h=zA6 c pl en (c.beds.getD i default) i h):goS c pl t c.hours.length=zAg c pl en:=by
 unfold goS zAg
 simp only [List.flatMap_def]
 congr 1
 refine List.map_congr_left fun h hh=>?_
 unfold goR
 rw [List.filter_congr fun i hi=>hb i h (List.mem_range.1 hi) (List.mem_range.1 hh)]
theorem zRp (hf:zBl c):goS c pl (zI4 c) c.hours.length=zAg c pl zAZ:=goS_eq fun i h hi hh=>by
 rw [Bool.eq_iff_iff]
 unfold goB
 rw [zGs hf,zI1 hi h (by omega),zMU (i:=i) hh]
 unfold zA6 zAZ
 rw [decide_eq_true_eq]
theorem goS_best (hf:zBl c):goS c pl (zI5 c) c.hours.length=zAg c pl zDH:=goS_eq fun i h hi hh=>by
 rw [Bool.eq_iff_iff]
 unfold goB
 rw [zGs hf,zKv hi h (by omega),zMV (i:=i) hh]
 unfold zA6 zDH
 rw [decide_eq_true_eq]
end
def ofS (s:Sp) (n:Int):Int:=s.lo+n % (s.hi - s.lo+1)
theorem zM5 {s:Sp} {n:Int} (h:s.lo≤s.hi):s.lo≤ofS s n∧ofS s n≤s.hi:=by
 have:=zDL (x:=n) (n:=s.hi - s.lo+1) (by omega)
 unfold ofS;omega
def thL (ch:List Int) (f:Nat) (l:List Bed) (k:Nat):List Int:=(List.range k).map fun i=>ofS (l.getD i default).thick (chW ch (f+2+i))
def meL (ch:List Int) (f:Nat) (l:List Hour) (k:Nat):List Int:=(List.range k).map fun i=>ofS (l.getD i default).melt (chW ch (f+30+i))
theorem thL_succ {ch:List Int} {f k:Nat} {l:List Bed} {z:Bed} (hz:l[k]?=some z):thL ch f l (k+1)=thL ch f l k++[ofS z.thick (chW ch (f+2+k))]:=by simp [thL,List.range_succ,hz]
theorem meL_succ {ch:List Int} {f k:Nat} {l:List Hour} {u:Hour} (hu:l[k]?=some u):meL ch f l (k+1)=meL ch f l k++[ofS u.melt (chW ch (f+30+k))]:=by simp [meL,List.range_succ,hu]
theorem zQO {ch:List Int} {f k:Nat} {l:List Bed}:(thL ch f l k).length=k:=by simp [thL]
theorem zQa {ch:List Int} {f k:Nat} {l:List Hour}:(meL ch f l k).length=k:=by simp [meL]
def zBp (c:Cov) (ch:List Int) (f:Nat):Tru:=⟨thL ch f c.beds c.beds.length,meL ch f c.hours c.hours.length,ofS c.wear (chW ch f),ofS c.layer (chW ch (f+1))⟩
theorem zSF {c:Cov} {ch:List Int} {f:Nat} (hf:zBl c):zFv c (zBp c ch f):=by
 have h1:=hf.wear;have h2:=hf.layer
 simp only [zAF] at h1 h2
 refine ⟨zQO,zQa,fun i hi=>?_,fun h hh=>?_,zM5 h1.2.1,zM5 h2.2.1⟩
 ·have h3:=hf.bed (c.beds.getD i default) (by rw [Flow.zt hi];exact List.getElem_mem _)
  simp only [zC0,Bool.and_eq_true,zAF] at h3
  have e:(zBp c ch f).th.getD i 0=ofS (c.beds.getD i default).thick (chW ch (f+2+i)):=by
   show (thL ch f c.beds c.beds.length).getD i 0=_
   unfold thL
   rw [Flow.zt (by simp;exact hi),List.getElem_map,List.getElem_range]
  rw [e]
  exact zM5 h3.1.2.1
 ·have h3:=hf.hour (c.hours.getD h default) (by rw [Flow.zt hh];exact List.getElem_mem _)
  simp only [zBX,Bool.and_eq_true,zAF] at h3
  have e:(zBp c ch f).me.getD h 0=ofS (c.hours.getD h default).melt (chW ch (f+30+h)):=by
   show (meL ch f c.hours c.hours.length).getD h 0=_
   unfold meL
   rw [Flow.zt (by simp;exact hh),List.getElem_map,List.getElem_range]
  rw [e]
  exact zM5 h3.1.1.2.1
end Go.Proofs.YtdigopgncfhiaaaGreatDoor
namespace Go.Proofs.YtdigopgncfhiaaaGreatDoor
open Go.RowKit
set_option maxRecDepth 20000
theorem zJn (s:Sp) (n:Int) (w:World) (h:s.lo≤s.hi) (h1:-100000≤s.lo) (h2:s.hi≤100000) (hn:0≤n∧n≤4294967295):Gv Tryz.prog 41 [.agg #[.int .i64 s.lo,.int .i64 s.hi],.int .i64 n] w (.int .i64 (ofS s n)):=by
 have h3:=zDL (x:=n) (n:=s.hi - s.lo+1) (by omega)
 unfold ofS
 unfold Gv
 (refine zM (n:=16) Tryz.func41 rfl rfl rfl ?_)
 (repeat' (first|((with_reducible refine zG ?_);first|refine zC rfl rfl rfl rfl rfl ?_|(refine zAM rfl rfl rfl rfl rfl rfl (fun b=>?_)))|(with_reducible first|refine zI ?_|refine zB ?_|refine zD ?_|refine zA ?_)))
 (refine zAv (by kernel_rfl) (by kernel_rfl) (by kernel_rfl) ?_)
 (repeat' (first|((with_reducible refine zBH ?_);first|refine zW (zAK rfl rfl) rfl rfl rfl ?_|refine zW (zy rfl rfl (by exact rfl)) rfl rfl rfl ?_|refine zW (zAO rfl rfl) rfl rfl rfl ?_|refine zW (zBK rfl rfl) rfl rfl rfl ?_|refine zW (zDg rfl rfl rfl (IntWalk.i64_in _ (by omega))) rfl rfl rfl ?_|refine zW (zEt rfl rfl rfl (IntWalk.i64_in _ (by omega))) rfl rfl rfl ?_|refine zW (zJS rfl rfl rfl (by omega) (by omega)) rfl rfl rfl ?_)|(with_reducible refine zBs ?_)))
 (repeat' (first|(with_reducible first|refine zA ?_|refine zb ?_)))
 exact zT (by (exact zO.cons (by exact zq.tmp rfl) zO.nil)) () trivial rfl (fun _ _=>Own.nil _ _)
end Go.Proofs.YtdigopgncfhiaaaGreatDoor
namespace Go.Proofs.YtdigopgncfhiaaaGreatDoor.Two
variable {ro : Option Nat}
open Go.RowKit
set_option maxRecDepth 20000
set_option maxHeartbeats 4000000 in
theorem zOa (c:Cov) (A:Option Addr) (ca:Nat) (B:Option Addr) (cb:Nat) (C:Option Addr) (cc:Nat) (ch:List Int) (D:Option Addr) (cd f:Nat) (w:World) (hc:zAU w c A B C) (hs:Small c) (hf:zBl c) (hD:zAB zHE 1 w D ch) (hfu:zJB ch) (hff:f≤1000) :
  Ret Tryz.prog 18 [zAI c A ca B cb C cc,.slice D ch.length cd,.int .i64 (f:Int)] w (fun z:(Option Addr × Nat) × (Option Addr × Nat)=>.agg #[.slice z.1.1 (thL ch f c.beds c.beds.length).length z.1.2,.slice z.2.1 (meL ch f c.hours c.hours.length).length z.2.2,.int .i64 (ofS c.wear (chW ch f)),.int .i64 (ofS c.layer (chW ch (f+1)))]) (fun z=>[.sl encI 1 z.1.1 (thL ch f c.beds c.beds.length),.sl encI 1 z.2.1 (meL ch f c.hours c.hours.length)]) (fun _=>True):=by
 have h4:=hs.b;have h5:=hs.h
 have hb:=hc.b;have hh:=hc.h
 have hwe:=hf.wear;have hla:=hf.layer
 simp only [zAF] at hwe hla
 have hCh:=fun W (hW:Below w.heap.size w W) x i (hx:x=((i:Nat):Int))=>zGd ch D cd x i W (hD.below hW) hfu hx
 have hci:=fun i=>zP8 hfu i
 have k0:=hci f;have k1:=hci (f+1)
 have o0:=fun W=>zJn c.wear (chW ch f) W (by omega) (by omega) (by omega) k0
 have o1:=fun W=>zJn c.layer (chW ch (f+1)) W (by omega) (by omega) (by omega) k1
 have c0:=fun W hW=>hCh W hW (f:Int) f rfl
 have c1:=fun W hW=>hCh W hW ((f:Int)+1) (f+1) (by omega)
 generalize ofS c.wear (chW ch f)=we at *
 generalize ofS c.layer (chW ch (f+1))=la at *
 generalize chW ch f=x0 at *
 generalize chW ch (f+1)=x1 at *
 have l1:=fun k=>zQO (ch:=ch) (f:=f) (k:=k) (l:=c.beds)
 have l2:=fun k=>zQa (ch:=ch) (f:=f) (k:=k) (l:=c.hours)
 unfold zAI zH
 (refine zM (n:=73) Tryz.func18 rfl rfl rfl ?_)
 (repeat' (first|((with_reducible refine zG ?_);first|(refine zo rfl rfl rfl rfl (fun b=>?_))|(refine zAM rfl rfl rfl rfl rfl rfl (fun b=>?_)))|(with_reducible first|refine zI ?_|refine zB ?_|refine zD ?_|refine zA ?_)))
 obtain ⟨b6,hb6⟩:∃ x,x=b:=⟨_,rfl⟩
 subst hb6
 obtain ⟨b3,hb3⟩:∃ x,x=b:=⟨_,rfl⟩
 subst hb3
 (refine zAd [] [] [] rfl (show ([]:List Nat).Nodup by decide) (fun _ h=>h) (by kernel_rfl) [[],[Z],[Y,Y],[Y,Y,Y],[Z,Z,Y,Y],[Z,Z,Z,Z,Z],[Y,Y,Y,Y,Y,Y],[Z,Y,Y,Y,Y,Y,Y],[Y,Y,Y,Y,Y,Y,Y,Y],[Y,Y,Y,Y,Y,Y,Y,Y,Y],[Z,Y,Y,Y,Y,Y,Y,Y,Y,Y],[Z,Z,Z,Y,Y,Z,Z,Z,Z,Z,Z],[Z,Z,Z,Z,Z,Z,Z,Z,Z,Z,Z,Z],[Z,Z,Z,Z,Z,Z,Z,Z,Z,Z,Z,Z,Z],[Y,Y,Y,Y,Y,Y,Y,Y,Y,Y,Y,Y,Y,Y],[Z,Z,Z,Z,Z,Z,Z,Z,Z,Z,Z,Z,Z,Z,Z]] (by kernel_rfl) (by kernel_rfl) (by kernel_rfl) (by kernel_rfl) (by kernel_rfl) ?_)
 (repeat' (first|(((with_reducible refine zCJ ?_ ?_);(· exact rfl);refine ⟨_,fun G=>(by (try simp (decide:=true) only [vis,see,fltT,zAD,Nat.reduceAdd,Nat.reduceSub,if_true,if_false,List.set_cons_zero,List.set_cons_succ,List.set_nil,List.nil_append,List.cons_append]);rfl),?_⟩);first|refine zX _ (fun _=>zAK rfl rfl) (fun _=>rfl) rfl (by first|exact fun _ _ _=>rfl|(intro G G' h;simp (decide:=true) only [h])) ?_|refine zX _ (fun _=>zy rfl rfl (by exact rfl)) (fun _=>rfl) rfl (by first|exact fun _ _ _=>rfl|(intro G G' h;simp (decide:=true) only [h])) ?_|(refine zAb rfl ?_;refine zX _ (fun _=>zAO rfl rfl) (fun _=>rfl) rfl (by first|exact fun _ _ _=>rfl|(intro G G' h;simp (decide:=true) only [h])) ?_)|refine zBI _ rfl (fun _=>rfl) rfl (fun _=>rfl) (fun _=>rfl) (fun _ _ _ q=>c0 _ q.below) (by first|exact fun _ _ _=>rfl|(intro G G' h;simp (decide:=true) only [h])) ?_|refine zBI _ rfl (fun _=>rfl) rfl (fun _=>rfl) (fun _=>rfl) (fun _ _ _ q=>c1 _ q.below) (by first|exact fun _ _ _=>rfl|(intro G G' h;simp (decide:=true) only [h])) ?_|refine zBI _ rfl (fun _=>rfl) rfl (fun _=>rfl) (fun _=>rfl) (fun _ _ _ q=>o0 _) (by first|exact fun _ _ _=>rfl|(intro G G' h;simp (decide:=true) only [h])) ?_|refine zBI _ rfl (fun _=>rfl) rfl (fun _=>rfl) (fun _=>rfl) (fun _ _ _ q=>o1 _) (by first|exact fun _ _ _=>rfl|(intro G G' h;simp (decide:=true) only [h])) ?_|refine zX _ (fun _=>zI6 rfl rfl rfl (by omega)) (fun _=>rfl) rfl (by first|exact fun _ _ _=>rfl|(intro G G' h;simp (decide:=true) only [h])) ?_|refine zX _ (fun _=>zEE rfl rfl (by exact rfl)) (fun _=>rfl) rfl (by first|exact fun _ _ _=>rfl|(intro G G' h;simp (decide:=true) only [h])) ?_|refine zGC rfl (fun _=>rfl) rfl ?_)|((with_reducible refine zBa ?_ ?_);(· exact rfl))))
 intro G
 simp only [regsT,List.nil_append,List.cons_append]
 refine zB5 (H':=[.blk (G 14).g [.slice none 0 0,.slice none 0 0,.int .i64 0,.int .i64 0],.blk b6 [.slice none 0 0,.slice none 0 0,.int .i64 0,.int .i64 0],.blk b3 (zH c A ca B cb C cc)]) (fun _ h=>h) ?_
 generalize (G 14).g=b7
 unfold zH
 (repeat' (first|((with_reducible refine zG ?_);first|refine zE rfl rfl rfl rfl rfl ?_|(refine zK rfl rfl rfl rfl rfl ?_;refine ⟨_,rfl,?_⟩)|refine ze rfl rfl rfl rfl rfl ?_|refine zr rfl rfl rfl rfl rfl ?_|(refine zf rfl rfl rfl rfl rfl ?_;refine And.intro rfl (And.intro (by first|decide|exact Nat.le_of_ble_eq_true rfl|(simp;omega)) ⟨_,rfl,?_⟩)))|(with_reducible first|refine zI ?_|refine zB ?_|refine zD ?_|refine zA ?_|refine zN ?_)))
 refine zCM encI 1 3 ?_
 refine zCM encI 1 3 ?_
 refine zu (ι:=Nat × Value) [1,2,3,6,7,27,28] rfl (fun p=>p.1≤c.beds.length) (fun p=>[(29,.int .i64 (p.1:Int))]) (fun p=>[.row encI 1 3 p.2 (thL ch f c.beds p.1),.row encI 1 3 (.slice none 0 0) [],.blk b7 [p.2,.slice none 0 0,.int .i64 we,.int .i64 la],.blk b6 [.slice none 0 0,.slice none 0 0,.int .i64 0,.int .i64 0],.blk b3 (zH c A ca B cb C cc)]) (fun p=>c.beds.length - p.1) (0,.slice none 0 0) (Nat.zero_le _) (by (first|exact lK1|(repeat (first|exact lK1|(refine zL rfl ?_))))) (by (repeat (first|exact oK1 _|(refine oK2 (by (repeat (first|exact tK1 _ _|apply tK2))) ?_)))) ?_
 rintro ⟨i,v⟩ hi
 simp only at hi
 simp only [zAq,zH,List.cons_append,List.nil_append]
 by_cases hil:i<c.beds.length
 ·obtain ⟨z,hz⟩:∃ z,c.beds[i]?=some z:=⟨_,List.getElem?_eq_getElem hil⟩
  obtain ⟨bb,ob,rfl,_,_⟩:=hb.at_ hil
  have:InS w bb ob zAJ 3 c.beds:=⟨hb⟩
  have:zAR c.beds i z:=⟨hz⟩
  have hoz:=hf.bed z (List.mem_of_getElem? hz)
  simp only [zC0,Bool.and_eq_true,zAF] at hoz
  have e1:=(thL_succ (ch:=ch) (f:=f) hz).symm
  have k1:=hci (f+2+i)
  have cI:=fun W hW=>hCh W hW ((f:Int)+2+(i:Int)) (f+2+i) (by omega)
  have oI:=fun W=>zJn z.thick (chW ch (f+2+i)) W (by omega) (by omega) (by omega) k1
  have lI:=l1 i
  generalize ofS z.thick (chW ch (f+2+i))=u at *
  generalize chW ch (f+2+i)=x at *
  generalize thL ch f c.beds i=TL at *
  (repeat' (first|((with_reducible refine zG ?_);first|refine zE rfl rfl rfl rfl rfl ?_|refine zC rfl rfl rfl rfl rfl ?_|(refine zK rfl rfl rfl rfl rfl ?_;refine ⟨_,rfl,?_⟩)|(refine zQ rfl rfl rfl rfl rfl rfl rfl (fun h=>?_) (fun h=>?_)<;>(dsimp only [cmpP] at h;(try (exfalso;omega))))|refine zi rfl rfl rfl rfl rfl rfl rfl (by omega) ?_|(refine zf rfl rfl rfl rfl rfl ?_;refine And.intro rfl (And.intro (by first|decide|exact Nat.le_of_ble_eq_true rfl|(simp;omega)) ⟨_,rfl,?_⟩))|(refine zo rfl rfl rfl rfl (fun b=>?_)))|(with_reducible first|refine zI ?_|refine zB ?_|refine zD ?_|refine zA ?_|refine zP ?_|refine zN ?_)|((with_reducible refine zJ ?_ ?_);(· exact rfl))))
  (refine zAd [] [(12,0,0,[.row encI 1 3 v TL])] [(12,0,0)] rfl (show ([12]:List Nat).Nodup by decide) (H0:=[.blk b (zAJ z),.row encI 1 3 (.slice none 0 0) [],.blk b7 [v,.slice none 0 0,.int .i64 we,.int .i64 la],.blk b6 [.slice none 0 0,.slice none 0 0,.int .i64 0,.int .i64 0],.blk b3 (zH c A ca (some ⟨bb,ob,none⟩) cb C cc)]) (fun _ h=>h.sub (by (repeat (first|exact oK1 _|(refine oK2 (by (repeat (first|exact tK1 _ _|apply tK2))) ?_))))) (by kernel_rfl) [[],[Z],[Y,Y],[Z,Y,Y],[Y,Y,Y,Y],[Y,Y,Y,Y,Y],[Z,Y,Y,Y,Y,Y],[Y,Y,Y,Y,Y,Y,Y],[Z,Z,Z,Y,Y,Y,Y,Y],[Z,Z,Z,Z,Z,Y,Y,Y,Y],[Z,Z,Z,Z,Z,Z,Z,Z,Y,Y],[Z,Z,Z,Z,Z,Z,Z,Z,Z,Y,Y],[Z,Z,Z,Z,Z,Z,Z,Z,Z,Z,Z,Z],[Z,Z,Z,Z,Z,Z,Z,Z,Z,Z,Z,Z,Z],[Z,Z,Z,Z,Z,Z,Z,Z,Z,Z,Z,Z,Z,Z]] (by kernel_rfl) (by kernel_rfl) (by kernel_rfl) (by kernel_rfl) (by kernel_rfl) ?_)
  (repeat' (first|(((with_reducible refine zCJ ?_ ?_);(· exact rfl);refine ⟨_,fun G=>(by (try simp (decide:=true) only [vis,see,fltT,zAD,Nat.reduceAdd,Nat.reduceSub,if_true,if_false,List.set_cons_zero,List.set_cons_succ,List.set_nil,List.nil_append,List.cons_append]);rfl),?_⟩);first|refine zX _ (fun _=>zAK rfl rfl) (fun _=>rfl) rfl (by first|exact fun _ _ _=>rfl|(intro G G' h;simp (decide:=true) only [h])) ?_|refine zX _ (fun _=>zy rfl rfl (by exact rfl)) (fun _=>rfl) rfl (by first|exact fun _ _ _=>rfl|(intro G G' h;simp (decide:=true) only [h])) ?_|(refine zAb rfl ?_;refine zX _ (fun _=>zAO rfl rfl) (fun _=>rfl) rfl (by first|exact fun _ _ _=>rfl|(intro G G' h;simp (decide:=true) only [h])) ?_)|refine zBI _ rfl (fun _=>rfl) rfl (fun _=>rfl) (fun _=>rfl) (fun _ _ _ q=>cI _ q.below) (by first|exact fun _ _ _=>rfl|(intro G G' h;simp (decide:=true) only [h])) ?_|refine zBI _ rfl (fun _=>rfl) rfl (fun _=>rfl) (fun _=>rfl) (fun _ _ _ q=>oI _) (by first|exact fun _ _ _=>rfl|(intro G G' h;simp (decide:=true) only [h])) ?_|refine zX _ (fun _=>zDg rfl rfl rfl (IntWalk.i64_in _ (by omega))) (fun _=>rfl) rfl (by first|exact fun _ _ _=>rfl|(intro G G' h;simp (decide:=true) only [h])) ?_|refine zB1 rfl (fun _=>rfl) rfl (fun _=>rfl) (by exact rfl) (by exact fun _=>rfl) (by first|exact fun _ _ _=>rfl|(intro G G' h;simp (decide:=true) only [h])) ?_)|(refine zD1 (enc:=encI) (xs:=TL) (vx:=v) [u] List.mem_cons_self rfl rfl (fun _=>rfl) rfl (fun _=>rfl) (fun _=>rfl) rfl (fun G=>(by (try simp (decide:=true) only [vis,see,fltT,zAD,Nat.reduceAdd,Nat.reduceSub,if_true,if_false,List.set_cons_zero,List.set_cons_succ,List.set_nil,List.nil_append,List.cons_append]);rfl)) (fun _ W hW h=>zAl (enc:=encI) (by exact rfl) W hW h) ⟨by simp;omega,by decide⟩ ?_)|((with_reducible refine zBa ?_ ?_);(· exact rfl))))
  intro G
  simp only [regsT,List.nil_append,List.cons_append]
  refine zB5 (H':=[.row encI 1 3 (.slice (G 12).A (TL++[u]).length (G 12).m) (TL++[u]),.blk (G 11).g (encI u),.blk b (zAJ z),.row encI 1 3 (.slice none 0 0) [],.blk b7 [v,.slice none 0 0,.int .i64 we,.int .i64 la],.blk b6 [.slice none 0 0,.slice none 0 0,.int .i64 0,.int .i64 0],.blk b3 (zH c A ca (some ⟨bb,ob,none⟩) cb C cc)]) (fun _ h=>h) ?_
  unfold zH
  (repeat' (first|((with_reducible refine zG ?_);first|refine zE rfl rfl rfl rfl rfl ?_|refine zj rfl rfl rfl rfl rfl rfl (by omega) ?_|(refine zf rfl rfl rfl rfl rfl ?_;refine And.intro rfl (And.intro (by first|decide|exact Nat.le_of_ble_eq_true rfl|(simp;omega)) ⟨_,rfl,?_⟩)))|(with_reducible first|refine zB ?_|refine zD ?_|refine zA ?_|refine zk ?_)))
  refine zc (ι:=Nat × Value) (i+1,.slice (G 12).A (TL++[u]).length (G 12).m) (by simp only;omega) (by simp only;omega) (by (first|exact lK1|(repeat (first|exact lK1|(refine zL rfl ?_))))) ?_
  rw [e1]
  (repeat (first|exact oK1 _|(refine oK2 (by (repeat (first|exact tK1 _ _|apply tK2))) ?_)))
 obtain rfl:i=c.beds.length:=by omega
 have lI:=l1 c.beds.length
 generalize thL ch f c.beds c.beds.length=TL at *
 obtain ⟨v1,hv1⟩:∃ x,x=v:=⟨_,rfl⟩
 subst hv1
 (repeat' (first|((with_reducible refine zG ?_);first|refine zE rfl rfl rfl rfl rfl ?_|(refine zK rfl rfl rfl rfl rfl ?_;refine ⟨_,rfl,?_⟩)|refine ze rfl rfl rfl rfl rfl ?_|(refine zQ rfl rfl rfl rfl rfl rfl rfl (fun h=>?_) (fun h=>?_)<;>(dsimp only [cmpP] at h;(try (exfalso;omega))))|refine zr rfl rfl rfl rfl rfl ?_)|(with_reducible first|refine zI ?_|refine zB ?_|refine zD ?_|refine zA ?_|refine zN ?_|refine zn ?_|refine zR ?_|refine zY ?_)|((with_reducible refine zF ?_ ?_);(· exact rfl))))
 refine zu (ι:=Nat × Value) [1,2,3,6,7,50,51] rfl (fun p=>p.1≤c.hours.length) (fun p=>[(52,.int .i64 (p.1:Int))]) (fun p=>[.row encI 1 3 p.2 (meL ch f c.hours p.1),.row encI 1 3 v1 TL,.blk b7 [v1,p.2,.int .i64 we,.int .i64 la],.blk b6 [.slice none 0 0,.slice none 0 0,.int .i64 0,.int .i64 0],.blk b3 (zH c A ca B cb C cc)]) (fun p=>c.hours.length - p.1) (0,.slice none 0 0) (Nat.zero_le _) (by (first|exact lK1|(repeat (first|exact lK1|(refine zL rfl ?_))))) (by (repeat (first|exact oK1 _|(refine oK2 (by (repeat (first|exact tK1 _ _|apply tK2))) ?_)))) ?_
 rintro ⟨i,v⟩ hi
 simp only at hi
 simp only [zAq,zH,List.cons_append,List.nil_append]
 by_cases hil:i<c.hours.length
 ·obtain ⟨z,hz⟩:∃ z,c.hours[i]?=some z:=⟨_,List.getElem?_eq_getElem hil⟩
  obtain ⟨bb,ob,rfl,_,_⟩:=hh.at_ hil
  have:InS w bb ob zp 5 c.hours:=⟨hh⟩
  have:zAR c.hours i z:=⟨hz⟩
  have hoz:=hf.hour z (List.mem_of_getElem? hz)
  simp only [zBX,Bool.and_eq_true,zAF] at hoz
  have e1:=(meL_succ (ch:=ch) (f:=f) hz).symm
  have k1:=hci (f+30+i)
  have cI:=fun W hW=>hCh W hW ((f:Int)+30+(i:Int)) (f+30+i) (by omega)
  have oI:=fun W=>zJn z.melt (chW ch (f+30+i)) W (by omega) (by omega) (by omega) k1
  have lI:=l2 i
  generalize ofS z.melt (chW ch (f+30+i))=u at *
  generalize chW ch (f+30+i)=x at *
  generalize meL ch f c.hours i=ML at *
  (repeat' (first|((with_reducible refine zG ?_);first|refine zE rfl rfl rfl rfl rfl ?_|refine zC rfl rfl rfl rfl rfl ?_|(refine zK rfl rfl rfl rfl rfl ?_;refine ⟨_,rfl,?_⟩)|(refine zQ rfl rfl rfl rfl rfl rfl rfl (fun h=>?_) (fun h=>?_)<;>(dsimp only [cmpP] at h;(try (exfalso;omega))))|refine zi rfl rfl rfl rfl rfl rfl rfl (by omega) ?_|(refine zf rfl rfl rfl rfl rfl ?_;refine And.intro rfl (And.intro (by first|decide|exact Nat.le_of_ble_eq_true rfl|(simp;omega)) ⟨_,rfl,?_⟩))|(refine zo rfl rfl rfl rfl (fun b=>?_)))|(with_reducible first|refine zI ?_|refine zB ?_|refine zD ?_|refine zA ?_|refine zP ?_|refine zN ?_)|((with_reducible refine zJ ?_ ?_);(· exact rfl))))
  (refine zAd [] [(12,0,0,[.row encI 1 3 v ML])] [(12,0,0)] rfl (show ([12]:List Nat).Nodup by decide) (H0:=[.blk b (zp z),.row encI 1 3 v1 TL,.blk b7 [v1,v,.int .i64 we,.int .i64 la],.blk b6 [.slice none 0 0,.slice none 0 0,.int .i64 0,.int .i64 0],.blk b3 (zH c A ca B cb (some ⟨bb,ob,none⟩) cc)]) (fun _ h=>h.sub (by (repeat (first|exact oK1 _|(refine oK2 (by (repeat (first|exact tK1 _ _|apply tK2))) ?_))))) (by kernel_rfl) [[],[Z],[Y,Y],[Z,Y,Y],[Y,Y,Y,Y],[Y,Y,Y,Y,Y],[Z,Y,Y,Y,Y,Y],[Y,Y,Y,Y,Y,Y,Y],[Z,Z,Z,Y,Y,Y,Y,Y],[Z,Z,Z,Z,Z,Y,Y,Y,Y],[Z,Z,Z,Z,Z,Z,Z,Z,Y,Y],[Z,Z,Z,Z,Z,Z,Z,Z,Z,Y,Y],[Z,Z,Z,Z,Z,Z,Z,Z,Z,Z,Z,Z],[Z,Z,Z,Z,Z,Z,Z,Z,Z,Z,Z,Z,Z],[Z,Z,Z,Z,Z,Z,Z,Z,Z,Z,Z,Z,Z,Z]] (by kernel_rfl) (by kernel_rfl) (by kernel_rfl) (by kernel_rfl) (by kernel_rfl) ?_)
  (repeat' (first|(((with_reducible refine zCJ ?_ ?_);(· exact rfl);refine ⟨_,fun G=>(by (try simp (decide:=true) only [vis,see,fltT,zAD,Nat.reduceAdd,Nat.reduceSub,if_true,if_false,List.set_cons_zero,List.set_cons_succ,List.set_nil,List.nil_append,List.cons_append]);rfl),?_⟩);first|refine zX _ (fun _=>zAK rfl rfl) (fun _=>rfl) rfl (by first|exact fun _ _ _=>rfl|(intro G G' h;simp (decide:=true) only [h])) ?_|refine zX _ (fun _=>zy rfl rfl (by exact rfl)) (fun _=>rfl) rfl (by first|exact fun _ _ _=>rfl|(intro G G' h;simp (decide:=true) only [h])) ?_|(refine zAb rfl ?_;refine zX _ (fun _=>zAO rfl rfl) (fun _=>rfl) rfl (by first|exact fun _ _ _=>rfl|(intro G G' h;simp (decide:=true) only [h])) ?_)|refine zBI _ rfl (fun _=>rfl) rfl (fun _=>rfl) (fun _=>rfl) (fun _ _ _ q=>cI _ q.below) (by first|exact fun _ _ _=>rfl|(intro G G' h;simp (decide:=true) only [h])) ?_|refine zBI _ rfl (fun _=>rfl) rfl (fun _=>rfl) (fun _=>rfl) (fun _ _ _ q=>oI _) (by first|exact fun _ _ _=>rfl|(intro G G' h;simp (decide:=true) only [h])) ?_|refine zX _ (fun _=>zDg rfl rfl rfl (IntWalk.i64_in _ (by omega))) (fun _=>rfl) rfl (by first|exact fun _ _ _=>rfl|(intro G G' h;simp (decide:=true) only [h])) ?_|refine zB1 rfl (fun _=>rfl) rfl (fun _=>rfl) (by exact rfl) (by exact fun _=>rfl) (by first|exact fun _ _ _=>rfl|(intro G G' h;simp (decide:=true) only [h])) ?_)|(refine zD1 (enc:=encI) (xs:=ML) (vx:=v) [u] List.mem_cons_self rfl rfl (fun _=>rfl) rfl (fun _=>rfl) (fun _=>rfl) rfl (fun G=>(by (try simp (decide:=true) only [vis,see,fltT,zAD,Nat.reduceAdd,Nat.reduceSub,if_true,if_false,List.set_cons_zero,List.set_cons_succ,List.set_nil,List.nil_append,List.cons_append]);rfl)) (fun _ W hW h=>zAl (enc:=encI) (by exact rfl) W hW h) ⟨by simp;omega,by decide⟩ ?_)|((with_reducible refine zBa ?_ ?_);(· exact rfl))))
  intro G
  simp only [regsT,List.nil_append,List.cons_append]
  refine zB5 (H':=[.row encI 1 3 (.slice (G 12).A (ML++[u]).length (G 12).m) (ML++[u]),.blk (G 11).g (encI u),.blk b (zp z),.row encI 1 3 v1 TL,.blk b7 [v1,v,.int .i64 we,.int .i64 la],.blk b6 [.slice none 0 0,.slice none 0 0,.int .i64 0,.int .i64 0],.blk b3 (zH c A ca B cb (some ⟨bb,ob,none⟩) cc)]) (fun _ h=>h) ?_
  unfold zH
  (repeat' (first|((with_reducible refine zG ?_);first|refine zE rfl rfl rfl rfl rfl ?_|refine zj rfl rfl rfl rfl rfl rfl (by omega) ?_|(refine zf rfl rfl rfl rfl rfl ?_;refine And.intro rfl (And.intro (by first|decide|exact Nat.le_of_ble_eq_true rfl|(simp;omega)) ⟨_,rfl,?_⟩)))|(with_reducible first|refine zB ?_|refine zD ?_|refine zA ?_|refine zk ?_)))
  refine zc (ι:=Nat × Value) (i+1,.slice (G 12).A (ML++[u]).length (G 12).m) (by simp only;omega) (by simp only;omega) (by (first|exact lK1|(repeat (first|exact lK1|(refine zL rfl ?_))))) ?_
  rw [e1]
  (repeat (first|exact oK1 _|(refine oK2 (by (repeat (first|exact tK1 _ _|apply tK2))) ?_)))
 obtain rfl:i=c.hours.length:=by omega
 have lM:=l2 c.hours.length
 generalize meL ch f c.hours c.hours.length=ML at *
 refine zDJ (xs:=TL) (enc:=encI) (by (repeat (first|exact tK1 _ _|apply tK2))) ?_
 rintro A1 k1 rfl
 refine zDJ (xs:=ML) (enc:=encI) (by (repeat (first|exact tK1 _ _|apply tK2))) ?_
 rintro A2 k2 rfl
 (repeat' (first|((with_reducible refine zG ?_);first|(refine zK rfl rfl rfl rfl rfl ?_;refine ⟨_,rfl,?_⟩)|(refine zQ rfl rfl rfl rfl rfl rfl rfl (fun h=>?_) (fun h=>?_)<;>(dsimp only [cmpP] at h;(try (exfalso;omega))))|(refine zf rfl rfl rfl rfl rfl ?_;refine And.intro rfl (And.intro (by first|decide|exact Nat.le_of_ble_eq_true rfl|(simp;omega)) ⟨_,rfl,?_⟩)))|(with_reducible first|refine zI ?_|refine zB ?_|refine zD ?_|refine zA ?_|refine zb ?_|refine zn ?_|refine zR ?_|refine zY ?_)|((with_reducible refine zF ?_ ?_);(· exact rfl))))
 exact zT (by (exact zO.cons (by exact res1c rfl (by exact rfl)) zO.nil)) ((A1,k1),(A2,k2)) trivial rfl (fun _ h=>((h.zCT (xs:=TL) (enc:=encI) (by (repeat (first|exact tK1 _ _|apply tK2)))).zCT (xs:=ML) (enc:=encI) (by (repeat (first|exact tK1 _ _|apply tK2)))).sub (by (repeat (first|exact oK1 _|(refine oK2 (by (repeat (first|exact tK1 _ _|apply tK2))) ?_)))))
end Go.Proofs.YtdigopgncfhiaaaGreatDoor.Two
namespace Go.Proofs.YtdigopgncfhiaaaGreatDoor
open Go.RowKit
set_option maxRecDepth 20000
def vPr (p:Int × Int):Value:=.agg #[.int .i64 p.1,.int .i64 p.2]
theorem zPL (e:Bool) (d:Nat) (p:Int × Int) (w:World):(Instr.checkKey e (d+2) 75 (vPr p)).run Tryz.prog w = .ok () w:=by
 obtain ⟨x,y⟩:=p
 have hs:∀ w,(Go.sizeOf 3).run Tryz.prog w = .ok 1 w:=Tryz.sizeOf3
 have ha:∀ w,(Go.isAgg 3).run Tryz.prog w = .ok false w:=Tryz.isAgg3
 have hi:∀ (z:Int) w,(Instr.checkKey e (d+1) 3 (.int .i64 z)).run Tryz.prog w = .ok () w:=fun z w=>zFU Tryz.underlying3
 unfold vPr
 rw [Instr.checkKey]
 simp only [Sem.run_bind,run_underlying Tryz.underlying75,Result.andThen_ok,hs,Std.Legacy.Range.forIn_eq_forIn_range',Std.Legacy.Range.size,Nat.sub_zero,Nat.add_sub_cancel,Nat.div_one]
 simp only [List.range',List.forIn_cons,List.forIn_nil,Sem.run_bind,part,ha,Result.andThen_ok]
 simp [hs,ha,hi,part]
theorem key_pr : zHI Tryz.prog 75 vPr :=
 ⟨fun e k w=>zPL e 9998 k w,fun k k' w=>by
  obtain ⟨a,b⟩:=k
  obtain ⟨c,d⟩:=k'
  refine (zGO 9998 a b c d w).trans ?_
  by_cases h1:a=c<;>by_cases h2:b=d<;>simp [h1,h2],⟨_,Tryz.underlying75,fun _ _=>rfl⟩,fun k=>by
  simp [vPr,Instr.sameBits]⟩
def inP (l:List (Int × Int)):Int × Int→Option Bool:=fun p=>if p∈l then some true else none
theorem inP_nil : inP []=fun _=>none:=by funext p;simp [inP]
theorem inP_add {l:List (Int × Int)} {p:Int × Int} {i:Nat} (h:l[i]?=some p):zAn (inP (l.take i)) p (some true)=inP (l.take (i+1)):=by
 funext q
 rw [List.take_add_one,h]
 simp only [zAn,inP,Option.toList_some,List.mem_append,List.mem_singleton]
 by_cases e:q=p
 ·simp [e]
 ·simp [e]
set_option maxHeartbeats 1000000 in
theorem zO8 (few all:List (Int × Int)) (A:Option Addr) (ca:Nat) (B:Option Addr) (cb:Nat) (w:World) (ha:zAB zAX 2 w A few) (hb:zAB zAX 2 w B all) (hl1:few.length≤1000000) (hl2:all.length≤1000000) (h:∀ p∈few,p∈all) :
  Gv Tryz.prog 22 [.slice A few.length ca,.slice B all.length cb] w (.bool true):=by
 have hst:=fun i p (hp:all[i]?=some p)=>inP_add hp
 have hnil:=inP_nil
 have hin:∀ p,p∈few→(inP (all.take all.length)) p=some true:=fun p hp=>by rw [List.take_length];simp [inP,h p hp]
 obtain ⟨F,hF⟩:∃ F,F=fun i=>inP (all.take i):=⟨_,rfl⟩
 have hF0:F 0=fun _=>none:=by rw [hF];exact hnil
 have hFs:∀ i p,all[i]?=some p→zAn (F i) p (some true)=F (i+1):=by rw [hF];exact hst
 have hFe:∀ p,p∈few→F all.length p=some true:=by rw [hF];exact hin
 clear hF hst hnil hin
 unfold Gv
 (refine zM (n:=31) Tryz.func22 rfl rfl rfl ?_)
 (repeat' (first|((with_reducible refine zG ?_);first|refine zE rfl rfl rfl rfl rfl ?_|refine zC rfl rfl rfl rfl rfl ?_|refine zHp (Int × Int) Bool vPr vB rfl rfl rfl rfl (fun m=>?_)|refine zr rfl rfl rfl rfl rfl ?_)|(with_reducible first|refine zI ?_|refine zB ?_|refine zD ?_|refine zA ?_|refine zN ?_)))
 rw [← hF0]
 refine zu (ι:=Nat) [0,5,11,12] rfl (fun i=>i≤all.length) (fun i=>[(13,.int .i64 (i:Int))]) (fun i=>[.fm m vPr vB (F i)]) (fun i=>all.length - i) 0 (Nat.zero_le _) (by (first|exact lK1|(repeat (first|exact lK1|(refine zL rfl ?_))))) (by (repeat (first|exact oK1 _|(refine oK2 (by (repeat (first|exact tK1 _ _|apply tK2))) ?_)))) ?_
 rintro i hi
 simp only [zAq,List.cons_append,List.nil_append]
 by_cases hil:i<all.length
 ·obtain ⟨p,hp⟩:∃ p,all[i]?=some p:=⟨_,List.getElem?_eq_getElem hil⟩
  obtain ⟨b9,o9,rfl,_,_⟩:=hb.at_ hil
  have:InS w b9 o9 zAX 2 all:=⟨hb⟩
  have:zAR all i p:=⟨hp⟩
  have hs:=hFs i p hp
  obtain ⟨p1,p2⟩:=p
  (repeat' (first|((with_reducible refine zG ?_);first|refine zE rfl rfl rfl rfl rfl ?_|(refine zK rfl rfl rfl rfl rfl ?_;refine ⟨_,rfl,?_⟩)|(refine zQ rfl rfl rfl rfl rfl rfl rfl (fun h=>?_) (fun h=>?_)<;>(dsimp only [cmpP] at h;(try (exfalso;omega))))|refine zGq (kv:=vPr) (vv:=vB) (p1,p2) true rfl key_pr rfl rfl rfl rfl rfl (by (repeat (first|exact tK1 _ _|apply tK2))) ?_|refine zj rfl rfl rfl rfl rfl rfl (by omega) ?_|refine zi rfl rfl rfl rfl rfl rfl rfl (by omega) ?_|(refine zf rfl rfl rfl rfl rfl ?_;refine And.intro rfl (And.intro (by first|decide|exact Nat.le_of_ble_eq_true rfl|(simp;omega)) ⟨_,rfl,?_⟩))|(refine zo rfl rfl rfl rfl (fun b=>?_)))|(with_reducible first|refine zI ?_|refine zB ?_|refine zD ?_|refine zA ?_|refine zP ?_|refine zN ?_|refine zk ?_)|((with_reducible refine zJ ?_ ?_);(· exact rfl))))
  rw [hs]
  exact zc (ι:=Nat) (i+1) (by omega) (by omega) (by (first|exact lK1|(repeat (first|exact lK1|(refine zL rfl ?_))))) (by (repeat (first|exact oK1 _|(refine oK2 (by (repeat (first|exact tK1 _ _|apply tK2))) ?_))))
 ·obtain rfl:i=all.length:=by omega
  (repeat' (first|((with_reducible refine zG ?_);first|refine zE rfl rfl rfl rfl rfl ?_|(refine zQ rfl rfl rfl rfl rfl rfl rfl (fun h=>?_) (fun h=>?_)<;>(dsimp only [cmpP] at h;(try (exfalso;omega))))|refine zr rfl rfl rfl rfl rfl ?_)|(with_reducible first|refine zI ?_|refine zB ?_|refine zD ?_|refine zA ?_|refine zN ?_|refine zn ?_|refine zR ?_|refine zY ?_)|((with_reducible refine zF ?_ ?_);(· exact rfl))))
  refine zu (ι:=Nat) [5,20,21] rfl (fun i=>i≤few.length) (fun i=>[(22,.int .i64 (i:Int))]) (fun _=>[.fm m vPr vB (F all.length)]) (fun i=>few.length - i) 0 (Nat.zero_le _) (by (first|exact lK1|(repeat (first|exact lK1|(refine zL rfl ?_))))) (by (repeat (first|exact oK1 _|(refine oK2 (by (repeat (first|exact tK1 _ _|apply tK2))) ?_)))) ?_
  rintro i hi
  simp only [zAq,List.cons_append,List.nil_append]
  by_cases hil:i<few.length
  ·obtain ⟨p,hp⟩:∃ p,few[i]?=some p:=⟨_,List.getElem?_eq_getElem hil⟩
   obtain ⟨b9,o9,rfl,_,_⟩:=ha.at_ hil
   have:InS w b9 o9 zAX 2 few:=⟨ha⟩
   have:zAR few i p:=⟨hp⟩
   have hs:=hFe p (List.mem_of_getElem? hp)
   obtain ⟨p1,p2⟩:=p
   (repeat' (first|((with_reducible refine zG ?_);first|refine zE rfl rfl rfl rfl rfl ?_|(refine zK rfl rfl rfl rfl rfl ?_;refine ⟨_,rfl,?_⟩)|(refine zQ rfl rfl rfl rfl rfl rfl rfl (fun h=>?_) (fun h=>?_)<;>(dsimp only [cmpP] at h;(try (exfalso;omega))))|refine zAe rfl rfl rfl (zCF (kv:=vPr) (vv:=vB) (f:=F all.length) (p1,p2) true rfl key_pr zGn rfl rfl (by rw [hs];rfl)) ?_|refine zAh rfl rfl rfl rfl rfl ?_|refine zj rfl rfl rfl rfl rfl rfl (by omega) ?_|refine zi rfl rfl rfl rfl rfl rfl rfl (by omega) ?_|(refine zf rfl rfl rfl rfl rfl ?_;refine And.intro rfl (And.intro (by first|decide|exact Nat.le_of_ble_eq_true rfl|(simp;omega)) ⟨_,rfl,?_⟩))|(refine zo rfl rfl rfl rfl (fun b=>?_)))|(with_reducible first|refine zI ?_|refine zB ?_|refine zD ?_|refine zA ?_|refine zP ?_|refine zN ?_|refine zk ?_)|((with_reducible refine zJ ?_ ?_);(· exact rfl))|((with_reducible refine zF ?_ ?_);(· exact rfl))))
   exact zc (ι:=Nat) (i+1) (by omega) (by omega) (by (first|exact lK1|(repeat (first|exact lK1|(refine zL rfl ?_))))) (by (repeat (first|exact oK1 _|(refine oK2 (by (repeat (first|exact tK1 _ _|apply tK2))) ?_))))
  ·obtain rfl:i=few.length:=by omega
   (repeat' (first|((with_reducible refine zG ?_);first|refine zC rfl rfl rfl rfl rfl ?_|(refine zQ rfl rfl rfl rfl rfl rfl rfl (fun h=>?_) (fun h=>?_)<;>(dsimp only [cmpP] at h;(try (exfalso;omega)))))|(with_reducible first|refine zI ?_|refine zB ?_|refine zD ?_|refine zA ?_|refine zb ?_|refine zn ?_|refine zR ?_|refine zY ?_)|((with_reducible refine zF ?_ ?_);(· exact rfl))))
   exact zT (by (exact zO.cons (by exact zq.tmp rfl) zO.nil)) () trivial rfl (fun _ _=>Own.nil _ _)
end Go.Proofs.YtdigopgncfhiaaaGreatDoor
