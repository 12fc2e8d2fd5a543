/- E31 -/
import Derived.Test.YtdigopgncfhiaaaGreatDoorE30
import Derived.Test.YtdigopgncfhiaaaGreatDoorE28
import Derived.Test.YtdigopgncfhiaaaGreatDoorE10
import Derived.Test.YtdigopgncfhiaaaGreatDoorE24
import Derived.Test.YtdigopgncfhiaaaGreatDoorE17
set_option linter.unusedSimpArgs false
set_option linter.unusedVariables false
namespace Go.Proofs.YtdigopgncfhiaaaGreatDoor
open Go.RowKit
structure Tru where
 th:List Int
 me:List Int
 we:Int
 la:Int
def zMP (t:Tru) (z:Bed) (u:Hour) (h:Nat):Int:=z.sun * t.me.getD h 0+u.runs * t.we
def layX (t:Tru) (on:Bool) (x:Int):Int:=if on then x+t.la else x
def goT (c:Cov) (pl:List Sli) (t:Tru) (z:Bed) (i:Nat):Nat→Int
 | 0=>t.th.getD i 0
 | h+1=>layX t ((pl.getD h default).xs.contains (i:Int)) (max 0 (goT c pl t z i h - zMP t z (c.hours.getD h default) h))
def thinX (c:Cov) (u:Hour) (x:Int):Bool:=decide (x<c.base) || (decide (0<u.runs) && decide (x<c.limit))
def goB (c:Cov) (pl:List Sli) (t:Tru) (z:Bed) (i h:Nat):Bool:=thinX c (c.hours.getD h default) (goT c pl t z i h - zMP t z (c.hours.getD h default) h)
def goR (c:Cov) (pl:List Sli) (t:Tru) (h i:Nat):List (Int × Int):=((List.range i).filter fun i=>goB c pl t (c.beds.getD i default) i h).map fun (i:Nat)=>((h:Int),(i:Int))
def goS (c:Cov) (pl:List Sli) (t:Tru) (k:Nat):List (Int × Int):=(List.range k).flatMap fun h=>goR c pl t h c.beds.length
theorem zOK {c:Cov} {pl:List Sli} {t:Tru} {k:Nat} {p:Int × Int}:p∈goS c pl t k↔∃ i h,i<c.beds.length∧h<k∧goB c pl t (c.beds.getD i default) i h=true∧p=((h:Int),(i:Int)):=by
 simp only [goS,goR,List.mem_flatMap,List.mem_range,List.mem_map,List.mem_filter]
 constructor
 ·rintro ⟨h,hh,i,⟨hi,hb⟩,rfl⟩;exact ⟨i,h,hi,hh,hb,rfl⟩
 ·rintro ⟨i,h,hi,hh,hb,rfl⟩;exact ⟨h,hh,i,⟨hi,hb⟩,rfl⟩
structure zMx (c:Cov) (t:Tru):Prop where
 tl:t.th.length=c.beds.length
 ml:t.me.length=c.hours.length
 th:∀ i,i<c.beds.length→(c.beds.getD i default).thick.lo≤t.th.getD i 0∧t.th.getD i 0≤(c.beds.getD i default).thick.hi
 me:∀ h,h<c.hours.length→(c.hours.getD h default).melt.lo≤t.me.getD h 0∧t.me.getD h 0≤(c.hours.getD h default).melt.hi
 we:c.wear.lo≤t.we∧t.we≤c.wear.hi
 la:c.layer.lo≤t.la∧t.la≤c.layer.hi
section
variable {c : Cov} {t:Tru} {pl:List Sli}
theorem zJ5 (hf:zB4 c) {u:Hour} {x:Int}:thinX c u x=true↔x<zCp c u:=by
 have h1:=hf.base
 rw [zAL] at h1
 unfold thinX zCp
 simp only [Bool.or_eq_true,Bool.and_eq_true,decide_eq_true_eq]
 split<;>omega
theorem zI5 (hf:zB4 c) (ht:zMx c t) {i h:Nat} (hi:i<c.beds.length) (hh:h<c.hours.length):(zBk c (c.beds.getD i default) (c.hours.getD h default)).lo≤zMP t (c.beds.getD i default) (c.hours.getD h default) h∧zMP t (c.beds.getD i default) (c.hours.getD h default) h≤(zBk c (c.beds.getD i default) (c.hours.getD h default)).hi:=by
 have h1:=hf.hour (c.hours.getD h default) (by rw [Flow.zAX hh];exact List.getElem_mem _)
 have h2:=hf.bed (c.beds.getD i default) (by rw [Flow.zAX hi];exact List.getElem_mem _)
 simp only [zDX,zCS,Bool.and_eq_true,zAn,zAL] at h1 h2
 have h3:=ht.me h hh
 have h4:=ht.we
 have a1:=Int.mul_le_mul_of_nonneg_left h3.1 (show 0≤(c.beds.getD i default).sun by omega)
 have a2:=Int.mul_le_mul_of_nonneg_left h3.2 (show 0≤(c.beds.getD i default).sun by omega)
 have a3:=Int.mul_le_mul_of_nonneg_left h4.1 (show 0≤(c.hours.getD h default).runs by omega)
 have a4:=Int.mul_le_mul_of_nonneg_left h4.2 (show 0≤(c.hours.getD h default).runs by omega)
 simp only [zBk,zMP]
 exact ⟨Int.add_le_add a1 a3,Int.add_le_add a2 a4⟩
theorem zNg (hf:zB4 c) (ht:zMx c t) {i:Nat} (hi:i<c.beds.length):∀ h,h≤c.hours.length→(thickN c pl (c.beds.getD i default) i h).lo≤goT c pl t (c.beds.getD i default) i h∧goT c pl t (c.beds.getD i default) i h≤(thickN c pl (c.beds.getD i default) i h).hi
 | 0,_=>ht.th i hi
 | h+1,hh=>by
  have ih:=zNg hf ht hi h (by omega)
  have hl:=zI5 hf ht hi (show h<c.hours.length by omega)
  have h4:=ht.la
  simp only [thickN,goT,layered,layX,thinned]
  split<;>constructor<;>simp only<;>omega
theorem go_worst (hf:zB4 c) (ht:zMx c t) {p:Int × Int} (hp:p∈goS c pl t c.hours.length):p∈zBQ c pl zBX:=by
 obtain ⟨i,h,hi,hh,hb,rfl⟩:=zOK.1 hp
 refine zDA.2 ⟨i,h,hi,hh,?_,rfl⟩
 have h1:=zNg hf ht (pl:=pl) hi h (by omega)
 have h2:=zI5 hf ht hi hh
 have h3:=(zJ5 hf).1 hb
 unfold zB0 zBX
 rw [decide_eq_true_eq];omega
theorem go_best (hf:zB4 c) (ht:zMx c t) {p:Int × Int} (hp:p∈zBQ c pl zEE):p∈goS c pl t c.hours.length:=by
 obtain ⟨i,h,hi,hh,hb,rfl⟩:=zDA.1 hp
 refine zOK.2 ⟨i,h,hi,hh,(zJ5 hf).2 ?_,rfl⟩
 have h1:=zNg hf ht (pl:=pl) hi h (by omega)
 have h2:=zI5 hf ht hi hh
 unfold zB0 zEE at hb
 rw [decide_eq_true_eq] at hb;omega
end
def endW (c:Cov):Tru:=⟨c.beds.map (·.thick.lo),c.hours.map (·.melt.hi),c.wear.hi,c.layer.lo⟩
theorem zKe {α:Type} {l:List α} {f:α→Int} {i:Nat} {d:α} (h:i<l.length):(l.map f).getD i 0=f (l.getD i d):=by
 rw [Flow.zAX (by simp;exact h),List.getElem_map,Flow.zAX h]
section
variable {c : Cov} {pl:List Sli}
theorem zOS (hf:zB4 c):zMx c (endW c):=by
 have h1:=hf.wear;have h2:=hf.layer
 simp only [zAn] at h1 h2
 refine ⟨by simp [endW],by simp [endW],fun i hi=>?_,fun h hh=>?_,⟨by simp only [endW];omega,Int.le_refl _⟩,⟨Int.le_refl _,by simp only [endW];omega⟩⟩
 ·have h3:=hf.bed (c.beds.getD i default) (by rw [Flow.zAX hi];exact List.getElem_mem _)
  simp only [zDX,Bool.and_eq_true,zAn] at h3
  simp only [endW,zKe (d:=default) hi];omega
 ·have h3:=hf.hour (c.hours.getD h default) (by rw [Flow.zAX hh];exact List.getElem_mem _)
  simp only [zCS,Bool.and_eq_true,zAn] at h3
  simp only [endW,zKe (d:=default) hh];omega
end
def ofS (s:Sp) (n:Int):Int:=s.lo+n % (s.hi - s.lo+1)
theorem ofS_in {s:Sp} {n:Int} (h:s.lo≤s.hi):s.lo≤ofS s n∧ofS s n≤s.hi:=by
 have:=mod_in (x:=n) (n:=s.hi - s.lo+1) (by omega)
 unfold ofS;omega
end Go.Proofs.YtdigopgncfhiaaaGreatDoor
namespace Go.Proofs.YtdigopgncfhiaaaGreatDoor
variable {ro : Option Nat}
open Go.RowKit
set_option maxRecDepth 20000
theorem e_neSp {w0:World} {n:Nat} {d:List Deferred} {R:List (Nat × Value)} {H:List Ent} {o:Oper} {x y:Operand} {a b:Int} {T':TypeId} (hop:o.op = .binOp .neq 28 x y T') (hx:evR R x=some (.agg #[.int .i64 a,.int .i64 b])) (hy:evR R y=some (.agg #[.int .i64 a,.int .i64 b])):Ev Tryz.prog w0 n d R H o (.bool false):=fun k w q=>by
 have e:=zIm a b a b w
 rw [show zDw ⟨a,b⟩ ⟨a,b⟩=true from zDP.2 ⟨rfl,rfl⟩] at e
 have g:=gd_sp .neq x y #[.int .i64 a,.int .i64 b] #[.int .i64 a,.int .i64 b] w
 unfold execOp;rw [hop]
 simp only [Sem.run_bind,q.ev hx,q.ev hy,g,Result.andThen_ok,e,Sem.run_pure]
 rfl
end Go.Proofs.YtdigopgncfhiaaaGreatDoor
namespace Go.Proofs.YtdigopgncfhiaaaGreatDoor
open Go.RowKit
theorem zPF {t:List St}:mark t 0=⟨0,0⟩:=by simp [mark,zk,zF5,List.extract_eq_take_drop]
theorem zPG {t:List St} {k:Nat} {s:St} (hs:t[k]?=some s):mark t (k+1)=zBs (mark t k) s.long:=by
 have e:(longs t)[k]?=some s.long:=by unfold longs;rw [List.getElem?_map,hs];rfl
 unfold mark zk
 rw [List.extract_eq_take_drop,List.extract_eq_take_drop,List.drop_zero,Nat.sub_zero,Nat.sub_zero,List.take_add_one,e]
 unfold zF5
 rw [List.foldl_append]
 rfl
def zF0 (t:List St) (ch:List Int):Nat→Int
 | 0=>0
 | k+1=>zF0 t ch k+ofS (t.getD k default).long (chW ch (20+k))
theorem zIL {t:List St} {ch:List Int} (ho:∀ s∈t,Okay s):∀ k,k≤t.length→(mark t k).lo≤zF0 t ch k∧zF0 t ch k≤(mark t k).hi∧0≤zF0 t ch k∧zF0 t ch k≤30000 * (k:Int)
 | 0,_=>by simp [zPF,zF0]
 | k+1,hk=>by
  obtain ⟨h1,h2,h3,h4⟩:=zIL (ch:=ch) ho k (by omega)
  obtain ⟨s,hs⟩:∃ s,t[k]?=some s:=⟨_,List.getElem?_eq_getElem (by omega)⟩
  have hok:=ho s (List.mem_of_getElem? hs)
  have o1:=hok.l0;have o2:=hok.l1;have o3:=hok.l2
  have h5:=ofS_in (s:=s.long) (n:=chW ch (20+k)) o2
  rw [zPG hs]
  simp only [zF0,zAh hs,zBs]
  omega
theorem place_so {t:List St} {ch:List Int} {p:Int} {k:Nat} (ho:∀ s∈t,Okay s) (hk:k≤t.length) (h1:zF0 t ch k≤p) (h2:k<t.length→p<zF0 t ch (k+1)):soAt (placeP (marks t) p) (marks t) k=true:=by
 have hm:∀ j,j≤t.length→(marks t)[j]?=some (mark t j):=fun j hj=>by
  unfold marks
  rw [List.getElem?_map,List.getElem?_range (by omega)];rfl
 have hl:=zFo t
 obtain ⟨a1,a2,a3,a4⟩:=zIL (ch:=ch) ho k hk
 unfold soAt
 rw [hm k hk]
 simp only [placeP,Bool.and_eq_true,Bool.or_eq_true,decide_eq_true_eq]
 refine ⟨by omega,?_⟩
 by_cases e:k=t.length
 ·exact .inl (by omega)
 ·refine .inr ?_
  have:=h2 (by omega)
  obtain ⟨b1,b2,_⟩:=zIL (ch:=ch) ho (k+1) (by omega)
  rw [hm (k+1) (by omega)]
  simp only [decide_eq_true_eq]
  omega
theorem zO2 {t:List St} {ch:List Int} {p:Int} {k:Nat} (hv:valid t=true) (hp:inB 0 360000 p=true) (hk:k≤t.length) (h1:zF0 t ch k≤p) (h2:k<t.length→p<zF0 t ch (k+1)):(k:Int)∈zB9 t p:=by
 unfold zB9
 rw [hv,hp]
 refine List.mem_map.2 ⟨k,List.mem_filter.2 ⟨List.mem_range.2 ?_,place_so (zC6 hv) hk h1 h2⟩,rfl⟩
 rw [zFo];omega
structure zFa (c d:Cov):Prop where
 wear:d.wear=c.wear
 layer:d.layer=c.layer
 limit:d.limit=c.limit
 base:d.base=c.base
 hours:d.hours=c.hours
 bl:d.beds.length=c.beds.length
 bed:∀ i,i<c.beds.length→(d.beds.getD i default).sun=(c.beds.getD i default).sun∧(c.beds.getD i default).thick.lo≤(d.beds.getD i default).thick.lo∧(d.beds.getD i default).thick.hi≤(c.beds.getD i default).thick.hi
section
variable {c d:Cov} {pl:List Sli}
theorem zHd (e:zFa c d) {i:Nat} (hi:i<c.beds.length) {u:Hour}:zBk d (d.beds.getD i default) u=zBk c (c.beds.getD i default) u:=by
 unfold zBk
 rw [e.wear,(e.bed i hi).1]
theorem zGS (e:zFa c d) {i:Nat} (hi:i<c.beds.length):∀ h,(thickN c pl (c.beds.getD i default) i h).lo≤(thickN d pl (d.beds.getD i default) i h).lo∧(thickN d pl (d.beds.getD i default) i h).hi≤(thickN c pl (c.beds.getD i default) i h).hi
 | 0=>(e.bed i hi).2
 | h+1=>by
  have ih:=zGS e hi h
  have hl:=zHd e hi (u:=c.hours.getD h default)
  simp only [thickN,layered,thinned,e.layer,e.hours,hl]
  split<;>constructor<;>simp only<;>omega
theorem zNJ (e:zFa c d) {p:Int × Int} (hp:p∈zBQ d pl zBX):p∈zBQ c pl zBX:=by
 obtain ⟨i,h,hi,hh,ht,rfl⟩:=zDA.1 hp
 rw [e.bl] at hi
 rw [e.hours] at hh
 refine zDA.2 ⟨i,h,hi,hh,?_,rfl⟩
 have h1:=zGS e (pl:=pl) hi h
 have h2:=zHd e hi (u:=c.hours.getD h default)
 unfold zB0 zCp zBX at ht ⊢
 rw [e.hours,e.limit,e.base,h2] at ht
 rw [decide_eq_true_eq] at ht ⊢
 omega
theorem zO9 (e:zFa c d) {p:Int × Int} (hp:p∈zBQ c pl zEE):p∈zBQ d pl zEE:=by
 obtain ⟨i,h,hi,hh,ht,rfl⟩:=zDA.1 hp
 refine zDA.2 ⟨i,h,by rw [e.bl];exact hi,by rw [e.hours];exact hh,?_,rfl⟩
 have h1:=zGS e (pl:=pl) hi h
 have h2:=zHd e hi (u:=c.hours.getD h default)
 unfold zB0 zCp zEE at ht ⊢
 rw [e.hours,e.limit,e.base,h2]
 rw [decide_eq_true_eq] at ht ⊢
 omega
theorem zLp (e:zFa c d) (hg:zB4 d) (h1:zCK c pl=0) (h2:zCK d pl=0):zEQ c pl=1∨zEQ d pl=zEQ c pl:=by
 have a1:(zBQ c pl zBX).length=0→(zBQ d pl zBX).length=0:=fun h=>by
  rw [List.length_eq_zero_iff] at h ⊢
  rw [List.eq_nil_iff_forall_not_mem] at h ⊢
  exact fun p hp=>h p (zNJ e hp)
 have a2:(zBQ d pl zEE).length=0→(zBQ c pl zEE).length=0:=fun h=>by
  rw [List.length_eq_zero_iff] at h ⊢
  rw [List.eq_nil_iff_forall_not_mem] at h ⊢
  exact fun p hp=>h p (zO9 e hp)
 have a3:(zBQ d pl zBX).length=0→(zBQ d pl zEE).length=0:=fun h=>by
  rw [List.length_eq_zero_iff] at h ⊢
  rw [List.eq_nil_iff_forall_not_mem] at h ⊢
  exact fun p hp=>h p (go_worst hg (zOS hg) (go_best hg (zOS hg) hp))
 unfold zEQ
 rw [if_pos h1,if_pos h2]
 by_cases b1:(zBQ c pl zBX).length=0
 ·rw [if_pos b1,if_pos (a1 b1)];exact .inr rfl
 ·rw [if_neg b1]
  by_cases b2:(zBQ c pl zEE).length=0
  ·rw [if_pos b2];exact .inl rfl
  ·have b3:=fun h=>b2 (a2 h)
   rw [if_neg b2,if_neg (fun h=>b3 (a3 h)),if_neg b3]
   exact .inr rfl
end
def zEI (c:Cov) (i:Nat) (th:Sp):Cov:={ c with beds:=c.beds.set i (zBE (c.beds.getD i default) th) }
theorem zNj {c:Cov} {i:Nat} {th:Sp} (hi:i<c.beds.length):zFa c (zEI c i th):=by
 refine ⟨rfl,rfl,rfl,rfl,rfl,by simp [zEI],fun j hj=>?_⟩
 have e:(zEI c i th).beds.getD j default=if i=j then zBE (c.beds.getD i default) th else c.beds.getD j default:=by
  unfold zEI
  simp only
  rw [List.getD_eq_getElem?_getD,List.getElem?_set]
  by_cases h:i=j
  ·subst h;simp [hi]
  ·simp [h]
 rw [e]
 by_cases h:i=j
 ·subst h
  rw [if_pos rfl]
  refine ⟨rfl,?_,?_⟩<;>simp only [zBE]<;>omega
 ·rw [if_neg h];exact ⟨rfl,Int.le_refl _,Int.le_refl _⟩
theorem zNl {c:Cov} {i:Nat} {th:Sp} (hf:zB4 c) (hi:i<c.beds.length) (h0:(zBE (c.beds.getD i default) th).thick.lo≤(zBE (c.beds.getD i default) th).thick.hi) (h1:0≤th.lo):zB4 (zEI c i th):=by
 refine ⟨fun z hz=>?_,hf.hour,hf.wear,hf.layer,hf.rate,hf.limit,hf.base,by simp only [zEI,List.length_set];exact hf.beds,hf.hours⟩
 rcases List.mem_or_eq_of_mem_set hz with h|rfl
 ·exact hf.bed z h
 ·have h2:=hf.bed (c.beds.getD i default) (by rw [Flow.zAX hi];exact List.getElem_mem _)
  simp only [zDX,Bool.and_eq_true,zAn,zAL,zBE] at h2 h0 ⊢
  omega
end Go.Proofs.YtdigopgncfhiaaaGreatDoor
namespace Go.Proofs.YtdigopgncfhiaaaGreatDoor
open Go.RowKit
set_option maxRecDepth 20000
theorem iof_any (s:Sp) (n:Int) (w:World) (h:s.lo≤s.hi) (h1:-100000≤s.lo) (h2:s.hi≤100000) (hn:0≤n∧n≤4294967295):Gv Tryz.prog 41 [.agg #[.int .i64 s.lo,.int .i64 s.hi],.int .i64 n] w (.int .i64 (ofS s n)):=by
 have h3:=mod_in (x:=n) (n:=s.hi - s.lo+1) (by omega)
 unfold ofS
 unfold Gv
 (refine zL (n:=16) Tryz.func41 rfl rfl rfl ?_)
 (repeat' (first|((with_reducible refine zG ?_);first|refine zC rfl rfl rfl rfl rfl ?_|(refine zt rfl rfl rfl rfl rfl rfl (fun b=>?_)))|(with_reducible first|refine zH ?_|refine zB ?_|refine zD ?_|refine zA ?_)))
 (refine zAy (by kernel_rfl) (by kernel_rfl) (by kernel_rfl) ?_)
 (repeat' (first|((with_reducible refine zBV ?_);first|refine zN (zAe rfl rfl) rfl rfl rfl ?_|refine zN (zAE rfl rfl (by exact rfl)) rfl rfl rfl ?_|refine zN (zAP rfl rfl) rfl rfl rfl ?_|refine zN (zBW rfl rfl) rfl rfl rfl ?_|refine zN (zE9 rfl rfl rfl (IntWalk.i64_in _ (by omega))) rfl rfl rfl ?_|refine zN (zFY rfl rfl rfl (IntWalk.i64_in _ (by omega))) rfl rfl rfl ?_|refine zN (zH6 rfl rfl rfl (by omega) (by omega)) rfl rfl rfl ?_)|(with_reducible refine zB6 ?_)))
 (repeat' (first|(with_reducible first|refine zA ?_|refine zc ?_)))
 exact zV (by (exact zO.cons (by exact zn.tmp rfl) zO.nil)) () trivial rfl (fun _ _=>Own.nil _ _)
end Go.Proofs.YtdigopgncfhiaaaGreatDoor
