/- E33 -/
import Derived.Test.YtdigopgncfhiaaaGreatDoorE25
import Derived.Test.YtdigopgncfhiaaaGreatDoorE29
import Derived.Test.YtdigopgncfhiaaaGreatDoorE10
set_option linter.unusedSimpArgs false
set_option linter.unusedVariables false
namespace Go.Proofs.YtdigopgncfhiaaaGreatDoor
open Go.RowKit
open Flow (lackF sumL)
set_option maxRecDepth 20000
theorem errI_ofF {c:Cov} (hv:valid c.t=true) (h:zB4 c):zAm c=0:=by
 have:zDW c=true:=zCJ.2 ⟨h.beds,h.hours,List.all_eq_true.2 fun z hz=>h.bed z hz,List.all_eq_true.2 fun z hz=>h.hour z hz,h.wear,h.layer,h.rate,h.limit,h.base⟩
 unfold zAm
 rw [if_pos hv,if_pos this]
theorem zPd {c:Cov} (h:zAm c=0):valid c.t=true:=by
 cases hv:valid c.t with
 | true=>rfl
 | false=>unfold zAm at h;rw [hv] at h;simp at h
def zBL (c:Cov) (k:Nat):Cov:={ c with hours:=c.hours.take k }
theorem zEn {c:Cov} {k:Nat} (hk:k≤c.hours.length):(zBL c k).hours.length=k:=by simp [zBL];omega
theorem zGf {c:Cov} {k:Nat} (h:Small c):Small (zBL c k):=⟨h.fit,h.t,h.b,by have:=h.h;simp [zBL];omega⟩
theorem zLf {c:Cov} {k:Nat} (h:zB4 c) (h1:1≤k) (h2:k≤c.hours.length):zB4 (zBL c k) :=
 ⟨h.bed,fun u hu=>h.hour u (List.mem_of_mem_take hu),h.wear,h.layer,h.rate,h.limit,h.base,h.beds,by
  have:=h.hours
  rw [zAL] at this ⊢
  rw [zEn h2];omega⟩
theorem zIV {c:Cov} {k:Nat} (h:zAm c=0) (h1:1≤k) (h2:k≤c.hours.length):zAm (zBL c k)=0:=errI_ofF (show valid (zBL c k).t=true from zPd (c:=c) h) (zLf (zBi h) h1 h2)
theorem zOf {c:Cov} {h k:Nat} (hk:h<k):(zBL c k).hours.getD h default=c.hours.getD h default:=by
 simp only [zBL,List.getD_eq_getElem?_getD,List.getElem?_take_of_lt hk]
theorem zEA {c:Cov} {z:Bed} {k:Nat}:∀ h,h≤k→needG (zBL c k) z h=needG c z h
 | 0,_=>rfl
 | h+1,hk=>by
  have ih:=zEA (c:=c) (z:=z) (k:=k) h (by omega)
  simp only [needG,ih,zOf (c:=c) (show h<k by omega)]
  rfl
theorem zMH {c:Cov} {k:Nat} (h:zAm c=0) (h1:1≤k) (h2:k≤c.hours.length):zKQ (zBL c k)=(c.beds.map fun z=>(needG c z k).2,0):=by
 unfold zKQ
 rw [if_pos (zIV h h1 h2)]
 unfold zAg
 rw [zEn h2,List.map_map]
 congr 1
 obtain ⟨m,rfl⟩:∃ m,k=m+1:=⟨k - 1,by omega⟩
 refine List.map_congr_left fun z _=>?_
 simp only [Function.comp_apply,zMI,zEA _ (Nat.le_refl _)]
theorem zJE {nd:Nat→Int} {my sm:Nat→Bool} (k:Nat):∀ d,(lackF nd my sm k).1≤(lackF nd my sm (k+d)).1
 | 0=>Int.le_refl _
 | d+1=>by
  have:=zJE (nd:=nd) (my:=my) (sm:=sm) k d
  show _≤(lackF nd my sm ((k+d)+1)).1
  simp only [lackF]
  omega
theorem zJD {nd nd':Nat→Int} {my my' sm sm':Nat→Bool}:∀ k,(∀ h,h<k→nd h=nd' h∧my h=my' h∧sm h=sm' h)→lackF nd my sm k=lackF nd' my' sm' k
 | 0,_=>rfl
 | k+1,h=>by
  have ih:=zJD (nd:=nd) (nd':=nd') (my:=my) (my':=my') (sm:=sm) (sm':=sm') k (fun i hi=>h i (by omega))
  obtain ⟨h1,h2,h3⟩:=h k (by omega)
  simp only [lackF,ih,h1,h2,h3]
theorem zHh {nd nd':Nat→Int} {my my' sm sm':Nat→Bool} {k:Nat} (h:∀ h,h<k→nd h=nd' h∧my h=my' h∧sm h=sm' h) (hk:nd k=nd' k):(lackF nd my sm (k+1)).1=(lackF nd' my' sm' (k+1)).1:=by
 simp only [lackF,zJD k h,hk]
theorem zDe {c:Cov} {i:Nat} (hi:i<c.beds.length) (j:Nat) (hj:j<c.hours.length):((zAg c).getD i []).getD j 0=(needG c (c.beds.getD i default) (j+1)).2:=by
 unfold zAg
 rw [getD_map (List.getElem?_eq_getElem hi),zAh (List.getElem?_eq_getElem hi)]
 unfold zBS
 rw [getD_map (List.getElem?_range hj)]
theorem zLE {c:Cov} {i:Nat} (hi:i<c.beds.length) (j:Nat):((zCx c).getD i []).getD j false=(c.hours.map (·.cold)).getD j false:=by
 unfold zCx
 rw [List.getD_eq_getElem?_getD (l:=List.replicate _ _),List.getElem?_replicate,if_pos hi];rfl
theorem zOC {c:Cov} {i:Nat} (hi:i<c.beds.length):((zAg c).getD i []).length=c.hours.length:=zGR _ (by
 rw [Flow.zAX (by rw [zBx];exact hi)];exact List.getElem_mem _)
theorem zNu {c:Cov} {h m:Nat} (hh:h<c.hours.length) (hm:m<2 ^ h) (hs:zCg c h m=true):zGb (zAg c) (zCx c) (zAF c)=false:=by
 have hl:(zAF c).length=c.hours.length:=by simp [zAF]
 refine List.all_eq_false.2 ⟨m,List.mem_range.2 ?_,?_⟩
 ·rw [hl];exact Nat.lt_of_lt_of_le hm (Nat.pow_le_pow_right (by omega) (by omega))
 ·unfold zCg at hs
  have hs:=of_decide_eq_true hs
  simp only [Bool.not_eq_true,Bool.not_eq_false',decide_eq_true_eq]
  refine Int.lt_of_lt_of_le hs ?_
  unfold zDS zHR
  have h1:zBn (zAF c) m (zAF c).length=zBn (zAF c) m h:=by
   rw [hl]
   have:=zKb (hs:=zAF c) hm (c.hours.length - h)
   rwa [show h+(c.hours.length - h)=c.hours.length by omega] at this
  rw [h1]
  refine Int.sub_le_sub_right (Flow.zBd fun i hi=>?_) _
  have hi2:i<c.beds.length:=by have:=List.mem_range.1 hi;rwa [zBx] at this
  rw [zOC hi2]
  have:=zJE (nd:=fun h=>((zAg c).getD i []).getD h 0) (my:=fun h=>((zCx c).getD i []).getD h false) (sm:=m.testBit) (h+1) (c.hours.length - (h+1))
  rw [show h+1+(c.hours.length - (h+1))=c.hours.length by omega] at this
  exact this
theorem zJx {c:Cov} (hf:zB4 c) (j:Nat):0≤(zAF c).getD j 0:=by
 rw [List.getD_eq_getElem?_getD]
 cases hg:(zAF c)[j]? with
 | none=>simp
 | some x =>
  obtain ⟨u,hu,rfl⟩:=List.mem_map.1 (List.mem_of_getElem? hg)
  have:=zFx hf u hu
  simp only [Option.getD_some]
  unfold zC2;split<;>omega
theorem zKp {c:Cov} (hf:zB4 c) (h0:0<c.hours.length) (h:∀ m,m<2 ^ (c.hours.length - 1)→zCg c (c.hours.length - 1) m=false):zGb (zAg c) (zCx c) (zAF c)=true:=by
 have hl:(zAF c).length=c.hours.length:=by simp [zAF]
 obtain ⟨k,hk⟩:∃ k,c.hours.length=k+1:=⟨c.hours.length - 1,by omega⟩
 rw [hk,Nat.add_sub_cancel] at h
 refine List.all_eq_true.2 fun M hM=>?_
 have hm:=h (M % 2 ^ k) (Nat.mod_lt _ (Nat.pow_pos (by omega)))
 unfold zCg at hm
 have hm:=of_decide_eq_false hm
 have key:zHR (zAg c) (zCx c) (zAF c) M≤zDS (zAg c) (zCx c) (zAF c) k (M % 2 ^ k):=by
  have hbit:∀ j,j<k→(M % 2 ^ k).testBit j=M.testBit j:=fun j hj=>by rw [Nat.testBit_mod_two_pow];simp [hj]
  unfold zDS zHR
  rw [hl,hk]
  have e1:Flow.sumL (List.range (zAg c).length) (fun i=>zCn (zAg c) (zCx c) M i ((zAg c).getD i []).length)=Flow.sumL (List.range (zAg c).length) (fun i=>zCn (zAg c) (zCx c) (M % 2 ^ k) i (k+1)):=Flow.zAM fun i hi=>by
   have hi2:i<c.beds.length:=by have:=List.mem_range.1 hi;rwa [zBx] at this
   rw [zOC hi2,hk]
   unfold zCn
   exact zHh (fun h hh=>⟨rfl,rfl,(hbit h hh).symm⟩) rfl
  have e2:zBn (zAF c) M (k+1)=zBn (zAF c) M k+(if M.testBit k then (zAF c).getD k 0 else 0):=Flow.zAV _ k
  have e3:zBn (zAF c) M k=zBn (zAF c) (M % 2 ^ k) k:=by
   unfold zBn
   exact zAM k fun j hj=>by rw [hbit j hj]
  have e4:=zJx hf k
  rw [e1,e2,e3]
  split<;>omega
 simp only [Bool.not_eq_true',decide_eq_false_iff_not]
 omega
theorem zPA {l:List (List Int)} (h:zGv l=none):l=[]:=by
 cases l with
 | nil=>rfl
 | cons s r=>cases h
theorem zIk {c:Cov} {h k:Nat} (e:zGv (zCe c h k)=none):∀ m,m<k→zCg c h m=false:=fun m hm=>by
 cases hb:zCg c h m with
 | false=>rfl
 | true =>
  have h1:=zPA e
  have:zDZ m h∈zCe c h k:=List.mem_map.2 ⟨m,List.mem_filter.2 ⟨List.mem_range.2 hm,hb⟩,rfl⟩
  rw [h1] at this;cases this
theorem zGq {c:Cov}:∀ n h,(shortF c n h=(0,[],6)∧∀ j,h≤j→j<h+n→zGv (zCe c j (2 ^ j))=none)∨∃ j l,h≤j∧j<h+n∧shortF c n h=((j:Int),l,0)∧zGv (zCe c j (2 ^ j))=some l∧∀ i,h≤i→i<j→zGv (zCe c i (2 ^ i))=none
 | 0,h=>.inl ⟨rfl,fun j h1 h2=>by omega⟩
 | n+1,h=>by
  cases e:zGv (zCe c h (2 ^ h)) with
  | some l=>exact .inr ⟨h,l,Nat.le_refl _,by omega,zHs e,e,fun i h1 h2=>by omega⟩
  | none =>
   rw [zHt e]
   rcases zGq (c:=c) n (h+1) with ⟨h1,h2⟩ | ⟨j,l,h1,h2,h3,h4,h5⟩
   ·refine .inl ⟨h1,fun j h3 h4=>?_⟩
    by_cases e2:j=h
    ·subst e2;exact e
    ·exact h2 j (by omega) (by omega)
   ·refine .inr ⟨j,l,by omega,by omega,h3,h4,fun i h6 h7=>?_⟩
    by_cases e2:i=h
    ·subst e2;exact e
    ·exact h5 i (by omega) h7
theorem zK7 {c:Cov} {k m:Nat} (hk:k+1≤c.hours.length):zCg (zBL c (k+1)) k m=zCg c k m:=by
 have hl:=zEn hk
 have e1:(zAg (zBL c (k+1))).length=(zAg c).length:=by rw [zBx,zBx];rfl
 unfold zCg zDS
 rw [e1]
 have e2:Flow.sumL (List.range (zAg c).length) (fun i=>zCn (zAg (zBL c (k+1))) (zCx (zBL c (k+1))) m i (k+1))=Flow.sumL (List.range (zAg c).length) (fun i=>zCn (zAg c) (zCx c) m i (k+1)):=Flow.zAM fun i hi=>by
  have hi2:i<c.beds.length:=by have:=List.mem_range.1 hi;rwa [zBx] at this
  unfold zCn
  refine zHh (fun h hh=>⟨?_,?_,rfl⟩) ?_
  ·rw [zDe (c:=zBL c (k+1)) hi2 h (by omega),zDe hi2 h (by omega),zEA _ (by omega)];rfl
  ·rw [zLE (c:=zBL c (k+1)) hi2,zLE hi2]
   simp only [zBL,List.map_take,List.getD_eq_getElem?_getD,List.getElem?_take_of_lt (show h<k+1 by omega)]
  ·rw [zDe (c:=zBL c (k+1)) hi2 k (by omega),zDe hi2 k (by omega),zEA _ (by omega)];rfl
 have e3:zBn (zAF (zBL c (k+1))) m k=zBn (zAF c) m k:=by
  unfold zBn
  refine zAM k fun j hj=>?_
  have:(zAF (zBL c (k+1))).getD j 0=(zAF c).getD j 0:=by
   simp only [zAF,zBL,List.map_take,List.getD_eq_getElem?_getD,List.getElem?_take_of_lt (show j<k+1 by omega)]
  rw [this]
 rw [e2,e3]
theorem zK5 {c:Cov} (h0:zAm c=0) (hh:0<c.hours.length):(zDR c=(0,[],6)∧(zDL c).2=0)∨∃ h m,h<c.hours.length∧m<2 ^ h∧zDR c=((h:Int),zDZ m h,0)∧(zDL c).2=8∧0<zDS (zAg c) (zCx c) (zAF c) h m∧(0<h→(zDL (zBL c h)).2=0):=by
 have hf:=zBi h0
 have e:zDR c=shortF c c.hours.length 0:=by unfold zDR;rw [if_pos h0]
 rw [e]
 rcases zGq (c:=c) c.hours.length 0 with ⟨h1,h2⟩ | ⟨h,l,_,h2,h3,h4,h5⟩
 ·refine .inl ⟨h1,?_⟩
  rw [zGs h0 (zKp hf hh fun m hm=>zIk (h2 (c.hours.length - 1) (Nat.zero_le _) (by omega)) m hm)]
 ·obtain ⟨m,hm,e2⟩:=List.mem_map.1 (minX_mem h4)
  obtain ⟨hm1,hm2⟩:=List.mem_filter.1 hm
  have hm1:=List.mem_range.1 hm1
  have hlt:h<c.hours.length:=by omega
  refine .inr ⟨h,m,hlt,hm1,by rw [h3,e2],by rw [zIx h0 (zNu hlt hm1 hm2)],of_decide_eq_true hm2,fun hp=>?_⟩
  have hl:=zEn (c:=c) (k:=h) (by omega)
  have hu:=zIV h0 (k:=h) (by omega) (by omega)
  rw [zGs hu (zKp (zBi hu) (by rw [hl];exact hp) fun m' hm'=>?_)]
  rw [hl] at hm' ⊢
  obtain ⟨k,rfl⟩:∃ k,h=k+1:=⟨h - 1,by omega⟩
  rw [Nat.add_sub_cancel] at hm' ⊢
  rw [zK7 (by omega)]
  exact zIk (h5 k (Nat.zero_le _) (by omega)) m' hm'
end Go.Proofs.YtdigopgncfhiaaaGreatDoor
namespace Go.Proofs.YtdigopgncfhiaaaGreatDoor
open Go.RowKit
open Flow (lackF sumL)
set_option maxRecDepth 20000
theorem zNR (c:Cov) (A:Option Addr) (ca:Nat) (B:Option Addr) (cb:Nat) (C:Option Addr) (cc k:Nat) (hk:k≤c.hours.length) (hcc:c.hours.length≤cc) (w:World) :
  Ret Tryz.prog 33 [zAI c A ca B cb C cc,.int .i64 (k:Int)] w (fun z:Option Addr=>zAI (zBL c k) A ca B cb z cc) (fun _=>[]) (fun z=>∀ W,zx zq 5 W C c.hours→zx zq 5 W z (c.hours.take k)):=by
 have e1:zAI c A ca B cb C cc = .agg (zJ c A ca B cb C cc).toArray:=rfl
 rw [e1]
 unfold zJ
 have hl:(c.hours.take k).length=k:=by rw [List.length_take];omega
 (refine zL (n:=11) Tryz.func33 rfl rfl rfl ?_)
 (repeat' (first|((with_reducible refine zG ?_);first|refine zE rfl rfl rfl rfl rfl ?_|(refine zK rfl rfl rfl rfl rfl ?_;refine ⟨_,rfl,?_⟩)|refine za rfl rfl rfl rfl rfl ?_|(refine u_slice 0 k rfl rfl rfl rfl rfl rfl rfl (by exact rfl) (by exact rfl) (by omega) (by omega) (fun A' hA1 hA2=>?_))|(refine ze rfl rfl rfl rfl rfl ?_;refine And.intro rfl (And.intro (by first|decide|exact Nat.le_of_ble_eq_true rfl|(simp;omega)) ⟨_,rfl,?_⟩))|(refine zm rfl rfl rfl rfl (fun b=>?_))|(refine zt rfl rfl rfl rfl rfl rfl (fun b=>?_)))|(with_reducible first|refine zH ?_|refine zB ?_|refine zD ?_|refine zA ?_|refine zc ?_)))
 exact zV (by (exact zO.cons (by exact res1c rfl (by exact rfl)) zO.nil)) A' (fun W hW=>by simpa using hA1 Hour zq c.hours W hW) (by simp only [zAI,zJ,zBL,hl];rfl) (fun _ h=>h.sub (by (repeat (first|exact oK1 _|(refine oK2 (by (repeat (first|exact tK1 _ _|apply tK2))) ?_)))))
def zHN (c:Cov) (l:List Int):Int:=sumL l fun x=>zC2 (c.hours.getD x.toNat default)
theorem zJ9 {c:Cov} {l:List Int} {x:Int}:zHN c (l++[x])=zHN c l+zC2 (c.hours.getD x.toNat default):=by
 unfold zHN;rw [Flow.zB5];simp [sumL]
theorem zLk {c:Cov} {m:Nat}:∀ h,h≤c.hours.length→zHN c (zDZ m h)=zBn (zAF c) m h
 | 0,_=>rfl
 | h+1,hh=>by
  have ih:=zLk (c:=c) (m:=m) h (by omega)
  have e2:zBn (zAF c) m (h+1)=zBn (zAF c) m h+(if m.testBit h then (zAF c).getD h 0 else 0):=Flow.zAV _ h
  have e3:(zAF c).getD h 0=zC2 (c.hours.getD h default):=by
   unfold zAF
   rw [getD_map (List.getElem?_eq_getElem (show h<c.hours.length by omega)),zAh (List.getElem?_eq_getElem (show h<c.hours.length by omega))]
  cases hb:m.testBit h with
  | true=>rw [zLn hb,zJ9,ih,e2,hb,if_pos rfl,e3];rfl
  | false=>rw [zN9 hb,ih,e2,hb];simp
theorem zN7 {c:Cov} (hf:zB4 c) (hcr:∀ u∈c.hours,0≤u.crew∧u.crew≤1000):∀ l:List Int,(∀ x∈l,x.toNat<c.hours.length)→0≤zHN c l∧zHN c l≤1000 * l.length
 | [],_=>by simp [zHN,sumL]
 | x::r,h=>by
  have h1:=zN7 hf hcr r (fun y hy=>h y (List.mem_cons_of_mem _ hy))
  have h2:=h x List.mem_cons_self
  have h3:=hcr (c.hours.getD x.toNat default) (by rw [zAh (List.getElem?_eq_getElem h2)];exact List.getElem_mem _)
  have e:zHN c (x::r)=zC2 (c.hours.getD x.toNat default)+zHN c r:=rfl
  have h4:0≤zC2 (c.hours.getD x.toNat default)∧zC2 (c.hours.getD x.toNat default)≤1000:=by unfold zC2;split<;>omega
  rw [e,List.length_cons]
  omega
theorem zLo {m h:Nat} {x:Int} (hx:x∈zDZ m h):∃ i:Nat,x=(i:Int)∧i<h∧m.testBit i=true:=by
 obtain ⟨i,hi,rfl⟩:=List.mem_map.1 hx
 obtain ⟨h1,h2⟩:=List.mem_filter.1 hi
 exact ⟨i,rfl,List.mem_range.1 h1,h2⟩
theorem setL_has {m h i:Nat} (hi:i<h):(zDZ m h).contains (i:Int)=m.testBit i:=by
 cases hb:m.testBit i with
 | true=>exact List.contains_iff_mem.2 (List.mem_map.2 ⟨i,List.mem_filter.2 ⟨List.mem_range.2 hi,hb⟩,rfl⟩)
 | false =>
  rw [Bool.eq_false_iff]
  intro h1
  obtain ⟨j,e,_,h2⟩:=zLo (List.contains_iff_mem.1 h1)
  have:i=j:=by omega
  subst this
  rw [hb] at h2;cases h2
theorem setL_up {m h:Nat}:(zDZ m h).Pairwise (· < ·):=by
 unfold zDZ
 rw [List.pairwise_map]
 exact (List.Pairwise.sublist List.filter_sublist List.pairwise_lt_range).imp fun h=>by omega
def zBz (c:Cov) (m k:Nat) (z:Bed):Int:=(lackF (fun j=>(needG c z (j+1)).2) (fun j=>(c.hours.map (·.cold)).getD j false) m.testBit k).1
def canZ (c:Cov) (m k:Nat):Int:=Flow.zFA (fun j=>(c.hours.map (·.cold)).getD j false) m.testBit k
theorem zJB {c:Cov} {m k:Nat} {z:Bed}:zBz c m (k+1) z=max (zBz c m k z) ((needG c z (k+1)).2 - canZ c m k):=by
 unfold zBz canZ
 rw [← Flow.zFr (nd:=fun j=>(needG c z (j+1)).2)]
 rfl
theorem zKo {c:Cov} {m k:Nat}:canZ c m (k+1)=canZ c m k+(if (c.hours.map (·.cold)).getD k false && !m.testBit k then 1 else 0):=Flow.zAV _ k
theorem zLX {c:Cov} {m:Nat}:∀ k,0≤canZ c m k∧canZ c m k≤k
 | 0=>by simp [canZ,Flow.zFA,sumL]
 | k+1=>by
  have:=zLX (c:=c) (m:=m) k
  rw [zKo];split<;>omega
def zET (c:Cov) (m k i:Nat):List Int:=(c.beds.take i).map (zBz c m (k+1))++(c.beds.drop i).map (zBz c m k)
theorem zNQ {c:Cov} {m k:Nat}:zET c m k 0=c.beds.map (zBz c m k):=by simp [zET]
theorem zPJ {c:Cov} {m k:Nat}:zET c m k c.beds.length=c.beds.map (zBz c m (k+1)):=by simp [zET]
theorem zPI {c:Cov} {m k i:Nat} (hi:i≤c.beds.length):(zET c m k i).length=c.beds.length:=by simp [zET];omega
theorem lackM_at {c:Cov} {m k i:Nat} {z:Bed} (hz:c.beds[i]?=some z):(zET c m k i)[i]?=some (zBz c m k z):=by
 have hi:=(List.getElem?_eq_some_iff.1 hz).1
 unfold zET
 rw [List.getElem?_append_right (by simp;omega),List.length_map,List.length_take,Nat.min_eq_left (by omega),Nat.sub_self,List.getElem?_map,List.getElem?_drop,Nat.add_zero,hz];rfl
theorem zPH {c:Cov} {m k i:Nat} {z:Bed} (hz:c.beds[i]?=some z):(zET c m k i).set i (zBz c m (k+1) z)=zET c m k (i+1):=by
 have hi:=(List.getElem?_eq_some_iff.1 hz).1
 have hzi:c.beds[i]=z:=by rw [List.getElem?_eq_getElem hi] at hz;exact Option.some.inj hz
 unfold zET
 rw [List.set_append_right _ _ (by simp;omega),List.length_map,List.length_take,Nat.min_eq_left (by omega),Nat.sub_self,List.drop_eq_getElem_cons hi,hzi,List.map_cons,List.set_cons_zero,List.take_add_one,hz]
 simp
theorem zG1 {c:Cov} {m:Nat} {z:Bed} (hf:zB4 c) (hz:z∈c.beds):∀ k,k≤c.hours.length→0≤zBz c m k z∧zBz c m k z≤2200+1650 * k
 | 0,_=>by simp [zBz,lackF]
 | k+1,hk=>by
  have h1:=zG1 (m:=m) hf hz k (by omega)
  have h2:=zFP hf hz (k+1) hk
  have h3:=zLX (c:=c) (m:=m) k
  rw [zJB];omega
theorem zN6 {c:Cov} {m k:Nat} (hf:zB4 c) (hk:k≤12) (hk2:k≤c.hours.length):∀ l:List Bed,(∀ z∈l,z∈c.beds)→0≤sumL l (zBz c m k)∧sumL l (zBz c m k)≤30000 * l.length
 | [],_=>by simp [sumL]
 | z::r,h=>by
  have h1:=zG1 (m:=m) hf (h z List.mem_cons_self) k hk2
  have h2:=zN6 (m:=m) hf hk hk2 r (fun x hx=>h x (List.mem_cons_of_mem _ hx))
  simp only [sumL,List.length_cons]
  omega
theorem shortI_Z {c:Cov} {h m:Nat} (hh:h<c.hours.length):zDS (zAg c) (zCx c) (zAF c) h m=sumL c.beds (zBz c m (h+1)) - zBn (zAF c) m h:=by
 unfold zDS
 congr 1
 rw [zBx]
 have key:∀ i,i≤c.beds.length→sumL (List.range i) (fun i=>zCn (zAg c) (zCx c) m i (h+1))=sumL (c.beds.take i) (zBz c m (h+1)):=by
  intro i
  induction i with
  | zero=>intro _;rfl
  | succ i ih =>
   intro hi
   rw [Flow.zAV,ih (by omega),List.take_add_one,List.getElem?_eq_getElem (by omega),Flow.zB5]
   congr 1
   simp only [Option.toList,sumL,Int.add_zero]
   unfold zCn zBz
   have e:=zAh (d:=(default:Bed)) (List.getElem?_eq_getElem (show i<c.beds.length by omega))
   refine zHh (fun j hj=>⟨?_,zLE (by omega) j,rfl⟩) ?_
   ·rw [zDe (by omega) j (by omega),e]
   ·rw [zDe (by omega) h (by omega),e]
 have:=key c.beds.length (Nat.le_refl _)
 rwa [List.take_length] at this
end Go.Proofs.YtdigopgncfhiaaaGreatDoor
namespace Go.Proofs.YtdigopgncfhiaaaGreatDoor
open Go.RowKit
open Flow (lackF sumL)
set_option maxRecDepth 20000
set_option maxHeartbeats 8000000 in
theorem zLM (c:Cov) (A:Option Addr) (ca:Nat) (B:Option Addr) (cb:Nat) (C:Option Addr) (cc:Nat) (w:World) (hc:zAk w c A B C) (hfit:zFb c.t) (hcc:c.hours.length≤cc) (hG:InC w 0 0 zCc) :
  Gv Tryz.prog 6 [zAI c A ca B cb C cc] w (.bool true):=by
 have hAl:=fun W (hW:Below w.heap.size w W)=>zGX W (hG.below hW)
 have hR:=fun W (hW:Below w.heap.size w W)=>zGW c A ca B cb C cc W (hc.below hW) hfit
 cases hr:zFM c
 ·rw [hr] at hR
  unfold zAI zJ at hR ⊢
  unfold Gv
  (refine zL (n:=204) Tryz.func6 rfl rfl rfl ?_)
  (repeat' (first|((with_reducible refine zG ?_);first|refine zE rfl rfl rfl rfl rfl ?_|refine zC rfl rfl rfl rfl rfl ?_|(refine zK rfl rfl rfl rfl rfl ?_;refine ⟨_,rfl,?_⟩)|refine zX rfl rfl rfl rfl rfl rfl (fun _ _ q=>hAl _ q.below) ?_|refine zX rfl rfl rfl rfl rfl rfl (fun _ _ q=>hR _ q.below) ?_|refine zAH rfl rfl rfl rfl rfl ?_|(refine zt rfl rfl rfl rfl rfl rfl (fun b=>?_)))|(with_reducible first|refine zH ?_|refine zB ?_|refine zD ?_|refine zA ?_|refine zc ?_|refine zS ?_|refine zY ?_)|((with_reducible refine zI ?_ ?_);(· exact rfl))|((with_reducible refine zF ?_ ?_);(· exact rfl))))
  all_goals exact zV (by (exact zO.cons (by exact zn.tmp rfl) zO.nil)) () trivial rfl (fun _ _=>Own.nil _ _)
 rw [hr] at hR
 have hs:=zEw hr hfit
 have h0:=(zEx.1 hr).2
 have hf:=zBi h0
 have h4:=hs.b;have h5:=hs.h
 have hh1:=hf.hours
 rw [zAL] at hh1
 have hb:=hc.b;have hh:=hc.h
 have hS:=fun W (hW:Below w.heap.size w W)=>zJN c A ca B cb C cc W (hc.below hW) hs (hG.below hW)
 have hP:=fun W (hW:Below w.heap.size w W)=>zHj c A ca B cb C cc W (hc.below hW) hs (hG.below hW)
 rcases zK5 h0 (by omega) with ⟨e1,e2⟩ | ⟨kh,m,hh2,hm,e1,e2,e3,e4⟩
 ·rw [e1] at hS
  rw [e2] at hP
  unfold zAI at hR hS hP ⊢
  unfold zJ at hR hS hP ⊢
  unfold Gv
  (refine zL (n:=204) Tryz.func6 rfl rfl rfl ?_)
  (repeat' (first|((with_reducible refine zG ?_);first|refine zE rfl rfl rfl rfl rfl ?_|refine zC rfl rfl rfl rfl rfl ?_|(refine zK rfl rfl rfl rfl rfl ?_;refine ⟨_,rfl,?_⟩)|refine zz rfl rfl rfl rfl rfl rfl ?_|(refine zU rfl rfl rfl rfl rfl rfl rfl (fun h=>?_) (fun h=>?_)<;>(dsimp only [cmpP] at h;(try (exfalso;omega))))|refine zX rfl rfl rfl rfl rfl rfl (fun _ _ q=>hAl _ q.below) ?_|refine zX rfl rfl rfl rfl rfl rfl (fun _ _ q=>hR _ q.below) ?_|(refine zB8 rfl rfl rfl rfl rfl rfl (fun _ _ q=>hS _ q.below) (fun N1 nc1=>?_))|(refine zAN rfl rfl rfl rfl rfl rfl (fun _ _ q=>hP _ q.below) ?_;rintro ⟨⟨P1,pc1⟩,pl1⟩ -;dsimp only [List.cons_append,List.nil_append])|refine zd rfl rfl rfl rfl rfl rfl ?_|refine zAH rfl rfl rfl rfl rfl ?_|refine zp rfl rfl rfl rfl rfl ?_|(refine zt rfl rfl rfl rfl rfl rfl (fun b=>?_)))|(with_reducible first|refine zH ?_|refine zB ?_|refine zD ?_|refine zA ?_|refine zc ?_|refine zS ?_|refine zY ?_)|((with_reducible refine zI ?_ ?_);(· exact rfl))|((with_reducible refine zF ?_ ?_);(· exact rfl))))
  all_goals first|exact zV (by (exact zO.cons (by exact zn.tmp rfl) zO.nil)) () trivial rfl (fun _ _=>Own.nil _ _)|exact absurd rfl h
 ·rw [e1] at hS
  rw [e2] at hP
  rw [shortI_Z hh2] at e3
  obtain ⟨bc,oc,rfl,_,_⟩:=hh.at_ (i:=0) (by omega)
  have:InS w bc oc zq 5 c.hours:=⟨hh⟩
  have hU:=fun W (k:Nat) (hk:k≤c.hours.length)=>zNR c A ca B cb (some ⟨bc,oc,none⟩) cc k hk hcc W
  have hP2:=fun W (hW:Below w.heap.size w W) (hp:0<kh) z (hz:∀ W,zx zq 5 W (some ⟨bc,oc,none⟩) c.hours→zx zq 5 W z (c.hours.take kh))=>zHj (zBL c kh) A ca B cb z cc W ⟨hc.t.below hW,hc.b.below hW,hz W (hc.h.below hW)⟩ (zGf hs) (hG.below hW)
  have hN:=fun W (hW:Below w.heap.size w W) (k:Nat) (h1:1≤k) (h2:k≤c.hours.length) z (hz:∀ W,zx zq 5 W (some ⟨bc,oc,none⟩) c.hours→zx zq 5 W z (c.hours.take k))=>zKZ (zBL c k) A ca B cb z cc W ⟨hc.t.below hW,hc.b.below hW,hz W (hc.h.below hW)⟩ (zGf hs) (hG.below hW)
  have hl12:(zDZ m kh).length≤12:=by have:=zIl m kh;omega
  have hmem:=fun x (hx:x∈zDZ m kh)=>zLo hx
  have hup:=setL_up (m:=m) (h:=kh)
  have hsm:=zLk (c:=c) (m:=m) kh (by omega)
  have hhas:=fun i (hi:i<kh)=>setL_has (m:=m) hi
  rw [← hsm] at e3
  have hmh:m.testBit kh=false:=Nat.testBit_lt_two_pow hm
  generalize hsl:zDZ m kh=l at *
  unfold zAI at hR hS hP hU hP2 hN ⊢
  unfold zJ at hR hS hP hU hP2 hN ⊢
  unfold Gv
  (refine zL (n:=204) Tryz.func6 rfl rfl rfl ?_)
  (repeat' (first|((with_reducible refine zG ?_);first|refine zE rfl rfl rfl rfl rfl ?_|refine zC rfl rfl rfl rfl rfl ?_|(refine zK rfl rfl rfl rfl rfl ?_;refine ⟨_,rfl,?_⟩)|refine za rfl rfl rfl rfl rfl ?_|refine zz rfl rfl rfl rfl rfl rfl ?_|(refine zU rfl rfl rfl rfl rfl rfl rfl (fun h=>?_) (fun h=>?_)<;>(dsimp only [cmpP] at h;(try (exfalso;omega))))|refine zX rfl rfl rfl rfl rfl rfl (fun _ _ q=>hAl _ q.below) ?_|refine zX rfl rfl rfl rfl rfl rfl (fun _ _ q=>hR _ q.below) ?_|(refine zB8 rfl rfl rfl rfl rfl rfl (fun _ _ q=>hS _ q.below) (fun N1 nc1=>?_))|(refine zAN rfl rfl rfl rfl rfl rfl (fun _ _ q=>hP _ q.below) ?_;rintro ⟨⟨P1,pc1⟩,pl1⟩ -;dsimp only [List.cons_append,List.nil_append])|refine zd rfl rfl rfl rfl rfl rfl ?_|refine zAH rfl rfl rfl rfl rfl ?_|refine zp rfl rfl rfl rfl rfl ?_|(refine zt rfl rfl rfl rfl rfl rfl (fun b=>?_)))|(with_reducible first|refine zH ?_|refine zB ?_|refine zD ?_|refine zA ?_|refine zS ?_|refine zQ ?_)|((with_reducible refine zI ?_ ?_);(· exact rfl))|((with_reducible refine zF ?_ ?_);(· exact rfl))))
  all_goals try (
   rename_i hp
   have hp0:0<kh:=by omega
   have hP3:=fun W hW z hz=>hP2 W hW hp0 z hz
   rw [e4 hp0] at hP3
   (repeat' (first|((with_reducible refine zG ?_);first|refine zE rfl rfl rfl rfl rfl ?_|refine zC rfl rfl rfl rfl rfl ?_|(refine zU rfl rfl rfl rfl rfl rfl rfl (fun h=>?_) (fun h=>?_)<;>(dsimp only [cmpP] at h;(try (exfalso;omega))))|(refine zAN rfl rfl rfl rfl rfl rfl (fun _ _ q=>hU _ kh (by omega)) ?_;rintro z hz;dsimp only [List.cons_append,List.nil_append])|(refine zAN rfl rfl rfl rfl rfl rfl (fun _ _ q=>hP3 _ q.below _ (by assumption)) ?_;rintro ⟨⟨P2,pc2⟩,pl2⟩ -;dsimp only [List.cons_append,List.nil_append])|refine zd rfl rfl rfl rfl rfl rfl ?_|refine zp rfl rfl rfl rfl rfl ?_)|(with_reducible first|refine zH ?_|refine zB ?_|refine zD ?_|refine zA ?_|refine zS ?_|refine zQ ?_)|((with_reducible refine zF ?_ ?_);(· exact rfl)))))
  all_goals
   obtain ⟨b1,hb1⟩:∃ x,x=b:=⟨_,rfl⟩
   subst hb1
   refine zw (ι:=Nat) [1,3,4,5,85,86] rfl (fun j=>j≤l.length) (fun j=>[(87,.int .i64 (j:Int)),(11,.int .i64 (zHN c (l.take j)))]) (fun _=>[.sl encI 1 N1 l,.blk b1 (zJ c A ca B cb (some ⟨bc,oc,none⟩) cc)]) (fun j=>l.length - j) 0 (Nat.zero_le _) (by (first|exact lK1|(repeat (first|exact lK1|(refine zM rfl ?_))))) (by (repeat (first|exact oK1 _|(refine oK2 (by (repeat (first|exact tK1 _ _|apply tK2))) ?_)))) ?_
   rintro j hj
   simp only [zAx,zJ,List.cons_append,List.nil_append]
   by_cases hjl:j<l.length
   ·obtain ⟨x,hx⟩:∃ x,l[j]?=some x:=⟨_,List.getElem?_eq_getElem hjl⟩
    obtain ⟨i,rfl,hi,hbit⟩:=hmem x (List.mem_of_getElem? hx)
    have:zAU l j (i:Int):=⟨hx⟩
    obtain ⟨u,hu⟩:∃ u,c.hours[i]?=some u:=⟨_,List.getElem?_eq_getElem (by omega)⟩
    have:zAU c.hours i u:=⟨hu⟩
    have hcru:=zFx hf u (List.mem_of_getElem? hu)
    have hin:=zN7 hf (zFx hf) (l.take j) (fun x hx=>by obtain ⟨i2,e,h1,_⟩:=hmem x (List.mem_of_mem_take hx);omega)
    have htl:(l.take j).length≤12:=by rw [List.length_take];omega
    have es:zHN c (l.take (j+1))=zHN c (l.take j)+zC2 u:=by
     rw [List.take_add_one,hx]
     have:=zJ9 (c:=c) (l:=l.take j) (x:=(i:Int))
     rw [Int.toNat_natCast,zAh hu] at this
     exact this
    refine zGg (enc:=encI) (A:=N1) (by (repeat (first|exact tK1 _ _|apply tK2))) (by omega) ?_
    rintro b9 o9 rfl
    obtain ⟨y,hy,hyi⟩:∃ y,(0<j→l[j - 1]?=some y)∧(0<j→y<(i:Int)):=by
     by_cases hj0:0<j
     ·refine ⟨l[j - 1],fun _=>List.getElem?_eq_getElem (by omega),fun _=>?_⟩
      have h1:=List.pairwise_iff_getElem.1 hup (j - 1) j (by omega) hjl (by omega)
      have h2:l[j]=(i:Int):=by rw [List.getElem?_eq_getElem hjl] at hx;exact Option.some.inj hx
      omega
     ·exact ⟨0,fun h=>absurd h hj0,fun h=>absurd h hj0⟩
    have hgl:0<j→zAU l (j - 1) y:=fun h=>⟨hy h⟩
    obtain ⟨um,ur,uc,ud⟩:=u
    simp only [zC2] at es hcru
    cases ud with
    | false =>
     by_cases hj0:0<j
     ·have:=hgl hj0
      have hyi2:=hyi hj0
      (repeat' (first|((with_reducible refine zG ?_);first|refine zE rfl rfl rfl rfl rfl ?_|refine zC rfl rfl rfl rfl rfl ?_|(refine zK rfl rfl rfl rfl rfl ?_;refine ⟨_,rfl,?_⟩)|refine za rfl rfl rfl rfl rfl ?_|refine zz rfl rfl rfl rfl rfl rfl ?_|(refine zU rfl rfl rfl rfl rfl rfl rfl (fun h=>?_) (fun h=>?_)<;>(dsimp only [cmpP] at h;(try (exfalso;omega))))|refine zb (I:=j - 1) rfl rfl rfl rfl rfl rfl (by omega) (by omega) ?_|refine zf rfl rfl rfl rfl rfl rfl (by omega) ?_|refine zCY rfl rfl rfl rfl rfl rfl (IntWalk.i64_in _ (by omega)) ?_|refine zb rfl rfl rfl rfl rfl rfl rfl (by omega) ?_)|(with_reducible first|refine zH ?_|refine zB ?_|refine zD ?_|refine zA ?_|refine zS ?_|refine zQ ?_|refine zh ?_)|((with_reducible refine zI ?_ ?_);(· exact rfl))|((with_reducible refine zF ?_ ?_);(· exact rfl))))
      all_goals exact zi (ι:=Nat) (j+1) (by omega) (by omega) (by rw [es];simp only [Bool.false_eq_true,if_false,Int.add_zero];(first|exact lK1|(repeat (first|exact lK1|(refine zM rfl ?_))))) (by (repeat (first|exact oK1 _|(refine oK2 (by (repeat (first|exact tK1 _ _|apply tK2))) ?_))))
     ·(repeat' (first|((with_reducible refine zG ?_);first|refine zE rfl rfl rfl rfl rfl ?_|refine zC rfl rfl rfl rfl rfl ?_|(refine zK rfl rfl rfl rfl rfl ?_;refine ⟨_,rfl,?_⟩)|refine za rfl rfl rfl rfl rfl ?_|refine zz rfl rfl rfl rfl rfl rfl ?_|refine zg rfl rfl rfl ?_|(refine zU rfl rfl rfl rfl rfl rfl rfl (fun h=>?_) (fun h=>?_)<;>(dsimp only [cmpP] at h;(try (exfalso;omega))))|refine zf rfl rfl rfl rfl rfl rfl (by omega) ?_|refine zb rfl rfl rfl rfl rfl rfl rfl (by omega) ?_)|(with_reducible first|refine zH ?_|refine zB ?_|refine zD ?_|refine zA ?_|refine zS ?_|refine zQ ?_|refine zh ?_)|((with_reducible refine zI ?_ ?_);(· exact rfl))|((with_reducible refine zF ?_ ?_);(· exact rfl))))
      all_goals exact zi (ι:=Nat) (j+1) (by omega) (by omega) (by rw [es];simp only [Bool.false_eq_true,if_false,Int.add_zero];(first|exact lK1|(repeat (first|exact lK1|(refine zM rfl ?_))))) (by (repeat (first|exact oK1 _|(refine oK2 (by (repeat (first|exact tK1 _ _|apply tK2))) ?_))))
    | true =>
     have hcr2:(⟨um,ur,uc,true⟩:Hour).crew≤1000∧0≤(⟨um,ur,uc,true⟩:Hour).crew:=⟨hcru.2,hcru.1⟩
     by_cases hj0:0<j
     ·have:=hgl hj0
      have hyi2:=hyi hj0
      (repeat' (first|((with_reducible refine zG ?_);first|refine zE rfl rfl rfl rfl rfl ?_|refine zC rfl rfl rfl rfl rfl ?_|(refine zK rfl rfl rfl rfl rfl ?_;refine ⟨_,rfl,?_⟩)|refine za rfl rfl rfl rfl rfl ?_|refine zz rfl rfl rfl rfl rfl rfl ?_|(refine zU rfl rfl rfl rfl rfl rfl rfl (fun h=>?_) (fun h=>?_)<;>(dsimp only [cmpP] at h;(try (exfalso;omega))))|refine zb (I:=j - 1) rfl rfl rfl rfl rfl rfl (by omega) (by omega) ?_|refine zf rfl rfl rfl rfl rfl rfl (by omega) ?_|refine zA2 rfl rfl rfl rfl rfl rfl (IntWalk.i64_in _ (by omega)) ?_|refine zCY rfl rfl rfl rfl rfl rfl (IntWalk.i64_in _ (by omega)) ?_|refine zb rfl rfl rfl rfl rfl rfl rfl (by omega) ?_)|(with_reducible first|refine zH ?_|refine zB ?_|refine zD ?_|refine zA ?_|refine zS ?_|refine zQ ?_|refine zh ?_)|((with_reducible refine zI ?_ ?_);(· exact rfl))|((with_reducible refine zF ?_ ?_);(· exact rfl))))
      all_goals exact zi (ι:=Nat) (j+1) (by omega) (by omega) (by rw [es];simp only [if_true];(first|exact lK1|(repeat (first|exact lK1|(refine zM rfl ?_))))) (by (repeat (first|exact oK1 _|(refine oK2 (by (repeat (first|exact tK1 _ _|apply tK2))) ?_))))
     ·(repeat' (first|((with_reducible refine zG ?_);first|refine zE rfl rfl rfl rfl rfl ?_|refine zC rfl rfl rfl rfl rfl ?_|(refine zK rfl rfl rfl rfl rfl ?_;refine ⟨_,rfl,?_⟩)|refine za rfl rfl rfl rfl rfl ?_|refine zz rfl rfl rfl rfl rfl rfl ?_|refine zg rfl rfl rfl ?_|(refine zU rfl rfl rfl rfl rfl rfl rfl (fun h=>?_) (fun h=>?_)<;>(dsimp only [cmpP] at h;(try (exfalso;omega))))|refine zf rfl rfl rfl rfl rfl rfl (by omega) ?_|refine zA2 rfl rfl rfl rfl rfl rfl (IntWalk.i64_in _ (by omega)) ?_|refine zb rfl rfl rfl rfl rfl rfl rfl (by omega) ?_)|(with_reducible first|refine zH ?_|refine zB ?_|refine zD ?_|refine zA ?_|refine zS ?_|refine zQ ?_|refine zh ?_)|((with_reducible refine zI ?_ ?_);(· exact rfl))|((with_reducible refine zF ?_ ?_);(· exact rfl))))
      all_goals exact zi (ι:=Nat) (j+1) (by omega) (by omega) (by rw [es];simp only [if_true];(first|exact lK1|(repeat (first|exact lK1|(refine zM rfl ?_))))) (by (repeat (first|exact oK1 _|(refine oK2 (by (repeat (first|exact tK1 _ _|apply tK2))) ?_))))
   ·obtain rfl:j=l.length:=by omega
    rw [List.take_length]
    generalize zHN c l=sh at *
    have ez:c.beds.map (zBz c m 0)=List.replicate c.beds.length 0:=List.map_eq_replicate_iff.2 fun z _=>rfl
    (repeat' (first|((with_reducible refine zG ?_);first|refine zC rfl rfl rfl rfl rfl ?_|(refine zK rfl rfl rfl rfl rfl ?_;refine ⟨_,rfl,?_⟩)|refine za rfl rfl rfl rfl rfl ?_|(refine zU rfl rfl rfl rfl rfl rfl rfl (fun h=>?_) (fun h=>?_)<;>(dsimp only [cmpP] at h;(try (exfalso;omega))))|refine u_makeR (enc:=encI) (0:Int) (n0:=c.beds.length) rfl rfl rfl rfl rfl rfl rfl rfl rfl rfl rfl rfl (by omega) (fun gr=>?_)|refine zp rfl rfl rfl rfl rfl ?_)|(with_reducible first|refine zH ?_|refine zB ?_|refine zD ?_|refine zA ?_|refine zQ ?_|refine zj ?_|refine zR ?_|refine zW ?_)|((with_reducible refine zF ?_ ?_);(· exact rfl))))
    rw [← ez]
    refine zw (ι:=Nat) [1,3,4,5,11,14] rfl (fun y=>y≤kh+1) (fun y=>[(16,.int .i64 (y:Int)),(15,.int .i64 (canZ c m y))]) (fun y=>[.row encI 1 3 (.slice (some ⟨gr,0,none⟩) c.beds.length c.beds.length) (c.beds.map (zBz c m y)),.sl encI 1 N1 l,.blk b1 (zJ c A ca B cb (some ⟨bc,oc,none⟩) cc)]) (fun y=>kh+1 - y) 0 (Nat.zero_le _) (by (first|exact lK1|(repeat (first|exact lK1|(refine zM rfl ?_))))) (by (repeat (first|exact oK1 _|(refine oK2 (by (repeat (first|exact tK1 _ _|apply tK2))) ?_)))) ?_
    rintro y hy
    simp only [zAx,zJ,List.cons_append,List.nil_append]
    by_cases hyl:y<kh+1
    ·have eN:=zMH h0 (k:=y+1) (by omega) (by omega)
     have hN2:=fun W hW z hz=>hN W hW (y+1) (by omega) (by omega) z hz
     simp only [eN] at hN2
     have hnat:∀ (i:Nat) (z:Bed),c.beds[i]?=some z→(c.beds.map fun z=>(needG c z (y+1)).2)[i]?=some (needG c z (y+1)).2:=fun i z hz=>by rw [List.getElem?_map,hz];rfl
     have hndl:(c.beds.map fun z=>(needG c z (y+1)).2).length=c.beds.length:=by simp
     generalize (c.beds.map fun z=>(needG c z (y+1)).2)=nd at *
     have hcz:=zLX (c:=c) (m:=m) y
     (repeat' (first|((with_reducible refine zG ?_);first|refine zE rfl rfl rfl rfl rfl ?_|refine zC rfl rfl rfl rfl rfl ?_|(refine zK rfl rfl rfl rfl rfl ?_;refine ⟨_,rfl,?_⟩)|refine za rfl rfl rfl rfl rfl ?_|refine zz rfl rfl rfl rfl rfl rfl ?_|(refine zU rfl rfl rfl rfl rfl rfl rfl (fun h=>?_) (fun h=>?_)<;>(dsimp only [cmpP] at h;(try (exfalso;omega))))|(refine zAN rfl rfl rfl rfl rfl rfl (fun _ _ q=>hU _ (y+1) (by omega)) ?_;rintro z hz;dsimp only [List.cons_append,List.nil_append])|(refine zB8 rfl rfl rfl rfl rfl rfl (fun _ _ q=>hN2 _ q.below _ (by assumption)) (fun N2 nc2=>?_))|refine zd rfl rfl rfl rfl rfl rfl ?_|refine zf rfl rfl rfl rfl rfl rfl (by omega) ?_|refine zp rfl rfl rfl rfl rfl ?_)|(with_reducible first|refine zH ?_|refine zB ?_|refine zD ?_|refine zA ?_|refine zS ?_|refine zQ ?_)|((with_reducible refine zI ?_ ?_);(· exact rfl))|((with_reducible refine zF ?_ ?_);(· exact rfl))))
     refine zw (ι:=Nat) [1,3,4,5,11,14,15,16,17,154,155] rfl (fun i=>i≤c.beds.length) (fun i=>[(156,.int .i64 (i:Int))]) (fun i=>[.row encI 1 3 (.slice (some ⟨gr,0,none⟩) c.beds.length c.beds.length) (zET c m y i),.sl encI 1 N2 nd,.sl encI 1 N1 l,.blk b1 (zJ c A ca B cb (some ⟨bc,oc,none⟩) cc)]) (fun i=>c.beds.length - i) 0 (Nat.zero_le _) (by (first|exact lK1|(repeat (first|exact lK1|(refine zM rfl ?_))))) (by rw [zNQ];(repeat (first|exact oK1 _|(refine oK2 (by (repeat (first|exact tK1 _ _|apply tK2))) ?_)))) ?_
     rintro i hi
     simp only [zAx,zJ,List.cons_append,List.nil_append]
     by_cases hil:i<c.beds.length
     ·obtain ⟨z9,hz9⟩:∃ z,c.beds[i]?=some z:=⟨_,List.getElem?_eq_getElem hil⟩
      have:zAU (zET c m y i) i (zBz c m y z9):=⟨lackM_at hz9⟩
      have:zAU nd i (needG c z9 (y+1)).2:=⟨hnat i z9 hz9⟩
      have hb1:=zG1 (m:=m) hf (List.mem_of_getElem? hz9) y (by omega)
      have hb2:=zFP hf (List.mem_of_getElem? hz9) (y+1) (by omega)
      have hml:=zPI (c:=c) (m:=m) (k:=y) hi
      have hset:=zPH (m:=m) (k:=y) hz9
      rw [zJB] at hset
      refine zGg (enc:=encI) (A:=N2) (by (repeat (first|exact tK1 _ _|apply tK2))) (by omega) ?_
      rintro b8 o8 rfl
      (repeat' (first|((with_reducible refine zG ?_);first|refine zE rfl rfl rfl rfl rfl ?_|refine zC rfl rfl rfl rfl rfl ?_|(refine zU rfl rfl rfl rfl rfl rfl rfl (fun h=>?_) (fun h=>?_)<;>(dsimp only [cmpP] at h;(try (exfalso;omega)))))|(with_reducible first|refine zH ?_|refine zB ?_|refine zD ?_|refine zA ?_|refine zS ?_|refine zQ ?_)|((with_reducible refine zI ?_ ?_);(· exact rfl))))
      (refine Two.zA8 [] [] [] rfl (show ([]:List Nat).Nodup by decide) (fun _ h=>h) (by kernel_rfl) [[],[Y],[Y,Y],[Y,Y,Y],[Z,Z,Y,Y],[Z,Z,Z,Y,Y],[Y,Y,Y,Y,Y,Y],[Y,Y,Y,Y,Y,Y,Y],[Z,Z,Y,Y,Y,Y,Y,Y],[Z,Z,Z,Y,Y,Y,Y,Y,Y],[Y,Y,Y,Y,Y,Y,Y,Y,Y,Y],[Z,Z,Z,Z,Z,Y,Y,Y,Y,Y,Y],[Z,Z,Z,Z,Z,Z,Z,Z,Z,Z,Y,Y],[Z,Z,Z,Z,Z,Z,Z,Z,Z,Z,Z,Z,Z],[Z,Z,Z,Z,Z,Z,Z,Z,Z,Z,Z,Z,Z,Z]] (by kernel_rfl) (by kernel_rfl) (by kernel_rfl) (by kernel_rfl) (by kernel_rfl) ?_)
      (repeat' (first|(((with_reducible refine Two.zDz ?_ ?_);(· exact rfl);refine ⟨_,fun G=>(by (try simp (decide:=true) only [Two.vis,Two.see,fltT,zAT,Nat.reduceAdd,Nat.reduceSub,if_true,if_false,List.set_cons_zero,List.set_cons_succ,List.set_nil,List.nil_append,List.cons_append]);rfl),?_⟩);first|refine Two.zo _ (fun _=>zAe rfl rfl) (fun _=>rfl) rfl (by first|exact fun _ _ _=>rfl|(intro G G' h;simp (decide:=true) only [h])) ?_|refine Two.zo _ (fun _=>zAE rfl rfl (by exact rfl)) (fun _=>rfl) rfl (by first|exact fun _ _ _=>rfl|(intro G G' h;simp (decide:=true) only [h])) ?_|refine Two.zo _ (fun _=>zFY rfl rfl rfl (IntWalk.i64_in _ (by omega))) (fun _=>rfl) rfl (by first|exact fun _ _ _=>rfl|(intro G G' h;simp (decide:=true) only [h])) ?_|refine Two.zo _ (fun _=>zAQ rfl rfl rfl rfl (by omega)) (fun _=>rfl) rfl (by first|exact fun _ _ _=>rfl|(intro G G' h;simp (decide:=true) only [h])) ?_|refine Two.zo _ (fun _=>zGE rfl rfl rfl) (fun _=>rfl) rfl (by first|exact fun _ _ _=>rfl|(intro G G' h;simp (decide:=true) only [h])) ?_)|((with_reducible refine Two.zCL ?_ ?_);(· exact rfl))))
      (intro G;simp only [regsT,zAT,Two.zBw,Two.ini,List.nil_append,List.cons_append])
      (repeat' (first|((with_reducible refine zG ?_);first|refine zE rfl rfl rfl rfl rfl ?_|refine zCr (enc:=encI) (i:=i) (max (zBz c m y z9) ((needG c z9 (y+1)).2 - canZ c m y)) rfl rfl rfl rfl rfl rfl rfl rfl (by omega) ?_|refine zf rfl rfl rfl rfl rfl rfl (by omega) ?_)|(with_reducible first|refine zB ?_|refine zD ?_|refine zA ?_|refine zh ?_)))
      rw [hset]
      exact zi (ι:=Nat) (i+1) (by omega) (by omega) (by (first|exact lK1|(repeat (first|exact lK1|(refine zM rfl ?_))))) (by (repeat (first|exact oK1 _|(refine oK2 (by (repeat (first|exact tK1 _ _|apply tK2))) ?_))))
     ·obtain rfl:i=c.beds.length:=by omega
      rw [zPJ]
      obtain ⟨u,hu⟩:∃ u,c.hours[y]?=some u:=⟨_,List.getElem?_eq_getElem (by omega)⟩
      have:zAU c.hours y u:=⟨hu⟩
      have hcs:=zKo (c:=c) (m:=m) (k:=y)
      have hcd:(c.hours.map (·.cold)).getD y false=u.cold:=getD_map hu
      rw [hcd] at hcs
      have hq:l.contains (y:Int)=m.testBit y:=by
       by_cases e:y<kh
       ·exact hhas y e
       ·obtain rfl:y=kh:=by omega
        rw [hmh,Bool.eq_false_iff]
        intro h1
        obtain ⟨j,e,h2,_⟩:=hmem _ (List.contains_iff_mem.1 h1)
        omega
      have hHas:=fun W hW=>rhas_any l (y:Int) N1 nc1 W hW (by omega)
      rw [hq] at hHas
      obtain ⟨um,ur,uc,ud⟩:=u
      simp only at hcs
      generalize m.testBit y=bt at *
      cases ud<;>cases bt
      ·(repeat' (first|((with_reducible refine zG ?_);first|refine zE rfl rfl rfl rfl rfl ?_|refine zC rfl rfl rfl rfl rfl ?_|(refine zK rfl rfl rfl rfl rfl ?_;refine ⟨_,rfl,?_⟩)|refine za rfl rfl rfl rfl rfl ?_|refine zz rfl rfl rfl rfl rfl rfl ?_|refine zg rfl rfl rfl ?_|(refine zU rfl rfl rfl rfl rfl rfl rfl (fun h=>?_) (fun h=>?_)<;>(dsimp only [cmpP] at h;(try (exfalso;omega))))|refine zf rfl rfl rfl rfl rfl rfl (by omega) ?_|refine zb rfl rfl rfl rfl rfl rfl rfl (by omega) ?_)|(with_reducible first|refine zH ?_|refine zB ?_|refine zD ?_|refine zA ?_|refine zS ?_|refine zj ?_|refine zh ?_|refine zR ?_|refine zW ?_)|((with_reducible refine zF ?_ ?_);(· exact rfl))))
       exact zi (ι:=Nat) (y+1) (by omega) (by omega) (by rw [hcs];simp only [Bool.false_and,Bool.false_eq_true,if_false,Int.add_zero];(first|exact lK1|(repeat (first|exact lK1|(refine zM rfl ?_))))) (by (repeat (first|exact oK1 _|(refine oK2 (by (repeat (first|exact tK1 _ _|apply tK2))) ?_))))
      ·(repeat' (first|((with_reducible refine zG ?_);first|refine zE rfl rfl rfl rfl rfl ?_|refine zC rfl rfl rfl rfl rfl ?_|(refine zK rfl rfl rfl rfl rfl ?_;refine ⟨_,rfl,?_⟩)|refine za rfl rfl rfl rfl rfl ?_|refine zz rfl rfl rfl rfl rfl rfl ?_|refine zg rfl rfl rfl ?_|(refine zU rfl rfl rfl rfl rfl rfl rfl (fun h=>?_) (fun h=>?_)<;>(dsimp only [cmpP] at h;(try (exfalso;omega))))|refine zf rfl rfl rfl rfl rfl rfl (by omega) ?_|refine zb rfl rfl rfl rfl rfl rfl rfl (by omega) ?_)|(with_reducible first|refine zH ?_|refine zB ?_|refine zD ?_|refine zA ?_|refine zS ?_|refine zj ?_|refine zh ?_|refine zR ?_|refine zW ?_)|((with_reducible refine zF ?_ ?_);(· exact rfl))))
       exact zi (ι:=Nat) (y+1) (by omega) (by omega) (by rw [hcs];simp only [Bool.false_and,Bool.false_eq_true,if_false,Int.add_zero];(first|exact lK1|(repeat (first|exact lK1|(refine zM rfl ?_))))) (by (repeat (first|exact oK1 _|(refine oK2 (by (repeat (first|exact tK1 _ _|apply tK2))) ?_))))
      ·(repeat' (first|((with_reducible refine zG ?_);first|refine zE rfl rfl rfl rfl rfl ?_|refine zC rfl rfl rfl rfl rfl ?_|(refine zK rfl rfl rfl rfl rfl ?_;refine ⟨_,rfl,?_⟩)|refine za rfl rfl rfl rfl rfl ?_|refine zz rfl rfl rfl rfl rfl rfl ?_|(refine zU rfl rfl rfl rfl rfl rfl rfl (fun h=>?_) (fun h=>?_)<;>(dsimp only [cmpP] at h;(try (exfalso;omega))))|refine zX rfl rfl rfl rfl rfl rfl (fun _ _ q=>hHas _ (zAz q.own (Below.refl _ _))) ?_|refine zAH rfl rfl rfl rfl rfl ?_|refine zf rfl rfl rfl rfl rfl rfl (by omega) ?_|refine zA2 rfl rfl rfl rfl rfl rfl (IntWalk.i64_in _ (by omega)) ?_|refine zb rfl rfl rfl rfl rfl rfl rfl (by omega) ?_)|(with_reducible first|refine zH ?_|refine zB ?_|refine zD ?_|refine zA ?_|refine zj ?_|refine zh ?_|refine zR ?_|refine zW ?_)|((with_reducible refine zI ?_ ?_);(· exact rfl))|((with_reducible refine zF ?_ ?_);(· exact rfl))))
       exact zi (ι:=Nat) (y+1) (by omega) (by omega) (by rw [hcs];simp only [Bool.not_false,Bool.and_self,if_true];(first|exact lK1|(repeat (first|exact lK1|(refine zM rfl ?_))))) (by (repeat (first|exact oK1 _|(refine oK2 (by (repeat (first|exact tK1 _ _|apply tK2))) ?_))))
      ·(repeat' (first|((with_reducible refine zG ?_);first|refine zE rfl rfl rfl rfl rfl ?_|refine zC rfl rfl rfl rfl rfl ?_|(refine zK rfl rfl rfl rfl rfl ?_;refine ⟨_,rfl,?_⟩)|refine za rfl rfl rfl rfl rfl ?_|refine zz rfl rfl rfl rfl rfl rfl ?_|(refine zU rfl rfl rfl rfl rfl rfl rfl (fun h=>?_) (fun h=>?_)<;>(dsimp only [cmpP] at h;(try (exfalso;omega))))|refine zX rfl rfl rfl rfl rfl rfl (fun _ _ q=>hHas _ (zAz q.own (Below.refl _ _))) ?_|refine zAH rfl rfl rfl rfl rfl ?_|refine zf rfl rfl rfl rfl rfl rfl (by omega) ?_|refine zb rfl rfl rfl rfl rfl rfl rfl (by omega) ?_)|(with_reducible first|refine zH ?_|refine zB ?_|refine zD ?_|refine zA ?_|refine zS ?_|refine zj ?_|refine zh ?_|refine zR ?_|refine zW ?_)|((with_reducible refine zF ?_ ?_);(· exact rfl))))
       exact zi (ι:=Nat) (y+1) (by omega) (by omega) (by rw [hcs];simp only [Bool.not_true,Bool.and_false,Bool.false_eq_true,if_false,Int.add_zero];(first|exact lK1|(repeat (first|exact lK1|(refine zM rfl ?_))))) (by (repeat (first|exact oK1 _|(refine oK2 (by (repeat (first|exact tK1 _ _|apply tK2))) ?_))))
    ·obtain rfl:y=kh+1:=by omega
     (repeat' (first|((with_reducible refine zG ?_);first|refine zE rfl rfl rfl rfl rfl ?_|refine zC rfl rfl rfl rfl rfl ?_|(refine zU rfl rfl rfl rfl rfl rfl rfl (fun h=>?_) (fun h=>?_)<;>(dsimp only [cmpP] at h;(try (exfalso;omega))))|refine zp rfl rfl rfl rfl rfl ?_)|(with_reducible first|refine zH ?_|refine zB ?_|refine zD ?_|refine zA ?_|refine zQ ?_|refine zj ?_|refine zR ?_|refine zW ?_)|((with_reducible refine zF ?_ ?_);(· exact rfl))))
     refine zw (ι:=Nat) [1,3,11,188,189] rfl (fun i=>i≤c.beds.length) (fun i=>[(190,.int .i64 (i:Int)),(20,.int .i64 (sumL (c.beds.take i) (zBz c m (kh+1))))]) (fun i=>[.row encI 1 3 (.slice (some ⟨gr,0,none⟩) c.beds.length c.beds.length) (c.beds.map (zBz c m (kh+1)))]) (fun i=>c.beds.length - i) 0 (Nat.zero_le _) (by (first|exact lK1|(repeat (first|exact lK1|(refine zM rfl ?_))))) (by (repeat (first|exact oK1 _|(refine oK2 (by (repeat (first|exact tK1 _ _|apply tK2))) ?_)))) ?_
     rintro i hi
     simp only [zAx,List.cons_append,List.nil_append]
     by_cases hil:i<c.beds.length
     ·obtain ⟨z9,hz9⟩:∃ z,c.beds[i]?=some z:=⟨_,List.getElem?_eq_getElem hil⟩
      have:zAU (c.beds.map (zBz c m (kh+1))) i (zBz c m (kh+1) z9):=⟨by rw [List.getElem?_map,hz9];rfl⟩
      have hb1:=zG1 (m:=m) hf (List.mem_of_getElem? hz9) (kh+1) (by omega)
      have hb2:=zN6 (m:=m) hf (k:=kh+1) (by omega) (by omega) (c.beds.take i) (fun z hz=>List.mem_of_mem_take hz)
      have htl:(c.beds.take i).length≤20:=by rw [List.length_take];omega
      have es:sumL (c.beds.take (i+1)) (zBz c m (kh+1))=sumL (c.beds.take i) (zBz c m (kh+1))+zBz c m (kh+1) z9:=by
       rw [List.take_add_one,hz9,Flow.zB5];simp [sumL]
      (repeat' (first|((with_reducible refine zG ?_);first|refine zE rfl rfl rfl rfl rfl ?_|refine zC rfl rfl rfl rfl rfl ?_|(refine zK rfl rfl rfl rfl rfl ?_;refine ⟨_,rfl,?_⟩)|(refine zU rfl rfl rfl rfl rfl rfl rfl (fun h=>?_) (fun h=>?_)<;>(dsimp only [cmpP] at h;(try (exfalso;omega))))|refine zf rfl rfl rfl rfl rfl rfl (by omega) ?_|refine zA2 rfl rfl rfl rfl rfl rfl (IntWalk.i64_in _ (by omega)) ?_|refine zb rfl rfl rfl rfl rfl rfl rfl (by omega) ?_)|(with_reducible first|refine zH ?_|refine zB ?_|refine zD ?_|refine zA ?_|refine zS ?_|refine zQ ?_|refine zh ?_)|((with_reducible refine zI ?_ ?_);(· exact rfl))))
      exact zi (ι:=Nat) (i+1) (by omega) (by omega) (by rw [es];(first|exact lK1|(repeat (first|exact lK1|(refine zM rfl ?_))))) (by (repeat (first|exact oK1 _|(refine oK2 (by (repeat (first|exact tK1 _ _|apply tK2))) ?_))))
     ·obtain rfl:i=c.beds.length:=by omega
      rw [List.take_length]
      (repeat' (first|((with_reducible refine zG ?_);first|refine zE rfl rfl rfl rfl rfl ?_|refine zC rfl rfl rfl rfl rfl ?_|refine zz rfl rfl rfl rfl rfl rfl ?_|(refine zU rfl rfl rfl rfl rfl rfl rfl (fun h=>?_) (fun h=>?_)<;>(dsimp only [cmpP] at h;(try (exfalso;omega)))))|(with_reducible first|refine zH ?_|refine zB ?_|refine zD ?_|refine zA ?_|refine zc ?_|refine zj ?_|refine zR ?_|refine zW ?_)|((with_reducible refine zF ?_ ?_);(· exact rfl))))
      all_goals exact zV (by (exact zO.cons (by exact zn.tmp rfl) zO.nil)) () trivial rfl (fun _ _=>Own.nil _ _)
end Go.Proofs.YtdigopgncfhiaaaGreatDoor
