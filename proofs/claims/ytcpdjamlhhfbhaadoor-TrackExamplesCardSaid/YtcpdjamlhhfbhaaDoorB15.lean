/- B15 -/
import Derived.Test.YtcpdjamlhhfbhaaDoorB11
import Derived.Test.YtcpdjamlhhfbhaaDoorB12
import Derived.Test.YtcpdjamlhhfbhaaDoorB5
import Derived.Test.YtcpdjamlhhfbhaaDoorB6
import Derived.Test.YtcpdjamlhhfbhaaDoorB10
import Derived.Test.YtcpdjamlhhfbhaaDoorB14
set_option linter.unusedSimpArgs false
set_option linter.unusedVariables false
namespace Go.Proofs.YtcpdjamlhhfbhaaDoor
open Go.RowKit
set_option maxRecDepth 20000
structure Arr (l:List Me) (kb:KB) (ms:List Me):Prop where
 len:ms.length=l.length
 ok:kb.ok l.length
 lt:∀ j,j<l.length→kb.K j<l.length
 inj:∀ i j,i<l.length→j<l.length→kb.K i=kb.K j→i=j
 val:∀ j,j<l.length→ms[j]?=l[kb.K j]?
theorem arr_id (l:List Me):Arr l (KB.id l.length) l:=⟨rfl,KB.id_ok _,fun _ h=>h,fun _ _ _ _ h=>h,fun _ _=>rfl⟩
theorem Arr.at_ {l ms:List Me} {kb:KB} (h:Arr l kb ms) {i:Nat} (hi:i<l.length):∃ j,j<l.length∧kb.K j=i:=by
 refine Classical.byContradiction fun hn=>?_
 have h1:(i::(List.range l.length).map kb.K).Nodup:=by
  refine List.nodup_cons.2 ⟨fun hm=>?_,?_⟩
  ·obtain ⟨j,hj,e⟩:=List.mem_map.1 hm
   exact hn ⟨j,List.mem_range.1 hj,e⟩
  ·unfold List.Nodup
   rw [List.pairwise_map]
   refine List.nodup_range.imp_of_mem (fun {a b} ha hb hab e=>hab (h.inj a b (List.mem_range.1 ha) (List.mem_range.1 hb) e))
 have h2:=zDH l.length _ h1 (fun x hx=>by
  rcases List.mem_cons.1 hx with rfl|hx
  ·exact hi
  ·obtain ⟨j,hj,rfl⟩:=List.mem_map.1 hx
   exact h.lt j (List.mem_range.1 hj))
 simp at h2
 omega
def sh (j q:Nat):Nat:=if q<j then q else q+1
theorem zCt {j q n:Nat} (h:q<n - 1):sh j q<n:=by unfold sh;split<;>omega
theorem zG4 {j p q:Nat} (h:sh j p=sh j q):p=q:=by unfold sh at h;split at h<;>split at h<;>omega
theorem sh_ne {j q:Nat}:sh j q≠j:=by unfold sh;split<;>omega
def zBV (kb:KB) (j:Nat):KB:=⟨fun q=>kb.K (sh j q),fun q=>kb.B (sh j q),kb.c⟩
def zDV (kb:KB) (i n1:Nat):KB:=⟨fun q=>if q<n1 then kb.K q else i,fun q=>if q<n1 then kb.B q else kb.c,kb.c+1⟩
theorem ents_del {kb:KB} {ms:List Me} {j:Nat} (hj:j<ms.length):(zh kb ms).eraseIdxIfInBounds j=zh (zBV kb j) (ms.eraseIdx j):=by
 apply Array.ext'
 have hl:j<(zh kb ms).size:=by simp [zh,zDx];exact hj
 rw [Array.eraseIdxIfInBounds,dif_pos hl]
 rw [Array.toList_eraseIdx]
 simp only [zh,zDx]
 apply List.ext_getElem?
 intro q
 rw [List.getElem?_eraseIdx,List.getElem?_mapIdx,List.getElem?_mapIdx,List.getElem?_mapIdx,List.getElem?_eraseIdx]
 by_cases h:q<j
 ·simp only [h,if_true]
  cases ms[q]? with
  | none=>rfl
  | some x=>simp [zBp,zBV,sh,h]
 ·simp only [h,if_false]
  cases ms[q+1]? with
  | none=>rfl
  | some x=>simp [zBp,zBV,sh,h]
theorem ents_put {kb:KB} {ms:List Me} {i:Nat} {x:Me}:(zh kb ms).push ⟨.int .i64 (i:Int),vMe x,kb.c⟩=zh (zDV kb i ms.length) (ms++[x]):=by
 apply Array.ext'
 simp only [zh,zDx,Array.toList_push]
 apply List.ext_getElem?
 intro q
 rw [List.getElem?_append,List.getElem?_mapIdx,List.getElem?_mapIdx,List.getElem?_append,List.length_mapIdx]
 by_cases h:q<ms.length
 ·rw [if_pos h,if_pos h]
  cases ms[q]? with
  | none=>rfl
  | some y=>simp [zBp,zDV,h]
 ·rw [if_neg h,if_neg h]
  by_cases h2:q - ms.length=0
  ·rw [h2];simp [zBp,zDV,h]
  ·rw [List.getElem?_eq_none (by simp;omega),List.getElem?_eq_none (by simp;omega)];rfl
theorem Arr.del_ok {l ms:List Me} {kb:KB} {j:Nat} (h:Arr l kb ms) (hj:j<l.length):(zBV kb j).ok (ms.eraseIdx j).length:=by
 have e:(ms.eraseIdx j).length=l.length - 1:=by rw [List.length_eraseIdx,h.len,if_pos hj]
 rw [e]
 refine ⟨fun q hq=>h.ok.lt _ (zCt hq),fun p q hp hq he=>?_⟩
 exact zG4 (h.ok.inj _ _ (zCt hp) (zCt hq) he)
theorem Arr.put {l ms:List Me} {kb:KB} {i j:Nat} {x:Me} (h:Arr l kb ms) (hj:j<l.length) (hji:kb.K j=i) (hx:l[i]?=some x):Arr l (zDV (zBV kb j) i (ms.eraseIdx j).length) (ms.eraseIdx j++[x]):=by
 have e:(ms.eraseIdx j).length=l.length - 1:=by rw [List.length_eraseIdx,h.len,if_pos hj]
 have hi:i<l.length:=(List.getElem?_eq_some_iff.1 hx).1
 have hK:∀ q,q<l.length - 1→kb.K (sh j q)≠i:=fun q hq he=>sh_ne (h.inj _ _ (zCt hq) hj (he.trans hji.symm))
 have hB:∀ q,q<l.length - 1→kb.B (sh j q)<kb.c:=fun q hq=>h.ok.lt _ (zCt hq)
 rw [e]
 refine ⟨by simp [e];omega,⟨fun q hq=>?_,fun p q hp hq he=>?_⟩,fun q hq=>?_,fun p q hp hq he=>?_,fun q hq=>?_⟩
 ·simp only [zDV,zBV]
  by_cases h1:q<l.length - 1
  ·rw [if_pos h1];have:=hB q h1;omega
  ·rw [if_neg h1];omega
 ·simp only [zDV,zBV] at he
  by_cases h1:p<l.length - 1<;>by_cases h2:q<l.length - 1
  ·rw [if_pos h1,if_pos h2] at he;exact zG4 (h.ok.inj _ _ (zCt h1) (zCt h2) he)
  ·rw [if_pos h1,if_neg h2] at he;have:=hB p h1;omega
  ·rw [if_neg h1,if_pos h2] at he;have:=hB q h2;omega
  ·omega
 ·simp only [zDV,zBV]
  by_cases h1:q<l.length - 1
  ·rw [if_pos h1];exact h.lt _ (zCt h1)
  ·rw [if_neg h1];exact hi
 ·simp only [zDV,zBV] at he
  by_cases h1:p<l.length - 1<;>by_cases h2:q<l.length - 1
  ·rw [if_pos h1,if_pos h2] at he;exact zG4 (h.inj _ _ (zCt h1) (zCt h2) he)
  ·rw [if_pos h1,if_neg h2] at he;exact absurd he (hK p h1)
  ·rw [if_neg h1,if_pos h2] at he;exact absurd he.symm (hK q h2)
  ·omega
 ·rw [List.getElem?_append,e]
  simp only [zDV,zBV]
  by_cases h1:q<l.length - 1
  ·rw [if_pos h1,if_pos h1,List.getElem?_eraseIdx]
   have:=h.val (sh j q) (zCt h1)
   unfold sh at this ⊢
   split
   ·rename_i h2;rw [if_pos h2] at this;exact this
   ·rename_i h2;rw [if_neg h2] at this;exact this
  ·rw [if_neg h1,if_neg h1]
   have e2:q - (l.length - 1)=0:=by omega
   rw [e2,hx];rfl
theorem Arr.zHY {l ms:List Me} {kb:KB} {i j:Nat} (h:Arr l kb ms) (hj:j<l.length) (hji:kb.K j=i) (m:Me):m∈ms.eraseIdx j↔m∈l.eraseIdx i:=by
 have hi:i<l.length:=hji ▸ h.lt j hj
 rw [List.mem_eraseIdx_iff_getElem?,List.mem_eraseIdx_iff_getElem?]
 constructor
 ·rintro ⟨q,hq,hm⟩
  have hql:q<l.length:=h.len ▸ (List.getElem?_eq_some_iff.1 hm).1
  exact ⟨kb.K q,fun e=>hq (h.inj _ _ hql hj (e.trans hji.symm)),by rw [← h.val q hql];exact hm⟩
 ·rintro ⟨q,hq,hm⟩
  have hql:q<l.length:=(List.getElem?_eq_some_iff.1 hm).1
  obtain ⟨p,hp,hpq⟩:=h.at_ hql
  exact ⟨p,fun e=>hq (by rw [← hpq,e,hji]),by rw [h.val p hp,hpq];exact hm⟩
theorem zHz {t:List St} {ms ms':List Me} (hok:∀ m∈ms,zCh (t.length+1) m) (hp:∀ m,m∈ms'↔m∈ms):zAr t ms'=zAr t ms∧zA3 t ms'=zA3 t ms:=by
 have a1:=zCg (s:=longs t) hok hp 1
 have a2:=zCg (s:=falls t) hok hp 2
 have b1:fine1 t ms'↔fine1 t ms:=a1.1
 have b2:fine2 t ms'↔fine2 t ms:=by
  unfold fine2
  rw [zAs,zAs];exact a2.1
 have e:zAr t ms'=zAr t ms:=by
  rw [Bool.eq_iff_iff]
  simp only [zAr,decide_eq_true_eq,b1,b2]
 refine ⟨e,?_⟩
 unfold zA3
 rw [e]
 cases hB:zAr t ms with
 | false=>rfl
 | true =>
  simp only [zAr,decide_eq_true_eq] at hB
  have c1:zCE (t.length+1) (dist 1 (longs t) ms' (t.length+1)) (dist 1 (longs t) ms (t.length+1)):=a1.2 (b1.2 hB.1)
  have c2:zCE (t.length+1) (dist 2 (falls t) ms' (t.length+1)) (dist 2 (falls t) ms (t.length+1)):=a2.2 (by
   have:=b2.2 hB.2;unfold fine2 at this;rw [zAs] at this;exact this)
  have s1:stage1 t ms'=stage1 t ms:=zDF (F:=zA8) (fun j s hj=>by unfold zA8;rw [zDI c1 hj]) rfl _
  simp only [if_true]
  unfold stage2
  rw [zAs,zAs,s1]
  exact zDF (F:=zBI) (fun j s hj=>by unfold zBI;rw [zDI c2 hj]) (by rw [zDZ]) _
end Go.Proofs.YtcpdjamlhhfbhaaDoor
namespace Go.Proofs.YtcpdjamlhhfbhaaDoor.Two
variable {ro : Option Nat}
open Go.RowKit
set_option maxRecDepth 20000
theorem elem_me : Elem Tryd.prog 42 26 5 40 (.agg #[.int .u8 0,.int .i64 0,.int .i64 0,.int .i64 0,.int .i64 0]) :=
 ⟨by rfl,by exact ⟨_,rfl,rfl,rfl,rfl⟩,by decide,by decide⟩
instance elI_me : ElI Tryd.prog 42 26 5 40:=⟨⟨_,elem_me⟩⟩
noncomputable def zAm (t:List St) (l:List Me) (i:Nat) (_:Me):Bool:=decide (rnT t (l.eraseIdx i)=rnT t l)
open Classical in
noncomputable def zC1 (t:List St) (l:List Me):List Int:=if zBT t l=0 then picks (fun i m=>zAm t l i m) l else []
theorem zHU {t:List St} {l:List Me}:(rnT t l).length≤t.length:=by
 unfold rnT rnL
 split
 ·rw [zDE];exact Nat.le_refl _
 ·simp
end Go.Proofs.YtcpdjamlhhfbhaaDoor.Two
namespace Go.Proofs.YtcpdjamlhhfbhaaDoor
open Go.RowKit
set_option maxRecDepth 20000
theorem zEO {w W:World} (h:Below w.heap.size w W):Below w.heap.size w (zBt W w.heap.size):=by
 have hs:=h.size
 refine ⟨h.os,h.tape,h.output,by rw [zAZ hs];exact Nat.le_refl _,fun b hb=>?_⟩
 rw [← (zC9 hs).block b (by rw [zAZ hs];exact hb)]
 exact h.block b hb
abbrev Sta (m ba bv bl:Nat) (A:Option Addr) (n cap:Nat) (AL:Option Addr) (cL:Nat) (xs:List St) (s:KB × List Me):List Ent :=
 [.map m (zh s.1 s.2) s.1.c,.blk ba [.map (some m)],.blk bv [.slice A n cap],.blk bl [.slice AL xs.length cL],.sl zO 9 AL xs]
theorem keys_int {kb:KB} {ms:List Me}:∀ e∈(zh kb ms).toList,∃ l,e.key = .int .i64 l:=fun e he=>by
 obtain ⟨i,m,_,rfl⟩:=zB8.1 he
 exact ⟨_,rfl⟩
theorem errN_ok {t:List St} {l:List Me} (hv:valid t=true) (hm:zB4 t.length l=true) (i:Nat):zB4 t.length (l.eraseIdx i)=true:=by
 obtain ⟨h1,h2⟩:=zB3 hm
 simp only [zB4,Bool.and_eq_true,decide_eq_true_eq]
 refine ⟨by have:=List.length_eraseIdx_le l i;omega,List.all_eq_true.2 fun m h=>h1 m (List.mem_of_mem_eraseIdx h)⟩
set_option maxHeartbeats 2000000 in
theorem zFy (t:List St) (A:Option Addr) (cap:Nat) (l:List Me) (hv:valid t=true) (hm:zB4 t.length l=true) (i:Nat) (x:Me) (hx:l[i]?=some x) (s:KB × List Me) (ha:Arr l s.1 s.2) (m ba bv bl:Nat) (AL:Option Addr) (cL lo:Nat) (W:World) (hlo:lo≤W.heap.size) (hO:Own lo W (Sta m ba bv bl A t.length cap AL cL (rnT t l) s)) (ht:zS zO 9 (zBt W lo) A t) :
  zEi Tryd.prog 32 [.int .i64 (i:Int),vMe x,.pointer (some ⟨ba,0,none⟩),.pointer (some ⟨bv,0,none⟩),.pointer (some ⟨bl,0,none⟩)] W (Sta m ba bv bl A t.length cap AL cL (rnT t l) s)
   (fun _:KB × List Me=>.bool (Two.zAm t l i x)) (Sta m ba bv bl A t.length cap AL cL (rnT t l)) (fun s'=>Arr l s'.1 s'.2):=by
 obtain ⟨kb,ms⟩:=s
 simp only at ha
 have hi:i<l.length:=(List.getElem?_eq_some_iff.1 hx).1
 obtain ⟨j,hj,hji⟩:=ha.at_ hi
 have hjm:j<ms.length:=by rw [ha.len];exact hj
 have hm1:=zB3 hm
 have hmE:=errN_ok hv hm i
 have hmE1:=zB3 hmE
 have hok':∀ z∈ms.eraseIdx j,zDb t.length z=true:=fun z hz=>hmE1.1 z ((ha.zHY hj hji z).1 hz)
 have hperm:=zHz (t:=t) (ms:=l.eraseIdx i) (ms':=ms.eraseIdx j) (fun z hz=>zB1 (hmE1.1 z hz)) (ha.zHY hj hji)
 have hsame:=zBB hv hmE
 have eT:zA3 t (ms.eraseIdx j)=rnT t (l.eraseIdx i):=hperm.2.trans hsame.2
 have hdk:=ha.del_ok hj
 have hle:=Two.zHU (t:=t) (l:=l)
 have hle2:=Two.zHU (t:=t) (l:=l.eraseIdx i)
 have hln:=zAl hv
 have H3:=fun W' m' (hA:zS zO 9 W' A t) (h:W'.heap[m']?=some (.map (zh (zBV kb j) (ms.eraseIdx j)) (zBV kb j).c))=>zFB t A cap (zBV kb j) (ms.eraseIdx j) m' W' hA hv hok' hdk h
 rw [eT] at H3
 have hz:ms[j]?=some x:=by rw [ha.val j hj,hji];exact hx
 have hfst:∀ k' y,k'<j→(zh kb ms).toList[k']?=some y→y.key≠.int .i64 (i:Int):=fun k' y hk hy he=>by
  simp only [zh,zDx,List.getElem?_mapIdx] at hy
  cases h:ms[k']? with
  | none=>rw [h] at hy;simp at hy
  | some z =>
   rw [h] at hy
   simp only [Option.map_some,Option.some.injEq] at hy
   subst hy
   simp only [zBp,Value.int.injEq,true_and] at he
   have:=ha.inj k' j (by omega) hj (by omega)
   omega
 have hnew:∀ e∈(zh (zBV kb j) (ms.eraseIdx j)).toList,∃ l',e.key = .int .i64 l'∧l'≠(i:Int):=fun e he=>by
  obtain ⟨q,z,hq,rfl⟩:=zB8.1 he
  refine ⟨_,rfl,fun h=>?_⟩
  have hql:=(List.getElem?_eq_some_iff.1 hq).1
  rw [List.length_eraseIdx,if_pos hjm,ha.len] at hql
  have h9:kb.K (sh j q)=i:=by simp only [zBV] at h;omega
  exact sh_ne (ha.inj _ _ (zCt hql) hj (h9.trans hji.symm))
 refine zEz (n:=26) lo hlo hO Tryd.func32 rfl rfl rfl ?_
 simp only [List.cons_append,List.nil_append]
 (repeat' (first|((with_reducible refine zI ?_);first|refine zF rfl rfl rfl ?_|refine zD rfl rfl rfl ?_|(refine zf rfl rfl rfl ?_;refine ⟨_,rfl,?_⟩)|(refine u_delete (j:=j) (e:=zBp kb j x) rfl rfl rfl rfl rfl rfl (by (repeat constructor)) keys_int (by simp [zh,zDx,List.getElem?_mapIdx,hz]) (by simp [zBp,hji]) hfst ?_)|(refine zAD rfl rfl rfl rfl (fun b=>?_)))|(with_reducible first|refine zJ ?_|refine zC ?_|refine zG ?_|refine zA ?_)))
 rw [ents_del hjm]
 (repeat' (first|((with_reducible refine zI ?_);first|refine zF rfl rfl rfl ?_|refine zD rfl rfl rfl ?_|(refine zf rfl rfl rfl ?_;refine ⟨_,rfl,?_⟩)|refine zAQ rfl rfl rfl ?_|refine zz rfl rfl rfl rfl (fun _ _ q=>H3 _ _ (ht.below q.below) (zE9 q.own (by (repeat constructor)))) (fun A' c'=>?_)|(refine u_mapNew rfl rfl rfl rfl rfl rfl rfl (by (repeat constructor)) hnew ?_)|refine zN rfl rfl rfl rfl (fun _ _ q=>zH7 (rnT t (l.eraseIdx i)) (rnT t l) _ _ _ _ _ (zAp q.own (Below.refl _ _)) (zAp q.own (Below.refl _ _)) (by omega) (by omega)) ?_|refine zZ rfl rfl rfl rfl ?_|(refine zQ rfl rfl rfl rfl rfl ?_;refine ⟨rfl,by first|decide|exact Nat.le_of_ble_eq_true rfl|(simp;omega),_,rfl,?_⟩)|(refine zV rfl rfl (fun b=>?_)))|(with_reducible first|refine zJ ?_|refine zC ?_|refine zG ?_|refine zA ?_|refine zg ?_)))
 refine zGH (H':=[.map m ((zh (zBV kb j) (ms.eraseIdx j)).push ⟨.int .i64 (i:Int),vMe x,(zBV kb j).c⟩) ((zBV kb j).c+1),.blk ba [.map (some m)],.blk bv [.slice A t.length cap],.blk bl [.slice AL (rnT t l).length cL],.sl zO 9 AL (rnT t l),.oldx W lo (feet (Sta m ba bv bl A t.length cap AL cL (rnT t l) (kb,ms)))]) (fun _ h=>h.sub (by (repeat constructor))) ?_
 rw [ents_put]
 exact zHQ (by exact rTm rfl) (zDV (zBV kb j) i (ms.eraseIdx j).length,ms.eraseIdx j++[x]) (ha.put hj hji hx) rfl hlo (fun _ h=>h)
theorem cut_sl {α:Type} {enc:α→List Value} {k lo:Nat} {w W:World} {A:Option Addr} {xs:List α} (hlo:lo≤w.heap.size) (hB:Below (zBt w lo).heap.size (zBt w lo) W) (h:zS enc k (zBt w lo) A xs):zS enc k (zBt W lo) A xs:=by
 have e:=zAZ hlo
 have h1:=h.below (zEO hB)
 rw [e] at h1
 exact h1
set_option maxHeartbeats 2000000 in
theorem zGX (t:List St) (A:Option Addr) (cap:Nat) (l:List Me) (B:Option Addr) (cB:Nat) (hv:valid t=true) (hm:zB4 t.length l=true) (m ba bv bl:Nat) (AL:Option Addr) (cL lo:Nat) (W:World) (s0:KB × List Me) (ha:Arr l s0.1 s0.2) (hlo:lo≤W.heap.size) (hO:Own lo W (Sta m ba bv bl A t.length cap AL cL (rnT t l) s0)) (ht:zS zO 9 (zBt W lo) A t) (hs:zS zAt 5 (zBt W lo) B l) :
  zEi Tryd.prog 31 [.slice B l.length cB,.func (.func 32) #[] #[.pointer (some ⟨ba,0,none⟩),.pointer (some ⟨bv,0,none⟩),.pointer (some ⟨bl,0,none⟩)]] W (Sta m ba bv bl A t.length cap AL cL (rnT t l) s0)
   (fun z:(KB × List Me) × Option Addr × Nat=>.slice z.2.1 (picks (fun i x=>Two.zAm t l i x) l).length z.2.2) (fun z=>Sta m ba bv bl A t.length cap AL cL (rnT t l) z.1++[.sl encI 1 z.2.1 (picks (fun i x=>Two.zAm t l i x) l)]) (fun _=>True):=by
 have hl12:=(zB3 hm).2
 refine zEz (n:=25) lo hlo hO Tryd.func31 rfl rfl rfl ?_
 simp only [List.cons_append,List.nil_append]
 (repeat' (first|((with_reducible refine zI ?_);first|refine zF rfl rfl rfl ?_|refine zD rfl rfl rfl ?_|refine zAx rfl rfl rfl ?_)|(with_reducible first|refine zJ ?_|refine zC ?_|refine zG ?_|refine zA ?_|refine zb ?_)))
 refine zCQ encI 1 3 ?_
 refine zAc (ι:=Nat × Value × (KB × List Me)) (fun j=>j.1≤l.length∧Arr l j.2.2.1 j.2.2.2) (fun j=>[(1,.func (.func 32) #[] #[.pointer (some ⟨ba,0,none⟩),.pointer (some ⟨bv,0,none⟩),.pointer (some ⟨bl,0,none⟩)]),(5,j.2.1),(8,.slice B l.length cB),(9,.int .i64 (l.length:Int)),(10,.int .i64 (j.1:Int))]) (fun j=>[.row encI 1 3 j.2.1 (z0 (fun i x=>Two.zAm t l i x) l j.1),.map m (zh j.2.2.1 j.2.2.2) j.2.2.1.c,.blk ba [.map (some m)],.blk bv [.slice A t.length cap],.blk bl [.slice AL (rnT t l).length cL],.sl zO 9 AL (rnT t l),.oldx W lo (feet (Sta m ba bv bl A t.length cap AL cL (rnT t l) s0))]) (fun j=>l.length - j.1) (0,.slice none 0 0,s0) ⟨Nat.zero_le _,ha⟩ (by (repeat first|exact lK1|refine zW rfl ?_)) (by (repeat constructor)) ?_
 clear ha
 rintro ⟨i,v,kb,ms⟩ ⟨hi,ha⟩
 simp only at hi ha ⊢
 have hpl:=zBN (fun i x=>Two.zAm t l i x) l i
 by_cases hlt:i<l.length
 ·have hx:l[i]?=some l[i]:=by simp [hlt]
  obtain ⟨bb,ob,rfl,_⟩:=hs.at_ hlt
  have:InS (zBt W lo) bb ob zAt 5 l:=⟨hs⟩
  have:zCG l i l[i]:=⟨hx⟩
  have hso:zCe (fun i x=>Two.zAm t l i x) l i=Two.zAm t l i l[i]:=by simp [zCe,hlt]
  generalize l[i]=x at *
  (repeat' (first|((with_reducible refine zI ?_);first|refine zF rfl rfl rfl ?_|refine zD rfl rfl rfl ?_|(refine zf rfl rfl rfl ?_;refine ⟨_,rfl,?_⟩)|(refine zT rfl rfl rfl rfl rfl (fun h=>?_) (fun h=>?_)<;>(dsimp only [cmpP] at h;(try (exfalso;omega))))|refine zBv rfl rfl rfl rfl rfl (by omega) ?_|(refine zQ rfl rfl rfl rfl rfl ?_;refine ⟨rfl,by first|decide|exact Nat.le_of_ble_eq_true rfl|(simp;omega),_,rfl,?_⟩)|(refine zV rfl rfl (fun b=>?_)))|(with_reducible first|refine zJ ?_|refine zC ?_|refine zG ?_|refine zA ?_|refine ze ?_|refine zb ?_)|((with_reducible refine zM ?_ ?_);(· exact rfl))))
  refine zF0 (Sta m ba bv bl A t.length cap AL cL (rnT t l) (kb,ms)) [.row encI 1 3 v (z0 (fun i x=>Two.zAm t l i x) l i),.oldx W lo (feet (Sta m ba bv bl A t.length cap AL cL (rnT t l) s0))] rfl rfl rfl rfl (by (repeat constructor)) (fun a W' q=>zFy t A cap l hv hm i x hx (kb,ms) ha m ba bv bl AL cL lo W' (by have:=q.below.size;rwa [zAZ hlo] at this) (by have:=(Own.append.1 q.own).1;rwa [zAZ hlo] at this) (cut_sl hlo q.below ht)) ?_
  rintro ⟨kb2,ms2⟩ ha2
  simp only at ha2
  simp only [List.cons_append,List.nil_append]
  cases hu:Two.zAm t l i x
  ·(repeat' (first|((with_reducible refine zI ?_);first|refine zF rfl rfl rfl ?_|refine zAY rfl rfl rfl rfl (by omega) ?_)|(with_reducible first|refine zC ?_|refine zG ?_|refine zA ?_|refine ze ?_|refine zAL ?_)|((with_reducible refine zL ?_ ?_);(· exact rfl))))
   refine zm (i+1,v,kb2,ms2) ⟨by omega,ha2⟩ (by simp only;omega) (by (repeat first|exact lK1|refine zW rfl ?_)) ?_
   rw [zA2 (hso.trans hu)]
   (repeat constructor)
  ·(repeat' (first|((with_reducible refine zI ?_);first|refine zF rfl rfl rfl ?_|refine zD rfl rfl rfl ?_|(refine zBk (enc:=encI) [_] rfl rfl rfl (by (repeat constructor)) rfl rfl (zAu (by exact rfl)) (by refine ⟨?_,by decide⟩;(try simp only [List.length_append,List.length_cons,List.length_nil]);omega) (fun A' c'=>?_))|refine zAY rfl rfl rfl rfl (by omega) ?_|(refine zi rfl rfl rfl ?_;refine ⟨rfl,_,rfl,fun b=>?_⟩))|(with_reducible first|refine zC ?_|refine zG ?_|refine zA ?_|refine zAL ?_)|((with_reducible refine zM ?_ ?_);(· exact rfl))))
   refine zm (i+1,.slice A' (z0 (fun i x=>Two.zAm t l i x) l i++[(i:Int)]).length c',kb2,ms2) ⟨by omega,ha2⟩ (by simp only;omega) (by (repeat first|exact lK1|refine zW rfl ?_)) ?_
   rw [zAq (hso.trans hu)]
   (repeat constructor)
 ·obtain rfl:i=l.length:=by omega
  (repeat' (first|((with_reducible refine zI ?_);first|refine zF rfl rfl rfl ?_|refine zD rfl rfl rfl ?_|(refine zT rfl rfl rfl rfl rfl (fun h=>?_) (fun h=>?_)<;>(dsimp only [cmpP] at h;(try (exfalso;omega)))))|(with_reducible first|refine zJ ?_|refine zC ?_|refine zG ?_|refine zA ?_|refine zg ?_|refine zAd ?_|refine zo ?_|refine zx ?_)|((with_reducible refine zL ?_ ?_);(· exact rfl))))
  refine zBa (enc:=encI) (by (repeat constructor)) ?_
  rintro A9 c9 rfl
  exact zHQ (by exact rTm rfl) ((kb,ms),A9,c9) trivial rfl hlo (fun _ h=>(h.zEF (by (repeat constructor))).sub (by (repeat constructor)))
set_option maxHeartbeats 2000000 in
theorem zGF (t:List St) (A:Option Addr) (cap:Nat) (l:List Me) (B:Option Addr) (c:Nat) (w:World) (ht:zS zO 9 w A t) (hs:zS zAt 5 w B l) (hB:∀ b o,B=some ⟨b,o,none⟩→b<w.heap.size) (hf:zCb t) (hfm:zGy l) (hl:t.length≤1000) (hll:l.length≤1000) :
  zAh encI 1 (Two.zC1 t l) (fun v=>.tuple #[v,.int .i64 (zBT t l)]) Tryd.prog 12 [.agg #[.slice A t.length cap],.slice B l.length c] w:=by
 unfold zAh
 cases hv:valid t
 ·have e1:zBT t l=10:=by simp [zBT,hv]
  have e2:Two.zC1 t l=[]:=by simp [Two.zC1,e1]
  rw [e1,e2]
  (refine zH (n:=32) Tryd.func12 rfl rfl rfl ?_)
  (repeat' (first|((with_reducible refine zI ?_);first|refine zF rfl rfl rfl ?_|refine zD rfl rfl rfl ?_|(refine zf rfl rfl rfl ?_;refine ⟨_,rfl,?_⟩)|(refine zT rfl rfl rfl rfl rfl (fun h=>?_) (fun h=>?_)<;>(dsimp only [cmpP] at h;(try (exfalso;omega))))|refine zN rfl rfl rfl rfl (fun _ _ q=>zEY t A cap l B c _ (ht.below q.below) (hs.below q.below) hf hfm hl hll hv) ?_|refine zZ rfl rfl rfl rfl ?_|(refine zQ rfl rfl rfl rfl rfl ?_;refine ⟨rfl,by first|decide|exact Nat.le_of_ble_eq_true rfl|(simp;omega),_,rfl,?_⟩)|(refine zV rfl rfl (fun b=>?_))|(refine zAD rfl rfl rfl rfl (fun b=>?_)))|(with_reducible first|refine zJ ?_|refine zC ?_|refine zG ?_|refine zA ?_|refine zg ?_|refine zq ?_)|((with_reducible refine zM ?_ ?_);(· exact rfl))))
  exact zP (by (exact zY.cons (by exact zAW.tmp rfl) (zY.cons (by exact zAW.tmp rfl) zY.nil))) (none,0) trivial rfl (fun _ h=>zBK h)
 cases hm:zB4 t.length l
 ·have e1:zBT t l=11:=by simp [zBT,hv,hm]
  have e2:Two.zC1 t l=[]:=by simp [Two.zC1,e1]
  rw [e1,e2]
  (refine zH (n:=32) Tryd.func12 rfl rfl rfl ?_)
  (repeat' (first|((with_reducible refine zI ?_);first|refine zF rfl rfl rfl ?_|refine zD rfl rfl rfl ?_|(refine zf rfl rfl rfl ?_;refine ⟨_,rfl,?_⟩)|(refine zT rfl rfl rfl rfl rfl (fun h=>?_) (fun h=>?_)<;>(dsimp only [cmpP] at h;(try (exfalso;omega))))|refine zN rfl rfl rfl rfl (fun _ _ q=>zDo t A cap l B c _ (ht.below q.below) (hs.below q.below) hf hfm hl hll hv hm) ?_|refine zZ rfl rfl rfl rfl ?_|(refine zQ rfl rfl rfl rfl rfl ?_;refine ⟨rfl,by first|decide|exact Nat.le_of_ble_eq_true rfl|(simp;omega),_,rfl,?_⟩)|(refine zV rfl rfl (fun b=>?_))|(refine zAD rfl rfl rfl rfl (fun b=>?_)))|(with_reducible first|refine zJ ?_|refine zC ?_|refine zG ?_|refine zA ?_|refine zg ?_|refine zq ?_)|((with_reducible refine zM ?_ ?_);(· exact rfl))))
  exact zP (by (exact zY.cons (by exact zAW.tmp rfl) (zY.cons (by exact zAW.tmp rfl) zY.nil))) (none,0) trivial rfl (fun _ h=>zBK h)
 obtain ⟨s1,s2⟩:=zBB hv hm
 have h3:=fun W m hW (h:W.heap[m]?=some (.map (zh (KB.id l.length) l) l.length))=>zFB t A cap (KB.id l.length) l m W (ht.below hW) hv (zB3 hm).1 (KB.id_ok _) h
 cases hb:rnB t l
 ·have e1:zBT t l=8:=by simp [zBT,hv,hm,hb]
  have e2:Two.zC1 t l=[]:=by simp [Two.zC1,e1]
  rw [e1,e2]
  simp only [s1,hb] at h3
  (refine zH (n:=32) Tryd.func12 rfl rfl rfl ?_)
  (repeat' (first|((with_reducible refine zI ?_);first|refine zF rfl rfl rfl ?_|refine zD rfl rfl rfl ?_|(refine zf rfl rfl rfl ?_;refine ⟨_,rfl,?_⟩)|(refine zT rfl rfl rfl rfl rfl (fun h=>?_) (fun h=>?_)<;>(dsimp only [cmpP] at h;(try (exfalso;omega))))|(refine zBJ rfl rfl rfl rfl (fun _ _ q=>zBx t A cap l B c _ (ht.below q.below) (hs.below q.below) (fun b o e=>Nat.lt_of_lt_of_le (hB b o e) q.below.size) hf hfm hl hll hv hm) ?_;rintro mm -;dsimp only [List.cons_append,List.nil_append])|refine zz rfl rfl rfl rfl (fun _ _ q=>h3 _ _ q.below (zE9 q.own (by (repeat constructor)))) (fun A' c'=>?_)|refine zZ rfl rfl rfl rfl ?_|refine zCR rfl rfl rfl ?_|(refine zQ rfl rfl rfl rfl rfl ?_;refine ⟨rfl,by first|decide|exact Nat.le_of_ble_eq_true rfl|(simp;omega),_,rfl,?_⟩)|(refine zV rfl rfl (fun b=>?_))|(refine zAD rfl rfl rfl rfl (fun b=>?_)))|(with_reducible first|refine zJ ?_|refine zC ?_|refine zG ?_|refine zA ?_|refine zg ?_|refine ze ?_|refine zq ?_)|((with_reducible refine zM ?_ ?_);(· exact rfl))|((with_reducible refine zL ?_ ?_);(· exact rfl))))
  exact zP (by (exact zY.cons (by exact zAW.tmp rfl) (zY.cons (by exact zAW.tmp rfl) zY.nil))) (none,0) trivial rfl (fun _ h=>zBK h)
 ·have e1:zBT t l=0:=by simp [zBT,hv,hm,hb]
  have e2:Two.zC1 t l=picks (fun i m=>Two.zAm t l i m) l:=by simp [Two.zC1,e1]
  rw [e1,e2]
  simp only [s1,s2,hb] at h3
  (refine zH (n:=32) Tryd.func12 rfl rfl rfl ?_)
  (repeat' (first|((with_reducible refine zI ?_);first|refine zF rfl rfl rfl ?_|refine zD rfl rfl rfl ?_|(refine zf rfl rfl rfl ?_;refine ⟨_,rfl,?_⟩)|(refine zT rfl rfl rfl rfl rfl (fun h=>?_) (fun h=>?_)<;>(dsimp only [cmpP] at h;(try (exfalso;omega))))|(refine zBJ rfl rfl rfl rfl (fun _ _ q=>zBx t A cap l B c _ (ht.below q.below) (hs.below q.below) (fun b o e=>Nat.lt_of_lt_of_le (hB b o e) q.below.size) hf hfm hl hll hv hm) ?_;rintro mm -;dsimp only [List.cons_append,List.nil_append])|refine zz rfl rfl rfl rfl (fun _ _ q=>h3 _ _ q.below (zE9 q.own (by (repeat constructor)))) (fun A' c'=>?_)|refine zZ rfl rfl rfl rfl ?_|refine zCR rfl rfl rfl ?_|(refine zQ rfl rfl rfl rfl rfl ?_;refine ⟨rfl,by first|decide|exact Nat.le_of_ble_eq_true rfl|(simp;omega),_,rfl,?_⟩)|(refine zV rfl rfl (fun b=>?_))|(refine zAD rfl rfl rfl rfl (fun b=>?_))|refine zA0 rfl rfl rfl rfl ?_)|(with_reducible first|refine zJ ?_|refine zC ?_|refine zG ?_|refine zA ?_|refine ze ?_)|((with_reducible refine zL ?_ ?_);(· exact rfl))))
  rename_i b2 bv ba
  refine zF0 (Sta mm ba bv b A t.length cap A' c' (rnT t l) (KB.id l.length,l)) [] rfl rfl rfl rfl (by (repeat constructor)) (fun a W q=>zGX t A cap l B c hv hm mm ba bv b A' c' w.heap.size W (KB.id l.length,l) (arr_id l) q.below.size (Own.append.1 q.own).1 (ht.below (zEO q.below)) (hs.below (zEO q.below))) ?_
  rintro ⟨⟨kb2,ms2⟩,A9,c9⟩ -
  simp only [List.cons_append,List.nil_append,List.append_nil]
  (repeat' (first|((with_reducible refine zI ?_);first|refine zD rfl rfl rfl ?_)|(with_reducible first|refine zG ?_|refine zA ?_|refine zg ?_)))
  exact zP (by (exact zY.cons (by exact zAW.tmp rfl) (zY.cons (by exact zAW.tmp rfl) zY.nil))) (A9,c9) trivial rfl (fun _ h=>h.sub (by (repeat constructor)))
end Go.Proofs.YtcpdjamlhhfbhaaDoor
namespace Go.Proofs.YtcpdjamlhhfbhaaDoor
variable {ro : Option Nat}
open Go.RowKit
set_option maxRecDepth 20000
theorem zEE {P:Program} {w:World} (t u ty e:TypeId) (i:TypeInfo) (z:Value) (ht:P.underlying t=some (.slice e)) (hu:P.underlying u=some (.int .i64)) (hi:P.info? e=some i) (hz:i.zero=some z)
  (n:Nat) (h0:0<n) (h63:(n:Int)≤1000000) (hb:i.bytes≤1000000) (hs:0<i.size) :
  (Builtin.append_ #[t,u] ty #[.slice none 0 0,.int .i64 n]).run P w =
   .ok (.slice (some ⟨w.heap.size,0,none⟩) n (grownCap w n 0 e)) (w.drew.alloc (.cells (Builtin.zeroCells z.cells n++Builtin.zeroCells z.cells (grownCap w n 0 e - n)) e)):=by
 have hn:n≠0:=by omega
 have hw:IntKind.i64.wrap (n:Int)=n:=IntWalk.i64_in _ (by omega)
 have h63':¬ (9223372036854775807<(n:Int)):=by omega
 have h49:n * i.bytes≤1000000 * 1000000:=Nat.mul_le_mul (by omega) hb
 have h48':¬ (281474976710656<Builtin.nextslicecap n 0 * i.bytes):=by rw [nextslicecap_zero h0];omega
 have h50:¬ ((281474976710656:Int)<(n:Int) * (i.bytes:Int)):=by
  have:((n * i.bytes:Nat):Int)≤((1000000 * 1000000:Nat):Int):=by exact_mod_cast h49
  rw [Int.natCast_mul] at this;omega
 have h51:¬ ((n:Int)<0):=by omega
 have h52:¬ n * i.size=0:=by
  intro h;rcases Nat.mul_eq_zero.1 h with h|h<;>omega
 have h53:¬ i.size=0:=by omega
 simp [Builtin.append_,run_underlying ht,run_underlying hu,sizeOf,typeInfo,zeroValue,hi,hz,Builtin.lenOf,Builtin.firstCells,hn,h63',h48',Question.forced,newRow,grownCap,asInt,asIntOf,hw,h50,h51,h52,h53]
section
variable {P : Program} {w0:World} {n:Nat} {d:List Deferred} {R:List (Nat × Value)} {H:List Ent} {Q:Exit→Act→World→Prop} {ops:Array Oper} {rest:List Oper} {o:Oper} {t:Tmp} {x y:Operand}
theorem zHn {α:Type} (enc:α→List Value) {k e T1 U1 bytes s m:Nat} {g:Bool} [el:ElI P T1 e k bytes] [tu:TyI P U1 (.int .i64) s g] (hop:o.op = .call { callee:=.builtin .append,args:=#[x,y],argTypes:=#[T1,U1] }) (hrd:rdy R ops n o=some t)
  (hx:evR R x=some (.slice none 0 0)) (hy:evR R y=some (.int .i64 (m:Int))) (h0:0<m) (hm:m≤1000000∧bytes≤1000000)
  (h:∀ b c',m≤c'→U w0 n d ((t,.slice (some ⟨b,0,none⟩) m c')::R) (.row enc k e (.slice (some ⟨b,0,none⟩) 0 c') ([]:List α)::H) (wpL ro P ops Q rest)):U w0 n d R H (wpL ro P ops Q (o::rest)) :=
 zDQ (rW hrd) fun a w q K hK=>by
  obtain ⟨z,hE⟩:=el.el
  obtain ⟨i,i1,i2,i3,i4⟩:=hE.info
  have hp:=hE.pos
  have key:=zEE (P:=P) (w:=w) T1 U1 o.type e i z hE.under tu.und i1 i2 m h0 (by omega) (by omega) (by omega)
  unfold Oper.wp execOp
  simp only [hop,resolve,invoke,builtin,Sem.run_bind,Sem.run_pure,Result.andThen_ok,List.map_toArray,List.map_cons,List.map_nil,q.ev hx,q.ev hy,key,Oper.upon_value,(rD hrd)]
  have hge:=grownCap_ge w m 0 e
  refine hK _ _ (h w.heap.size _ hge _ _ (Kn.put (q.call (E:=[.row enc k e (.slice (some ⟨w.heap.size,0,none⟩) 0 (grownCap w m 0 e)) ([]:List α)]) ?_ ⟨?_,?_,by simp⟩) (rT hrd)))
  ·exact ⟨rfl,rfl,rfl,by simp,fun k hk=>Below.heap_alloc _ _ _ hk⟩
  ·intro f hf
   simp only [List.mem_singleton] at hf
   subst hf
   refine (?_:World.ownsRow _ 0 e k (.slice (some ⟨w.heap.size,0,none⟩) 0 (grownCap w m 0 e)) 0 [])
   refine ⟨by simp,.inr ⟨w.heap.size,_,_,rfl,Nat.zero_le _,heap_alloc_new w.drew _,Nat.zero_le _,grownCap_le_maxLen w m 0 e (by unfold maxLen;omega),?_,by simp⟩⟩
   simp only [Array.size_append,size_zeroCells,hE.zs,← Nat.add_mul]
   congr 1
   omega
  ·intro f hf b hb
   simp only [List.mem_singleton] at hf
   subst hf
   cases hb
   simp
theorem zHk {T1 e:TypeId} {td:TypeDesc} {s s' m c:Nat} {g g':Bool} {A:Option Addr} {hi:Option Operand} {u:Int} (M:Nat) (hop:o.op = .slice T1 x none hi none) [i1:TyI P T1 (.slice e) s g] [i2:TyI P e td s' g'] (hrd:rdy R ops n o=some t) (hx:evR R x=some (.slice A m c))
  (hu:bnd R hi m=some u) (hM:u=(M:Int)) (h2:M≤c) (hA:A.map (·.add 0)=A)
  (h:U w0 n d ((t,.slice A M c)::R) H (wpL ro P ops Q rest)):U w0 n d R H (wpL ro P ops Q (o::rest)):=by
 subst hM
 refine zAX (v:=.slice A M c) hrd (fun a w q=>?_) h
 unfold execOp;rw [hop]
 have e1:=run_underlying i1.und w
 have e2:=i2.siz w
 have b1:∀ (r:Nat) (code:BoundsCode) (z:Nat),z≤r→∀ k,(Instr.sliceBound (.int k (z:Int)) r code).run P w = .ok z w:=fun r code z hz k=>by
  simp [Instr.sliceBound,asIntOf,hz]
 have hhi:(∃ k,hi.map a.eval=some (.int k (M:Int)))∨(hi=none∧M=m):=by
  cases hi with
  | none=>simp only [bnd,Option.some.injEq] at hu;exact .inr ⟨rfl,by omega⟩
  | some y =>
   simp only [bnd] at hu
   cases hy:evR R y with
   | none=>rw [hy] at hu;simp at hu
   | some v =>
    rw [hy] at hu
    cases v<;>simp at hu
    rename_i k i
    subst hu
    exact .inl ⟨k,by simp [q.ev hy]⟩
 have hA':∀ z:Nat,z=0→A.map (·.add z)=A:=fun z hz=>by rw [hz];exact hA
 rcases hhi with ⟨k2,hhi⟩ | ⟨hhi,rfl⟩ <;>
  simp [Instr.sliceAt,Instr.slice,e1,e2,q.ev hx,Instr.sliceBounds,hhi,b1,h2,hA]
end
set_option maxHeartbeats 1000000 in
theorem grow_any (m:Nat) (w:World) (h0:0<m) (hm:m≤1000):Ret Tryd.prog 56 [.slice none 0 0,.int .i64 (m:Int)] w (fun p:Nat × Nat=>.slice (some ⟨p.1,0,none⟩) 0 p.2) (fun p=>[.row zO 9 62 (.slice (some ⟨p.1,0,none⟩) 0 p.2) ([]:List St)]) (fun p=>m≤p.2):=by
 (refine zH (n:=27) Tryd.func56 rfl rfl rfl ?_)
 (repeat' (first|((with_reducible refine zI ?_);first|refine zF rfl rfl rfl ?_|refine zD rfl rfl rfl ?_|(refine zT rfl rfl rfl rfl rfl (fun h=>?_) (fun h=>?_)<;>(dsimp only [cmpP] at h;(try (exfalso;omega))))|refine zHk 0 rfl rfl rfl (by exact rfl) rfl (by omega) (by first|exact rfl|simp [Addr.add]) ?_|(refine zHn zO (m:=m) rfl rfl rfl (by rw [show (m:Int)=(m:Int) - (((0:Nat):Int) - ((0:Nat):Int)) by omega];exact rfl) h0 (by omega) (fun b c' hc=>?_))|refine u_sub rfl rfl rfl rfl (IntWalk.i64_in _ (by omega)) ?_|refine zAx rfl rfl rfl ?_|refine u_cap rfl rfl rfl ?_)|(with_reducible first|refine zJ ?_|refine zC ?_|refine zG ?_|refine zA ?_|refine zg ?_|refine ze ?_)|((with_reducible refine zM ?_ ?_);(· exact rfl))|((with_reducible refine zL ?_ ?_);(· exact rfl))))
 exact zP (by exact rTm rfl) (b,c') hc rfl (fun _ h=>h.sub (by (repeat constructor)))
end Go.Proofs.YtcpdjamlhhfbhaaDoor
namespace Go.Proofs.YtcpdjamlhhfbhaaDoor
variable {ro : Option Nat}
open Go.RowKit
set_option maxRecDepth 20000
def sz2 (la lb:Int):Nat→Int
 | 0=>0
 | 1=>0+la
 | _=>0+la+lb
def part2 {α:Type} (a b:List α):Nat→List α
 | 0=>[]
 | 1=>a
 | _=>a++b
theorem sz2_0 {la lb:Int}:sz2 la lb 0=0:=rfl
theorem sz2_1 {la lb:Int}:sz2 la lb 1=0+la:=rfl
theorem sz2_2 {la lb:Int}:sz2 la lb 2=0+la+lb:=rfl
theorem part2_0 {α:Type} {a b:List α}:part2 a b 0=[]:=rfl
theorem part2_1 {α:Type} {a b:List α}:part2 a b 1=a:=rfl
theorem part2_2 {α:Type} {a b:List α}:part2 a b 2=a++b:=rfl
set_option maxHeartbeats 2000000 in
theorem zHK (a b:List St) (A B:Option Addr) (ca cb bb:Nat) (w:World) (ha:zS zO 9 w A a) (hb:zS zO 9 w B b) (h0:0<a.length+b.length) (hl:a.length≤100∧b.length≤100) (h1:InC w bb 0 [.slice A a.length ca,.slice B b.length cb]) :
  zAh zO 9 (a++b) (fun v=>v) Tryd.prog 38 [.slice (some ⟨bb,0,none⟩) 2 2] w:=by
 unfold zAh
 (refine zH (n:=36) Tryd.func38 rfl rfl rfl ?_)
 (repeat' (first|((with_reducible refine zI ?_);first|refine zF rfl rfl rfl ?_|refine zD rfl rfl rfl ?_|refine zAx rfl rfl rfl ?_)|(with_reducible first|refine zJ ?_|refine zC ?_|refine zG ?_|refine zA ?_|refine zb ?_)))
 refine zAc (ι:=Nat) (fun i=>i≤2) (fun i=>[(0,.slice (some ⟨bb,0,none⟩) 2 2),(3,.int .i64 (sz2 a.length b.length i)),(9,.slice (some ⟨bb,0,none⟩) 2 2),(10,.int .i64 ((2:Nat):Int)),(11,.int .i64 (i:Int))]) (fun _=>[]) (fun i=>2 - i) 0 (by omega) (by (repeat first|exact lK1|refine zW rfl ?_)) (by (repeat constructor)) ?_
 intro i hi
 rcases (by omega:i=0∨i=1∨i=2) with rfl|rfl|rfl
 ·rw [sz2_0]
  (repeat' (first|((with_reducible refine zI ?_);first|refine zF rfl rfl rfl ?_|refine zD rfl rfl rfl ?_|(refine zf rfl rfl rfl ?_;refine ⟨_,rfl,?_⟩)|(refine zT rfl rfl rfl rfl rfl (fun h=>?_) (fun h=>?_)<;>(dsimp only [cmpP] at h;(try (exfalso;omega))))|refine zAY rfl rfl rfl rfl (by omega) ?_|refine zGI rfl rfl rfl rfl (IntWalk.i64_in _ (by omega)) ?_|refine zBv rfl rfl rfl rfl rfl (by omega) ?_|refine zAx rfl rfl rfl ?_)|(with_reducible first|refine zJ ?_|refine zC ?_|refine zG ?_|refine zA ?_|refine ze ?_|refine zb ?_|refine zAL ?_)|((with_reducible refine zM ?_ ?_);(· exact rfl))|((with_reducible refine zL ?_ ?_);(· exact rfl))))
  exact zm 1 (by omega) (by omega) (by (repeat first|exact lK1|refine zW rfl ?_)) (by (repeat constructor))
 ·rw [sz2_1]
  (repeat' (first|((with_reducible refine zI ?_);first|refine zF rfl rfl rfl ?_|refine zD rfl rfl rfl ?_|(refine zf rfl rfl rfl ?_;refine ⟨_,rfl,?_⟩)|(refine zT rfl rfl rfl rfl rfl (fun h=>?_) (fun h=>?_)<;>(dsimp only [cmpP] at h;(try (exfalso;omega))))|refine zAY rfl rfl rfl rfl (by omega) ?_|refine zGI rfl rfl rfl rfl (IntWalk.i64_in _ (by omega)) ?_|refine zBv rfl rfl rfl rfl rfl (by omega) ?_|refine zAx rfl rfl rfl ?_)|(with_reducible first|refine zJ ?_|refine zC ?_|refine zG ?_|refine zA ?_|refine ze ?_|refine zb ?_|refine zAL ?_)|((with_reducible refine zM ?_ ?_);(· exact rfl))|((with_reducible refine zL ?_ ?_);(· exact rfl))))
  exact zm 2 (by omega) (by omega) (by (repeat first|exact lK1|refine zW rfl ?_)) (by (repeat constructor))
 rw [sz2_2]
 have hg:=fun W=>grow_any (a.length+b.length) W h0 (by omega)
 rw [show ((a.length+b.length:Nat):Int)=0+(a.length:Int)+(b.length:Int) by omega] at hg
 (repeat' (first|((with_reducible refine zI ?_);first|refine zF rfl rfl rfl ?_|refine zD rfl rfl rfl ?_|(refine zT rfl rfl rfl rfl rfl (fun h=>?_) (fun h=>?_)<;>(dsimp only [cmpP] at h;(try (exfalso;omega))))|(refine zBJ rfl rfl rfl rfl (fun _ w _=>hg w) ?_;rintro ⟨g,c0⟩ hc0;dsimp only [List.cons_append,List.nil_append] at hc0 ⊢)|refine zAx rfl rfl rfl ?_)|(with_reducible first|refine zJ ?_|refine zC ?_|refine zG ?_|refine zA ?_|refine zb ?_|refine zAd ?_|refine zo ?_|refine zx ?_)|((with_reducible refine zL ?_ ?_);(· exact rfl))))
 refine zAc (ι:=Nat × Value) (fun i=>i.1≤2) (fun i=>[(6,i.2),(25,.slice (some ⟨bb,0,none⟩) 2 2),(26,.int .i64 ((2:Nat):Int)),(27,.int .i64 (i.1:Int))]) (fun i=>[.row zO 9 62 i.2 (part2 a b i.1)]) (fun i=>2 - i.1) (0,.slice (some ⟨g,0,none⟩) 0 c0) (by simp) (by (repeat first|exact lK1|refine zW rfl ?_)) (by (repeat constructor)) ?_
 rintro ⟨i,v⟩ hi
 simp only at hi ⊢
 rcases (by omega:i=0∨i=1∨i=2) with rfl|rfl|rfl
 ·rw [part2_0]
  (repeat' (first|((with_reducible refine zI ?_);first|refine zF rfl rfl rfl ?_|refine zD rfl rfl rfl ?_|(refine zf rfl rfl rfl ?_;refine ⟨_,rfl,?_⟩)|(refine zT rfl rfl rfl rfl rfl (fun h=>?_) (fun h=>?_)<;>(dsimp only [cmpP] at h;(try (exfalso;omega))))|(refine zBk (enc:=zO) a rfl rfl rfl (by (repeat constructor)) rfl rfl (zG2 ha) (by refine ⟨?_,by decide⟩;(try simp only [List.length_append,List.length_cons,List.length_nil]);omega) (fun A' c'=>?_))|refine zAY rfl rfl rfl rfl (by omega) ?_|refine zBv rfl rfl rfl rfl rfl (by omega) ?_)|(with_reducible first|refine zJ ?_|refine zC ?_|refine zG ?_|refine zA ?_|refine ze ?_|refine zb ?_|refine zAL ?_)|((with_reducible refine zM ?_ ?_);(· exact rfl))))
  exact zm (1,.slice A' ([]++a).length c') (by simp) (by simp) (by (repeat first|exact lK1|refine zW rfl ?_)) (by (repeat constructor))
 ·rw [part2_1]
  (repeat' (first|((with_reducible refine zI ?_);first|refine zF rfl rfl rfl ?_|refine zD rfl rfl rfl ?_|(refine zf rfl rfl rfl ?_;refine ⟨_,rfl,?_⟩)|(refine zT rfl rfl rfl rfl rfl (fun h=>?_) (fun h=>?_)<;>(dsimp only [cmpP] at h;(try (exfalso;omega))))|(refine zBk (enc:=zO) b rfl rfl rfl (by (repeat constructor)) rfl rfl (zG2 hb) (by refine ⟨?_,by decide⟩;(try simp only [List.length_append,List.length_cons,List.length_nil]);omega) (fun A' c'=>?_))|refine zAY rfl rfl rfl rfl (by omega) ?_|refine zBv rfl rfl rfl rfl rfl (by omega) ?_)|(with_reducible first|refine zJ ?_|refine zC ?_|refine zG ?_|refine zA ?_|refine ze ?_|refine zb ?_|refine zAL ?_)|((with_reducible refine zM ?_ ?_);(· exact rfl))))
  exact zm (2,.slice A' (a++b).length c') (by simp) (by simp) (by (repeat first|exact lK1|refine zW rfl ?_)) (by (repeat constructor))
 rw [part2_2]
 (repeat' (first|((with_reducible refine zI ?_);first|refine zF rfl rfl rfl ?_|refine zD rfl rfl rfl ?_|(refine zT rfl rfl rfl rfl rfl (fun h=>?_) (fun h=>?_)<;>(dsimp only [cmpP] at h;(try (exfalso;omega)))))|(with_reducible first|refine zJ ?_|refine zC ?_|refine zG ?_|refine zA ?_|refine zg ?_|refine zAd ?_|refine zo ?_|refine zx ?_)|((with_reducible refine zL ?_ ?_);(· exact rfl))))
 refine zBa (enc:=zO) (by (repeat constructor)) ?_
 rintro A2 c2 rfl
 exact zP (by exact rTm rfl) (A2,c2) trivial rfl (fun _ h=>(h.zEF (by (repeat constructor))).sub (by (repeat constructor)))
end Go.Proofs.YtcpdjamlhhfbhaaDoor
namespace Go.Proofs.YtcpdjamlhhfbhaaDoor
variable {ro : Option Nat}
open Go.RowKit
set_option maxRecDepth 20000
def zEh (a b:List St):Int:=if valid a && valid b then (if 12<a.length+b.length then 9 else if valid (a++b) then 0 else 8) else 10
def zCu (a b:List St):List St:=if valid a && valid b then (if 12<a.length+b.length then [] else if valid (a++b) then a++b else []) else []
set_option maxHeartbeats 2000000 in
theorem join_any (a m:List St) (A B:Option Addr) (ca cb:Nat) (w:World) (ha:zS zO 9 w A a) (hb:zS zO 9 w B m) (fa:zCb a) (fb:zCb m) (hl:a.length≤1000∧m.length≤1000) :
  zAh zO 9 (zCu a m) (fun v=>.tuple #[.agg #[v],.int .i64 (zEh a m)]) Tryd.prog 17 [.agg #[.slice A a.length ca],.agg #[.slice B m.length cb]] w:=by
 unfold zAh
 have h1:=fun W (h:Below w.heap.size w W)=>zDy a A ca W (ha.below h) fa (by omega)
 have h2:=fun W (h:Below w.heap.size w W)=>zDy m B cb W (hb.below h) fb (by omega)
 cases hva:valid a
 ·have e1:zCu a m=[]:=by simp [zCu,hva]
  have e2:zEh a m=10:=by simp [zEh,hva]
  rw [e1,e2]
  rw [zBz hva] at h1
  (refine zH (n:=35) Tryd.func17 rfl rfl rfl ?_)
  (repeat' (first|((with_reducible refine zI ?_);first|refine zF rfl rfl rfl ?_|refine zD rfl rfl rfl ?_|(refine zf rfl rfl rfl ?_;refine ⟨_,rfl,?_⟩)|refine zBS rfl rfl rfl rfl ?_|refine zBu rfl rfl rfl ?_|(refine zT rfl rfl rfl rfl rfl (fun h=>?_) (fun h=>?_)<;>(dsimp only [cmpP] at h;(try (exfalso;omega))))|refine zN rfl rfl rfl rfl (fun _ _ q=>h1 _ q.below) ?_|(refine zQ rfl rfl rfl rfl rfl ?_;refine ⟨rfl,by first|decide|exact Nat.le_of_ble_eq_true rfl|(simp;omega),_,rfl,?_⟩)|(refine zV rfl rfl (fun b=>?_))|(refine zAD rfl rfl rfl rfl (fun b=>?_))|(refine zAH rfl rfl rfl ?_;refine ⟨_,rfl,?_⟩))|(with_reducible first|refine zJ ?_|refine zC ?_|refine zG ?_|refine zA ?_|refine zg ?_|refine zq ?_)|((with_reducible refine zM ?_ ?_);(· exact rfl))))
  exact zP (by (exact zY.cons (by exact res1c rfl (by exact rfl)) (zY.cons (by exact zAW.tmp rfl) zY.nil))) (none,0) trivial rfl (fun _ h=>zBK h)
 rw [zBG hva] at h1
 cases hvb:valid m
 ·have e1:zCu a m=[]:=by simp [zCu,hvb]
  have e2:zEh a m=10:=by simp [zEh,hvb]
  rw [e1,e2]
  rw [zBz hvb] at h2
  (refine zH (n:=35) Tryd.func17 rfl rfl rfl ?_)
  (repeat' (first|((with_reducible refine zI ?_);first|refine zF rfl rfl rfl ?_|refine zD rfl rfl rfl ?_|(refine zf rfl rfl rfl ?_;refine ⟨_,rfl,?_⟩)|refine zBS rfl rfl rfl rfl ?_|(refine zT rfl rfl rfl rfl rfl (fun h=>?_) (fun h=>?_)<;>(dsimp only [cmpP] at h;(try (exfalso;omega))))|refine zN rfl rfl rfl rfl (fun _ _ q=>h1 _ q.below) ?_|refine zN rfl rfl rfl rfl (fun _ _ q=>h2 _ q.below) ?_|(refine zQ rfl rfl rfl rfl rfl ?_;refine ⟨rfl,by first|decide|exact Nat.le_of_ble_eq_true rfl|(simp;omega),_,rfl,?_⟩)|(refine zV rfl rfl (fun b=>?_))|(refine zAD rfl rfl rfl rfl (fun b=>?_))|(refine zAH rfl rfl rfl ?_;refine ⟨_,rfl,?_⟩))|(with_reducible first|refine zJ ?_|refine zC ?_|refine zG ?_|refine zA ?_|refine zg ?_|refine zq ?_)|((with_reducible refine zM ?_ ?_);(· exact rfl))))
  exact zP (by (exact zY.cons (by exact res1c rfl (by exact rfl)) (zY.cons (by exact zAW.tmp rfl) zY.nil))) (none,0) trivial rfl (fun _ h=>zBK h)
 rw [zBG hvb] at h2
 have la:=zAl hva
 have lb:=zAl hvb
 have h3:=fun bb W (h:Below w.heap.size w W) i=>zHK a m A B ca cb bb W (ha.below h) (hb.below h) (by omega) (by omega) i
 have hab:zCb (a++m):=fun s hs=>by
  rcases List.mem_append.1 hs with h|h
  ·exact fa s h
  ·exact fb s h
 have hlen:(a++m).length=a.length+m.length:=List.length_append
 have h4:=fun A' c' W hs=>zDy (a++m) A' c' W hs hab (by omega)
 by_cases h12:12<a.length+m.length
 ·have e1:zCu a m=[]:=by simp [zCu,hva,hvb,h12]
  have e2:zEh a m=9:=by simp [zEh,hva,hvb,h12]
  rw [e1,e2]
  generalize a++m=ab at *
  (refine zH (n:=35) Tryd.func17 rfl rfl rfl ?_)
  (repeat' (first|((with_reducible refine zI ?_);first|refine zF rfl rfl rfl ?_|refine zD rfl rfl rfl ?_|(refine zf rfl rfl rfl ?_;refine ⟨_,rfl,?_⟩)|refine zAQ rfl rfl rfl ?_|refine zBS rfl rfl rfl rfl ?_|(refine zT rfl rfl rfl rfl rfl (fun h=>?_) (fun h=>?_)<;>(dsimp only [cmpP] at h;(try (exfalso;omega))))|refine zN rfl rfl rfl rfl (fun _ _ q=>h1 _ q.below) ?_|refine zN rfl rfl rfl rfl (fun _ _ q=>h2 _ q.below) ?_|refine zz rfl rfl rfl rfl (fun _ _ q=>h3 _ _ q.below (zBW q.own (Below.refl _ _))) (fun A' c'=>?_)|refine zAx rfl rfl rfl ?_|(refine zQ rfl rfl rfl rfl rfl ?_;refine ⟨rfl,by first|decide|exact Nat.le_of_ble_eq_true rfl|(simp;omega),_,rfl,?_⟩)|(refine zV rfl rfl (fun b=>?_))|(refine zAD rfl rfl rfl rfl (fun b=>?_))|(refine zAH rfl rfl rfl ?_;refine ⟨_,rfl,?_⟩)|(refine zi rfl rfl rfl ?_;refine ⟨rfl,_,rfl,fun b=>?_⟩))|(with_reducible first|refine zJ ?_|refine zC ?_|refine zG ?_|refine zA ?_|refine zg ?_|refine ze ?_|refine zq ?_|refine zb ?_|refine zD7 ?_)|((with_reducible refine zM ?_ ?_);(· exact rfl))|((with_reducible refine zL ?_ ?_);(· exact rfl))))
  exact zP (by (exact zY.cons (by exact res1c rfl (by exact rfl)) (zY.cons (by exact zAW.tmp rfl) zY.nil))) (none,0) trivial rfl (fun _ h=>zBK h)
 cases hvj:valid (a++m)
 ·have e1:zCu a m=[]:=by simp [zCu,hva,hvb,h12,hvj]
  have e2:zEh a m=8:=by simp [zEh,hva,hvb,h12,hvj]
  rw [e1,e2]
  rw [zBz hvj] at h4
  generalize a++m=ab at *
  (refine zH (n:=35) Tryd.func17 rfl rfl rfl ?_)
  (repeat' (first|((with_reducible refine zI ?_);first|refine zF rfl rfl rfl ?_|refine zD rfl rfl rfl ?_|(refine zf rfl rfl rfl ?_;refine ⟨_,rfl,?_⟩)|refine zAQ rfl rfl rfl ?_|refine zBS rfl rfl rfl rfl ?_|(refine zT rfl rfl rfl rfl rfl (fun h=>?_) (fun h=>?_)<;>(dsimp only [cmpP] at h;(try (exfalso;omega))))|refine zN rfl rfl rfl rfl (fun _ _ q=>h1 _ q.below) ?_|refine zN rfl rfl rfl rfl (fun _ _ q=>h2 _ q.below) ?_|refine zz rfl rfl rfl rfl (fun _ _ q=>h3 _ _ q.below (zBW q.own (Below.refl _ _))) (fun A' c'=>?_)|refine zN rfl rfl rfl rfl (fun _ _ q=>h4 _ _ _ (zAp q.own (Below.refl _ _))) ?_|refine zAx rfl rfl rfl ?_|(refine zQ rfl rfl rfl rfl rfl ?_;refine ⟨rfl,by first|decide|exact Nat.le_of_ble_eq_true rfl|(simp;omega),_,rfl,?_⟩)|(refine zV rfl rfl (fun b=>?_))|(refine zAD rfl rfl rfl rfl (fun b=>?_))|(refine zAH rfl rfl rfl ?_;refine ⟨_,rfl,?_⟩)|(refine zi rfl rfl rfl ?_;refine ⟨rfl,_,rfl,fun b=>?_⟩))|(with_reducible first|refine zJ ?_|refine zC ?_|refine zG ?_|refine zA ?_|refine zg ?_|refine ze ?_|refine zq ?_|refine zb ?_|refine zD7 ?_)|((with_reducible refine zM ?_ ?_);(· exact rfl))|((with_reducible refine zL ?_ ?_);(· exact rfl))))
  exact zP (by (exact zY.cons (by exact res1c rfl (by exact rfl)) (zY.cons (by exact zAW.tmp rfl) zY.nil))) (none,0) trivial rfl (fun _ h=>zBK h)
 ·have e1:zCu a m=a++m:=by simp [zCu,hva,hvb,h12,hvj]
  have e2:zEh a m=0:=by simp [zEh,hva,hvb,h12,hvj]
  rw [e1,e2]
  rw [zBG hvj] at h4
  generalize a++m=ab at *
  (refine zH (n:=35) Tryd.func17 rfl rfl rfl ?_)
  (repeat' (first|((with_reducible refine zI ?_);first|refine zF rfl rfl rfl ?_|refine zD rfl rfl rfl ?_|(refine zf rfl rfl rfl ?_;refine ⟨_,rfl,?_⟩)|refine zAQ rfl rfl rfl ?_|refine zBS rfl rfl rfl rfl ?_|(refine zT rfl rfl rfl rfl rfl (fun h=>?_) (fun h=>?_)<;>(dsimp only [cmpP] at h;(try (exfalso;omega))))|refine zN rfl rfl rfl rfl (fun _ _ q=>h1 _ q.below) ?_|refine zN rfl rfl rfl rfl (fun _ _ q=>h2 _ q.below) ?_|refine zz rfl rfl rfl rfl (fun _ _ q=>h3 _ _ q.below (zBW q.own (Below.refl _ _))) (fun A' c'=>?_)|refine zN rfl rfl rfl rfl (fun _ _ q=>h4 _ _ _ (zAp q.own (Below.refl _ _))) ?_|refine zAx rfl rfl rfl ?_|(refine zQ rfl rfl rfl rfl rfl ?_;refine ⟨rfl,by first|decide|exact Nat.le_of_ble_eq_true rfl|(simp;omega),_,rfl,?_⟩)|(refine zV rfl rfl (fun b=>?_))|(refine zAD rfl rfl rfl rfl (fun b=>?_))|(refine zAH rfl rfl rfl ?_;refine ⟨_,rfl,?_⟩)|(refine zi rfl rfl rfl ?_;refine ⟨rfl,_,rfl,fun b=>?_⟩))|(with_reducible first|refine zJ ?_|refine zC ?_|refine zG ?_|refine zA ?_|refine zg ?_|refine ze ?_|refine zb ?_|refine zAL ?_)|((with_reducible refine zL ?_ ?_);(· exact rfl))))
  exact zP (by (exact zY.cons (by exact res1c rfl (by exact rfl)) (zY.cons (by exact zAW.tmp rfl) zY.nil))) (_,_) trivial rfl (fun _ h=>h.sub (by (repeat constructor)))
end Go.Proofs.YtcpdjamlhhfbhaaDoor
namespace Go.Proofs.YtcpdjamlhhfbhaaDoor
set_option maxRecDepth 20000
def zAO : Me:=⟨1,0,1,⟨4100,4200⟩⟩
def badM : Me:=⟨1,1,1,⟨0,0⟩⟩
def zFt : Me:=⟨2,0,1,⟨421,500⟩⟩
def zEy : List St:=[⟨3,⟨4100,4100⟩,⟨400,420⟩,⟨0,0⟩,0,0⟩,⟨5,⟨2150,2200⟩,⟨150,160⟩,⟨1500,1600⟩,1,0⟩,⟨8,⟨3000,3000⟩,⟨300,330⟩,⟨0,0⟩,0,0⟩]
def runL3 : List St:=[⟨3,⟨4100,4100⟩,⟨400,420⟩,⟨0,0⟩,0,0⟩,⟨5,⟨2000,2200⟩,⟨150,160⟩,⟨1500,1600⟩,1,0⟩,⟨8,⟨3000,3000⟩,⟨300,330⟩,⟨0,0⟩,0,0⟩]
theorem left_2 : zAr zX [zAI,zAO]=true∧zA3 zX [zAI,zAO]=zEy:=by
 have h:=zDM (t:=zX) (ms:=[zAI,zAO]) (by unfold fine1 zBP fine;decide +kernel) (by unfold fine2 zBP fine;decide +kernel)
 refine ⟨h,?_⟩
 unfold zA3
 rw [h]
 show stage2 zX [zAI,zAO]=zEy
 decide +kernel
theorem left_3 : zAr zX [zAO]=true∧zA3 zX [zAO]=runL3:=by
 have h:=zDM (t:=zX) (ms:=[zAO]) (by unfold fine1 zBP fine;decide +kernel) (by unfold fine2 zBP fine;decide +kernel)
 refine ⟨h,?_⟩
 unfold zA3
 rw [h]
 show stage2 zX [zAO]=runL3
 decide +kernel
theorem left_f : zAr zX [zFt]=false:=zFk (by unfold fine2 zBP fine;decide +kernel)
theorem zF7 : zB4 zX.length [zAI,zAO]=true:=by decide
theorem meas_3 : zB4 zX.length [zAO]=true:=by decide
theorem meas_f : zB4 zX.length [zFt]=true:=by decide
theorem meas_b : zB4 zX.length [badM]=false:=by decide
theorem rn_1 : rnT zX [zAI]=runL:=by rw [← (zBB zAf zDp).2];exact zGe.2
theorem rn_2 : rnT zX [zAI,zAO]=zEy:=by rw [← (zBB zAf zF7).2];exact left_2.2
theorem rn_3 : rnT zX [zAO]=runL3:=by rw [← (zBB zAf meas_3).2];exact left_3.2
theorem nT_2 : nT zX [zAI,zAO]=zEy∧zBT zX [zAI,zAO]=0:=by
 refine ⟨(zHD zAf zF7).trans rn_2,?_⟩
 unfold zBT
 rw [zAf,zF7,← (zBB zAf zF7).1,left_2.1];rfl
theorem errN_f : zBT zX [zFt]=8:=by
 unfold zBT
 rw [zAf,meas_f,← (zBB zAf meas_f).1,left_f];rfl
theorem errN_b : zBT zX [badM]=11:=by
 unfold zBT
 rw [zAf,meas_b];rfl
theorem usel_2 : Two.zC1 zX [zAI,zAO]=[]:=by
 unfold Two.zC1
 rw [if_pos nT_2.2]
 refine zE3 fun i x hx=>?_
 unfold Two.zAm
 rw [rn_2]
 match i,hx with
 | 0,_=>exact decide_eq_false (by show ¬ rnT zX [zAO]=zEy;rw [rn_3];decide)
 | 1,_=>exact decide_eq_false (by show ¬ rnT zX [zAI]=zEy;rw [rn_1];decide)
 | i+2,h=>simp at h
theorem zEo : zCx zX 1 3=⟨5000,5200⟩∧zCy zX 1 3=⟨450,490⟩∧errD zX 1 3=0∧errD zX 2 1=2:=by decide +kernel
theorem ev_at : atT zX ⟨1,⟨100,110⟩⟩=⟨4100,4210⟩∧errA zX ⟨1,⟨100,110⟩⟩=0∧errA zX ⟨0,⟨0,4000⟩⟩=12:=by decide +kernel
theorem zEM : zBs zX 6100=[1,2]∧zEg zX 6100=0∧zEg zX 360001=2:=by decide +kernel
theorem zH6 : errS zX 3=2:=by decide +kernel
theorem ev_join : zEh zX zX=8:=by decide +kernel
theorem ev_nil : zBY []=10:=by decide +kernel
end Go.Proofs.YtcpdjamlhhfbhaaDoor
