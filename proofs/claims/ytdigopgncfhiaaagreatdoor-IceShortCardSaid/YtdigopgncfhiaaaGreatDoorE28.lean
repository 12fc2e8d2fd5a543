/- E28 -/
import Derived.Test.YtdigopgncfhiaaaGreatDoorE26
import Derived.Test.YtdigopgncfhiaaaGreatDoorE27
import Derived.Test.YtdigopgncfhiaaaGreatDoorE25
import Derived.Test.YtdigopgncfhiaaaGreatDoorE10
set_option linter.unusedSimpArgs false
set_option linter.unusedVariables false
namespace Go.Proofs.YtdigopgncfhiaaaGreatDoor
open Go.RowKit
set_option maxRecDepth 20000
set_option maxHeartbeats 1000000 in
theorem zPV (m:Nat) (w:World) (hm:m≤1000):Ret Tryz.prog 111 [.slice none 0 0,.int .i64 (m:Int)] w (fun v:Value=>v) (fun v=>[.row encI 1 3 v ([]:List Int)]) (fun _=>True):=by
 by_cases h0:0<m
 ·(refine zL (n:=27) Tryz.func111 rfl rfl rfl ?_)
  (repeat' (first|((with_reducible refine zG ?_);first|refine zE rfl rfl rfl rfl rfl ?_|refine zC rfl rfl rfl rfl rfl ?_|(refine zU rfl rfl rfl rfl rfl rfl rfl (fun h=>?_) (fun h=>?_)<;>(dsimp only [cmpP] at h;(try (exfalso;omega))))|refine zOg 0 rfl rfl rfl rfl rfl (by exact rfl) rfl (by omega) (by first|exact rfl|simp [Addr.add]) ?_|(refine zOm encI (m:=m) rfl rfl rfl rfl rfl (by rw [show (m:Int)=(m:Int) - (((0:Nat):Int) - ((0:Nat):Int)) by omega];exact rfl) h0 (by omega) (fun b c' hc=>?_))|refine zCY rfl rfl rfl rfl rfl rfl (IntWalk.i64_in _ (by omega)) ?_|refine zp rfl rfl rfl rfl rfl ?_|refine u_cap rfl rfl rfl rfl rfl ?_)|(with_reducible first|refine zH ?_|refine zB ?_|refine zD ?_|refine zA ?_|refine zc ?_|refine zS ?_|refine zY ?_|refine zBG ?_)|((with_reducible refine zI ?_ ?_);(· exact rfl))|((with_reducible refine zF ?_ ?_);(· exact rfl))))
  exact zV (by (exact zO.cons (by exact zn.tmp rfl) zO.nil)) _ trivial rfl (fun _ h=>h.sub (by (repeat (first|exact oK1 _|(refine oK2 (by (repeat (first|exact tK1 _ _|apply tK2))) ?_)))))
 ·obtain rfl:m=0:=by omega
  (refine zL (n:=27) Tryz.func111 rfl rfl rfl ?_)
  (repeat' (first|((with_reducible refine zG ?_);first|refine zE rfl rfl rfl rfl rfl ?_|refine zC rfl rfl rfl rfl rfl ?_|(refine zU rfl rfl rfl rfl rfl rfl rfl (fun h=>?_) (fun h=>?_)<;>(dsimp only [cmpP] at h;(try (exfalso;omega))))|refine zCY rfl rfl rfl rfl rfl rfl (IntWalk.i64_in _ (by omega)) ?_|refine zp rfl rfl rfl rfl rfl ?_|refine u_cap rfl rfl rfl rfl rfl ?_)|(with_reducible first|refine zH ?_|refine zB ?_|refine zD ?_|refine zA ?_|refine zc ?_|refine zS ?_|refine zY ?_|refine zBG ?_)|((with_reducible refine zI ?_ ?_);(· exact rfl))|((with_reducible refine zF ?_ ?_);(· exact rfl))))
  refine zEN encI 1 3 ?_
  exact zV (by (exact zO.cons (by exact zn.tmp rfl) zO.nil)) (.slice none 0 0) trivial rfl (fun _ h=>h.sub (by (repeat (first|exact oK1 _|(refine oK2 (by (repeat (first|exact tK1 _ _|apply tK2))) ?_)))))
def zEg (pl:List Sli) (k:Nat):List Int:=(pl.take k).flatMap Sli.xs
theorem zHo {pl:List Sli} {k:Nat} {s:Sli} (h:pl[k]?=some s):zEg pl (k+1)=zEg pl k++s.xs:=by
 unfold zEg
 rw [List.take_add_one,h,List.flatMap_append]
 simp
theorem zJe {pl:List Sli} (h:∀ s∈pl,s.xs.length≤20):∀ k,k≤pl.length→(zEg pl k).length≤k * 20
 | 0,_=>by simp [zEg]
 | k+1,hk=>by
  obtain ⟨s,hs⟩:∃ s,pl[k]?=some s:=⟨_,List.getElem?_eq_getElem (by omega)⟩
  rw [zHo hs,List.length_append]
  have:=zJe h k (by omega)
  have:=h s (List.mem_of_getElem? hs)
  omega
set_option maxHeartbeats 2000000 in
theorem zMp (pl:List Sli) (P:Option Addr) (cp:Nat) (w:World) (hp:zBP w P pl) (hl:pl.length≤12) (hrl:∀ s∈pl,s.xs.length≤20) :
  zC4 encI 1 (pl.flatMap Sli.xs) (fun v=>v) Tryz.prog 69 [.slice P pl.length cp] w:=by
 have hpp:=hp.p
 have hcl:=zJe hrl
 have hall:zEg pl pl.length=pl.flatMap Sli.xs:=by unfold zEg;rw [List.take_length]
 rw [← hall]
 unfold zC4
 (refine zL (n:=36) Tryz.func69 rfl rfl rfl ?_)
 (repeat' (first|((with_reducible refine zG ?_);first|refine zE rfl rfl rfl rfl rfl ?_|refine zC rfl rfl rfl rfl rfl ?_|(refine zK rfl rfl rfl rfl rfl ?_;refine ⟨_,rfl,?_⟩)|(refine zU rfl rfl rfl rfl rfl rfl rfl (fun h=>?_) (fun h=>?_)<;>(dsimp only [cmpP] at h;(try (exfalso;omega))))|refine zf rfl rfl rfl rfl rfl rfl (by omega) ?_|refine zA2 rfl rfl rfl rfl rfl rfl (IntWalk.i64_in _ (by omega)) ?_|refine zb rfl rfl rfl rfl rfl rfl rfl (by omega) ?_|refine zAO rfl rfl rfl rfl rfl rfl rfl (by first|decide|omega) ?_|refine zp rfl rfl rfl rfl rfl ?_)|(with_reducible first|refine zH ?_|refine zB ?_|refine zD ?_|refine zA ?_|refine zc ?_|refine zS ?_|refine zY ?_|refine zBG ?_|refine zQ ?_|refine zj ?_|refine zh ?_|refine zAK ?_|refine zR ?_|refine zW ?_)|((with_reducible refine zr ?_ ?_);(· exact rfl))|((with_reducible refine zI ?_ ?_);(· exact rfl))|((with_reducible refine zF ?_ ?_);(· exact rfl))))
 refine zw (ι:=Nat) [0,9,10] rfl (fun k=>k≤pl.length) (fun k=>[(11,.int .i64 (k:Int)),(3,.int .i64 ((zEg pl k).length:Int))]) (fun _=>[]) (fun k=>pl.length - k) 0 (Nat.zero_le _) (by (first|exact lK1|(repeat (first|exact lK1|(refine zM rfl ?_))))) (by (repeat (first|exact oK1 _|(refine oK2 (by (repeat (first|exact tK1 _ _|apply tK2))) ?_)))) ?_
 rintro k hk
 simp only [zAx,List.cons_append,List.nil_append]
 have hck:=hcl k hk
 by_cases hlt:k<pl.length
 ·obtain ⟨s,hsk⟩:∃ s,pl[k]?=some s:=⟨_,List.getElem?_eq_getElem hlt⟩
  have hsl:=hrl s (List.mem_of_getElem? hsk)
  obtain ⟨bb,o,rfl,hblt,hc⟩:=hpp.at_ hlt
  have:InS w bb o zBa 1 pl:=⟨hpp⟩
  have:zAU pl k s:=⟨hsk⟩
  have hcs:((zEg pl (k+1)).length:Int)=((zEg pl k).length:Int)+(s.xs.length:Int):=by rw [zHo hsk,List.length_append];omega
  (repeat' (first|((with_reducible refine zG ?_);first|refine zE rfl rfl rfl rfl rfl ?_|refine zC rfl rfl rfl rfl rfl ?_|(refine zK rfl rfl rfl rfl rfl ?_;refine ⟨_,rfl,?_⟩)|(refine zU rfl rfl rfl rfl rfl rfl rfl (fun h=>?_) (fun h=>?_)<;>(dsimp only [cmpP] at h;(try (exfalso;omega))))|refine zf rfl rfl rfl rfl rfl rfl (by omega) ?_|refine zA2 rfl rfl rfl rfl rfl rfl (IntWalk.i64_in _ (by omega)) ?_|refine zb rfl rfl rfl rfl rfl rfl rfl (by omega) ?_|refine zAO rfl rfl rfl rfl rfl rfl rfl (by first|decide|omega) ?_|refine zp rfl rfl rfl rfl rfl ?_)|(with_reducible first|refine zH ?_|refine zB ?_|refine zD ?_|refine zA ?_|refine zc ?_|refine zS ?_|refine zY ?_|refine zBG ?_|refine zQ ?_|refine zj ?_|refine zh ?_|refine zAK ?_|refine zR ?_|refine zW ?_)|((with_reducible refine zr ?_ ?_);(· exact rfl))|((with_reducible refine zI ?_ ?_);(· exact rfl))|((with_reducible refine zF ?_ ?_);(· exact rfl))))
  all_goals exact zi (k+1) (by omega) (by omega) (by simp only [hcs];(first|exact lK1|(repeat (first|exact lK1|(refine zM rfl ?_))))) (by (repeat (first|exact oK1 _|(refine oK2 (by (repeat (first|exact tK1 _ _|apply tK2))) ?_))))
 ·obtain rfl:k=pl.length:=by omega
  have hg:=fun W=>zPV (zEg pl pl.length).length W (by omega)
  (repeat' (first|((with_reducible refine zG ?_);first|refine zE rfl rfl rfl rfl rfl ?_|refine zC rfl rfl rfl rfl rfl ?_|(refine zK rfl rfl rfl rfl rfl ?_;refine ⟨_,rfl,?_⟩)|(refine zU rfl rfl rfl rfl rfl rfl rfl (fun h=>?_) (fun h=>?_)<;>(dsimp only [cmpP] at h;(try (exfalso;omega))))|(refine zAN rfl rfl rfl rfl rfl rfl (fun _ w _=>hg w) ?_;rintro v9 -;dsimp only [List.cons_append,List.nil_append])|refine zf rfl rfl rfl rfl rfl rfl (by omega) ?_|refine zA2 rfl rfl rfl rfl rfl rfl (IntWalk.i64_in _ (by omega)) ?_|refine zb rfl rfl rfl rfl rfl rfl rfl (by omega) ?_|refine zAO rfl rfl rfl rfl rfl rfl rfl (by first|decide|omega) ?_|refine zp rfl rfl rfl rfl rfl ?_)|(with_reducible first|refine zH ?_|refine zB ?_|refine zD ?_|refine zA ?_|refine zc ?_|refine zS ?_|refine zY ?_|refine zBG ?_|refine zQ ?_|refine zj ?_|refine zh ?_|refine zAK ?_|refine zR ?_|refine zW ?_)|((with_reducible refine zr ?_ ?_);(· exact rfl))|((with_reducible refine zI ?_ ?_);(· exact rfl))|((with_reducible refine zF ?_ ?_);(· exact rfl))))
  refine zw (ι:=Nat × Value) [25,26] rfl (fun q=>q.1≤pl.length) (fun q=>[(27,.int .i64 (q.1:Int)),(6,q.2)]) (fun q=>[.row encI 1 3 q.2 (zEg pl q.1)]) (fun q=>pl.length - q.1) (0,v9) (Nat.zero_le _) (by (first|exact lK1|(repeat (first|exact lK1|(refine zM rfl ?_))))) (by (repeat (first|exact oK1 _|(refine oK2 (by (repeat (first|exact tK1 _ _|apply tK2))) ?_)))) ?_
  rintro ⟨k,v⟩ hk
  simp only at hk
  simp only [zAx,List.cons_append,List.nil_append]
  have hck:=hcl k hk
  by_cases hlt:k<pl.length
  ·obtain ⟨s,hsk⟩:∃ s,pl[k]?=some s:=⟨_,List.getElem?_eq_getElem hlt⟩
   have hsm:=List.mem_of_getElem? hsk
   have hsl:=hrl s hsm
   have hrow:=hp.rows s hsm
   obtain ⟨bb,o,rfl,hblt,hc⟩:=hpp.at_ hlt
   have:InS w bb o zBa 1 pl:=⟨hpp⟩
   obtain ⟨sA,xs,sc⟩:=s
   have:zAU pl k ⟨sA,xs,sc⟩:=⟨hsk⟩
   have hcs:=zHo hsk
   simp only at hsl hrow hcs
   (repeat' (first|((with_reducible refine zG ?_);first|refine zE rfl rfl rfl rfl rfl ?_|refine zC rfl rfl rfl rfl rfl ?_|(refine zK rfl rfl rfl rfl rfl ?_;refine ⟨_,rfl,?_⟩)|(refine zU rfl rfl rfl rfl rfl rfl rfl (fun h=>?_) (fun h=>?_)<;>(dsimp only [cmpP] at h;(try (exfalso;omega))))|(refine zBT (enc:=encI) xs rfl rfl rfl rfl rfl (by (repeat (first|exact tK1 _ _|apply tK2))) rfl rfl (zGM hrow) (by refine ⟨?_,by decide⟩;(try simp only [List.length_append,List.length_cons,List.length_nil]);omega) (fun A' c'=>?_))|refine zf rfl rfl rfl rfl rfl rfl (by omega) ?_|refine zA2 rfl rfl rfl rfl rfl rfl (IntWalk.i64_in _ (by omega)) ?_|refine zb rfl rfl rfl rfl rfl rfl rfl (by omega) ?_|refine zAO rfl rfl rfl rfl rfl rfl rfl (by first|decide|omega) ?_|refine zp rfl rfl rfl rfl rfl ?_)|(with_reducible first|refine zH ?_|refine zB ?_|refine zD ?_|refine zA ?_|refine zc ?_|refine zS ?_|refine zY ?_|refine zBG ?_|refine zQ ?_|refine zj ?_|refine zh ?_|refine zAK ?_|refine zR ?_|refine zW ?_)|((with_reducible refine zr ?_ ?_);(· exact rfl))|((with_reducible refine zI ?_ ?_);(· exact rfl))|((with_reducible refine zF ?_ ?_);(· exact rfl))))
   exact zi (k+1,.slice A' (zEg pl k++xs).length c') (by simp only;omega) (by simp only;omega) (by (first|exact lK1|(repeat (first|exact lK1|(refine zM rfl ?_))))) (by simp only [hcs];(repeat (first|exact oK1 _|(refine oK2 (by (repeat (first|exact tK1 _ _|apply tK2))) ?_))))
  ·obtain rfl:k=pl.length:=by omega
   refine zIX (by (repeat (first|exact tK1 _ _|apply tK2))) ?_
   rintro A9 c9 rfl
   (repeat' (first|((with_reducible refine zG ?_);first|refine zE rfl rfl rfl rfl rfl ?_|refine zC rfl rfl rfl rfl rfl ?_|(refine zK rfl rfl rfl rfl rfl ?_;refine ⟨_,rfl,?_⟩)|(refine zU rfl rfl rfl rfl rfl rfl rfl (fun h=>?_) (fun h=>?_)<;>(dsimp only [cmpP] at h;(try (exfalso;omega))))|refine zf rfl rfl rfl rfl rfl rfl (by omega) ?_|refine zA2 rfl rfl rfl rfl rfl rfl (IntWalk.i64_in _ (by omega)) ?_|refine zb rfl rfl rfl rfl rfl rfl rfl (by omega) ?_|refine zAO rfl rfl rfl rfl rfl rfl rfl (by first|decide|omega) ?_|refine zp rfl rfl rfl rfl rfl ?_)|(with_reducible first|refine zH ?_|refine zB ?_|refine zD ?_|refine zA ?_|refine zc ?_|refine zS ?_|refine zY ?_|refine zBG ?_|refine zQ ?_|refine zj ?_|refine zh ?_|refine zAK ?_|refine zR ?_|refine zW ?_)|((with_reducible refine zr ?_ ?_);(· exact rfl))|((with_reducible refine zI ?_ ?_);(· exact rfl))|((with_reducible refine zF ?_ ?_);(· exact rfl))))
   exact zV (by (exact zO.cons (by exact zn.tmp rfl) zO.nil)) (A9,c9) trivial rfl (fun _ h=>(h.zFJ (by (repeat (first|exact tK1 _ _|apply tK2)))).sub (by (repeat (first|exact oK1 _|(refine oK2 (by (repeat (first|exact tK1 _ _|apply tK2))) ?_)))))
end Go.Proofs.YtdigopgncfhiaaaGreatDoor
namespace Go.Proofs.YtdigopgncfhiaaaGreatDoor
open Go.RowKit
set_option maxRecDepth 20000
def zEB (c:Cov) (x:Int):Sp:=(c.t.getD x.toNat default).long
def zDk (c:Cov) (w:Sp) (x:Int):Sp:=⟨w.lo+c.rate * (zEB c x).lo,w.hi+c.rate * (zEB c x).hi⟩
def zEm (c:Cov) (l:List Int):Sp:=l.foldl (zDk c) ⟨0,0⟩
def zGJ (c:Cov) (pl:List Sli):Sp:=if zCK c pl=0 then zEm c (zEg pl pl.length) else ⟨0,0⟩
theorem zM1 {c:Cov} {l:List Int} {x:Int}:zEm c (l++[x])=zDk c (zEm c l) x:=by simp [zEm]
theorem zNh {c:Cov} (h:zAm c=0):valid c.t=true:=by
 unfold zAm at h
 cases hv:valid c.t with
 | true=>rfl
 | false=>rw [hv] at h;simp at h
theorem cat_in {c:Cov} {pl:List Sli} (hp:zBg c pl=true) {x:Int} (hx:x∈zEg pl pl.length):∃ k:Nat,x=(k:Int)∧k<c.beds.length:=by
 unfold zEg at hx
 rw [List.take_length,List.mem_flatMap] at hx
 obtain ⟨s,hs,hx⟩:=hx
 obtain ⟨i,hi⟩:=List.mem_iff_getElem?.1 hs
 obtain ⟨hl,hr⟩:=zBN.1 hp
 have hil:=(List.getElem?_eq_some_iff.1 hi).1
 have:=hr i _ s (List.getElem?_eq_getElem (show i<c.hours.length by omega)) hi
 unfold zFK at this
 simp only [Bool.and_eq_true] at this
 exact zNK (List.all_eq_true.1 this.1.2 x hx)
theorem zMS {c:Cov} (hv:valid c.t=true) {k:Nat} (hk:k<c.t.length):1≤(zEB c k).lo∧(zEB c k).lo≤(zEB c k).hi∧(zEB c k).hi≤30000:=by
 have hz:c.t[k]?=some c.t[k]:=List.getElem?_eq_getElem hk
 have ho:=zC6 hv c.t[k] (List.getElem_mem hk)
 unfold zEB
 rw [Int.toNat_natCast,zAh hz]
 exact ⟨ho.l0,ho.l1,ho.l2⟩
theorem zPf {c:Cov} (hv:valid c.t=true) {k:Nat} (hk:k<c.t.length):zEe c.t (k:Int) ((k:Int)+1)=zEB c k:=by
 have hd:zE4 c.t (k:Int) ((k:Int)+1)=true:=by unfold zE4;simp only [Bool.and_eq_true,zAL];omega
 unfold zEe
 rw [hv,hd,Bool.and_true,if_pos rfl,Int.toNat_natCast,show ((k:Int)+1).toNat=k+1 by omega]
 unfold zk longs zEB
 have hz:c.t[k]?=some c.t[k]:=List.getElem?_eq_getElem hk
 rw [Int.toNat_natCast,zAh hz,List.extract_eq_take_drop,show k+1 - k=1 by omega,List.take_one,List.head?_drop,List.getElem?_map,hz]
 simp [zF5,zBs]
theorem zLd {c:Cov} (hf:zB4 c) (hv:valid c.t=true):∀ (l:List Int) (w:Sp) (m:Int),(∀ x∈l,∃ k:Nat,x=(k:Int)∧k<c.t.length)→0≤w.lo∧w.lo≤m∧0≤w.hi∧w.hi≤m→0≤(l.foldl (zDk c) w).lo∧(l.foldl (zDk c) w).lo≤m+3000000 * l.length∧0≤(l.foldl (zDk c) w).hi∧(l.foldl (zDk c) w).hi≤m+3000000 * l.length
 | [],w,m,_,h=>by simp only [List.foldl_nil,List.length_nil];omega
 | x::l,w,m,hx,h=>by
  obtain ⟨k,rfl,hk⟩:=hx x (by simp)
  have h1:=zMS hv hk
  have h2:=hf.rate
  simp only [zAL] at h2
  have m1:=zFQ (a:=c.rate) (b:=(zEB c k).lo) (A:=100) (B:=30000) (by omega) (by omega) (by omega) (by omega)
  have m2:=zFQ (a:=c.rate) (b:=(zEB c k).hi) (A:=100) (B:=30000) (by omega) (by omega) (by omega) (by omega)
  have:=zLd hf hv l (zDk c w k) (m+3000000) (fun y hy=>hx y (by simp [hy])) (by simp only [zDk];omega)
  simp only [List.foldl_cons,List.length_cons]
  omega
end Go.Proofs.YtdigopgncfhiaaaGreatDoor
namespace Go.Proofs.YtdigopgncfhiaaaGreatDoor
open Go.RowKit
set_option maxRecDepth 20000
set_option maxHeartbeats 4000000 in
theorem zNZ (c:Cov) (A:Option Addr) (ca:Nat) (B:Option Addr) (cb:Nat) (C:Option Addr) (cc:Nat) (pl:List Sli) (P:Option Addr) (cp:Nat) (w:World) (hc:zAk w c A B C) (hs:Small c) (hp:zBP w P pl) (hl:pl.length≤12) (hrl:∀ s∈pl,s.xs.length≤20) :
  Gv Tryz.prog 29 [zAI c A ca B cb C cc,.slice P pl.length cp] w (.tuple #[vSp (zGJ c pl),.int .i64 (zCK c pl)]):=by
 have h1:=fun W (hb:Below w.heap.size w W)=>zEW c A ca B cb C cc pl P cp W (hc.below hb) hs (hp.below hb) hl hrl
 have h2:=fun W (hb:Below w.heap.size w W)=>zEV c A ca B cb C cc pl P cp W (hc.below hb) hs (hp.below hb) hl hrl
 unfold zAI at h1 h2
 unfold Gv zAI zGJ vSp
 by_cases h0:zCK c pl=0
 ·rw [if_pos h0,h0]
  obtain ⟨h00,hpl⟩:=zEc h0
  have hf:=zBi h00
  have hv:=zNh h00
  have h2:=fun W hb=>h2 W hb h00 hpl
  have hC:=fun W (hb:Below w.heap.size w W)=>zMp pl P cp W (hp.below hb) hl hrl
  have hin:=fun x hx=>cat_in (c:=c) (pl:=pl) hpl (x:=x) hx
  have hlen:=zJe hrl pl.length (Nat.le_refl _)
  have hall:zEg pl pl.length=pl.flatMap Sli.xs:=by unfold zEg;rw [List.take_length]
  rw [← hall] at hC
  generalize zEg pl pl.length=L at *
  have hbt:=hf.beds
  have hrt:=hf.rate
  simp only [zAL] at hrt
  have hDr:=fun W (hb:Below w.heap.size w W) (k:Nat) (hk:k<c.t.length)=>(drop_any c.t A ca (k:Int) (((k+1:Nat)):Int) W (hc.t.below hb) hs.fit (by have:=hs.t;omega)).gv
  unfold vT vSp at hDr
  unfold zJ at h2 ⊢
  (refine zL (n:=60) Tryz.func29 rfl rfl rfl ?_)
  (repeat' (first|((with_reducible refine zG ?_);first|refine zE rfl rfl rfl rfl rfl ?_|refine zC rfl rfl rfl rfl rfl ?_|(refine zK rfl rfl rfl rfl rfl ?_;refine ⟨_,rfl,?_⟩)|refine za rfl rfl rfl rfl rfl ?_|(refine zU rfl rfl rfl rfl rfl rfl rfl (fun h=>?_) (fun h=>?_)<;>(dsimp only [cmpP] at h;(try (exfalso;omega))))|(refine zAN rfl rfl rfl rfl rfl rfl (fun _ _ q=>h2 _ q.below) ?_;rintro g -;dsimp only [List.cons_append,List.nil_append])|refine zB8 rfl rfl rfl rfl rfl rfl (fun _ _ q=>hC _ q.below) (fun A' c'=>?_)|refine zd rfl rfl rfl rfl rfl rfl ?_|refine zf rfl rfl rfl rfl rfl rfl (by omega) ?_|refine zA2 rfl rfl rfl rfl rfl rfl (IntWalk.i64_in _ (by omega)) ?_|refine u_mul rfl rfl rfl rfl rfl rfl (IntWalk.i64_in _ (by omega)) ?_|refine zb rfl rfl rfl rfl rfl rfl rfl (by omega) ?_|refine zAO rfl rfl rfl rfl rfl rfl rfl (by first|decide|omega) ?_|refine zp rfl rfl rfl rfl rfl ?_|(refine ze rfl rfl rfl rfl rfl ?_;refine And.intro rfl (And.intro (by first|decide|exact Nat.le_of_ble_eq_true rfl|(simp;omega)) ⟨_,rfl,?_⟩))|(refine zm rfl rfl rfl rfl (fun b=>?_))|(refine zt rfl rfl rfl rfl rfl rfl (fun b=>?_))|(refine zA7 rfl rfl rfl rfl rfl ?_;refine ⟨_,rfl,?_⟩))|(with_reducible first|refine zH ?_|refine zB ?_|refine zD ?_|refine zA ?_|refine zc ?_|refine zS ?_|refine zY ?_|refine zBG ?_|refine zQ ?_|refine zj ?_|refine zh ?_|refine zAK ?_|refine zR ?_|refine zW ?_)|((with_reducible refine zr ?_ ?_);(· exact rfl))|((with_reducible refine zI ?_ ?_);(· exact rfl))|((with_reducible refine zF ?_ ?_);(· exact rfl))))
  rename_i b2 b4
  refine zw (ι:=Nat) [2,4,8,25,26] rfl (fun k=>k≤L.length) (fun k=>[(27,.int .i64 (k:Int))]) (fun k=>[.blk b (zBD (zEm c (L.take k))),.sl encI 1 A' L,.blk b4 [.int .i64 0,.int .i64 0],.blk b2 (zJ c A ca B cb C cc)]) (fun k=>L.length - k) 0 (Nat.zero_le _) (by (first|exact lK1|(repeat (first|exact lK1|(refine zM rfl ?_))))) (by (repeat (first|exact oK1 _|(refine oK2 (by (repeat (first|exact tK1 _ _|apply tK2))) ?_)))) ?_
  rintro k hk
  simp only [zAx,zJ,List.cons_append,List.nil_append]
  by_cases hlt:k<L.length
  ·obtain ⟨x,hx⟩:∃ x,L[k]?=some x:=⟨_,List.getElem?_eq_getElem hlt⟩
   obtain ⟨i,rfl,hi⟩:=hin x (List.mem_of_getElem? hx)
   have hD:=fun W hb=>hDr W hb i (by omega)
   have he:zEe c.t (i:Int) (((i+1:Nat)):Int)=zEB c i:=by rw [show (((i+1:Nat)):Int)=(i:Int)+1 by omega];exact zPf hv (by omega)
   rw [he] at hD
   have h4:=hs.b
   have hli:=zMS hv (show i<c.t.length by omega)
   have hwi:=zLd hf hv (L.take k) ⟨0,0⟩ 0 (fun y hy=>by obtain ⟨j,e,hj⟩:=hin y (List.mem_of_mem_take hy);exact ⟨j,e,by omega⟩) (by simp only;omega)
   have hwl:(L.take k).length≤240:=by rw [List.length_take];omega
   have hw:zEm c (L.take (k+1))=zDk c (zEm c (L.take k)) i:=by rw [List.take_add_one,hx];exact zM1
   have hwe:(L.take k).foldl (zDk c) ⟨0,0⟩=zEm c (L.take k):=rfl
   rw [hwe] at hwi
   have m1:=zFQ (a:=c.rate) (b:=(zEB c i).lo) (A:=100) (B:=30000) (by omega) (by omega) (by omega) (by omega)
   have m2:=zFQ (a:=c.rate) (b:=(zEB c i).hi) (A:=100) (B:=30000) (by omega) (by omega) (by omega) (by omega)
   generalize zEm c (L.take k)=wk at *
   have:zAU L k (i:Int):=⟨hx⟩
   unfold zBD
   refine zGg (by (repeat (first|exact tK1 _ _|apply tK2))) (by omega) ?_
   rintro bl ol rfl
   (repeat' (first|((with_reducible refine zG ?_);first|refine zE rfl rfl rfl rfl rfl ?_|refine zC rfl rfl rfl rfl rfl ?_|(refine zK rfl rfl rfl rfl rfl ?_;refine ⟨_,rfl,?_⟩)|refine za rfl rfl rfl rfl rfl ?_|(refine zU rfl rfl rfl rfl rfl rfl rfl (fun h=>?_) (fun h=>?_)<;>(dsimp only [cmpP] at h;(try (exfalso;omega))))|refine zX rfl rfl rfl rfl rfl rfl (fun _ _ q=>hD _ q.below) ?_|refine zd rfl rfl rfl rfl rfl rfl ?_|refine zf rfl rfl rfl rfl rfl rfl (by omega) ?_|refine zA2 rfl rfl rfl rfl rfl rfl (IntWalk.i64_in _ (by omega)) ?_|refine u_mul rfl rfl rfl rfl rfl rfl (IntWalk.i64_in _ (by omega)) ?_|refine zb rfl rfl rfl rfl rfl rfl rfl (by omega) ?_|refine zAO rfl rfl rfl rfl rfl rfl rfl (by first|decide|omega) ?_|refine zp rfl rfl rfl rfl rfl ?_|(refine ze rfl rfl rfl rfl rfl ?_;refine And.intro rfl (And.intro (by first|decide|exact Nat.le_of_ble_eq_true rfl|(simp;omega)) ⟨_,rfl,?_⟩))|(refine zm rfl rfl rfl rfl (fun b=>?_))|(refine zt rfl rfl rfl rfl rfl rfl (fun b=>?_))|(refine zA7 rfl rfl rfl rfl rfl ?_;refine ⟨_,rfl,?_⟩))|(with_reducible first|refine zH ?_|refine zB ?_|refine zD ?_|refine zA ?_|refine zc ?_|refine zS ?_|refine zY ?_|refine zBG ?_|refine zQ ?_|refine zj ?_|refine zh ?_|refine zAK ?_|refine zR ?_|refine zW ?_)|((with_reducible refine zr ?_ ?_);(· exact rfl))|((with_reducible refine zI ?_ ?_);(· exact rfl))|((with_reducible refine zF ?_ ?_);(· exact rfl))))
   exact zi (k+1) (by omega) (by omega) (by (first|exact lK1|(repeat (first|exact lK1|(refine zM rfl ?_))))) (by simp only [hw,zDk];(repeat (first|exact oK1 _|(refine oK2 (by (repeat (first|exact tK1 _ _|apply tK2))) ?_))))
  ·obtain rfl:k=L.length:=by omega
   rw [List.take_length]
   (repeat' (first|((with_reducible refine zG ?_);first|refine zE rfl rfl rfl rfl rfl ?_|refine zC rfl rfl rfl rfl rfl ?_|(refine zK rfl rfl rfl rfl rfl ?_;refine ⟨_,rfl,?_⟩)|refine za rfl rfl rfl rfl rfl ?_|(refine zU rfl rfl rfl rfl rfl rfl rfl (fun h=>?_) (fun h=>?_)<;>(dsimp only [cmpP] at h;(try (exfalso;omega))))|refine zd rfl rfl rfl rfl rfl rfl ?_|refine zf rfl rfl rfl rfl rfl rfl (by omega) ?_|refine zA2 rfl rfl rfl rfl rfl rfl (IntWalk.i64_in _ (by omega)) ?_|refine u_mul rfl rfl rfl rfl rfl rfl (IntWalk.i64_in _ (by omega)) ?_|refine zb rfl rfl rfl rfl rfl rfl rfl (by omega) ?_|refine zAO rfl rfl rfl rfl rfl rfl rfl (by first|decide|omega) ?_|refine zp rfl rfl rfl rfl rfl ?_|(refine ze rfl rfl rfl rfl rfl ?_;refine And.intro rfl (And.intro (by first|decide|exact Nat.le_of_ble_eq_true rfl|(simp;omega)) ⟨_,rfl,?_⟩))|(refine zm rfl rfl rfl rfl (fun b=>?_))|(refine zt rfl rfl rfl rfl rfl rfl (fun b=>?_))|(refine zA7 rfl rfl rfl rfl rfl ?_;refine ⟨_,rfl,?_⟩))|(with_reducible first|refine zH ?_|refine zB ?_|refine zD ?_|refine zA ?_|refine zc ?_|refine zS ?_|refine zY ?_|refine zBG ?_|refine zQ ?_|refine zj ?_|refine zh ?_|refine zAK ?_|refine zR ?_|refine zW ?_)|((with_reducible refine zr ?_ ?_);(· exact rfl))|((with_reducible refine zI ?_ ?_);(· exact rfl))|((with_reducible refine zF ?_ ?_);(· exact rfl))))
   exact zV (by (exact zO.cons (by exact res1c rfl (by exact rfl)) (zO.cons (by exact zn.tmp rfl) zO.nil))) () trivial rfl (fun _ _=>Own.nil _ _)
 ·rw [if_neg h0]
  unfold zJ at h1 ⊢
  generalize zCK c pl=e at *
  (refine zL (n:=60) Tryz.func29 rfl rfl rfl ?_)
  (repeat' (first|((with_reducible refine zG ?_);first|refine zE rfl rfl rfl rfl rfl ?_|refine zC rfl rfl rfl rfl rfl ?_|(refine zK rfl rfl rfl rfl rfl ?_;refine ⟨_,rfl,?_⟩)|refine za rfl rfl rfl rfl rfl ?_|(refine zU rfl rfl rfl rfl rfl rfl rfl (fun h=>?_) (fun h=>?_)<;>(dsimp only [cmpP] at h;(try (exfalso;omega))))|refine zX rfl rfl rfl rfl rfl rfl (fun _ _ q=>h1 _ q.below h0) ?_|refine zd rfl rfl rfl rfl rfl rfl ?_|refine zf rfl rfl rfl rfl rfl rfl (by omega) ?_|refine zA2 rfl rfl rfl rfl rfl rfl (IntWalk.i64_in _ (by omega)) ?_|refine u_mul rfl rfl rfl rfl rfl rfl (IntWalk.i64_in _ (by omega)) ?_|refine zb rfl rfl rfl rfl rfl rfl rfl (by omega) ?_|refine zAO rfl rfl rfl rfl rfl rfl rfl (by first|decide|omega) ?_|refine zp rfl rfl rfl rfl rfl ?_|(refine ze rfl rfl rfl rfl rfl ?_;refine And.intro rfl (And.intro (by first|decide|exact Nat.le_of_ble_eq_true rfl|(simp;omega)) ⟨_,rfl,?_⟩))|(refine zm rfl rfl rfl rfl (fun b=>?_))|(refine zt rfl rfl rfl rfl rfl rfl (fun b=>?_))|(refine zA7 rfl rfl rfl rfl rfl ?_;refine ⟨_,rfl,?_⟩))|(with_reducible first|refine zH ?_|refine zB ?_|refine zD ?_|refine zA ?_|refine zc ?_|refine zS ?_|refine zY ?_|refine zBG ?_|refine zQ ?_|refine zj ?_|refine zh ?_|refine zAK ?_|refine zR ?_|refine zW ?_)|((with_reducible refine zr ?_ ?_);(· exact rfl))|((with_reducible refine zI ?_ ?_);(· exact rfl))|((with_reducible refine zF ?_ ?_);(· exact rfl))))
  all_goals exact zV (by (exact zO.cons (by exact res1c rfl (by exact rfl)) (zO.cons (by exact zn.tmp rfl) zO.nil))) () trivial rfl (fun _ _=>Own.nil _ _)
end Go.Proofs.YtdigopgncfhiaaaGreatDoor
namespace Go.Proofs.YtdigopgncfhiaaaGreatDoor
open Go.RowKit
set_option maxRecDepth 20000
theorem zLh {c:Cov} {pl pl':List Sli} (h:pl.map Sli.xs=pl'.map Sli.xs):zFF c pl=zFF c pl':=by unfold zFF;rw [zCT h,zD4 h]
theorem zLq {c:Cov} {pl pl':List Sli} (h:pl.map Sli.xs=pl'.map Sli.xs):zEQ c pl=zEQ c pl':=by unfold zEQ;rw [zCT h,zD4 h,zD4 h]
theorem zKv {c:Cov} {pl pl':List Sli} (h:pl.map Sli.xs=pl'.map Sli.xs):zGJ c pl=zGJ c pl':=by
 unfold zGJ zEg
 rw [zCT h,List.take_length,List.take_length,List.flatMap_def,List.flatMap_def,h]
end Go.Proofs.YtdigopgncfhiaaaGreatDoor
namespace Go.Proofs.YtdigopgncfhiaaaGreatDoor
open Go.RowKit
set_option maxRecDepth 20000
section
variable (c : Cov) (A:Option Addr) (ca:Nat) (B:Option Addr) (cb:Nat) (C:Option Addr) (cc:Nat) (xss:List (List Int)) (P:Option Addr) (cp:Nat) (w:World) (hc:zAk w c A B C) (hs:Small c) (hp:∃ pl:List Sli,pl.map Sli.xs=(zBf xss).map Sli.xs∧zBP w P pl) (hl:xss.length≤12) (hr:∀ r∈xss,r.length≤20)
include hc hs hp hl hr
theorem iThickP (i h:Int):Gv Tryz.prog 23 [zAI c A ca B cb C cc,.slice P xss.length cp,.int .i64 i,.int .i64 h] w (.tuple #[vSp (zEq c (zBf xss) i h).1,.int .i64 (zEq c (zBf xss) i h).2]):=by
 obtain ⟨pl,hx,hp⟩:=hp
 have:=zNa c A ca B cb C cc pl P cp i h w hc hs hp (by rw [zC5 hx];exact hl) (zFc hx hr)
 rw [zC5 hx,zK2 hx] at this
 exact this
theorem iThinP (hG:InC w 0 0 zCc):Ret Tryz.prog 20 [zAI c A ca B cb C cc,.slice P xss.length cp] w (fun p:Option Addr × Nat=>.tuple #[.slice p.1 (zFF c (zBf xss)).length p.2,.int .i64 (zCK c (zBf xss))]) (fun p=>[.sl zAl 2 p.1 (zFF c (zBf xss))]) (fun _=>True):=by
 obtain ⟨pl,hx,hp⟩:=hp
 have:=zPR c A ca B cb C cc pl P cp w hc hs hp (by rw [zC5 hx];exact hl) (zFc hx hr) hG
 rw [zC5 hx,zLh hx,zCT hx] at this
 exact this
theorem zNb (hG:InC w 0 0 zCc):Gv Tryz.prog 21 [zAI c A ca B cb C cc,.slice P xss.length cp] w (.tuple #[.int .u8 (zEQ c (zBf xss)),.int .i64 (zCK c (zBf xss))]):=by
 obtain ⟨pl,hx,hp⟩:=hp
 have:=zPS c A ca B cb C cc pl P cp w hc hs hp (by rw [zC5 hx];exact hl) (zFc hx hr) hG
 rw [zC5 hx,zLq hx,zCT hx] at this
 exact this
theorem iMostP (h:Int) (hG:InC w 0 0 zCc):Gv Tryz.prog 37 [zAI c A ca B cb C cc,.slice P xss.length cp,.int .i64 h] w (.tuple #[.int .i64 (zFR c (zBf xss) h).1,.int .i64 (zFR c (zBf xss) h).2]):=by
 obtain ⟨pl,hx,hp⟩:=hp
 have:=zPT c A ca B cb C cc pl P cp h w hc hs hp (by rw [zC5 hx];exact hl) (zFc hx hr) hG
 rw [zC5 hx,zMJ hx] at this
 exact this
theorem iWaterP : Gv Tryz.prog 29 [zAI c A ca B cb C cc,.slice P xss.length cp] w (.tuple #[vSp (zGJ c (zBf xss)),.int .i64 (zCK c (zBf xss))]):=by
 obtain ⟨pl,hx,hp⟩:=hp
 have:=zNZ c A ca B cb C cc pl P cp w hc hs hp (by rw [zC5 hx];exact hl) (zFc hx hr)
 rw [zC5 hx,zKv hx,zCT hx] at this
 exact this
end
theorem zM5 (xss:List (List Int)) (P:Option Addr) (cp:Nat) (P2:Option Addr) (cp2:Nat) (w:World) (hp:∃ pl:List Sli,pl.map Sli.xs=(zBf xss).map Sli.xs∧zBP w P pl) (hp2:∃ pl:List Sli,pl.map Sli.xs=(zBf xss).map Sli.xs∧zBP w P2 pl) (hl:xss.length≤1000) (hr:∀ r∈xss,r.length≤1000) :
  Gv Tryz.prog 53 [.slice P xss.length cp,.slice P2 xss.length cp2] w (.bool true):=by
 obtain ⟨pl,hx,hp⟩:=hp
 obtain ⟨pl2,hx2,hp2⟩:=hp2
 have:=zJu pl pl2 P cp P2 cp2 w hp hp2 (hx.trans hx2.symm) (by rw [zC5 hx];exact hl) (zFc hx2 hr)
 rw [zC5 hx,zC5 hx2] at this
 exact this
theorem zOB (x:List Int) (X:Option Addr) (cx:Nat) (Y:Option Addr) (cy:Nat) (W:World) (h1:zx encI 1 W X x) (h2:zx encI 1 W Y x) (h3:x.length≤1000):Gv Tryz.prog 27 [.slice X x.length cx,.slice Y x.length cy] W (.bool true):=by
 have hs:=fun W' (hW:Below W.heap.size W W')=>(zKB x x X Y cx cy W' (h1.below hW) (h2.below hW) (by omega) (by omega)).gv
 simp only [decide_true] at hs
 unfold Gv
 (refine zL (n:=8) Tryz.func27 rfl rfl rfl ?_)
 (repeat' (first|((with_reducible refine zG ?_);first|refine zE rfl rfl rfl rfl rfl ?_|refine zC rfl rfl rfl rfl rfl ?_|refine zX rfl rfl rfl rfl rfl rfl (fun _ _ q=>hs _ q.below) ?_)|(with_reducible first|refine zH ?_|refine zB ?_|refine zD ?_|refine zA ?_|refine zc ?_)))
 all_goals exact zV (by (exact zO.cons (by exact zn.tmp rfl) zO.nil)) () trivial rfl (fun _ _=>Own.nil _ _)
def zFM (c:Cov):Bool:=!zDE c [] && decide (zAm c=0)
theorem zEx {c:Cov}:zFM c=true↔zDE c []=false∧zAm c=0:=by simp [zFM]
theorem zEw {c:Cov} (h:zFM c=true) (hf:zFb c.t):Small c:=by
 obtain ⟨h1,_⟩:=zEx.1 h
 obtain ⟨k1,k2,k3,_,_⟩:=zFv h1
 exact ⟨hf,k1,k2,k3⟩
theorem zGW (c:Cov) (A:Option Addr) (ca:Nat) (B:Option Addr) (cb:Nat) (C:Option Addr) (cc:Nat) (w:World) (hc:zAk w c A B C) (hf:zFb c.t):Gv Tryz.prog 16 [zAI c A ca B cb C cc] w (.bool (zFM c)):=by
 have hGr:=fun W (hW:Below w.heap.size w W)=>zLz c A ca B cb C cc [] none 0 W ⟨zx.nil,fun s hs=>by cases hs⟩ ⟨Nat.le_refl _,Nat.zero_le _⟩
 unfold zAI at hGr
 unfold Gv zAI zFM
 cases hgr:zDE c []
 ·rw [hgr] at hGr
  obtain ⟨k1,k2,k3,_,_⟩:=zFv hgr
  have hC:=fun W (hW:Below w.heap.size w W)=>zLy c A ca B cb C cc W (hc.below hW) ⟨hf,k1,k2,k3⟩
  unfold zAI at hC
  generalize zAm c=e at *
  unfold zJ at hC hGr ⊢
  (refine zL (n:=11) Tryz.func16 rfl rfl rfl ?_)
  (repeat' (first|((with_reducible refine zG ?_);first|refine zE rfl rfl rfl rfl rfl ?_|refine zC rfl rfl rfl rfl rfl ?_|(refine zK rfl rfl rfl rfl rfl ?_;refine ⟨_,rfl,?_⟩)|refine zz rfl rfl rfl rfl rfl rfl ?_|(refine zU rfl rfl rfl rfl rfl rfl rfl (fun h=>?_) (fun h=>?_)<;>(dsimp only [cmpP] at h;(try (exfalso;omega))))|refine zX rfl rfl rfl rfl rfl rfl (fun _ _ q=>hGr _ q.below) ?_|refine zX rfl rfl rfl rfl rfl rfl (fun _ _ q=>hC _ q.below) ?_|refine zAH rfl rfl rfl rfl rfl ?_|(refine zt rfl rfl rfl rfl rfl rfl (fun b=>?_)))|(with_reducible first|refine zH ?_|refine zB ?_|refine zD ?_|refine zA ?_|refine zc ?_)))
  all_goals exact zV (by (exact zO.cons (by exact zn.tmp rfl) zO.nil)) () trivial (by simp_all [resV]) (fun _ h=>h.sub (by (repeat (first|exact oK1 _|(refine oK2 (by (repeat (first|exact tK1 _ _|apply tK2))) ?_)))))
 ·rw [hgr] at hGr
  unfold zJ at hGr ⊢
  (refine zL (n:=11) Tryz.func16 rfl rfl rfl ?_)
  (repeat' (first|((with_reducible refine zG ?_);first|refine zE rfl rfl rfl rfl rfl ?_|refine zC rfl rfl rfl rfl rfl ?_|(refine zK rfl rfl rfl rfl rfl ?_;refine ⟨_,rfl,?_⟩)|refine zz rfl rfl rfl rfl rfl rfl ?_|refine zg rfl rfl rfl ?_|refine zX rfl rfl rfl rfl rfl rfl (fun _ _ q=>hGr _ q.below) ?_|refine zAH rfl rfl rfl rfl rfl ?_|(refine zt rfl rfl rfl rfl rfl rfl (fun b=>?_)))|(with_reducible first|refine zH ?_|refine zB ?_|refine zD ?_|refine zA ?_|refine zc ?_)))
  all_goals exact zV (by (exact zO.cons (by exact zn.tmp rfl) zO.nil)) () trivial rfl (fun _ _=>Own.nil _ _)
end Go.Proofs.YtdigopgncfhiaaaGreatDoor
namespace Go.Proofs.YtdigopgncfhiaaaGreatDoor
variable {ro : Option Nat}
open Go.RowKit
class Ctb (α:Type):Prop where ex:∃ f:Nat→α,∀ z,∃ n,f n=z
def zD3 : Nat→Nat × Nat
 | 0=>(0,0)
 | n+1=>match zD3 n with
  | (0,b)=>(b+1,0)
  | (a+1,b)=>(a,b+1)
theorem zHJ : ∀ s b,b≤s→∃ n,zD3 n=(s - b,b)
  | 0, b, h => ⟨0, by obtain rfl : b = 0 := by omega
                      rfl⟩
  | s+1,0,_=>by
    obtain ⟨n,hn⟩:=zHJ s s (Nat.le_refl _)
    refine ⟨n+1,?_⟩
    simp only [zD3,hn,Nat.sub_self]
    rfl
  | s+1,b+1,h=>by
    obtain ⟨n,hn⟩:=zHJ (s+1) b (by omega)
    refine ⟨n+1,?_⟩
    rw [show s+1 - b=(s - b)+1 by omega] at hn
    simp only [zD3,hn]
    rw [show s+1 - (b+1)=s - b by omega]
theorem zHK (p:Nat × Nat):∃ n,zD3 n=p:=by
 obtain ⟨a,b⟩:=p
 obtain ⟨n,hn⟩:=zHJ (a+b) b (by omega)
 exact ⟨n,by rw [hn,Nat.add_sub_cancel]⟩
instance : Ctb Nat:=⟨id,fun z=>⟨z,rfl⟩⟩
instance : Ctb Unit:=⟨fun _=>(),fun _=>⟨0,rfl⟩⟩
instance ctb_prod {α β:Type} [i:Ctb α] [j:Ctb β]:Ctb (α × β):=by
 obtain ⟨f,hf⟩:=i.ex
 obtain ⟨g,hg⟩:=j.ex
 refine ⟨fun n=>(f (zD3 n).1,g (zD3 n).2),fun z=>?_⟩
 obtain ⟨a,ha⟩:=hf z.1
 obtain ⟨b,hb⟩:=hg z.2
 obtain ⟨n,hn⟩:=zHK (a,b)
 exact ⟨n,by simp only [hn,ha,hb]⟩
instance ctb_opt {α:Type} [i:Ctb α]:Ctb (Option α):=by
 obtain ⟨f,hf⟩:=i.ex
 refine ⟨fun n=>match n with | 0=>none|n+1=>some (f n),fun z=>?_⟩
 cases z with
 | none=>exact ⟨0,rfl⟩
 | some a=>obtain ⟨n,hn⟩:=hf a;exact ⟨n+1,by simp only [hn]⟩
theorem zOV {α β:Type} (h:α→β) (hs:∀ z,∃ x,h x=z) [i:Ctb α]:Ctb β:=by
 obtain ⟨f,hf⟩:=i.ex
 refine ⟨fun n=>h (f n),fun z=>?_⟩
 obtain ⟨x,rfl⟩:=hs z
 obtain ⟨n,rfl⟩:=hf x
 exact ⟨n,rfl⟩
instance : Ctb Int:=zOV (α:=Nat × Nat) (fun p=>(p.1:Int) - p.2) fun z=>⟨(z.toNat,(-z).toNat),by simp only;omega⟩
instance : Ctb Addr:=zOV (α:=Nat × Nat × Option Nat) (fun p=>⟨p.1,p.2.1,p.2.2⟩) fun z=>⟨(z.block,z.off,z.spot),rfl⟩
instance ctb_list {α:Type} [i:Ctb α]:Ctb (List α):=by
 obtain ⟨f,hf⟩:=i.ex
 have key:∀ l:List α,∃ n,(fun n=>(Nat.rec (fun _=>[]) (fun _ g c=>f (zD3 c).1::g (zD3 c).2) (zD3 n).1:Nat→List α) (zD3 n).2) n=l:=by
  have h2:∀ l:List α,∃ c,(Nat.rec (fun _=>[]) (fun _ g c=>f (zD3 c).1::g (zD3 c).2) l.length:Nat→List α) c=l:=by
   intro l
   induction l with
   | nil=>exact ⟨0,rfl⟩
   | cons x l ih =>
    obtain ⟨c,hc⟩:=ih
    obtain ⟨n,hn⟩:=hf x
    obtain ⟨m,hm⟩:=zHK (n,c)
    refine ⟨m,?_⟩
    show f (zD3 m).1::_=_
    rw [hm,hn]
    exact congrArg _ hc
  intro l
  obtain ⟨c,hc⟩:=h2 l
  obtain ⟨n,hn⟩:=zHK (l.length,c)
  exact ⟨n,by simp only [hn];exact hc⟩
 exact ⟨_,key⟩
theorem mod_in {x n:Int} (hn:0<n):0≤x % n∧x % n<n:=⟨Int.emod_nonneg _ (by omega),Int.emod_lt_of_pos _ hn⟩
end Go.Proofs.YtdigopgncfhiaaaGreatDoor
