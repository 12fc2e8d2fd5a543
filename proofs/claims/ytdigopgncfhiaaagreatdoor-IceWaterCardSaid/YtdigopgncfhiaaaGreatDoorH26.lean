/- H26 -/
import Derived.Test.YtdigopgncfhiaaaGreatDoorH25
import Derived.Test.YtdigopgncfhiaaaGreatDoorH24
import Derived.Test.YtdigopgncfhiaaaGreatDoorH9
set_option linter.unusedSimpArgs false
set_option linter.unusedVariables false
namespace Go.Proofs.YtdigopgncfhiaaaGreatDoor
open Go.RowKit
set_option maxRecDepth 20000
set_option maxHeartbeats 1000000 in
theorem zQn (m:Nat) (w:World) (hm:m≤1000):Ret Tryz.prog 111 [.slice none 0 0,.int .i64 (m:Int)] w (fun v:Value=>v) (fun v=>[.row encI 1 3 v ([]:List Int)]) (fun _=>True):=by
 by_cases h0:0<m
 ·(refine zJ (n:=27) Tryz.func111 rfl rfl rfl ?_)
  (repeat' (first|((with_reducible refine zF ?_);first|refine zE rfl rfl rfl ?_|refine zC rfl rfl rfl ?_|(refine zQ rfl rfl rfl rfl rfl (fun h=>?_) (fun h=>?_)<;>(dsimp only [cmpP] at h;(try (exfalso;omega))))|refine zPv 0 rfl rfl rfl (by exact rfl) rfl (by omega) (by first|exact rfl|simp [Addr.add]) ?_|(refine zP2 encI (m:=m) rfl rfl rfl (by rw [show (m:Int)=(m:Int) - (((0:Nat):Int) - ((0:Nat):Int)) by omega];exact rfl) h0 (by omega) (fun b c' hc=>?_))|refine zCi rfl rfl rfl rfl (IntWalk.i64_in _ (by omega)) ?_|refine zq rfl rfl rfl ?_|refine u_cap rfl rfl rfl ?_)|(with_reducible first|refine zH ?_|refine zB ?_|refine zD ?_|refine zA ?_|refine zW ?_|refine zS ?_)|((with_reducible refine zK ?_ ?_);(· exact rfl))|((with_reducible refine zG ?_ ?_);(· exact rfl))))
  exact zR (by exact rTm rfl) _ trivial rfl (fun _ h=>h.sub (by (repeat constructor)))
 ·obtain rfl:m=0:=by omega
  (refine zJ (n:=27) Tryz.func111 rfl rfl rfl ?_)
  (repeat' (first|((with_reducible refine zF ?_);first|refine zE rfl rfl rfl ?_|refine zC rfl rfl rfl ?_|(refine zQ rfl rfl rfl rfl rfl (fun h=>?_) (fun h=>?_)<;>(dsimp only [cmpP] at h;(try (exfalso;omega))))|refine zCi rfl rfl rfl rfl (IntWalk.i64_in _ (by omega)) ?_|refine zq rfl rfl rfl ?_|refine u_cap rfl rfl rfl ?_)|(with_reducible first|refine zH ?_|refine zB ?_|refine zD ?_|refine zA ?_|refine zW ?_|refine zS ?_)|((with_reducible refine zG ?_ ?_);(· exact rfl))))
  refine zDf encI 1 3 ?_
  exact zR (by exact rTm rfl) (.slice none 0 0) trivial rfl (fun _ h=>h.sub (by (repeat constructor)))
def zD2 (pl:List Sli) (k:Nat):List Int:=(pl.take k).flatMap Sli.xs
theorem zIA {pl:List Sli} {k:Nat} {s:Sli} (h:pl[k]?=some s):zD2 pl (k+1)=zD2 pl k++s.xs:=by
 unfold zD2
 rw [List.take_add_one,h,List.flatMap_append]
 simp
theorem zKG {pl:List Sli} (h:∀ s∈pl,s.xs.length≤20):∀ k,k≤pl.length→(zD2 pl k).length≤k * 20
 | 0,_=>by simp [zD2]
 | k+1,hk=>by
  obtain ⟨s,hs⟩:∃ s,pl[k]?=some s:=⟨_,List.getElem?_eq_getElem (by omega)⟩
  rw [zIA hs,List.length_append]
  have:=zKG h k (by omega)
  have:=h s (List.mem_of_getElem? hs)
  omega
set_option maxHeartbeats 2000000 in
theorem zNr (pl:List Sli) (P:Option Addr) (cp:Nat) (w:World) (hp:zBJ w P pl) (hl:pl.length≤12) (hrl:∀ s∈pl,s.xs.length≤20) :
  zB4 encI 1 (pl.flatMap Sli.xs) (fun v=>v) Tryz.prog 69 [.slice P pl.length cp] w:=by
 have hpp:=hp.p
 have hcl:=zKG hrl
 have hall:zD2 pl pl.length=pl.flatMap Sli.xs:=by unfold zD2;rw [List.take_length]
 rw [← hall]
 unfold zB4
 (refine zJ (n:=36) Tryz.func69 rfl rfl rfl ?_)
 (repeat' (first|((with_reducible refine zF ?_);first|refine zE rfl rfl rfl ?_|refine zC rfl rfl rfl ?_|refine zq rfl rfl rfl ?_)|(with_reducible first|refine zH ?_|refine zB ?_|refine zD ?_|refine zA ?_|refine zP ?_)))
 refine zw (ι:=Nat) [0,9,10] rfl (fun k=>k≤pl.length) (fun k=>[(11,.int .i64 (k:Int)),(3,.int .i64 ((zD2 pl k).length:Int))]) (fun _=>[]) (fun k=>pl.length - k) 0 (Nat.zero_le _) (by (repeat first|exact lK1|refine zI rfl ?_)) (by (repeat constructor)) ?_
 rintro k hk
 simp only [zA1,List.cons_append,List.nil_append]
 have hck:=hcl k hk
 by_cases hlt:k<pl.length
 ·obtain ⟨s,hsk⟩:∃ s,pl[k]?=some s:=⟨_,List.getElem?_eq_getElem hlt⟩
  have hsl:=hrl s (List.mem_of_getElem? hsk)
  obtain ⟨bb,o,rfl,hblt,hc⟩:=hpp.at_ hlt
  have:InS w bb o zBC 1 pl:=⟨hpp⟩
  have:zAQ pl k s:=⟨hsk⟩
  have hcs:((zD2 pl (k+1)).length:Int)=((zD2 pl k).length:Int)+(s.xs.length:Int):=by rw [zIA hsk,List.length_append];omega
  (repeat' (first|((with_reducible refine zF ?_);first|refine zE rfl rfl rfl ?_|refine zC rfl rfl rfl ?_|(refine zL rfl rfl rfl ?_;refine ⟨_,rfl,?_⟩)|(refine zQ rfl rfl rfl rfl rfl (fun h=>?_) (fun h=>?_)<;>(dsimp only [cmpP] at h;(try (exfalso;omega))))|refine zi rfl rfl rfl rfl (by omega) ?_|refine zFL rfl rfl rfl rfl (IntWalk.i64_in _ (by omega)) ?_|refine zk rfl rfl rfl rfl rfl (by omega) ?_|refine zq rfl rfl rfl ?_)|(with_reducible first|refine zH ?_|refine zB ?_|refine zD ?_|refine zA ?_|refine zS ?_|refine zP ?_|refine zg ?_)|((with_reducible refine zK ?_ ?_);(· exact rfl))|((with_reducible refine zG ?_ ?_);(· exact rfl))))
  all_goals exact zZ (k+1) (by omega) (by omega) (by simp only [hcs];(repeat first|exact lK1|refine zI rfl ?_)) (by (repeat constructor))
 ·obtain rfl:k=pl.length:=by omega
  have hg:=fun W=>zQn (zD2 pl pl.length).length W (by omega)
  (repeat' (first|((with_reducible refine zF ?_);first|refine zE rfl rfl rfl ?_|refine zC rfl rfl rfl ?_|(refine zQ rfl rfl rfl rfl rfl (fun h=>?_) (fun h=>?_)<;>(dsimp only [cmpP] at h;(try (exfalso;omega))))|(refine zAW rfl rfl rfl rfl (fun _ w _=>hg w) ?_;rintro v9 -;dsimp only [List.cons_append,List.nil_append])|refine zq rfl rfl rfl ?_)|(with_reducible first|refine zH ?_|refine zB ?_|refine zD ?_|refine zA ?_|refine zP ?_|refine zl ?_|refine zV ?_|refine zX ?_)|((with_reducible refine zG ?_ ?_);(· exact rfl))))
  refine zw (ι:=Nat × Value) [25,26] rfl (fun q=>q.1≤pl.length) (fun q=>[(27,.int .i64 (q.1:Int)),(6,q.2)]) (fun q=>[.row encI 1 3 q.2 (zD2 pl q.1)]) (fun q=>pl.length - q.1) (0,v9) (Nat.zero_le _) (by (repeat first|exact lK1|refine zI rfl ?_)) (by (repeat constructor)) ?_
  rintro ⟨k,v⟩ hk
  simp only at hk
  simp only [zA1,List.cons_append,List.nil_append]
  have hck:=hcl k hk
  by_cases hlt:k<pl.length
  ·obtain ⟨s,hsk⟩:∃ s,pl[k]?=some s:=⟨_,List.getElem?_eq_getElem hlt⟩
   have hsm:=List.mem_of_getElem? hsk
   have hsl:=hrl s hsm
   have hrow:=hp.rows s hsm
   obtain ⟨bb,o,rfl,hblt,hc⟩:=hpp.at_ hlt
   have:InS w bb o zBC 1 pl:=⟨hpp⟩
   obtain ⟨sA,xs,sc⟩:=s
   have:zAQ pl k ⟨sA,xs,sc⟩:=⟨hsk⟩
   have hcs:=zIA hsk
   simp only at hsl hrow hcs
   (repeat' (first|((with_reducible refine zF ?_);first|refine zE rfl rfl rfl ?_|refine zC rfl rfl rfl ?_|(refine zL rfl rfl rfl ?_;refine ⟨_,rfl,?_⟩)|(refine zQ rfl rfl rfl rfl rfl (fun h=>?_) (fun h=>?_)<;>(dsimp only [cmpP] at h;(try (exfalso;omega))))|(refine zA4 (enc:=encI) xs rfl rfl rfl (by (repeat constructor)) rfl rfl (zFb hrow) (by refine ⟨?_,by decide⟩;(try simp only [List.length_append,List.length_cons,List.length_nil]);omega) (fun A' c'=>?_))|refine zi rfl rfl rfl rfl (by omega) ?_|refine zk rfl rfl rfl rfl rfl (by omega) ?_)|(with_reducible first|refine zH ?_|refine zB ?_|refine zD ?_|refine zA ?_|refine zS ?_|refine zP ?_|refine zg ?_)|((with_reducible refine zK ?_ ?_);(· exact rfl))))
   exact zZ (k+1,.slice A' (zD2 pl k++xs).length c') (by simp only;omega) (by simp only;omega) (by (repeat first|exact lK1|refine zI rfl ?_)) (by simp only [hcs];(repeat constructor))
  ·obtain rfl:k=pl.length:=by omega
   refine zGi (by (repeat constructor)) ?_
   rintro A9 c9 rfl
   (repeat' (first|((with_reducible refine zF ?_);first|refine zE rfl rfl rfl ?_|refine zC rfl rfl rfl ?_|(refine zQ rfl rfl rfl rfl rfl (fun h=>?_) (fun h=>?_)<;>(dsimp only [cmpP] at h;(try (exfalso;omega)))))|(with_reducible first|refine zH ?_|refine zB ?_|refine zD ?_|refine zA ?_|refine zW ?_|refine zl ?_|refine zV ?_|refine zX ?_)|((with_reducible refine zG ?_ ?_);(· exact rfl))))
   exact zR (by exact rTm rfl) (A9,c9) trivial rfl (fun _ h=>(h.zET (by (repeat constructor))).sub (by (repeat constructor)))
end Go.Proofs.YtdigopgncfhiaaaGreatDoor
namespace Go.Proofs.YtdigopgncfhiaaaGreatDoor
open Go.RowKit
set_option maxRecDepth 20000
def zAe (c:Cov) (x:Int):Sp:=(c.t.getD x.toNat default).long
def zC6 (c:Cov) (w:Sp) (x:Int):Sp:=⟨w.lo+c.rate * (zAe c x).lo,w.hi+c.rate * (zAe c x).hi⟩
def zES (c:Cov) (l:List Int):Sp:=l.foldl (zC6 c) ⟨0,0⟩
def zCD (c:Cov) (pl:List Sli):Sp:=if zCB c pl=0 then zES c (zD2 pl pl.length) else ⟨0,0⟩
theorem zN5 {c:Cov} {l:List Int} {x:Int}:zES c (l++[x])=zC6 c (zES c l) x:=by simp [zES]
theorem zJ8 {c:Cov} (h:zAs c=0):valid c.t=true:=by
 unfold zAs at h
 cases hv:valid c.t with
 | true=>rfl
 | false=>rw [hv] at h;simp at h
theorem cat_in {c:Cov} {pl:List Sli} (hp:zBd c pl=true) {x:Int} (hx:x∈zD2 pl pl.length):∃ k:Nat,x=(k:Int)∧k<c.beds.length:=by
 unfold zD2 at hx
 rw [List.take_length,List.mem_flatMap] at hx
 obtain ⟨s,hs,hx⟩:=hx
 obtain ⟨i,hi⟩:=List.mem_iff_getElem?.1 hs
 obtain ⟨hl,hr⟩:=zBc.1 hp
 have hil:=(List.getElem?_eq_some_iff.1 hi).1
 have:=hr i _ s (List.getElem?_eq_getElem (show i<c.hours.length by omega)) hi
 unfold zFe at this
 simp only [Bool.and_eq_true] at this
 exact zOU (List.all_eq_true.1 this.1.2 x hx)
theorem zNO {c:Cov} (hv:valid c.t=true) {k:Nat} (hk:k<c.t.length):1≤(zAe c k).lo∧(zAe c k).lo≤(zAe c k).hi∧(zAe c k).hi≤30000:=by
 have hz:c.t[k]?=some c.t[k]:=List.getElem?_eq_getElem hk
 have ho:=zCE hv c.t[k] (List.getElem_mem hk)
 unfold zAe
 rw [Int.toNat_natCast,zBD hz]
 exact ⟨ho.l0,ho.l1,ho.l2⟩
theorem zQz {c:Cov} (hv:valid c.t=true) {k:Nat} (hk:k<c.t.length):zDy c.t (k:Int) ((k:Int)+1)=zAe c k:=by
 have hd:zDx c.t (k:Int) ((k:Int)+1)=true:=by unfold zDx;simp only [Bool.and_eq_true,zAB];omega
 unfold zDy
 rw [hv,hd,Bool.and_true,if_pos rfl,Int.toNat_natCast,show ((k:Int)+1).toNat=k+1 by omega]
 unfold zd longs zAe
 have hz:c.t[k]?=some c.t[k]:=List.getElem?_eq_getElem hk
 rw [Int.toNat_natCast,zBD hz,List.extract_eq_take_drop,show k+1 - k=1 by omega,List.take_one,List.head?_drop,List.getElem?_map,hz]
 simp [zIH,zBj]
theorem zMV {c:Cov} (hf:zD5 c) (hv:valid c.t=true):∀ (l:List Int) (w:Sp) (m:Int),(∀ x∈l,∃ k:Nat,x=(k:Int)∧k<c.t.length)→0≤w.lo∧w.lo≤m∧0≤w.hi∧w.hi≤m→0≤(l.foldl (zC6 c) w).lo∧(l.foldl (zC6 c) w).lo≤m+3000000 * l.length∧0≤(l.foldl (zC6 c) w).hi∧(l.foldl (zC6 c) w).hi≤m+3000000 * l.length
 | [],w,m,_,h=>by simp only [List.foldl_nil,List.length_nil];omega
 | x::l,w,m,hx,h=>by
  obtain ⟨k,rfl,hk⟩:=hx x (by simp)
  have h1:=zNO hv hk
  have h2:=hf.rate
  simp only [zAB] at h2
  have m1:=zCy (a:=c.rate) (b:=(zAe c k).lo) (A:=100) (B:=30000) (by omega) (by omega) (by omega) (by omega)
  have m2:=zCy (a:=c.rate) (b:=(zAe c k).hi) (A:=100) (B:=30000) (by omega) (by omega) (by omega) (by omega)
  have:=zMV hf hv l (zC6 c w k) (m+3000000) (fun y hy=>hx y (by simp [hy])) (by simp only [zC6];omega)
  simp only [List.foldl_cons,List.length_cons]
  omega
end Go.Proofs.YtdigopgncfhiaaaGreatDoor
namespace Go.Proofs.YtdigopgncfhiaaaGreatDoor
open Go.RowKit
set_option maxRecDepth 20000
set_option maxHeartbeats 4000000 in
theorem zOk (c:Cov) (A:Option Addr) (ca:Nat) (B:Option Addr) (cb:Nat) (C:Option Addr) (cc:Nat) (pl:List Sli) (P:Option Addr) (cp:Nat) (w:World) (hc:zAp w c A B C) (hs:Small c) (hp:zBJ w P pl) (hl:pl.length≤12) (hrl:∀ s∈pl,s.xs.length≤20) :
  Gv Tryz.prog 29 [zAS c A ca B cb C cc,.slice P pl.length cp] w (.tuple #[vSp (zCD c pl),.int .i64 (zCB c pl)]):=by
 have h1:=fun W (hb:Below w.heap.size w W)=>zEk c A ca B cb C cc pl P cp W (hc.below hb) hs (hp.below hb) hl hrl
 have h2:=fun W (hb:Below w.heap.size w W)=>zEj c A ca B cb C cc pl P cp W (hc.below hb) hs (hp.below hb) hl hrl
 unfold zAS at h1 h2
 unfold Gv zAS zCD vSp
 by_cases h0:zCB c pl=0
 ·rw [if_pos h0,h0]
  obtain ⟨h00,hpl⟩:=zEr h0
  have hf:=zBm h00
  have hv:=zJ8 h00
  have h2:=fun W hb=>h2 W hb h00 hpl
  have hC:=fun W (hb:Below w.heap.size w W)=>zNr pl P cp W (hp.below hb) hl hrl
  have hin:=fun x hx=>cat_in (c:=c) (pl:=pl) hpl (x:=x) hx
  have hlen:=zKG hrl pl.length (Nat.le_refl _)
  have hall:zD2 pl pl.length=pl.flatMap Sli.xs:=by unfold zD2;rw [List.take_length]
  rw [← hall] at hC
  generalize zD2 pl pl.length=L at *
  have hbt:=hf.beds
  have hrt:=hf.rate
  simp only [zAB] at hrt
  have hDr:=fun W (hb:Below w.heap.size w W) (k:Nat) (hk:k<c.t.length)=>(zNo c.t A ca (k:Int) (((k+1:Nat)):Int) W (hc.t.below hb) hs.fit (by have:=hs.t;omega)).gv
  unfold vT vSp at hDr
  unfold zN at h2 ⊢
  (refine zJ (n:=60) Tryz.func29 rfl rfl rfl ?_)
  (repeat' (first|((with_reducible refine zF ?_);first|refine zE rfl rfl rfl ?_|refine zC rfl rfl rfl ?_|(refine zL rfl rfl rfl ?_;refine ⟨_,rfl,?_⟩)|(refine zQ rfl rfl rfl rfl rfl (fun h=>?_) (fun h=>?_)<;>(dsimp only [cmpP] at h;(try (exfalso;omega))))|(refine zAW rfl rfl rfl rfl (fun _ _ q=>h2 _ q.below) ?_;rintro g -;dsimp only [List.cons_append,List.nil_append])|refine zBt rfl rfl rfl rfl (fun _ _ q=>hC _ q.below) (fun A' c'=>?_)|refine zc rfl rfl rfl rfl ?_|refine zq rfl rfl rfl ?_|(refine zh rfl rfl (fun b=>?_))|(refine zy rfl rfl rfl rfl (fun b=>?_)))|(with_reducible first|refine zH ?_|refine zB ?_|refine zD ?_|refine zA ?_|refine zS ?_|refine zP ?_)|((with_reducible refine zG ?_ ?_);(· exact rfl))))
  rename_i b2 b4
  refine zw (ι:=Nat) [2,4,8,25,26] rfl (fun k=>k≤L.length) (fun k=>[(27,.int .i64 (k:Int))]) (fun k=>[.blk b (zA7 (zES c (L.take k))),.sl encI 1 A' L,.blk b4 [.int .i64 0,.int .i64 0],.blk b2 (zN c A ca B cb C cc)]) (fun k=>L.length - k) 0 (Nat.zero_le _) (by (repeat first|exact lK1|refine zI rfl ?_)) (by (repeat constructor)) ?_
  rintro k hk
  simp only [zA1,zN,List.cons_append,List.nil_append]
  by_cases hlt:k<L.length
  ·obtain ⟨x,hx⟩:∃ x,L[k]?=some x:=⟨_,List.getElem?_eq_getElem hlt⟩
   obtain ⟨i,rfl,hi⟩:=hin x (List.mem_of_getElem? hx)
   have hD:=fun W hb=>hDr W hb i (by omega)
   have he:zDy c.t (i:Int) (((i+1:Nat)):Int)=zAe c i:=by rw [show (((i+1:Nat)):Int)=(i:Int)+1 by omega];exact zQz hv (by omega)
   rw [he] at hD
   have h4:=hs.b
   have hli:=zNO hv (show i<c.t.length by omega)
   have hwi:=zMV hf hv (L.take k) ⟨0,0⟩ 0 (fun y hy=>by obtain ⟨j,e,hj⟩:=hin y (List.mem_of_mem_take hy);exact ⟨j,e,by omega⟩) (by simp only;omega)
   have hwl:(L.take k).length≤240:=by rw [List.length_take];omega
   have hw:zES c (L.take (k+1))=zC6 c (zES c (L.take k)) i:=by rw [List.take_add_one,hx];exact zN5
   have hwe:(L.take k).foldl (zC6 c) ⟨0,0⟩=zES c (L.take k):=rfl
   rw [hwe] at hwi
   have m1:=zCy (a:=c.rate) (b:=(zAe c i).lo) (A:=100) (B:=30000) (by omega) (by omega) (by omega) (by omega)
   have m2:=zCy (a:=c.rate) (b:=(zAe c i).hi) (A:=100) (B:=30000) (by omega) (by omega) (by omega) (by omega)
   generalize zES c (L.take k)=wk at *
   have:zAQ L k (i:Int):=⟨hx⟩
   unfold zA7
   refine u_slS (by (repeat constructor)) (by omega) ?_
   rintro bl ol rfl
   (repeat' (first|((with_reducible refine zF ?_);first|refine zE rfl rfl rfl ?_|refine zC rfl rfl rfl ?_|(refine zL rfl rfl rfl ?_;refine ⟨_,rfl,?_⟩)|refine zb rfl rfl rfl ?_|(refine zQ rfl rfl rfl rfl rfl (fun h=>?_) (fun h=>?_)<;>(dsimp only [cmpP] at h;(try (exfalso;omega))))|refine zY rfl rfl rfl rfl (fun _ _ q=>hD _ q.below) ?_|refine zc rfl rfl rfl rfl ?_|refine zi rfl rfl rfl rfl (by omega) ?_|refine zFL rfl rfl rfl rfl (IntWalk.i64_in _ (by omega)) ?_|refine u_mul rfl rfl rfl rfl (IntWalk.i64_in _ (by omega)) ?_|refine zk rfl rfl rfl rfl rfl (by omega) ?_|(refine za rfl rfl rfl rfl rfl ?_;refine ⟨rfl,by first|decide|exact Nat.le_of_ble_eq_true rfl|(simp;omega),_,rfl,?_⟩)|(refine zh rfl rfl (fun b=>?_))|(refine zAo rfl rfl rfl ?_;refine ⟨_,rfl,?_⟩))|(with_reducible first|refine zH ?_|refine zB ?_|refine zD ?_|refine zA ?_|refine zS ?_|refine zP ?_|refine zg ?_)|((with_reducible refine zK ?_ ?_);(· exact rfl))))
   exact zZ (k+1) (by omega) (by omega) (by (repeat first|exact lK1|refine zI rfl ?_)) (by simp only [hw,zC6];(repeat constructor))
  ·obtain rfl:k=L.length:=by omega
   rw [List.take_length]
   (repeat' (first|((with_reducible refine zF ?_);first|refine zC rfl rfl rfl ?_|(refine zL rfl rfl rfl ?_;refine ⟨_,rfl,?_⟩)|(refine zQ rfl rfl rfl rfl rfl (fun h=>?_) (fun h=>?_)<;>(dsimp only [cmpP] at h;(try (exfalso;omega))))|(refine za rfl rfl rfl rfl rfl ?_;refine ⟨rfl,by first|decide|exact Nat.le_of_ble_eq_true rfl|(simp;omega),_,rfl,?_⟩))|(with_reducible first|refine zH ?_|refine zB ?_|refine zD ?_|refine zA ?_|refine zW ?_|refine zl ?_|refine zV ?_|refine zX ?_)|((with_reducible refine zG ?_ ?_);(· exact rfl))))
   exact zR (by (exact zf.cons (by exact res1c rfl (by exact rfl)) (zf.cons (by exact zAL.tmp rfl) zf.nil))) () trivial rfl (fun _ h=>h.sub (by (repeat constructor)))
 ·rw [if_neg h0]
  unfold zN at h1 ⊢
  generalize zCB c pl=e at *
  (refine zJ (n:=60) Tryz.func29 rfl rfl rfl ?_)
  (repeat' (first|((with_reducible refine zF ?_);first|refine zE rfl rfl rfl ?_|refine zC rfl rfl rfl ?_|(refine zL rfl rfl rfl ?_;refine ⟨_,rfl,?_⟩)|(refine zQ rfl rfl rfl rfl rfl (fun h=>?_) (fun h=>?_)<;>(dsimp only [cmpP] at h;(try (exfalso;omega))))|refine zY rfl rfl rfl rfl (fun _ _ q=>h1 _ q.below h0) ?_|refine zc rfl rfl rfl rfl ?_|(refine za rfl rfl rfl rfl rfl ?_;refine ⟨rfl,by first|decide|exact Nat.le_of_ble_eq_true rfl|(simp;omega),_,rfl,?_⟩)|(refine zh rfl rfl (fun b=>?_))|(refine zy rfl rfl rfl rfl (fun b=>?_))|(refine zAo rfl rfl rfl ?_;refine ⟨_,rfl,?_⟩))|(with_reducible first|refine zH ?_|refine zB ?_|refine zD ?_|refine zA ?_|refine zW ?_|refine ze ?_)|((with_reducible refine zK ?_ ?_);(· exact rfl))))
  all_goals exact zR (by (exact zf.cons (by exact res1c rfl (by exact rfl)) (zf.cons (by exact zAL.tmp rfl) zf.nil))) () trivial rfl (fun _ h=>h.sub (by (repeat constructor)))
end Go.Proofs.YtdigopgncfhiaaaGreatDoor
namespace Go.Proofs.YtdigopgncfhiaaaGreatDoor
open Go.RowKit
set_option maxRecDepth 20000
theorem zMa {c:Cov} {pl pl':List Sli} (h:pl.map Sli.xs=pl'.map Sli.xs):zG6 c pl=zG6 c pl':=by unfold zG6;rw [zCJ h,zEB h]
theorem zMo {c:Cov} {pl pl':List Sli} (h:pl.map Sli.xs=pl'.map Sli.xs):zJN c pl=zJN c pl':=by unfold zJN;rw [zCJ h,zEB h,zEB h]
theorem zLf {c:Cov} {pl pl':List Sli} (h:pl.map Sli.xs=pl'.map Sli.xs):zCD c pl=zCD c pl':=by
 unfold zCD zD2
 rw [zCJ h,List.take_length,List.take_length,List.flatMap_def,List.flatMap_def,h]
end Go.Proofs.YtdigopgncfhiaaaGreatDoor
namespace Go.Proofs.YtdigopgncfhiaaaGreatDoor
open Go.RowKit
set_option maxRecDepth 20000
section
variable (c : Cov) (A:Option Addr) (ca:Nat) (B:Option Addr) (cb:Nat) (C:Option Addr) (cc:Nat) (xss:List (List Int)) (P:Option Addr) (cp:Nat) (w:World) (hc:zAp w c A B C) (hs:Small c) (hp:∃ pl:List Sli,pl.map Sli.xs=(zBH xss).map Sli.xs∧zBJ w P pl) (hl:xss.length≤12) (hr:∀ r∈xss,r.length≤20)
include hc hs hp hl hr
theorem iThickP (i h:Int):Gv Tryz.prog 23 [zAS c A ca B cb C cc,.slice P xss.length cp,.int .i64 i,.int .i64 h] w (.tuple #[vSp (zE5 c (zBH xss) i h).1,.int .i64 (zE5 c (zBH xss) i h).2]):=by
 obtain ⟨pl,hx,hp⟩:=hp
 have:=zOl c A ca B cb C cc pl P cp i h w hc hs hp (by rw [zC4 hx];exact hl) (zFx hx hr)
 rw [zC4 hx,zLn hx] at this
 exact this
theorem iThinP (hG:InC w 0 0 zCz):Ret Tryz.prog 20 [zAS c A ca B cb C cc,.slice P xss.length cp] w (fun p:Option Addr × Nat=>.tuple #[.slice p.1 (zG6 c (zBH xss)).length p.2,.int .i64 (zCB c (zBH xss))]) (fun p=>[.sl zAc 2 p.1 (zG6 c (zBH xss))]) (fun _=>True):=by
 obtain ⟨pl,hx,hp⟩:=hp
 have:=zQh c A ca B cb C cc pl P cp w hc hs hp (by rw [zC4 hx];exact hl) (zFx hx hr) hG
 rw [zC4 hx,zMa hx,zCJ hx] at this
 exact this
theorem iSafeP (hG:InC w 0 0 zCz):Gv Tryz.prog 21 [zAS c A ca B cb C cc,.slice P xss.length cp] w (.tuple #[.int .u8 (zJN c (zBH xss)),.int .i64 (zCB c (zBH xss))]):=by
 obtain ⟨pl,hx,hp⟩:=hp
 have:=zQi c A ca B cb C cc pl P cp w hc hs hp (by rw [zC4 hx];exact hl) (zFx hx hr) hG
 rw [zC4 hx,zMo hx,zCJ hx] at this
 exact this
theorem iMostP (h:Int) (hG:InC w 0 0 zCz):Gv Tryz.prog 37 [zAS c A ca B cb C cc,.slice P xss.length cp,.int .i64 h] w (.tuple #[.int .i64 (zHG c (zBH xss) h).1,.int .i64 (zHG c (zBH xss) h).2]):=by
 obtain ⟨pl,hx,hp⟩:=hp
 have:=zQl c A ca B cb C cc pl P cp h w hc hs hp (by rw [zC4 hx];exact hl) (zFx hx hr) hG
 rw [zC4 hx,zNF hx] at this
 exact this
theorem zMC : Gv Tryz.prog 29 [zAS c A ca B cb C cc,.slice P xss.length cp] w (.tuple #[vSp (zCD c (zBH xss)),.int .i64 (zCB c (zBH xss))]):=by
 obtain ⟨pl,hx,hp⟩:=hp
 have:=zOk c A ca B cb C cc pl P cp w hc hs hp (by rw [zC4 hx];exact hl) (zFx hx hr)
 rw [zC4 hx,zLf hx,zCJ hx] at this
 exact this
end
theorem zOC (xss:List (List Int)) (P:Option Addr) (cp:Nat) (P2:Option Addr) (cp2:Nat) (w:World) (hp:∃ pl:List Sli,pl.map Sli.xs=(zBH xss).map Sli.xs∧zBJ w P pl) (hp2:∃ pl:List Sli,pl.map Sli.xs=(zBH xss).map Sli.xs∧zBJ w P2 pl) (hl:xss.length≤1000) (hr:∀ r∈xss,r.length≤1000) :
  Gv Tryz.prog 53 [.slice P xss.length cp,.slice P2 xss.length cp2] w (.bool true):=by
 obtain ⟨pl,hx,hp⟩:=hp
 obtain ⟨pl2,hx2,hp2⟩:=hp2
 have:=zKY pl pl2 P cp P2 cp2 w hp hp2 (hx.trans hx2.symm) (by rw [zC4 hx];exact hl) (zFx hx2 hr)
 rw [zC4 hx,zC4 hx2] at this
 exact this
theorem zPL (x:List Int) (X:Option Addr) (cx:Nat) (Y:Option Addr) (cy:Nat) (W:World) (h1:zp encI 1 W X x) (h2:zp encI 1 W Y x) (h3:x.length≤1000):Gv Tryz.prog 27 [.slice X x.length cx,.slice Y x.length cy] W (.bool true):=by
 have hs:=fun W' (hW:Below W.heap.size W W')=>(zKq x x X Y cx cy W' (h1.below hW) (h2.below hW) (by omega) (by omega)).gv
 simp only [decide_true] at hs
 unfold Gv
 (refine zJ (n:=8) Tryz.func27 rfl rfl rfl ?_)
 (repeat' (first|((with_reducible refine zF ?_);first|refine zE rfl rfl rfl ?_|refine zC rfl rfl rfl ?_|refine zY rfl rfl rfl rfl (fun _ _ q=>hs _ q.below) ?_)|(with_reducible first|refine zH ?_|refine zB ?_|refine zD ?_|refine zA ?_|refine zW ?_)))
 all_goals exact zR (by exact rTm rfl) () trivial rfl (fun _ h=>h.sub (by (repeat constructor)))
def zHu (c:Cov):Bool:=!zDC c [] && decide (zAs c=0)
theorem zJU {c:Cov}:zHu c=true↔zDC c []=false∧zAs c=0:=by simp [zHu]
theorem zLw {c:Cov} (h:zHu c=true) (hf:zEY c.t):Small c:=by
 obtain ⟨h1,_⟩:=zJU.1 h
 obtain ⟨k1,k2,k3,_,_⟩:=zGN h1
 exact ⟨hf,k1,k2,k3⟩
theorem zOc (c:Cov) (A:Option Addr) (ca:Nat) (B:Option Addr) (cb:Nat) (C:Option Addr) (cc:Nat) (w:World) (hc:zAp w c A B C) (hf:zEY c.t):Gv Tryz.prog 16 [zAS c A ca B cb C cc] w (.bool (zHu c)):=by
 have hGr:=fun W (hW:Below w.heap.size w W)=>zMx c A ca B cb C cc [] none 0 W ⟨zp.nil,fun s hs=>by cases hs⟩ ⟨Nat.le_refl _,Nat.zero_le _⟩
 unfold zAS at hGr
 unfold Gv zAS zHu
 cases hgr:zDC c []
 ·rw [hgr] at hGr
  obtain ⟨k1,k2,k3,_,_⟩:=zGN hgr
  have hC:=fun W (hW:Below w.heap.size w W)=>zMw c A ca B cb C cc W (hc.below hW) ⟨hf,k1,k2,k3⟩
  unfold zAS at hC
  generalize zAs c=e at *
  unfold zN at hC hGr ⊢
  (refine zJ (n:=11) Tryz.func16 rfl rfl rfl ?_)
  (repeat' (first|((with_reducible refine zF ?_);first|refine zE rfl rfl rfl ?_|refine zC rfl rfl rfl ?_|(refine zL rfl rfl rfl ?_;refine ⟨_,rfl,?_⟩)|refine zAY rfl rfl rfl rfl ?_|(refine zQ rfl rfl rfl rfl rfl (fun h=>?_) (fun h=>?_)<;>(dsimp only [cmpP] at h;(try (exfalso;omega))))|refine zY rfl rfl rfl rfl (fun _ _ q=>hGr _ q.below) ?_|refine zY rfl rfl rfl rfl (fun _ _ q=>hC _ q.below) ?_|refine zAd rfl rfl rfl ?_|(refine zy rfl rfl rfl rfl (fun b=>?_)))|(with_reducible first|refine zH ?_|refine zB ?_|refine zD ?_|refine zA ?_|refine zW ?_)))
  all_goals exact zR (by exact rTm rfl) () trivial (by simp_all [resV]) (fun _ h=>h.sub (by (repeat constructor)))
 ·rw [hgr] at hGr
  unfold zN at hGr ⊢
  (refine zJ (n:=11) Tryz.func16 rfl rfl rfl ?_)
  (repeat' (first|((with_reducible refine zF ?_);first|refine zE rfl rfl rfl ?_|refine zC rfl rfl rfl ?_|(refine zL rfl rfl rfl ?_;refine ⟨_,rfl,?_⟩)|refine zAY rfl rfl rfl rfl ?_|refine zx rfl rfl rfl ?_|refine zY rfl rfl rfl rfl (fun _ _ q=>hGr _ q.below) ?_|refine zAd rfl rfl rfl ?_|(refine zy rfl rfl rfl rfl (fun b=>?_)))|(with_reducible first|refine zH ?_|refine zB ?_|refine zD ?_|refine zA ?_|refine zW ?_)))
  all_goals exact zR (by exact rTm rfl) () trivial rfl (fun _ h=>h.sub (by (repeat constructor)))
end Go.Proofs.YtdigopgncfhiaaaGreatDoor
namespace Go.Proofs.YtdigopgncfhiaaaGreatDoor
variable {ro : Option Nat}
open Go.RowKit
class Ctb (α:Type):Prop where ex:∃ f:Nat→α,∀ z,∃ n,f n=z
def zD9 : Nat→Nat × Nat
 | 0=>(0,0)
 | n+1=>match zD9 n with
  | (0,b)=>(b+1,0)
  | (a+1,b)=>(a,b+1)
theorem zHi : ∀ s b,b≤s→∃ n,zD9 n=(s - b,b)
  | 0, b, h => ⟨0, by obtain rfl : b = 0 := by omega
                      rfl⟩
  | s+1,0,_=>by
    obtain ⟨n,hn⟩:=zHi s s (Nat.le_refl _)
    refine ⟨n+1,?_⟩
    simp only [zD9,hn,Nat.sub_self]
    rfl
  | s+1,b+1,h=>by
    obtain ⟨n,hn⟩:=zHi (s+1) b (by omega)
    refine ⟨n+1,?_⟩
    rw [show s+1 - b=(s - b)+1 by omega] at hn
    simp only [zD9,hn]
    rw [show s+1 - (b+1)=s - b by omega]
theorem zHj (p:Nat × Nat):∃ n,zD9 n=p:=by
 obtain ⟨a,b⟩:=p
 obtain ⟨n,hn⟩:=zHi (a+b) b (by omega)
 exact ⟨n,by rw [hn,Nat.add_sub_cancel]⟩
instance : Ctb Nat:=⟨id,fun z=>⟨z,rfl⟩⟩
instance : Ctb Unit:=⟨fun _=>(),fun _=>⟨0,rfl⟩⟩
instance ctb_prod {α β:Type} [i:Ctb α] [j:Ctb β]:Ctb (α × β):=by
 obtain ⟨f,hf⟩:=i.ex
 obtain ⟨g,hg⟩:=j.ex
 refine ⟨fun n=>(f (zD9 n).1,g (zD9 n).2),fun z=>?_⟩
 obtain ⟨a,ha⟩:=hf z.1
 obtain ⟨b,hb⟩:=hg z.2
 obtain ⟨n,hn⟩:=zHj (a,b)
 exact ⟨n,by simp only [hn,ha,hb]⟩
instance ctb_opt {α:Type} [i:Ctb α]:Ctb (Option α):=by
 obtain ⟨f,hf⟩:=i.ex
 refine ⟨fun n=>match n with | 0=>none|n+1=>some (f n),fun z=>?_⟩
 cases z with
 | none=>exact ⟨0,rfl⟩
 | some a=>obtain ⟨n,hn⟩:=hf a;exact ⟨n+1,by simp only [hn]⟩
theorem zPd {α β:Type} (h:α→β) (hs:∀ z,∃ x,h x=z) [i:Ctb α]:Ctb β:=by
 obtain ⟨f,hf⟩:=i.ex
 refine ⟨fun n=>h (f n),fun z=>?_⟩
 obtain ⟨x,rfl⟩:=hs z
 obtain ⟨n,rfl⟩:=hf x
 exact ⟨n,rfl⟩
instance : Ctb Int:=zPd (α:=Nat × Nat) (fun p=>(p.1:Int) - p.2) fun z=>⟨(z.toNat,(-z).toNat),by simp only;omega⟩
instance : Ctb Addr:=zPd (α:=Nat × Nat × Option Nat) (fun p=>⟨p.1,p.2.1,p.2.2⟩) fun z=>⟨(z.block,z.off,z.spot),rfl⟩
instance ctb_list {α:Type} [i:Ctb α]:Ctb (List α):=by
 obtain ⟨f,hf⟩:=i.ex
 have key:∀ l:List α,∃ n,(fun n=>(Nat.rec (fun _=>[]) (fun _ g c=>f (zD9 c).1::g (zD9 c).2) (zD9 n).1:Nat→List α) (zD9 n).2) n=l:=by
  have h2:∀ l:List α,∃ c,(Nat.rec (fun _=>[]) (fun _ g c=>f (zD9 c).1::g (zD9 c).2) l.length:Nat→List α) c=l:=by
   intro l
   induction l with
   | nil=>exact ⟨0,rfl⟩
   | cons x l ih =>
    obtain ⟨c,hc⟩:=ih
    obtain ⟨n,hn⟩:=hf x
    obtain ⟨m,hm⟩:=zHj (n,c)
    refine ⟨m,?_⟩
    show f (zD9 m).1::_=_
    rw [hm,hn]
    exact congrArg _ hc
  intro l
  obtain ⟨c,hc⟩:=h2 l
  obtain ⟨n,hn⟩:=zHj (l.length,c)
  exact ⟨n,by simp only [hn];exact hc⟩
 exact ⟨_,key⟩
noncomputable def deC (α:Type) [i:Ctb α]:Nat→α:=i.ex.choose
theorem deC_any {α:Type} [i:Ctb α] (z:α):∃ n,deC α n=z:=i.ex.choose_spec z
theorem mod_in {x n:Int} (hn:0<n):0≤x % n∧x % n<n:=⟨Int.emod_nonneg _ (by omega),Int.emod_lt_of_pos _ hn⟩
def Ent.fact (q:Prop):Ent:=⟨fun _=>False,fun _=>q,fun _ _ _ _ h=>h⟩
theorem own_fact {base:Nat} {w:World} {H:List Ent} {q:Prop} (hq:q) (h:Own base w H):Own base w (.fact q::H) :=
 ⟨fun e he=>by
  rcases List.mem_cons.1 he with rfl|he
  ·exact hq
  ·exact h.here e he,fun e he b hb=>by
  rcases List.mem_cons.1 he with rfl|he
  ·cases hb
  ·exact h.foot e he b hb,List.pairwise_cons.2 ⟨(fun f _ b hb=>by cases hb),h.apart⟩⟩
end Go.Proofs.YtdigopgncfhiaaaGreatDoor
namespace Go.Proofs.YtdigopgncfhiaaaGreatDoor.Two
variable {ro : Option Nat}
open Go.RowKit
section
variable {S : List (Nat × Nat)} {I:List (Nat × Nat × Nat × List Ent)} {P:Program} {w0:World} {n:Nat} {d:List Deferred} {R R0:List (Nat × Value)} {H H' H0:List Ent} {Q:Exit→Act→World→Prop} {ops:Array Oper} {bs:List (List Bool)} {b:List Bool} {k:Nat} {o:Oper} {rest:List Oper} {T:List Rw} {t:Tmp} {Hk:zAb→List Ent} {x y:Operand} {v:Value}
theorem c_retC {α:Type} [Ctb α] {V:α→Value} {E:α→List Ent} {p:α→Prop} {f:FuncId} {fx:Operand} {xs:Array Operand} {ts:Array TypeId} {vs:zAb→List Value} {cap:Array Value} (hop:o.op = .call ⟨.value fx,xs,ts⟩) (hw:∀ G,want (Rk R0 ops b o T G) ops o=some true) (hd:o.dst=some t) (hf:∀ G,evR (Rk R0 ops b o T G) fx=some (.func (.func f) #[] cap)) (hx:∀ G,evs (Rk R0 ops b o T G) xs.toList=some (vs G)) [ci:zT P f]
  (hc:∀ G a w,Kn w0 n d (Rk R0 ops b o T G) (Hk G) a w→Ret P f (vs G++cap.toList) w V E p) (h:zAt ro S I P w0 n d ops R0 H0 Q bs (k+1) rest (⟨k,some t,fun G=>(V (deC α (G k).g),.fact (p (deC α (G k).g))::E (deC α (G k).g))⟩::T)):CAt ro S I P w0 n d ops R0 H0 Q b bs k o rest T Hk:=by
 refine zDY (f:=fun G=>(V (deC α (G k).g),.fact (p (deC α (G k).g))::E (deC α (G k).g))) (fun G G' hG=>by simp only [hG k (.inl rfl)]) (fun G a w q K hK=>?_) (by rw [hd];exact h)
 rw [zA3 q (hw G),if_pos rfl]
 unfold Oper.wp execOp;rw [hop]
 have e1:xs.map a.eval=(vs G).toArray:=by apply Array.ext';simpa using q.evs (hx G)
 have e2:(vs G).toArray++cap=(vs G++cap.toList).toArray:=by apply Array.ext';simp
 simp only [resolve,q.ev (hf G),e1,Deferred.ofValue,Sem.run_bind,Sem.run_pure,Result.andThen_ok,invoke,Array.empty_append,e2,ci.ent,Oper.upon_enter]
 refine Calls.mono (hc G a w q).calls ?_
 rintro e w' ⟨z,hp,rfl,hb,hE⟩
 obtain ⟨m,hm⟩:=deC_any z
 exact hK _ _ _ ⟨⟨m,none,0⟩,by simp only [upW,if_true,hm]⟩ hb (own_fact hp hE)
end
end Go.Proofs.YtdigopgncfhiaaaGreatDoor.Two
