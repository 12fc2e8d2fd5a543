/- C29 -/
import Derived.Test.YtdigopgncfhiaaaGreatDoorC27
import Derived.Test.YtdigopgncfhiaaaGreatDoorC28
import Derived.Test.YtdigopgncfhiaaaGreatDoorC26
import Derived.Test.YtdigopgncfhiaaaGreatDoorC10
set_option linter.unusedSimpArgs false
set_option linter.unusedVariables false
namespace Go.Proofs.YtdigopgncfhiaaaGreatDoor
open Go.RowKit
set_option maxRecDepth 20000
set_option maxHeartbeats 1000000 in
theorem zRn (m:Nat) (w:World) (hm:m≤1000):Ret Tryz.prog 111 [.slice none 0 0,.int .i64 (m:Int)] w (fun v:Value=>v) (fun v=>[.row encI 1 3 v ([]:List Int)]) (fun _=>True):=by
 by_cases h0:0<m
 ·(refine zM (n:=27) Tryz.func111 rfl rfl rfl ?_)
  (repeat' (first|((with_reducible refine zG ?_);first|refine zE rfl rfl rfl rfl rfl ?_|refine zC rfl rfl rfl rfl rfl ?_|(refine zQ rfl rfl rfl rfl rfl rfl rfl (fun h=>?_) (fun h=>?_)<;>(dsimp only [cmpP] at h;(try (exfalso;omega))))|refine zQz 0 rfl rfl rfl rfl rfl (by exact rfl) rfl (by omega) (by first|exact rfl|simp [Addr.add]) ?_|(refine zQ5 encI (m:=m) rfl rfl rfl rfl rfl (by rw [show (m:Int)=(m:Int) - (((0:Nat):Int) - ((0:Nat):Int)) by omega];exact rfl) h0 (by omega) (fun b c' hc=>?_))|refine zCn rfl rfl rfl rfl rfl rfl (IntWalk.i64_in _ (by omega)) ?_|refine zr rfl rfl rfl rfl rfl ?_|refine u_cap rfl rfl rfl rfl rfl ?_)|(with_reducible first|refine zI ?_|refine zB ?_|refine zD ?_|refine zA ?_|refine zb ?_|refine zP ?_|refine zd ?_|refine zDY ?_)|((with_reducible refine zJ ?_ ?_);(· exact rfl))|((with_reducible refine zF ?_ ?_);(· exact rfl))))
  exact zT (by (exact zO.cons (by exact zq.tmp rfl) zO.nil)) _ trivial rfl (fun _ h=>h.sub (by (repeat (first|exact oK1 _|(refine oK2 (by (repeat (first|exact tK1 _ _|apply tK2))) ?_)))))
 ·obtain rfl:m=0:=by omega
  (refine zM (n:=27) Tryz.func111 rfl rfl rfl ?_)
  (repeat' (first|((with_reducible refine zG ?_);first|refine zE rfl rfl rfl rfl rfl ?_|refine zC rfl rfl rfl rfl rfl ?_|(refine zQ rfl rfl rfl rfl rfl rfl rfl (fun h=>?_) (fun h=>?_)<;>(dsimp only [cmpP] at h;(try (exfalso;omega))))|refine zCn rfl rfl rfl rfl rfl rfl (IntWalk.i64_in _ (by omega)) ?_|refine zr rfl rfl rfl rfl rfl ?_|refine u_cap rfl rfl rfl rfl rfl ?_)|(with_reducible first|refine zI ?_|refine zB ?_|refine zD ?_|refine zA ?_|refine zb ?_|refine zP ?_|refine zd ?_|refine zDY ?_)|((with_reducible refine zJ ?_ ?_);(· exact rfl))|((with_reducible refine zF ?_ ?_);(· exact rfl))))
  refine zCM encI 1 3 ?_
  exact zT (by (exact zO.cons (by exact zq.tmp rfl) zO.nil)) (.slice none 0 0) trivial rfl (fun _ h=>h.sub (by (repeat (first|exact oK1 _|(refine oK2 (by (repeat (first|exact tK1 _ _|apply tK2))) ?_)))))
def zEx (pl:List Sli) (k:Nat):List Int:=(pl.take k).flatMap Sli.xs
theorem zI8 {pl:List Sli} {k:Nat} {s:Sli} (h:pl[k]?=some s):zEx pl (k+1)=zEx pl k++s.xs:=by
 unfold zEx
 rw [List.take_add_one,h,List.flatMap_append]
 simp
theorem zK8 {pl:List Sli} (h:∀ s∈pl,s.xs.length≤20):∀ k,k≤pl.length→(zEx pl k).length≤k * 20
 | 0,_=>by simp [zEx]
 | k+1,hk=>by
  obtain ⟨s,hs⟩:∃ s,pl[k]?=some s:=⟨_,List.getElem?_eq_getElem (by omega)⟩
  rw [zI8 hs,List.length_append]
  have:=zK8 h k (by omega)
  have:=h s (List.mem_of_getElem? hs)
  omega
set_option maxHeartbeats 2000000 in
theorem zOz (pl:List Sli) (P:Option Addr) (cp:Nat) (w:World) (hp:zAu w P pl) (hl:pl.length≤12) (hrl:∀ s∈pl,s.xs.length≤20) :
  zDj encI 1 (pl.flatMap Sli.xs) (fun v=>v) Tryz.prog 69 [.slice P pl.length cp] w:=by
 have hpp:=hp.p
 have hcl:=zK8 hrl
 have hall:zEx pl pl.length=pl.flatMap Sli.xs:=by unfold zEx;rw [List.take_length]
 rw [← hall]
 unfold zDj
 (refine zM (n:=36) Tryz.func69 rfl rfl rfl ?_)
 (repeat' (first|((with_reducible refine zG ?_);first|refine zE rfl rfl rfl rfl rfl ?_|refine zC rfl rfl rfl rfl rfl ?_|(refine zK rfl rfl rfl rfl rfl ?_;refine ⟨_,rfl,?_⟩)|(refine zQ rfl rfl rfl rfl rfl rfl rfl (fun h=>?_) (fun h=>?_)<;>(dsimp only [cmpP] at h;(try (exfalso;omega))))|refine zj rfl rfl rfl rfl rfl rfl (by omega) ?_|refine zCh rfl rfl rfl rfl rfl rfl (IntWalk.i64_in _ (by omega)) ?_|refine zi rfl rfl rfl rfl rfl rfl rfl (by omega) ?_|refine zBx rfl rfl rfl rfl rfl rfl rfl (by first|decide|omega) ?_|refine zr rfl rfl rfl rfl rfl ?_)|(with_reducible first|refine zI ?_|refine zB ?_|refine zD ?_|refine zA ?_|refine zb ?_|refine zP ?_|refine zd ?_|refine zDY ?_|refine zN ?_|refine zn ?_|refine zk ?_|refine zA3 ?_|refine zR ?_|refine zY ?_)|((with_reducible refine zBD ?_ ?_);(· exact rfl))|((with_reducible refine zJ ?_ ?_);(· exact rfl))|((with_reducible refine zF ?_ ?_);(· exact rfl))))
 refine zu (ι:=Nat) [0,9,10] rfl (fun k=>k≤pl.length) (fun k=>[(11,.int .i64 (k:Int)),(3,.int .i64 ((zEx pl k).length:Int))]) (fun _=>[]) (fun k=>pl.length - k) 0 (Nat.zero_le _) (by (first|exact lK1|(repeat (first|exact lK1|(refine zL rfl ?_))))) (by (repeat (first|exact oK1 _|(refine oK2 (by (repeat (first|exact tK1 _ _|apply tK2))) ?_)))) ?_
 rintro k hk
 simp only [zAq,List.cons_append,List.nil_append]
 have hck:=hcl k hk
 by_cases hlt:k<pl.length
 ·obtain ⟨s,hsk⟩:∃ s,pl[k]?=some s:=⟨_,List.getElem?_eq_getElem hlt⟩
  have hsl:=hrl s (List.mem_of_getElem? hsk)
  obtain ⟨bb,o,rfl,hblt,hc⟩:=hpp.at_ hlt
  have:InS w bb o zAC 1 pl:=⟨hpp⟩
  have:zAR pl k s:=⟨hsk⟩
  have hcs:((zEx pl (k+1)).length:Int)=((zEx pl k).length:Int)+(s.xs.length:Int):=by rw [zI8 hsk,List.length_append];omega
  (repeat' (first|((with_reducible refine zG ?_);first|refine zE rfl rfl rfl rfl rfl ?_|refine zC rfl rfl rfl rfl rfl ?_|(refine zK rfl rfl rfl rfl rfl ?_;refine ⟨_,rfl,?_⟩)|(refine zQ rfl rfl rfl rfl rfl rfl rfl (fun h=>?_) (fun h=>?_)<;>(dsimp only [cmpP] at h;(try (exfalso;omega))))|refine zj rfl rfl rfl rfl rfl rfl (by omega) ?_|refine zCh rfl rfl rfl rfl rfl rfl (IntWalk.i64_in _ (by omega)) ?_|refine zi rfl rfl rfl rfl rfl rfl rfl (by omega) ?_|refine zBx rfl rfl rfl rfl rfl rfl rfl (by first|decide|omega) ?_|refine zr rfl rfl rfl rfl rfl ?_)|(with_reducible first|refine zI ?_|refine zB ?_|refine zD ?_|refine zA ?_|refine zb ?_|refine zP ?_|refine zd ?_|refine zDY ?_|refine zN ?_|refine zn ?_|refine zk ?_|refine zA3 ?_|refine zR ?_|refine zY ?_)|((with_reducible refine zBD ?_ ?_);(· exact rfl))|((with_reducible refine zJ ?_ ?_);(· exact rfl))|((with_reducible refine zF ?_ ?_);(· exact rfl))))
  all_goals exact zc (k+1) (by omega) (by omega) (by simp only [hcs];(first|exact lK1|(repeat (first|exact lK1|(refine zL rfl ?_))))) (by (repeat (first|exact oK1 _|(refine oK2 (by (repeat (first|exact tK1 _ _|apply tK2))) ?_))))
 ·obtain rfl:k=pl.length:=by omega
  have hg:=fun W=>zRn (zEx pl pl.length).length W (by omega)
  (repeat' (first|((with_reducible refine zG ?_);first|refine zE rfl rfl rfl rfl rfl ?_|refine zC rfl rfl rfl rfl rfl ?_|(refine zK rfl rfl rfl rfl rfl ?_;refine ⟨_,rfl,?_⟩)|(refine zQ rfl rfl rfl rfl rfl rfl rfl (fun h=>?_) (fun h=>?_)<;>(dsimp only [cmpP] at h;(try (exfalso;omega))))|(refine zAG rfl rfl rfl rfl rfl rfl (fun _ w _=>hg w) ?_;rintro v9 -;dsimp only [List.cons_append,List.nil_append])|refine zj rfl rfl rfl rfl rfl rfl (by omega) ?_|refine zCh rfl rfl rfl rfl rfl rfl (IntWalk.i64_in _ (by omega)) ?_|refine zi rfl rfl rfl rfl rfl rfl rfl (by omega) ?_|refine zBx rfl rfl rfl rfl rfl rfl rfl (by first|decide|omega) ?_|refine zr rfl rfl rfl rfl rfl ?_)|(with_reducible first|refine zI ?_|refine zB ?_|refine zD ?_|refine zA ?_|refine zb ?_|refine zP ?_|refine zd ?_|refine zDY ?_|refine zN ?_|refine zn ?_|refine zk ?_|refine zA3 ?_|refine zR ?_|refine zY ?_)|((with_reducible refine zBD ?_ ?_);(· exact rfl))|((with_reducible refine zJ ?_ ?_);(· exact rfl))|((with_reducible refine zF ?_ ?_);(· exact rfl))))
  refine zu (ι:=Nat × Value) [25,26] rfl (fun q=>q.1≤pl.length) (fun q=>[(27,.int .i64 (q.1:Int)),(6,q.2)]) (fun q=>[.row encI 1 3 q.2 (zEx pl q.1)]) (fun q=>pl.length - q.1) (0,v9) (Nat.zero_le _) (by (first|exact lK1|(repeat (first|exact lK1|(refine zL rfl ?_))))) (by (repeat (first|exact oK1 _|(refine oK2 (by (repeat (first|exact tK1 _ _|apply tK2))) ?_)))) ?_
  rintro ⟨k,v⟩ hk
  simp only at hk
  simp only [zAq,List.cons_append,List.nil_append]
  have hck:=hcl k hk
  by_cases hlt:k<pl.length
  ·obtain ⟨s,hsk⟩:∃ s,pl[k]?=some s:=⟨_,List.getElem?_eq_getElem hlt⟩
   have hsm:=List.mem_of_getElem? hsk
   have hsl:=hrl s hsm
   have hrow:=hp.rows s hsm
   obtain ⟨bb,o,rfl,hblt,hc⟩:=hpp.at_ hlt
   have:InS w bb o zAC 1 pl:=⟨hpp⟩
   obtain ⟨sA,xs,sc⟩:=s
   have:zAR pl k ⟨sA,xs,sc⟩:=⟨hsk⟩
   have hcs:=zI8 hsk
   simp only at hsl hrow hcs
   (repeat' (first|((with_reducible refine zG ?_);first|refine zE rfl rfl rfl rfl rfl ?_|refine zC rfl rfl rfl rfl rfl ?_|(refine zK rfl rfl rfl rfl rfl ?_;refine ⟨_,rfl,?_⟩)|(refine zQ rfl rfl rfl rfl rfl rfl rfl (fun h=>?_) (fun h=>?_)<;>(dsimp only [cmpP] at h;(try (exfalso;omega))))|(refine zAx (enc:=encI) xs rfl rfl rfl rfl rfl (by (repeat (first|exact tK1 _ _|apply tK2))) rfl rfl (zFH hrow) (by refine ⟨?_,by decide⟩;(try simp only [List.length_append,List.length_cons,List.length_nil]);omega) (fun A' c'=>?_))|refine zj rfl rfl rfl rfl rfl rfl (by omega) ?_|refine zCh rfl rfl rfl rfl rfl rfl (IntWalk.i64_in _ (by omega)) ?_|refine zi rfl rfl rfl rfl rfl rfl rfl (by omega) ?_|refine zBx rfl rfl rfl rfl rfl rfl rfl (by first|decide|omega) ?_|refine zr rfl rfl rfl rfl rfl ?_)|(with_reducible first|refine zI ?_|refine zB ?_|refine zD ?_|refine zA ?_|refine zb ?_|refine zP ?_|refine zd ?_|refine zDY ?_|refine zN ?_|refine zn ?_|refine zk ?_|refine zA3 ?_|refine zR ?_|refine zY ?_)|((with_reducible refine zBD ?_ ?_);(· exact rfl))|((with_reducible refine zJ ?_ ?_);(· exact rfl))|((with_reducible refine zF ?_ ?_);(· exact rfl))))
   exact zc (k+1,.slice A' (zEx pl k++xs).length c') (by simp only;omega) (by simp only;omega) (by (first|exact lK1|(repeat (first|exact lK1|(refine zL rfl ?_))))) (by simp only [hcs];(repeat (first|exact oK1 _|(refine oK2 (by (repeat (first|exact tK1 _ _|apply tK2))) ?_))))
  ·obtain rfl:k=pl.length:=by omega
   refine zDJ (by (repeat (first|exact tK1 _ _|apply tK2))) ?_
   rintro A9 c9 rfl
   (repeat' (first|((with_reducible refine zG ?_);first|refine zE rfl rfl rfl rfl rfl ?_|refine zC rfl rfl rfl rfl rfl ?_|(refine zK rfl rfl rfl rfl rfl ?_;refine ⟨_,rfl,?_⟩)|(refine zQ rfl rfl rfl rfl rfl rfl rfl (fun h=>?_) (fun h=>?_)<;>(dsimp only [cmpP] at h;(try (exfalso;omega))))|refine zj rfl rfl rfl rfl rfl rfl (by omega) ?_|refine zCh rfl rfl rfl rfl rfl rfl (IntWalk.i64_in _ (by omega)) ?_|refine zi rfl rfl rfl rfl rfl rfl rfl (by omega) ?_|refine zBx rfl rfl rfl rfl rfl rfl rfl (by first|decide|omega) ?_|refine zr rfl rfl rfl rfl rfl ?_)|(with_reducible first|refine zI ?_|refine zB ?_|refine zD ?_|refine zA ?_|refine zb ?_|refine zP ?_|refine zd ?_|refine zDY ?_|refine zN ?_|refine zn ?_|refine zk ?_|refine zA3 ?_|refine zR ?_|refine zY ?_)|((with_reducible refine zBD ?_ ?_);(· exact rfl))|((with_reducible refine zJ ?_ ?_);(· exact rfl))|((with_reducible refine zF ?_ ?_);(· exact rfl))))
   exact zT (by (exact zO.cons (by exact zq.tmp rfl) zO.nil)) (A9,c9) trivial rfl (fun _ h=>(h.zCT (by (repeat (first|exact tK1 _ _|apply tK2)))).sub (by (repeat (first|exact oK1 _|(refine oK2 (by (repeat (first|exact tK1 _ _|apply tK2))) ?_)))))
end Go.Proofs.YtdigopgncfhiaaaGreatDoor
namespace Go.Proofs.YtdigopgncfhiaaaGreatDoor
open Go.RowKit
set_option maxRecDepth 20000
def zDn (c:Cov) (x:Int):Sp:=(c.t.getD x.toNat default).long
def zDq (c:Cov) (w:Sp) (x:Int):Sp:=⟨w.lo+c.rate * (zDn c x).lo,w.hi+c.rate * (zDn c x).hi⟩
def zFG (c:Cov) (l:List Int):Sp:=l.foldl (zDq c) ⟨0,0⟩
def zDI (c:Cov) (pl:List Sli):Sp:=if zCG c pl=0 then zFG c (zEx pl pl.length) else ⟨0,0⟩
theorem zPA {c:Cov} {l:List Int} {x:Int}:zFG c (l++[x])=zDq c (zFG c l) x:=by simp [zFG]
theorem zK1 {c:Cov} (h:zAr c=0):valid c.t=true:=by
 unfold zAr at h
 cases hv:valid c.t with
 | true=>rfl
 | false=>rw [hv] at h;simp at h
theorem cat_in {c:Cov} {pl:List Sli} (hp:zAz c pl=true) {x:Int} (hx:x∈zEx pl pl.length):∃ k:Nat,x=(k:Int)∧k<c.beds.length:=by
 unfold zEx at hx
 rw [List.take_length,List.mem_flatMap] at hx
 obtain ⟨s,hs,hx⟩:=hx
 obtain ⟨i,hi⟩:=List.mem_iff_getElem?.1 hs
 obtain ⟨hl,hr⟩:=zAc.1 hp
 have hil:=(List.getElem?_eq_some_iff.1 hi).1
 have:=hr i _ s (List.getElem?_eq_getElem (show i<c.hours.length by omega)) hi
 unfold zDR at this
 simp only [Bool.and_eq_true] at this
 exact zKX (List.all_eq_true.1 this.1.2 x hx)
theorem zKb {c:Cov} (hv:valid c.t=true) {k:Nat} (hk:k<c.t.length):1≤(zDn c k).lo∧(zDn c k).lo≤(zDn c k).hi∧(zDn c k).hi≤30000:=by
 have hz:c.t[k]?=some c.t[k]:=List.getElem?_eq_getElem hk
 have ho:=zHS hv c.t[k] (List.getElem_mem hk)
 unfold zDn
 rw [Int.toNat_natCast,zAW hz]
 exact ⟨ho.l0,ho.l1,ho.l2⟩
theorem zR6 {c:Cov} (hv:valid c.t=true) {k:Nat} (hk:k<c.t.length):zFn c.t (k:Int) ((k:Int)+1)=zDn c k:=by
 have hd:zGA c.t (k:Int) ((k:Int)+1)=true:=by unfold zGA;simp only [Bool.and_eq_true,zAA];omega
 unfold zFn
 rw [hv,hd,Bool.and_true,if_pos rfl,Int.toNat_natCast,show ((k:Int)+1).toNat=k+1 by omega]
 unfold zw longs zDn
 have hz:c.t[k]?=some c.t[k]:=List.getElem?_eq_getElem hk
 rw [Int.toNat_natCast,zAW hz,List.extract_eq_take_drop,show k+1 - k=1 by omega,List.take_one,List.head?_drop,List.getElem?_map,hz]
 simp [zJD,zCI]
theorem zNc {c:Cov} (hf:zBl c) (hv:valid c.t=true):∀ (l:List Int) (w:Sp) (m:Int),(∀ x∈l,∃ k:Nat,x=(k:Int)∧k<c.t.length)→0≤w.lo∧w.lo≤m∧0≤w.hi∧w.hi≤m→0≤(l.foldl (zDq c) w).lo∧(l.foldl (zDq c) w).lo≤m+3000000 * l.length∧0≤(l.foldl (zDq c) w).hi∧(l.foldl (zDq c) w).hi≤m+3000000 * l.length
 | [],w,m,_,h=>by simp only [List.foldl_nil,List.length_nil];omega
 | x::l,w,m,hx,h=>by
  obtain ⟨k,rfl,hk⟩:=hx x (by simp)
  have h1:=zKb hv hk
  have h2:=hf.rate
  simp only [zAA] at h2
  have m1:=zGV (a:=c.rate) (b:=(zDn c k).lo) (A:=100) (B:=30000) (by omega) (by omega) (by omega) (by omega)
  have m2:=zGV (a:=c.rate) (b:=(zDn c k).hi) (A:=100) (B:=30000) (by omega) (by omega) (by omega) (by omega)
  have:=zNc hf hv l (zDq c w k) (m+3000000) (fun y hy=>hx y (by simp [hy])) (by simp only [zDq];omega)
  simp only [List.foldl_cons,List.length_cons]
  omega
end Go.Proofs.YtdigopgncfhiaaaGreatDoor
namespace Go.Proofs.YtdigopgncfhiaaaGreatDoor
open Go.RowKit
set_option maxRecDepth 20000
set_option maxHeartbeats 4000000 in
theorem zPs (c:Cov) (A:Option Addr) (ca:Nat) (B:Option Addr) (cb:Nat) (C:Option Addr) (cc:Nat) (pl:List Sli) (P:Option Addr) (cp:Nat) (w:World) (hc:zAU w c A B C) (hs:Small c) (hp:zAu w P pl) (hl:pl.length≤12) (hrl:∀ s∈pl,s.xs.length≤20) :
  Gv Tryz.prog 29 [zAI c A ca B cb C cc,.slice P pl.length cp] w (.tuple #[vSp (zDI c pl),.int .i64 (zCG c pl)]):=by
 have h1:=fun W (hb:Below w.heap.size w W)=>zFe c A ca B cb C cc pl P cp W (hc.below hb) hs (hp.below hb) hl hrl
 have h2:=fun W (hb:Below w.heap.size w W)=>zFd c A ca B cb C cc pl P cp W (hc.below hb) hs (hp.below hb) hl hrl
 unfold zAI at h1 h2
 unfold Gv zAI zDI vSp
 by_cases h0:zCG c pl=0
 ·rw [if_pos h0,h0]
  obtain ⟨h00,hpl⟩:=zFl h0
  have hf:=zA1 h00
  have hv:=zK1 h00
  have h2:=fun W hb=>h2 W hb h00 hpl
  have hC:=fun W (hb:Below w.heap.size w W)=>zOz pl P cp W (hp.below hb) hl hrl
  have hin:=fun x hx=>cat_in (c:=c) (pl:=pl) hpl (x:=x) hx
  have hlen:=zK8 hrl pl.length (Nat.le_refl _)
  have hall:zEx pl pl.length=pl.flatMap Sli.xs:=by unfold zEx;rw [List.take_length]
  rw [← hall] at hC
  generalize zEx pl pl.length=L at *
  have hbt:=hf.beds
  have hrt:=hf.rate
  simp only [zAA] at hrt
  have hDr:=fun W (hb:Below w.heap.size w W) (k:Nat) (hk:k<c.t.length)=>(drop_any c.t A ca (k:Int) (((k+1:Nat)):Int) W (hc.t.below hb) hs.fit (by have:=hs.t;omega)).gv
  unfold vT vSp at hDr
  unfold zH at h2 ⊢
  (refine zM (n:=60) Tryz.func29 rfl rfl rfl ?_)
  (repeat' (first|((with_reducible refine zG ?_);first|refine zE rfl rfl rfl rfl rfl ?_|refine zC rfl rfl rfl rfl rfl ?_|(refine zK rfl rfl rfl rfl rfl ?_;refine ⟨_,rfl,?_⟩)|refine ze rfl rfl rfl rfl rfl ?_|(refine zQ rfl rfl rfl rfl rfl rfl rfl (fun h=>?_) (fun h=>?_)<;>(dsimp only [cmpP] at h;(try (exfalso;omega))))|(refine zAG rfl rfl rfl rfl rfl rfl (fun _ _ q=>h2 _ q.below) ?_;rintro g -;dsimp only [List.cons_append,List.nil_append])|refine zCE rfl rfl rfl rfl rfl rfl (fun _ _ q=>hC _ q.below) (fun A' c'=>?_)|refine zg rfl rfl rfl rfl rfl rfl ?_|refine zj rfl rfl rfl rfl rfl rfl (by omega) ?_|refine zCh rfl rfl rfl rfl rfl rfl (IntWalk.i64_in _ (by omega)) ?_|refine zLd rfl rfl rfl rfl rfl rfl (IntWalk.i64_in _ (by omega)) ?_|refine zi rfl rfl rfl rfl rfl rfl rfl (by omega) ?_|refine zBx rfl rfl rfl rfl rfl rfl rfl (by first|decide|omega) ?_|refine zr rfl rfl rfl rfl rfl ?_|(refine zf rfl rfl rfl rfl rfl ?_;refine And.intro rfl (And.intro (by first|decide|exact Nat.le_of_ble_eq_true rfl|(simp;omega)) ⟨_,rfl,?_⟩))|(refine zo rfl rfl rfl rfl (fun b=>?_))|(refine zAM rfl rfl rfl rfl rfl rfl (fun b=>?_))|(refine zBA rfl rfl rfl rfl rfl ?_;refine ⟨_,rfl,?_⟩))|(with_reducible first|refine zI ?_|refine zB ?_|refine zD ?_|refine zA ?_|refine zb ?_|refine zP ?_|refine zd ?_|refine zDY ?_|refine zN ?_|refine zn ?_|refine zk ?_|refine zA3 ?_|refine zR ?_|refine zY ?_)|((with_reducible refine zBD ?_ ?_);(· exact rfl))|((with_reducible refine zJ ?_ ?_);(· exact rfl))|((with_reducible refine zF ?_ ?_);(· exact rfl))))
  rename_i b2 b4
  refine zu (ι:=Nat) [2,4,8,25,26] rfl (fun k=>k≤L.length) (fun k=>[(27,.int .i64 (k:Int))]) (fun k=>[.blk b (zBZ (zFG c (L.take k))),.sl encI 1 A' L,.blk b4 [.int .i64 0,.int .i64 0],.blk b2 (zH c A ca B cb C cc)]) (fun k=>L.length - k) 0 (Nat.zero_le _) (by (first|exact lK1|(repeat (first|exact lK1|(refine zL rfl ?_))))) (by (repeat (first|exact oK1 _|(refine oK2 (by (repeat (first|exact tK1 _ _|apply tK2))) ?_)))) ?_
  rintro k hk
  simp only [zAq,zH,List.cons_append,List.nil_append]
  by_cases hlt:k<L.length
  ·obtain ⟨x,hx⟩:∃ x,L[k]?=some x:=⟨_,List.getElem?_eq_getElem hlt⟩
   obtain ⟨i,rfl,hi⟩:=hin x (List.mem_of_getElem? hx)
   have hD:=fun W hb=>hDr W hb i (by omega)
   have he:zFn c.t (i:Int) (((i+1:Nat)):Int)=zDn c i:=by rw [show (((i+1:Nat)):Int)=(i:Int)+1 by omega];exact zR6 hv (by omega)
   rw [he] at hD
   have h4:=hs.b
   have hli:=zKb hv (show i<c.t.length by omega)
   have hwi:=zNc hf hv (L.take k) ⟨0,0⟩ 0 (fun y hy=>by obtain ⟨j,e,hj⟩:=hin y (List.mem_of_mem_take hy);exact ⟨j,e,by omega⟩) (by simp only;omega)
   have hwl:(L.take k).length≤240:=by rw [List.length_take];omega
   have hw:zFG c (L.take (k+1))=zDq c (zFG c (L.take k)) i:=by rw [List.take_add_one,hx];exact zPA
   have hwe:(L.take k).foldl (zDq c) ⟨0,0⟩=zFG c (L.take k):=rfl
   rw [hwe] at hwi
   have m1:=zGV (a:=c.rate) (b:=(zDn c i).lo) (A:=100) (B:=30000) (by omega) (by omega) (by omega) (by omega)
   have m2:=zGV (a:=c.rate) (b:=(zDn c i).hi) (A:=100) (B:=30000) (by omega) (by omega) (by omega) (by omega)
   generalize zFG c (L.take k)=wk at *
   have:zAR L k (i:Int):=⟨hx⟩
   unfold zBZ
   refine zEb (by (repeat (first|exact tK1 _ _|apply tK2))) (by omega) ?_
   rintro bl ol rfl
   (repeat' (first|((with_reducible refine zG ?_);first|refine zE rfl rfl rfl rfl rfl ?_|refine zC rfl rfl rfl rfl rfl ?_|(refine zK rfl rfl rfl rfl rfl ?_;refine ⟨_,rfl,?_⟩)|refine ze rfl rfl rfl rfl rfl ?_|(refine zQ rfl rfl rfl rfl rfl rfl rfl (fun h=>?_) (fun h=>?_)<;>(dsimp only [cmpP] at h;(try (exfalso;omega))))|refine zS rfl rfl rfl rfl rfl rfl (fun _ _ q=>hD _ q.below) ?_|refine zg rfl rfl rfl rfl rfl rfl ?_|refine zj rfl rfl rfl rfl rfl rfl (by omega) ?_|refine zCh rfl rfl rfl rfl rfl rfl (IntWalk.i64_in _ (by omega)) ?_|refine zLd rfl rfl rfl rfl rfl rfl (IntWalk.i64_in _ (by omega)) ?_|refine zi rfl rfl rfl rfl rfl rfl rfl (by omega) ?_|refine zBx rfl rfl rfl rfl rfl rfl rfl (by first|decide|omega) ?_|refine zr rfl rfl rfl rfl rfl ?_|(refine zf rfl rfl rfl rfl rfl ?_;refine And.intro rfl (And.intro (by first|decide|exact Nat.le_of_ble_eq_true rfl|(simp;omega)) ⟨_,rfl,?_⟩))|(refine zo rfl rfl rfl rfl (fun b=>?_))|(refine zAM rfl rfl rfl rfl rfl rfl (fun b=>?_))|(refine zBA rfl rfl rfl rfl rfl ?_;refine ⟨_,rfl,?_⟩))|(with_reducible first|refine zI ?_|refine zB ?_|refine zD ?_|refine zA ?_|refine zb ?_|refine zP ?_|refine zd ?_|refine zDY ?_|refine zN ?_|refine zn ?_|refine zk ?_|refine zA3 ?_|refine zR ?_|refine zY ?_)|((with_reducible refine zBD ?_ ?_);(· exact rfl))|((with_reducible refine zJ ?_ ?_);(· exact rfl))|((with_reducible refine zF ?_ ?_);(· exact rfl))))
   exact zc (k+1) (by omega) (by omega) (by (first|exact lK1|(repeat (first|exact lK1|(refine zL rfl ?_))))) (by simp only [hw,zDq];(repeat (first|exact oK1 _|(refine oK2 (by (repeat (first|exact tK1 _ _|apply tK2))) ?_))))
  ·obtain rfl:k=L.length:=by omega
   rw [List.take_length]
   (repeat' (first|((with_reducible refine zG ?_);first|refine zE rfl rfl rfl rfl rfl ?_|refine zC rfl rfl rfl rfl rfl ?_|(refine zK rfl rfl rfl rfl rfl ?_;refine ⟨_,rfl,?_⟩)|refine ze rfl rfl rfl rfl rfl ?_|(refine zQ rfl rfl rfl rfl rfl rfl rfl (fun h=>?_) (fun h=>?_)<;>(dsimp only [cmpP] at h;(try (exfalso;omega))))|refine zg rfl rfl rfl rfl rfl rfl ?_|refine zj rfl rfl rfl rfl rfl rfl (by omega) ?_|refine zCh rfl rfl rfl rfl rfl rfl (IntWalk.i64_in _ (by omega)) ?_|refine zLd rfl rfl rfl rfl rfl rfl (IntWalk.i64_in _ (by omega)) ?_|refine zi rfl rfl rfl rfl rfl rfl rfl (by omega) ?_|refine zBx rfl rfl rfl rfl rfl rfl rfl (by first|decide|omega) ?_|refine zr rfl rfl rfl rfl rfl ?_|(refine zf rfl rfl rfl rfl rfl ?_;refine And.intro rfl (And.intro (by first|decide|exact Nat.le_of_ble_eq_true rfl|(simp;omega)) ⟨_,rfl,?_⟩))|(refine zo rfl rfl rfl rfl (fun b=>?_))|(refine zAM rfl rfl rfl rfl rfl rfl (fun b=>?_))|(refine zBA rfl rfl rfl rfl rfl ?_;refine ⟨_,rfl,?_⟩))|(with_reducible first|refine zI ?_|refine zB ?_|refine zD ?_|refine zA ?_|refine zb ?_|refine zP ?_|refine zd ?_|refine zDY ?_|refine zN ?_|refine zn ?_|refine zk ?_|refine zA3 ?_|refine zR ?_|refine zY ?_)|((with_reducible refine zBD ?_ ?_);(· exact rfl))|((with_reducible refine zJ ?_ ?_);(· exact rfl))|((with_reducible refine zF ?_ ?_);(· exact rfl))))
   exact zT (by (exact zO.cons (by exact res1c rfl (by exact rfl)) (zO.cons (by exact zq.tmp rfl) zO.nil))) () trivial rfl (fun _ _=>Own.nil _ _)
 ·rw [if_neg h0]
  unfold zH at h1 ⊢
  generalize zCG c pl=e at *
  (refine zM (n:=60) Tryz.func29 rfl rfl rfl ?_)
  (repeat' (first|((with_reducible refine zG ?_);first|refine zE rfl rfl rfl rfl rfl ?_|refine zC rfl rfl rfl rfl rfl ?_|(refine zK rfl rfl rfl rfl rfl ?_;refine ⟨_,rfl,?_⟩)|refine ze rfl rfl rfl rfl rfl ?_|(refine zQ rfl rfl rfl rfl rfl rfl rfl (fun h=>?_) (fun h=>?_)<;>(dsimp only [cmpP] at h;(try (exfalso;omega))))|refine zS rfl rfl rfl rfl rfl rfl (fun _ _ q=>h1 _ q.below h0) ?_|refine zg rfl rfl rfl rfl rfl rfl ?_|refine zj rfl rfl rfl rfl rfl rfl (by omega) ?_|refine zCh rfl rfl rfl rfl rfl rfl (IntWalk.i64_in _ (by omega)) ?_|refine zLd rfl rfl rfl rfl rfl rfl (IntWalk.i64_in _ (by omega)) ?_|refine zi rfl rfl rfl rfl rfl rfl rfl (by omega) ?_|refine zBx rfl rfl rfl rfl rfl rfl rfl (by first|decide|omega) ?_|refine zr rfl rfl rfl rfl rfl ?_|(refine zf rfl rfl rfl rfl rfl ?_;refine And.intro rfl (And.intro (by first|decide|exact Nat.le_of_ble_eq_true rfl|(simp;omega)) ⟨_,rfl,?_⟩))|(refine zo rfl rfl rfl rfl (fun b=>?_))|(refine zAM rfl rfl rfl rfl rfl rfl (fun b=>?_))|(refine zBA rfl rfl rfl rfl rfl ?_;refine ⟨_,rfl,?_⟩))|(with_reducible first|refine zI ?_|refine zB ?_|refine zD ?_|refine zA ?_|refine zb ?_|refine zP ?_|refine zd ?_|refine zDY ?_|refine zN ?_|refine zn ?_|refine zk ?_|refine zA3 ?_|refine zR ?_|refine zY ?_)|((with_reducible refine zBD ?_ ?_);(· exact rfl))|((with_reducible refine zJ ?_ ?_);(· exact rfl))|((with_reducible refine zF ?_ ?_);(· exact rfl))))
  all_goals exact zT (by (exact zO.cons (by exact res1c rfl (by exact rfl)) (zO.cons (by exact zq.tmp rfl) zO.nil))) () trivial rfl (fun _ _=>Own.nil _ _)
end Go.Proofs.YtdigopgncfhiaaaGreatDoor
namespace Go.Proofs.YtdigopgncfhiaaaGreatDoor
open Go.RowKit
set_option maxRecDepth 20000
theorem zNj {c:Cov} {pl pl':List Sli} (h:pl.map Sli.xs=pl'.map Sli.xs):zDl c pl=zDl c pl':=by unfold zDl;rw [zCw h,zE2 h]
theorem zNv {c:Cov} {pl pl':List Sli} (h:pl.map Sli.xs=pl'.map Sli.xs):zBR c pl=zBR c pl':=by unfold zBR;rw [zCw h,zE2 h,zE2 h]
theorem zMl {c:Cov} {pl pl':List Sli} (h:pl.map Sli.xs=pl'.map Sli.xs):zDI c pl=zDI c pl':=by
 unfold zDI zEx
 rw [zCw h,List.take_length,List.take_length,List.flatMap_def,List.flatMap_def,h]
end Go.Proofs.YtdigopgncfhiaaaGreatDoor
namespace Go.Proofs.YtdigopgncfhiaaaGreatDoor
open Go.RowKit
set_option maxRecDepth 20000
section
variable (c : Cov) (A:Option Addr) (ca:Nat) (B:Option Addr) (cb:Nat) (C:Option Addr) (cc:Nat) (xss:List (List Int)) (P:Option Addr) (cp:Nat) (w:World) (hc:zAU w c A B C) (hs:Small c) (hp:∃ pl:List Sli,pl.map Sli.xs=(zm xss).map Sli.xs∧zAu w P pl) (hl:xss.length≤12) (hr:∀ r∈xss,r.length≤20)
include hc hs hp hl hr
theorem zD5 (i h:Int):Gv Tryz.prog 23 [zAI c A ca B cb C cc,.slice P xss.length cp,.int .i64 i,.int .i64 h] w (.tuple #[vSp (zDB c (zm xss) i h).1,.int .i64 (zDB c (zm xss) i h).2]):=by
 obtain ⟨pl,hx,hp⟩:=hp
 have:=zPt c A ca B cb C cc pl P cp i h w hc hs hp (by rw [zDU hx];exact hl) (zFy hx hr)
 rw [zDU hx,zMw hx] at this
 exact this
theorem zIy (hG:InC w 0 0 zB7):Ret Tryz.prog 20 [zAI c A ca B cb C cc,.slice P xss.length cp] w (fun p:Option Addr × Nat=>.tuple #[.slice p.1 (zDl c (zm xss)).length p.2,.int .i64 (zCG c (zm xss))]) (fun p=>[.sl zAX 2 p.1 (zDl c (zm xss))]) (fun _=>True):=by
 obtain ⟨pl,hx,hp⟩:=hp
 have:=zRj c A ca B cb C cc pl P cp w hc hs hp (by rw [zDU hx];exact hl) (zFy hx hr) hG
 rw [zDU hx,zNj hx,zCw hx] at this
 exact this
theorem zFJ (hG:InC w 0 0 zB7):Gv Tryz.prog 21 [zAI c A ca B cb C cc,.slice P xss.length cp] w (.tuple #[.int .u8 (zBR c (zm xss)),.int .i64 (zCG c (zm xss))]):=by
 obtain ⟨pl,hx,hp⟩:=hp
 have:=zRk c A ca B cb C cc pl P cp w hc hs hp (by rw [zDU hx];exact hl) (zFy hx hr) hG
 rw [zDU hx,zNv hx,zCw hx] at this
 exact this
theorem iMostP (h:Int) (hG:InC w 0 0 zB7):Gv Tryz.prog 37 [zAI c A ca B cb C cc,.slice P xss.length cp,.int .i64 h] w (.tuple #[.int .i64 (zH9 c (zm xss) h).1,.int .i64 (zH9 c (zm xss) h).2]):=by
 obtain ⟨pl,hx,hp⟩:=hp
 have:=zRl c A ca B cb C cc pl P cp h w hc hs hp (by rw [zDU hx];exact hl) (zFy hx hr) hG
 rw [zDU hx,zOK hx] at this
 exact this
theorem zNF : Gv Tryz.prog 29 [zAI c A ca B cb C cc,.slice P xss.length cp] w (.tuple #[vSp (zDI c (zm xss)),.int .i64 (zCG c (zm xss))]):=by
 obtain ⟨pl,hx,hp⟩:=hp
 have:=zPs c A ca B cb C cc pl P cp w hc hs hp (by rw [zDU hx];exact hl) (zFy hx hr)
 rw [zDU hx,zMl hx,zCw hx] at this
 exact this
end
theorem zPG (xss:List (List Int)) (P:Option Addr) (cp:Nat) (P2:Option Addr) (cp2:Nat) (w:World) (hp:∃ pl:List Sli,pl.map Sli.xs=(zm xss).map Sli.xs∧zAu w P pl) (hp2:∃ pl:List Sli,pl.map Sli.xs=(zm xss).map Sli.xs∧zAu w P2 pl) (hl:xss.length≤1000) (hr:∀ r∈xss,r.length≤1000) :
  Gv Tryz.prog 53 [.slice P xss.length cp,.slice P2 xss.length cp2] w (.bool true):=by
 obtain ⟨pl,hx,hp⟩:=hp
 obtain ⟨pl2,hx2,hp2⟩:=hp2
 have:=zLP pl pl2 P cp P2 cp2 w hp hp2 (hx.trans hx2.symm) (by rw [zDU hx];exact hl) (zFy hx2 hr)
 rw [zDU hx,zDU hx2] at this
 exact this
theorem zM1 (x:List Int) (X:Option Addr) (cx:Nat) (Y:Option Addr) (cy:Nat) (W:World) (h1:zAB encI 1 W X x) (h2:zAB encI 1 W Y x) (h3:x.length≤1000):Gv Tryz.prog 27 [.slice X x.length cx,.slice Y x.length cy] W (.bool true):=by
 have hs:=fun W' (hW:Below W.heap.size W W')=>(zLn x x X Y cx cy W' (h1.below hW) (h2.below hW) (by omega) (by omega)).gv
 simp only [decide_true] at hs
 unfold Gv
 (refine zM (n:=8) Tryz.func27 rfl rfl rfl ?_)
 (repeat' (first|((with_reducible refine zG ?_);first|refine zE rfl rfl rfl rfl rfl ?_|refine zC rfl rfl rfl rfl rfl ?_|refine zS rfl rfl rfl rfl rfl rfl (fun _ _ q=>hs _ q.below) ?_)|(with_reducible first|refine zI ?_|refine zB ?_|refine zD ?_|refine zA ?_|refine zb ?_)))
 all_goals exact zT (by (exact zO.cons (by exact zq.tmp rfl) zO.nil)) () trivial rfl (fun _ _=>Own.nil _ _)
def zDK (c:Cov):Bool:=!zDx c [] && decide (zAr c=0)
theorem zCV {c:Cov}:zDK c=true↔zDx c []=false∧zAr c=0:=by simp [zDK]
theorem zCU {c:Cov} (h:zDK c=true) (hf:zE0 c.t):Small c:=by
 obtain ⟨h1,_⟩:=zCV.1 h
 obtain ⟨k1,k2,k3,_,_⟩:=zG8 h1
 exact ⟨hf,k1,k2,k3⟩
theorem zCt (c:Cov) (A:Option Addr) (ca:Nat) (B:Option Addr) (cb:Nat) (C:Option Addr) (cc:Nat) (w:World) (hc:zAU w c A B C) (hf:zE0 c.t):Gv Tryz.prog 16 [zAI c A ca B cb C cc] w (.bool (zDK c)):=by
 have hGr:=fun W (hW:Below w.heap.size w W)=>zN6 c A ca B cb C cc [] none 0 W ⟨zAB.nil,fun s hs=>by cases hs⟩ ⟨Nat.le_refl _,Nat.zero_le _⟩
 unfold zAI at hGr
 unfold Gv zAI zDK
 cases hgr:zDx c []
 ·rw [hgr] at hGr
  obtain ⟨k1,k2,k3,_,_⟩:=zG8 hgr
  have hC:=fun W (hW:Below w.heap.size w W)=>zN5 c A ca B cb C cc W (hc.below hW) ⟨hf,k1,k2,k3⟩
  unfold zAI at hC
  generalize zAr c=e at *
  unfold zH at hC hGr ⊢
  (refine zM (n:=11) Tryz.func16 rfl rfl rfl ?_)
  (repeat' (first|((with_reducible refine zG ?_);first|refine zE rfl rfl rfl rfl rfl ?_|refine zC rfl rfl rfl rfl rfl ?_|(refine zK rfl rfl rfl rfl rfl ?_;refine ⟨_,rfl,?_⟩)|refine zAf rfl rfl rfl rfl rfl rfl ?_|(refine zQ rfl rfl rfl rfl rfl rfl rfl (fun h=>?_) (fun h=>?_)<;>(dsimp only [cmpP] at h;(try (exfalso;omega))))|refine zS rfl rfl rfl rfl rfl rfl (fun _ _ q=>hGr _ q.below) ?_|refine zS rfl rfl rfl rfl rfl rfl (fun _ _ q=>hC _ q.below) ?_|refine zAh rfl rfl rfl rfl rfl ?_|(refine zAM rfl rfl rfl rfl rfl rfl (fun b=>?_)))|(with_reducible first|refine zI ?_|refine zB ?_|refine zD ?_|refine zA ?_|refine zb ?_)))
  all_goals exact zT (by (exact zO.cons (by exact zq.tmp rfl) zO.nil)) () trivial (by simp_all [resV]) (fun _ h=>h.sub (by (repeat (first|exact oK1 _|(refine oK2 (by (repeat (first|exact tK1 _ _|apply tK2))) ?_)))))
 ·rw [hgr] at hGr
  unfold zH at hGr ⊢
  (refine zM (n:=11) Tryz.func16 rfl rfl rfl ?_)
  (repeat' (first|((with_reducible refine zG ?_);first|refine zE rfl rfl rfl rfl rfl ?_|refine zC rfl rfl rfl rfl rfl ?_|(refine zK rfl rfl rfl rfl rfl ?_;refine ⟨_,rfl,?_⟩)|refine zAf rfl rfl rfl rfl rfl rfl ?_|refine zAT rfl rfl rfl ?_|refine zS rfl rfl rfl rfl rfl rfl (fun _ _ q=>hGr _ q.below) ?_|refine zAh rfl rfl rfl rfl rfl ?_|(refine zAM rfl rfl rfl rfl rfl rfl (fun b=>?_)))|(with_reducible first|refine zI ?_|refine zB ?_|refine zD ?_|refine zA ?_|refine zb ?_)))
  all_goals exact zT (by (exact zO.cons (by exact zq.tmp rfl) zO.nil)) () trivial rfl (fun _ _=>Own.nil _ _)
end Go.Proofs.YtdigopgncfhiaaaGreatDoor
namespace Go.Proofs.YtdigopgncfhiaaaGreatDoor
variable {ro : Option Nat}
open Go.RowKit
class Ctb (α:Type):Prop where ex:∃ f:Nat→α,∀ z,∃ n,f n=z
def zE1 : Nat→Nat × Nat
 | 0=>(0,0)
 | n+1=>match zE1 n with
  | (0,b)=>(b+1,0)
  | (a+1,b)=>(a,b+1)
theorem zIV : ∀ s b,b≤s→∃ n,zE1 n=(s - b,b)
  | 0, b, h => ⟨0, by obtain rfl : b = 0 := by omega
                      rfl⟩
  | s+1,0,_=>by
    obtain ⟨n,hn⟩:=zIV s s (Nat.le_refl _)
    refine ⟨n+1,?_⟩
    simp only [zE1,hn,Nat.sub_self]
    rfl
  | s+1,b+1,h=>by
    obtain ⟨n,hn⟩:=zIV (s+1) b (by omega)
    refine ⟨n+1,?_⟩
    rw [show s+1 - b=(s - b)+1 by omega] at hn
    simp only [zE1,hn]
    rw [show s+1 - (b+1)=s - b by omega]
theorem zIW (p:Nat × Nat):∃ n,zE1 n=p:=by
 obtain ⟨a,b⟩:=p
 obtain ⟨n,hn⟩:=zIV (a+b) b (by omega)
 exact ⟨n,by rw [hn,Nat.add_sub_cancel]⟩
instance : Ctb Nat:=⟨id,fun z=>⟨z,rfl⟩⟩
instance : Ctb Unit:=⟨fun _=>(),fun _=>⟨0,rfl⟩⟩
instance ctb_prod {α β:Type} [i:Ctb α] [j:Ctb β]:Ctb (α × β):=by
 obtain ⟨f,hf⟩:=i.ex
 obtain ⟨g,hg⟩:=j.ex
 refine ⟨fun n=>(f (zE1 n).1,g (zE1 n).2),fun z=>?_⟩
 obtain ⟨a,ha⟩:=hf z.1
 obtain ⟨b,hb⟩:=hg z.2
 obtain ⟨n,hn⟩:=zIW (a,b)
 exact ⟨n,by simp only [hn,ha,hb]⟩
instance ctb_opt {α:Type} [i:Ctb α]:Ctb (Option α):=by
 obtain ⟨f,hf⟩:=i.ex
 refine ⟨fun n=>match n with | 0=>none|n+1=>some (f n),fun z=>?_⟩
 cases z with
 | none=>exact ⟨0,rfl⟩
 | some a=>obtain ⟨n,hn⟩:=hf a;exact ⟨n+1,by simp only [hn]⟩
theorem zNR {α β:Type} (h:α→β) (hs:∀ z,∃ x,h x=z) [i:Ctb α]:Ctb β:=by
 obtain ⟨f,hf⟩:=i.ex
 refine ⟨fun n=>h (f n),fun z=>?_⟩
 obtain ⟨x,rfl⟩:=hs z
 obtain ⟨n,rfl⟩:=hf x
 exact ⟨n,rfl⟩
instance : Ctb Int:=zNR (α:=Nat × Nat) (fun p=>(p.1:Int) - p.2) fun z=>⟨(z.toNat,(-z).toNat),by simp only;omega⟩
instance : Ctb Addr:=zNR (α:=Nat × Nat × Option Nat) (fun p=>⟨p.1,p.2.1,p.2.2⟩) fun z=>⟨(z.block,z.off,z.spot),rfl⟩
instance ctb_list {α:Type} [i:Ctb α]:Ctb (List α):=by
 obtain ⟨f,hf⟩:=i.ex
 have key:∀ l:List α,∃ n,(fun n=>(Nat.rec (fun _=>[]) (fun _ g c=>f (zE1 c).1::g (zE1 c).2) (zE1 n).1:Nat→List α) (zE1 n).2) n=l:=by
  have h2:∀ l:List α,∃ c,(Nat.rec (fun _=>[]) (fun _ g c=>f (zE1 c).1::g (zE1 c).2) l.length:Nat→List α) c=l:=by
   intro l
   induction l with
   | nil=>exact ⟨0,rfl⟩
   | cons x l ih =>
    obtain ⟨c,hc⟩:=ih
    obtain ⟨n,hn⟩:=hf x
    obtain ⟨m,hm⟩:=zIW (n,c)
    refine ⟨m,?_⟩
    show f (zE1 m).1::_=_
    rw [hm,hn]
    exact congrArg _ hc
  intro l
  obtain ⟨c,hc⟩:=h2 l
  obtain ⟨n,hn⟩:=zIW (l.length,c)
  exact ⟨n,by simp only [hn];exact hc⟩
 exact ⟨_,key⟩
noncomputable def deC (α:Type) [i:Ctb α]:Nat→α:=i.ex.choose
theorem deC_any {α:Type} [i:Ctb α] (z:α):∃ n,deC α n=z:=i.ex.choose_spec z
theorem zDL {x n:Int} (hn:0<n):0≤x % n∧x % n<n:=⟨Int.emod_nonneg _ (by omega),Int.emod_lt_of_pos _ hn⟩
def Ent.fact (q:Prop):Ent:=⟨fun _=>False,fun _=>q,fun _ _ _ _ h=>h⟩
theorem own_fact {base:Nat} {w:World} {H:List Ent} {q:Prop} (hq:q) (h:Own base w H):Own base w (.fact q::H) :=
 ⟨fun e he=>by
  rcases List.mem_cons.1 he with rfl|he
  ·exact hq
  ·exact h.here e he,fun e he b hb=>by
  rcases List.mem_cons.1 he with rfl|he
  ·cases hb
  ·exact h.foot e he b hb,List.pairwise_cons.2 ⟨(fun f _ b hb=>by cases hb),h.apart⟩⟩
theorem zMr {w0:World} {n:Nat} {d:List Deferred} {R:List (Nat × Value)} {H H':List Ent} {X:Act→World→Prop} {q:Prop} (ht:Take H (.fact q) H') (h:q→U w0 n d R H' X):U w0 n d R H X:=fun a w k=>h (k.own.here _ ht.mem) a w ⟨k.size,k.defers,k.regs,k.below,(k.own.take ht).tail⟩
theorem zLQ {P:Program} {T:TypeId} {s:Nat} {g:Bool} [i1:TyI P T .bool s g] (a b:Bool) (w:World):(Op.equalIn Op.maxDepth T (.bool a) (.bool b)).run P w = .ok (a == b) w:=by
 show (Op.equalIn (9999+1) T (.bool a) (.bool b)).run P w=_
 have e:=run_underlying i1.und w
 unfold Op.equalIn
 simp [e]
theorem zOv {P:Program} {w0:World} {n:Nat} {d:List Deferred} {R:List (Nat × Value)} {H:List Ent} {o:Oper} {x y:Operand} {T T':TypeId} {s:Nat} {g:Bool} {a b:Bool} (hop:o.op = .binOp .neq T x y T') [i1:TyI P T .bool s g] (hx:evR R x=some (.bool a)) (hy:evR R y=some (.bool b)):Ev P w0 n d R H o (.bool (a != b)):=fun a' w q=>by
 have e:=zLQ (P:=P) (T:=T) a b w
 unfold execOp;rw [hop]
 cases a<;>cases b<;>simp [q.ev hx,q.ev hy,eqGuard,binOp,Op.equal,e]
end Go.Proofs.YtdigopgncfhiaaaGreatDoor
namespace Go.Proofs.YtdigopgncfhiaaaGreatDoor.Two
variable {ro : Option Nat}
open Go.RowKit
section
variable {S : List (Nat × Nat)} {I:List (Nat × Nat × Nat × List Ent)} {P:Program} {w0:World} {n:Nat} {d:List Deferred} {R R0:List (Nat × Value)} {H H' H0:List Ent} {Q:Exit→Act→World→Prop} {ops:Array Oper} {bs:List (List Bool)} {b:List Bool} {k:Nat} {o:Oper} {rest:List Oper} {T:List Rw} {t:Tmp} {Hk:zBN→List Ent} {x y:Operand} {v:Value}
theorem zGk {α:Type} [Ctb α] {V:α→Value} {E:α→List Ent} {p:α→Prop} {f:FuncId} {fx:Operand} {xs:Array Operand} {ts:Array TypeId} {vs:zBN→List Value} {cap:Array Value} (hop:o.op = .call ⟨.value fx,xs,ts⟩) (hw:∀ G,want (Rk R0 ops b o T G) ops o=some true) (hd:o.dst=some t) (hf:∀ G,evR (Rk R0 ops b o T G) fx=some (.func (.func f) #[] cap)) (hx:∀ G,evs (Rk R0 ops b o T G) xs.toList=some (vs G)) [ci:za P f]
  (hc:∀ G a w,Kn w0 n d (Rk R0 ops b o T G) (Hk G) a w→Ret P f (vs G++cap.toList) w V E p) (h:zBm ro S I P w0 n d ops R0 H0 Q bs (k+1) rest (⟨k,some t,fun G=>(V (deC α (G k).g),.fact (p (deC α (G k).g))::E (deC α (G k).g))⟩::T)):CAt ro S I P w0 n d ops R0 H0 Q b bs k o rest T Hk:=by
 refine zGJ (f:=fun G=>(V (deC α (G k).g),.fact (p (deC α (G k).g))::E (deC α (G k).g))) (fun G G' hG=>by simp only [hG k (.inl rfl)]) (fun G a w q K hK=>?_) (by rw [hd];exact h)
 rw [zBr q (hw G),if_pos rfl]
 unfold Oper.wp execOp;rw [hop]
 have e1:xs.map a.eval=(vs G).toArray:=by apply Array.ext';simpa using q.evs (hx G)
 have e2:(vs G).toArray++cap=(vs G++cap.toList).toArray:=by apply Array.ext';simp
 simp only [resolve,q.ev (hf G),e1,Deferred.ofValue,Sem.run_bind,Sem.run_pure,Result.andThen_ok,invoke,Array.empty_append,e2,ci.ent,Oper.upon_enter]
 refine Calls.mono (hc G a w q).calls ?_
 rintro e w' ⟨z,hp,rfl,hb,hE⟩
 obtain ⟨m,hm⟩:=deC_any z
 exact hK _ _ _ ⟨⟨m,none,0⟩,by simp only [upW,if_true,hm]⟩ hb (own_fact hp hE)
end
end Go.Proofs.YtdigopgncfhiaaaGreatDoor.Two
