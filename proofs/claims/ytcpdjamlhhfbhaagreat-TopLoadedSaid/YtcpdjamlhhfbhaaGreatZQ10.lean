/- ZQ10 -/
import Derived.Test.YtcpdjamlhhfbhaaGreatZQ9
import Derived.Test.YtcpdjamlhhfbhaaGreatZQ8
import Derived.Sort.OwnSortedInts
import Derived.Test.YtcpdjamlhhfbhaaGreatZQ7
import Derived.Test.YtcpdjamlhhfbhaaGreatZQ6
set_option linter.unusedSimpArgs false
set_option linter.unusedVariables false
namespace Go.Proofs.YtcpdjamlhhfbhaaGreat
theorem zIU {t:List St} (hv:valid t=true):∀ x∈t,0≤x.radius.lo∧x.radius.lo≤x.radius.hi∧x.radius.hi≤20000:=by
 have:∀ {l:List St} {c:Int},okFrom c l=true→∀ x∈l,0≤x.radius.lo∧x.radius.lo≤x.radius.hi∧x.radius.hi≤20000:=by
  intro l
  induction l with
  | nil=>intro c _ x hx;cases hx
  | cons y l ih =>
   intro c h x hx
   simp only [okFrom,Bool.and_eq_true] at h
   rcases List.mem_cons.1 hx with rfl|hx
   ·have h3:=h.1
    unfold zEI at h3
    simp only [Bool.and_eq_true,Bool.or_eq_true,zAa,decide_eq_true_eq,zCT] at h3
    omega
   ·exact ih h.2 x hx
 unfold valid at hv
 simp only [Bool.and_eq_true] at hv
 exact this hv.2
def hgtA (b:Bool) (s:SlM) (t:List St) (i:Nat):Int→Option Int:=fun k=>if 0≤k∧k<(i:Int) then (t[k.toNat]?).map (hgtI b s t k.toNat) else none
def zEO (b:Bool) (s:SlM) (t:List St) (i:Nat):Int→Option Int:=fun k=>if 0≤k∧k<(t.length:Int) then (t[k.toNat]?).bind fun x=>if k<(i:Int)∧x.side=0 then none else some (hgtI b s t k.toNat x) else none
theorem zIq {b:Bool} {s:SlM} {t:List St}:hgtA b s t 0=fun _=>none:=by
 funext k;unfold hgtA;rw [if_neg (by omega)]
theorem zIr {b:Bool} {s:SlM} {t:List St} {i:Nat} {x:St} (h:t[i]?=some x):zB1 (hgtA b s t i) (i:Int) (some (hgtI b s t i x))=hgtA b s t (i+1):=by
 funext k
 unfold zB1 hgtA
 by_cases hk:k=(i:Int)
 ·subst hk
  rw [if_pos rfl,if_pos (by omega),Int.toNat_natCast,h]
  rfl
 ·rw [if_neg hk]
  by_cases h1:0≤k∧k<(i:Int)
  ·rw [if_pos h1,if_pos (by omega)]
  ·rw [if_neg h1,if_neg (by omega)]
theorem zIo {b:Bool} {s:SlM} {t:List St}:hgtA b s t t.length=zEO b s t 0:=by
 funext k
 unfold hgtA zEO
 split
 ·rename_i h
  cases h2:t[k.toNat]? with
  | none=>rfl
  | some x =>
   simp only [Option.map_some,Option.bind_some]
   rw [if_neg (by omega)]
 ·rfl
theorem hgtB_yes {b:Bool} {s:SlM} {t:List St} {i:Nat} {x:St} (h:t[i]?=some x) (hs:x.side=0):zB1 (zEO b s t i) (i:Int) none=zEO b s t (i+1):=by
 have hi:=(List.getElem?_eq_some_iff.1 h).1
 funext k
 unfold zB1 zEO
 by_cases hk:k=(i:Int)
 ·subst hk
  rw [if_pos rfl,if_pos (by omega),Int.toNat_natCast,h]
  simp only [Option.bind_some]
  rw [if_pos (by omega)]
 ·rw [if_neg hk]
  split
  ·cases h2:t[k.toNat]? with
   | none=>rfl
   | some y =>
    simp only [Option.bind_some]
    by_cases h1:k<(i:Int)∧y.side=0
    ·rw [if_pos h1,if_pos (by omega)]
    ·rw [if_neg h1,if_neg (by omega)]
  ·rfl
theorem hgtB_no {b:Bool} {s:SlM} {t:List St} {i:Nat} {x:St} (h:t[i]?=some x) (hs:x.side≠0):zEO b s t i=zEO b s t (i+1):=by
 have hi:=(List.getElem?_eq_some_iff.1 h).1
 funext k
 unfold zEO
 split
 ·cases h2:t[k.toNat]? with
  | none=>rfl
  | some y =>
   simp only [Option.bind_some]
   by_cases hk:k=(i:Int)
   ·subst hk
    rw [Int.toNat_natCast,h] at h2
    cases h2
    rw [if_neg (by omega),if_neg (by omega)]
   ·by_cases h1:k<(i:Int)∧y.side=0
    ·rw [if_pos h1,if_pos (by omega)]
    ·rw [if_neg h1,if_neg (by omega)]
 ·rfl
theorem zIp {b:Bool} {s:SlM} {t:List St} {k h:Int}:zEO b s t t.length k=some h↔∃ (i:Nat) (x:St),k=(i:Int)∧t[i]?=some x∧x.side≠0∧h=hgtI b s t i x:=by
 unfold zEO
 constructor
 ·intro hh
  split at hh
  ·rename_i hk
   cases h2:t[k.toNat]? with
   | none=>rw [h2] at hh;cases hh
   | some x =>
    rw [h2] at hh
    simp only [Option.bind_some] at hh
    split at hh
    ·cases hh
    ·rename_i h3
     exact ⟨k.toNat,x,by omega,h2,fun e=>h3 ⟨hk.2,e⟩,(Option.some.inj hh).symm⟩
  ·cases hh
 ·rintro ⟨i,x,rfl,hx,hs,rfl⟩
  have hi:=(List.getElem?_eq_some_iff.1 hx).1
  rw [if_pos (by omega),Int.toNat_natCast,hx]
  simp only [Option.bind_some]
  rw [if_neg (by omega)]
namespace Two
variable {ro : Option Nat}
open Go.RowKit
set_option maxRecDepth 20000
set_option maxHeartbeats 4000000 in
theorem zGY (r:RiM) (w:World) (ht:zAB zA3 9 w r.A r.t) (hs:zBq r.s) (hv:∀ x∈r.t,StF x) (hrad:∀ x∈r.t,0≤x.radius.lo∧x.radius.lo≤x.radius.hi∧x.radius.hi≤20000) (hl:r.t.length≤20) :
  Ret Tryz.prog 86 [vRi r] w (fun m:Nat=>.map (some m)) (fun m=>[.fm m vI vI (zEO r.b r.s r.t r.t.length)]) (fun _=>True):=by
 have hL:=fun W (hW:Below w.heap.size w W)=>zFl r W (ht.below hW) hs hv hl
 have hat:=fun k (h:k≤r.t.length)=>zFL (b:=r.b) (s:=r.s) (t:=r.t) (i:=r.t.length+1) (k:=k) (by omega)
 have hle:=zEh (b:=r.b) (s:=r.s) (t:=r.t) (i:=r.t.length+1)
 have hin:=zCH (b:=r.b) hs hv
 have hB:=fun i x W (hx:r.t[i]?=some x) (hW:Below w.heap.size w W)=>zId r i x (max (zAH r.b r.s r.t i) (zAH r.b r.s r.t (i+1))) W hx (by omega) (ht.below hW) (by have:=hin i;have:=hin (i+1);have:=(List.getElem?_eq_some_iff.1 hx).1;omega) (zA2 (hrad x (List.mem_of_getElem? hx)).1 (hrad x (List.mem_of_getElem? hx)).2.1 (hrad x (List.mem_of_getElem? hx)).2.2) (zA2 hs.steer.1 hs.steer.2.1 hs.steer.2.2)
 have hA1:=fun i x hx=>zIr (b:=r.b) (s:=r.s) (t:=r.t) (i:=i) (x:=x) hx
 have hA0:=zIq (b:=r.b) (s:=r.s) (t:=r.t)
 have hB0:=zIo (b:=r.b) (s:=r.s) (t:=r.t)
 have hBy:=fun i x hx=>hgtB_yes (b:=r.b) (s:=r.s) (t:=r.t) (i:=i) (x:=x) hx
 have hBn:=fun i x hx=>hgtB_no (b:=r.b) (s:=r.s) (t:=r.t) (i:=i) (x:=x) hx
 unfold hgtI at hA1
 generalize hgtA r.b r.s r.t=fA at *
 generalize zEO r.b r.s r.t=fB at *
 generalize zCG r.b r.s r.t (r.t.length+1)=hs9 at *
 generalize zAH r.b r.s r.t=hd at *
 generalize zEm r.b r.s=bk at *
 obtain ⟨⟨cls,st,ru,dr,we,se⟩,t,A,c,b9⟩:=r
 unfold vRi at *
 simp only at *
 (refine ze (n:=50) Tryz.func86 rfl rfl rfl ?_)
 (repeat' (first|((with_reducible refine zV ?_);first|refine zO rfl rfl rfl ?_|refine zD rfl rfl rfl ?_|(refine zQ rfl rfl rfl ?_;refine ⟨_,rfl,?_⟩)|refine zS rfl rfl rfl ?_|(refine zd rfl rfl rfl rfl rfl (fun h=>?_) (fun h=>?_)<;>(dsimp only [cmpP] at h;(try (exfalso;omega))))|refine zDM rfl rfl rfl rfl (fun _ _ q=>hL _ q.below) (fun A' c'=>?_)|refine zDr Int Int vI vI rfl rfl (fun m=>?_)|refine zb rfl rfl rfl rfl (by omega) ?_|refine zm rfl rfl rfl rfl (IntWalk.i64_in _ (by omega)) ?_|refine zK rfl rfl rfl rfl rfl (by omega) ?_|refine zL rfl rfl rfl rfl rfl (by first|decide|omega) ?_|refine zj rfl rfl rfl ?_|(refine zg rfl rfl rfl rfl rfl ?_;refine ⟨rfl,by first|decide|exact Nat.le_of_ble_eq_true rfl|(simp;omega),_,rfl,?_⟩)|(refine zh rfl rfl (fun b=>?_))|(refine zl rfl rfl rfl rfl (fun b=>?_))|refine zAd rfl rfl rfl rfl ?_)|(with_reducible first|refine zW ?_|refine zC ?_|refine zU ?_|refine zB ?_|refine zX ?_|refine zT ?_|refine zF ?_|refine zf ?_|refine zP ?_|refine zZ ?_|refine zY ?_|refine za ?_|refine zG ?_|refine zJ ?_)|((with_reducible refine zE ?_ ?_);(· exact rfl))|((with_reducible refine zI ?_ ?_);(· exact rfl))|((with_reducible refine zH ?_ ?_);(· exact rfl))))
 refine zAo (enc:=encI) (xs:=hs9) (by (repeat constructor)) (by omega) (fun bl ol hLA=>?_)
 subst hLA
 rw [← hA0]
 refine zAC (ι:=Nat) [1,3,4,14] rfl (fun i=>i≤t.length) (fun i=>[(15,.int .i64 (i:Int))]) (fun i=>[.fm m vI vI (fA i),.sl encI 1 (some ⟨bl,ol,none⟩) hs9,.blk b [.int .u8 cls,.int .i64 st.lo,.int .i64 st.hi,.int .i64 ru.lo,.int .i64 ru.hi,.int .i64 dr.lo,.int .i64 dr.hi,.int .i64 we.lo,.int .i64 we.hi,.int .i64 se.lo,.int .i64 se.hi,.slice A t.length c,.bool b9]]) (fun i=>t.length - i) 0 (Nat.zero_le _) (by (repeat first|exact lK1|refine zp rfl ?_)) (by (repeat constructor)) ?_
 rintro i hi
 simp only [zAm,List.cons_append,List.nil_append]
 by_cases hlt:i<t.length
 ·obtain ⟨x,hx⟩:∃ x,t[i]?=some x:=⟨_,List.getElem?_eq_getElem hlt⟩
  have:zAZ hs9 i (hd i):=⟨hat i hi⟩
  have:zAZ hs9 (i+1) (hd (i+1)):=⟨hat (i+1) hlt⟩
  have hBx:=fun W hW=>hB i x W hx hW
  (repeat' (first|((with_reducible refine zV ?_);first|refine zO rfl rfl rfl ?_|refine zD rfl rfl rfl ?_|(refine zQ rfl rfl rfl ?_;refine ⟨_,rfl,?_⟩)|refine zS rfl rfl rfl ?_|(refine zd rfl rfl rfl rfl rfl (fun h=>?_) (fun h=>?_)<;>(dsimp only [cmpP] at h;(try (exfalso;omega))))|refine zb rfl rfl rfl rfl (by omega) ?_|refine zm rfl rfl rfl rfl (IntWalk.i64_in _ (by omega)) ?_|refine zK rfl rfl rfl rfl rfl (by omega) ?_|refine zL rfl rfl rfl rfl rfl (by first|decide|omega) ?_|refine zj rfl rfl rfl ?_|(refine zg rfl rfl rfl rfl rfl ?_;refine ⟨rfl,by first|decide|exact Nat.le_of_ble_eq_true rfl|(simp;omega),_,rfl,?_⟩)|(refine zh rfl rfl (fun b=>?_))|(refine zl rfl rfl rfl rfl (fun b=>?_))|refine zAd rfl rfl rfl rfl ?_)|(with_reducible first|refine zW ?_|refine zC ?_|refine zU ?_|refine zB ?_|refine zX ?_|refine zT ?_|refine zF ?_|refine zf ?_|refine zP ?_|refine zZ ?_|refine zY ?_|refine za ?_|refine zG ?_|refine zJ ?_)|((with_reducible refine zE ?_ ?_);(· exact rfl))|((with_reducible refine zI ?_ ?_);(· exact rfl))|((with_reducible refine zH ?_ ?_);(· exact rfl))))
  (refine zA9 [] [] [] rfl (show ([]:List Nat).Nodup by decide) (fun _ h=>h) (by kernel_rfl) [[],[Y],[Y,Y],[Y,Y,Y],[Y,Y,Y,Y],[Y,Y,Y,Y,Y],[Z,Z,Y,Y,Y,Y],[Z,Z,Z,Y,Y,Y,Y],[Y,Y,Y,Y,Y,Y,Y,Y],[Y,Y,Y,Y,Y,Y,Y,Y,Y],[Z,Y,Y,Y,Y,Y,Y,Y,Y,Y],[Z,Z,Z,Y,Y,Y,Y,Y,Y,Y,Y],[Z,Z,Z,Z,Y,Y,Y,Y,Y,Y,Y,Y],[Z,Z,Z,Z,Z,Z,Z,Z,Z,Y,Y,Y,Y],[Z,Z,Z,Z,Z,Z,Z,Z,Z,Z,Z,Z,Y,Y],[Z,Z,Z,Z,Z,Z,Z,Z,Z,Z,Z,Z,Z,Z,Z]] (by kernel_rfl) (by kernel_rfl) (by kernel_rfl) (by kernel_rfl) (by kernel_rfl) ?_)
  (repeat' (first|(((with_reducible refine zDU ?_ ?_);(· exact rfl);refine ⟨_,fun G=>(by (try simp (decide:=true) only [vis,see,fltT,zAV,Nat.reduceAdd,Nat.reduceSub,if_true,if_false,List.set_cons_zero,List.set_cons_succ,List.set_nil,List.nil_append,List.cons_append]);rfl),?_⟩);first|refine zw _ (fun _=>zAT rfl rfl) (fun _=>rfl) rfl (by intro G G' h;simp (decide:=true) only [h]) ?_|refine zw _ (fun _=>zAF rfl rfl (by exact rfl)) (fun _=>rfl) rfl (by intro G G' h;simp (decide:=true) only [h]) ?_|refine zw _ (fun _=>zu (I:=i) rfl rfl rfl rfl (by omega)) (fun _=>rfl) rfl (by exact fun _ _ _=>rfl) ?_|refine zw _ (fun _=>zu (I:=i+1) rfl rfl rfl rfl (by omega)) (fun _=>rfl) rfl (by exact fun _ _ _=>rfl) ?_|refine zCI _ rfl (fun _=>rfl) rfl (fun _=>rfl) (fun _=>rfl) (fun _ _ _ q=>hBx _ q.below) (by intro G G' h;simp (decide:=true) only [h]) ?_|refine zw _ (fun _=>zAl rfl rfl rfl (by omega)) (fun _=>rfl) rfl (by intro G G' h;simp (decide:=true) only [h]) ?_|refine zw _ (fun _=>zA8 rfl rfl rfl (IntWalk.i64_in _ (by omega))) (fun _=>rfl) rfl (by intro G G' h;simp (decide:=true) only [h]) ?_|refine zw _ (fun _=>zu rfl rfl rfl rfl (by omega)) (fun _=>rfl) rfl (by intro G G' h;simp (decide:=true) only [h]) ?_|refine zw _ (fun _=>zAJ rfl rfl rfl rfl (by first|decide|omega)) (fun _=>rfl) rfl (by intro G G' h;simp (decide:=true) only [h]) ?_|refine zw _ (fun _=>zA7 rfl rfl rfl) (fun _=>rfl) rfl (by intro G G' h;simp (decide:=true) only [h]) ?_)|((with_reducible refine zBk ?_ ?_);(· exact rfl))|(with_reducible refine zCb ?_)))
  (intro G;simp only [regsT,zAV,zBY,ini,List.nil_append,List.cons_append])
  (repeat' (first|((with_reducible refine zV ?_);first|refine zO rfl rfl rfl ?_|refine zD rfl rfl rfl ?_|(refine zQ rfl rfl rfl ?_;refine ⟨_,rfl,?_⟩)|refine zS rfl rfl rfl ?_|(refine zd rfl rfl rfl rfl rfl (fun h=>?_) (fun h=>?_)<;>(dsimp only [cmpP] at h;(try (exfalso;omega))))|refine zEp (kv:=vI) (vv:=vI) (i:Int) (bk x (max (hd i) (hd (i+1)))) rfl zBt rfl rfl rfl rfl rfl (by (repeat constructor)) ?_|refine zb rfl rfl rfl rfl (by omega) ?_|refine zm rfl rfl rfl rfl (IntWalk.i64_in _ (by omega)) ?_|refine zK rfl rfl rfl rfl rfl (by omega) ?_|refine zL rfl rfl rfl rfl rfl (by first|decide|omega) ?_|refine zj rfl rfl rfl ?_|(refine zg rfl rfl rfl rfl rfl ?_;refine ⟨rfl,by first|decide|exact Nat.le_of_ble_eq_true rfl|(simp;omega),_,rfl,?_⟩)|(refine zh rfl rfl (fun b=>?_))|(refine zl rfl rfl rfl rfl (fun b=>?_))|refine zAd rfl rfl rfl rfl ?_)|(with_reducible first|refine zW ?_|refine zC ?_|refine zU ?_|refine zB ?_|refine zX ?_|refine zT ?_|refine zF ?_|refine zf ?_|refine zP ?_|refine zZ ?_|refine zY ?_|refine za ?_|refine zG ?_|refine zJ ?_)|((with_reducible refine zE ?_ ?_);(· exact rfl))|((with_reducible refine zI ?_ ?_);(· exact rfl))|((with_reducible refine zH ?_ ?_);(· exact rfl))))
  rw [hA1 i x hx]
  exact z6 (ι:=Nat) (i+1) (by omega) (by omega) (by (repeat first|exact lK1|refine zp rfl ?_)) (by (repeat constructor))
 ·obtain rfl:i=t.length:=by omega
  rw [hB0]
  (repeat' (first|((with_reducible refine zV ?_);first|refine zO rfl rfl rfl ?_|refine zD rfl rfl rfl ?_|(refine zQ rfl rfl rfl ?_;refine ⟨_,rfl,?_⟩)|refine zS rfl rfl rfl ?_|(refine zd rfl rfl rfl rfl rfl (fun h=>?_) (fun h=>?_)<;>(dsimp only [cmpP] at h;(try (exfalso;omega))))|refine zb rfl rfl rfl rfl (by omega) ?_|refine zm rfl rfl rfl rfl (IntWalk.i64_in _ (by omega)) ?_|refine zK rfl rfl rfl rfl rfl (by omega) ?_|refine zL rfl rfl rfl rfl rfl (by first|decide|omega) ?_|refine zj rfl rfl rfl ?_|(refine zg rfl rfl rfl rfl rfl ?_;refine ⟨rfl,by first|decide|exact Nat.le_of_ble_eq_true rfl|(simp;omega),_,rfl,?_⟩)|(refine zh rfl rfl (fun b=>?_))|(refine zl rfl rfl rfl rfl (fun b=>?_))|refine zAd rfl rfl rfl rfl ?_)|(with_reducible first|refine zW ?_|refine zC ?_|refine zU ?_|refine zB ?_|refine zX ?_|refine zT ?_|refine zF ?_|refine zf ?_|refine zP ?_|refine zZ ?_|refine zY ?_|refine za ?_|refine zG ?_|refine zJ ?_)|((with_reducible refine zE ?_ ?_);(· exact rfl))|((with_reducible refine zI ?_ ?_);(· exact rfl))|((with_reducible refine zH ?_ ?_);(· exact rfl))))
  refine zAC (ι:=Nat) [1,4,36,37] rfl (fun i=>i≤t.length) (fun i=>[(38,.int .i64 (i:Int))]) (fun i=>[.fm m vI vI (fB i)]) (fun i=>t.length - i) 0 (Nat.zero_le _) (by (repeat first|exact lK1|refine zp rfl ?_)) (by (repeat constructor)) ?_
  rintro i hi
  simp only [zAm,List.cons_append,List.nil_append]
  by_cases hlt:i<t.length
  ·obtain ⟨x,hx⟩:∃ x,t[i]?=some x:=⟨_,List.getElem?_eq_getElem hlt⟩
   obtain ⟨bA,oA,hAe,hAl,hAc⟩:=ht.at_ hlt
   subst hAe
   have:InS w bA oA zA3 9 t:=⟨ht⟩
   have:zAZ t i x:=⟨hx⟩
   have hBy1:=hBy i x hx
   have hBn1:=hBn i x hx
   obtain ⟨xi,xl,xf,xr,xs,xw⟩:=x
   simp only at hBy1 hBn1
   (repeat' (first|((with_reducible refine zV ?_);first|refine zO rfl rfl rfl ?_|refine zD rfl rfl rfl ?_|(refine zQ rfl rfl rfl ?_;refine ⟨_,rfl,?_⟩)|refine zS rfl rfl rfl ?_|(refine zd rfl rfl rfl rfl rfl (fun h=>?_) (fun h=>?_)<;>(dsimp only [cmpP] at h;(try (exfalso;omega))))|refine zK (I:=i) rfl rfl rfl rfl rfl (by omega) ?_|refine zIG (kv:=vI) (vv:=vI) (i:Int) rfl zBt rfl rfl rfl rfl (by (repeat constructor)) ?_|refine zb rfl rfl rfl rfl (by omega) ?_|refine zm rfl rfl rfl rfl (IntWalk.i64_in _ (by omega)) ?_|refine zK rfl rfl rfl rfl rfl (by omega) ?_|refine zL rfl rfl rfl rfl rfl (by first|decide|omega) ?_|refine zj rfl rfl rfl ?_|(refine zg rfl rfl rfl rfl rfl ?_;refine ⟨rfl,by first|decide|exact Nat.le_of_ble_eq_true rfl|(simp;omega),_,rfl,?_⟩)|(refine zh rfl rfl (fun b=>?_))|(refine zl rfl rfl rfl rfl (fun b=>?_))|refine zAd rfl rfl rfl rfl ?_)|(with_reducible first|refine zW ?_|refine zC ?_|refine zU ?_|refine zB ?_|refine zX ?_|refine zT ?_|refine zF ?_|refine zf ?_|refine zP ?_|refine zZ ?_|refine zY ?_|refine za ?_|refine zG ?_|refine zJ ?_)|((with_reducible refine zE ?_ ?_);(· exact rfl))|((with_reducible refine zI ?_ ?_);(· exact rfl))|((with_reducible refine zH ?_ ?_);(· exact rfl))))
   ·rw [hBy1 (by assumption)]
    exact z6 (ι:=Nat) (i+1) (by omega) (by omega) (by (repeat first|exact lK1|refine zp rfl ?_)) (by (repeat constructor))
   ·rw [hBn1 (by assumption)]
    exact z6 (ι:=Nat) (i+1) (by omega) (by omega) (by (repeat first|exact lK1|refine zp rfl ?_)) (by (repeat constructor))
  ·obtain rfl:i=t.length:=by omega
   (repeat' (first|((with_reducible refine zV ?_);first|refine zO rfl rfl rfl ?_|refine zD rfl rfl rfl ?_|(refine zQ rfl rfl rfl ?_;refine ⟨_,rfl,?_⟩)|refine zS rfl rfl rfl ?_|(refine zd rfl rfl rfl rfl rfl (fun h=>?_) (fun h=>?_)<;>(dsimp only [cmpP] at h;(try (exfalso;omega))))|refine zb rfl rfl rfl rfl (by omega) ?_|refine zm rfl rfl rfl rfl (IntWalk.i64_in _ (by omega)) ?_|refine zK rfl rfl rfl rfl rfl (by omega) ?_|refine zL rfl rfl rfl rfl rfl (by first|decide|omega) ?_|refine zj rfl rfl rfl ?_|(refine zg rfl rfl rfl rfl rfl ?_;refine ⟨rfl,by first|decide|exact Nat.le_of_ble_eq_true rfl|(simp;omega),_,rfl,?_⟩)|(refine zh rfl rfl (fun b=>?_))|(refine zl rfl rfl rfl rfl (fun b=>?_))|refine zAd rfl rfl rfl rfl ?_)|(with_reducible first|refine zW ?_|refine zC ?_|refine zU ?_|refine zB ?_|refine zX ?_|refine zT ?_|refine zF ?_|refine zf ?_|refine zP ?_|refine zZ ?_|refine zY ?_|refine za ?_|refine zG ?_|refine zJ ?_)|((with_reducible refine zE ?_ ?_);(· exact rfl))|((with_reducible refine zI ?_ ?_);(· exact rfl))|((with_reducible refine zH ?_ ?_);(· exact rfl))))
   exact zk (by exact rTm rfl) m trivial rfl (fun _ h=>h.sub (by (repeat constructor)))
end Two
end Go.Proofs.YtcpdjamlhhfbhaaGreat
namespace Go.Proofs.YtcpdjamlhhfbhaaGreat
open Go.RowKit Go.Lib Go.Sort Go.Shelf
set_option maxRecDepth 20000
def zCr (l:List Int):List Int:=l.mergeSort fun x y=>decide (x≤y)
theorem zHf (l:List Int):(zCr l).length=l.length:=by simp [zCr]
theorem zF8 : ∀ xs:List Int,xs.flatMap encI=xs.map (Value.int .i64)
 | []=>rfl
 | x::r=>by rw [List.flatMap_cons,List.map_cons,zF8 r];rfl
theorem sl_of_holds {w:World} {g:Nat} {ys:List Int} (hg:g<w.heap.size) (h:Holds (Value.int .i64) w g 0 ys.toArray):zAB encI 1 w (some ⟨g,0,none⟩) ys:=by
 intro i x hx
 have hi:=(List.getElem?_eq_some_iff.1 hx).1
 refine ⟨g,0,rfl,hg,fun j v hv=>?_⟩
 have hj:j<1:=(List.getElem?_eq_some_iff.1 hv).1
 obtain rfl:j=0:=by omega
 have h1:=(h i (by simpa using hi)).1
 have e1:(ys.toArray[i]!)=x:=by
  rw [getElem!_pos _ _ (by simpa using hi)]
  simpa [List.getElem?_eq_getElem hi] using hx
 rw [e1] at h1
 have:v = .int .i64 x:=by
  have e2:(encI x)[0]?=some (.int .i64 x):=rfl
  rw [e2] at hv;exact (Option.some.inj hv).symm
 subst this
 rw [show 0+i * 1+0=0+i by omega]
 exact h1
theorem zGW {n g b:Nat} {d:Array Int} {os:Array Obj} {w:World} (hb:b<w.heap.size) (hne:b≠g):(grow (putRow (Value.int .i64) (Sort.ahead w n) g 0 d) os).heap[b]?=w.heap[b]?:=by
 unfold grow putRow mapBlock Sort.ahead
 simp only
 rw [Array.getElem?_append_left (by simpa using hb),Array.getElem?_modify,if_neg (fun h=>hne h.symm)]
theorem zG1 {n g:Nat} {d:Array Int} {os:Array Obj} {w:World}:w.heap.size≤(grow (putRow (Value.int .i64) (Sort.ahead w n) g 0 d) os).heap.size:=by
 unfold grow putRow mapBlock Sort.ahead
 simp
set_option maxHeartbeats 1000000 in
theorem zHt (xs:List Int) (v:Value) (e:TypeId) (base:Nat) (w:World) (hl:xs.length≤1000000) (ho:Own base w [.row encI 1 e v xs]) :
  zC2 Tryz.prog 87 [v] w [.row encI 1 e v xs] (fun _:Option Addr × Nat=>.tuple #[]) (fun p=>[.sl encI 1 p.1 (zCr xs)]) (fun p=>v = .slice p.1 xs.length p.2):=by
 obtain ⟨h1,h2⟩:=(ho.here (.row encI 1 e v xs) (by simp):Row encI 1 e 0 w v xs)
 have hf:=ho.foot (.row encI 1 e v xs) (by simp)
 have hf:=fun b hb=>(hf b hb).2
 by_cases hx:xs.length=0
 ·obtain ⟨A,c,rfl,hA⟩:∃ A c,v = .slice A 0 c∧(∀ g,A=some ⟨g,0,none⟩→g<w.heap.size):=by
   rcases h2 with ⟨rfl,_⟩ | ⟨g,cap,cur,rfl,_,hg,_⟩
   ·exact ⟨none,0,rfl,fun g h=>by cases h⟩
   ·rw [hx];exact ⟨_,_,rfl,fun g' h=>by cases h;exact (Array.getElem?_eq_some_iff.1 hg).1⟩
  have hxs:xs=[]:=List.length_eq_zero_iff.1 hx
  subst hxs
  refine zC2.of ((Any.slices_Sort_int_none sortI A c w).mono ?_)
  rintro e' w' ⟨rfl,rfl⟩
  refine ⟨(A,c),rfl,rfl,⟨rfl,rfl,rfl,Nat.le_refl _⟩,fun b _ _=>rfl,⟨fun f hf'=>?_,fun f hf' b hb=>?_,by simp⟩,fun b hb=>?_⟩
  ·simp only [List.mem_singleton] at hf';subst hf'
   intro i x hx';simp [zCr] at hx'
  ·simp only [List.mem_singleton] at hf';subst hf'
   obtain ⟨o,hb⟩:=hb
   exact ⟨Nat.zero_le _,by
    rcases h2 with ⟨h,_⟩ | ⟨g,cap,cur,h,_,hg,_⟩
    ·cases h;cases hb
    ·cases h;cases hb;exact (Array.getElem?_eq_some_iff.1 hg).1⟩
  ·obtain ⟨f,hf',hb⟩:=hb
   simp only [List.mem_singleton] at hf';subst hf'
   obtain ⟨o,hb⟩:=hb
   refine .inl ⟨_,List.mem_singleton.2 rfl,?_⟩
   rcases h2 with ⟨h,_⟩ | ⟨g,cap,cur,h,_,hg,_⟩
   ·cases h;cases hb
   ·cases h;cases hb;rfl
 ·rcases h2 with ⟨_,h⟩ | ⟨g,cap,cur,rfl,_,hg,hle,hcap,hsz,htk⟩
  ·exact absurd h hx
  ·have hH:Holds (Value.int .i64) w g 0 xs.toArray:=holds_of_blockI hg (by rw [← zF8,← htk,Nat.mul_one])
   have hlt:=(Array.getElem?_eq_some_iff.1 hg).1
   have hcon:=Any.slices_Sort_int sortI g 0 cap xs w hH hlt (by omega)
   refine zC2.of (Calls.mono hcon ?_)
   rintro e' w' ⟨rfl,n,os,rfl⟩
   have hE:(xs.mergeSort fun x y=>decide (x≤y))=zCr xs:=rfl
   rw [hE]
   have hk:Holds (Value.int .i64) (grow (putRow (Value.int .i64) (Sort.ahead w n) g 0 (zCr xs).toArray) os) g 0 (zCr xs).toArray:=by
    have h9:=holds_putRow (Value.int .i64) (Sort.ahead w n) g 0 xs.toArray (zCr xs).toArray (holds_ahead _ w n g 0 _ hH) (by simp [zHf])
    exact holds_grow _ _ os g 0 _ (by unfold putRow mapBlock Sort.ahead;simpa using hlt) h9
   have hsz2:=zG1 (n:=n) (g:=g) (d:=(zCr xs).toArray) (os:=os) (w:=w)
   refine ⟨(some ⟨g,0,none⟩,cap),rfl,rfl,⟨rfl,rfl,rfl,hsz2⟩,fun b hb hne=>zGW hb (fun h=>hne ?_),⟨fun f hf'=>?_,fun f hf' b hb=>?_,by simp⟩,fun b hb=>?_⟩
   ·exact ⟨_,List.mem_singleton.2 rfl,by subst h;rfl⟩
   ·simp only [List.mem_singleton] at hf';subst hf'
    exact sl_of_holds (by omega) hk
   ·simp only [List.mem_singleton] at hf';subst hf'
    obtain ⟨o,hb⟩:=hb
    cases hb
    exact ⟨Nat.zero_le _,by omega⟩
   ·obtain ⟨f,hf',hb⟩:=hb
    simp only [List.mem_singleton] at hf';subst hf'
    obtain ⟨o,hb⟩:=hb
    cases hb
    exact .inl ⟨_,List.mem_singleton.2 rfl,rfl⟩
end Go.Proofs.YtcpdjamlhhfbhaaGreat
namespace Go.Proofs.YtcpdjamlhhfbhaaGreat
theorem zFE : ∀ (n:Nat) (l:List Nat),l.Nodup→(∀ x∈l,x<n)→l.length≤n
 | 0,l,_,h=>by
  cases l with
  | nil=>simp
  | cons x r=>have:=h x (by simp);omega
 | n+1,l,hn,h=>by
  have h1:=zFE n (l.erase n) (hn.erase n) (fun x hx=>by
   have h2:=(hn.mem_erase_iff).1 hx
   have:=h x h2.2
   have:=h2.1
   omega)
  have h3:=List.length_erase (a:=n) (l:=l)
  split at h3<;>omega
theorem keys_len {V:Type} {l:List (Int × V × Nat)} {c n:Nat} (hl:MOk l c) (h:∀ p∈l,∃ i:Nat,p.1=(i:Int)∧i<n):l.length≤n:=by
 have h1:=zFE n (l.map fun p=>p.1.toNat) (by
  have h2:=hl.keys
  unfold List.Nodup at h2 ⊢
  rw [List.pairwise_map] at h2 ⊢
  refine List.Pairwise.imp_of_mem ?_ h2
  intro a b ha hb hab e
  obtain ⟨i,hi,_⟩:=h a ha
  obtain ⟨j,hj,_⟩:=h b hb
  rw [hi,hj] at hab e
  simp only [Int.toNat_natCast] at e
  exact hab (by rw [e])) (fun x hx=>by
  obtain ⟨p,hp,rfl⟩:=List.mem_map.1 hx
  obtain ⟨i,hi,hn⟩:=h p hp
  rw [hi,Int.toNat_natCast];exact hn)
 rw [List.length_map] at h1;exact h1
theorem zF0 {K V:Type} {l:List (K × V × Nat)} {c:Nat} (h:MOk l c) {p q:K × V × Nat} (hp:p∈l) (hq:q∈l) (e:p.2.2=q.2.2):p=q:=by
 have hb:=h.born
 obtain ⟨i,hi⟩:=List.mem_iff_getElem?.1 hp
 obtain ⟨j,hj⟩:=List.mem_iff_getElem?.1 hq
 obtain ⟨i1,i2⟩:=List.getElem?_eq_some_iff.1 hi
 obtain ⟨j1,j2⟩:=List.getElem?_eq_some_iff.1 hj
 have hm:∀ (x:Nat) (hx:x<l.length),(l.map (·.2.2))[x]'(by simpa using hx)=l[x].2.2:=fun x hx=>by simp
 have:i=j:=by
  have hpw:=List.pairwise_iff_getElem.1 hb
  rcases Nat.lt_trichotomy i j with h1|h1|h1
  ·exact absurd (by rw [hm i i1,hm j j1,i2,j2,e]) (hpw i j (by simpa using i1) (by simpa using j1) h1)
  ·exact h1
  ·exact absurd (by rw [hm i i1,hm j j1,i2,j2,e]) (hpw j i (by simpa using j1) (by simpa using i1) h1)
 subst this
 rw [hi] at hj;exact Option.some.inj hj
theorem zIi {V:Type} (l:List (Int × V × Nat)):zEf l []=l.length:=by
 unfold zEf;simp
namespace Two
variable {ro : Option Nat}
open Go.RowKit
set_option maxRecDepth 20000
set_option maxHeartbeats 4000000 in
theorem zEW (r:RiM) (w:World) (ht:zAB zA3 9 w r.A r.t) (hs:zBq r.s) (hv:∀ x∈r.t,StF x) (hrad:∀ x∈r.t,0≤x.radius.lo∧x.radius.lo≤x.radius.hi∧x.radius.hi≤20000) (hl:r.t.length≤20) :
  Ret Tryz.prog 54 [vRi r] w (fun z:Option Addr × Nat × Nat=>.slice z.1 z.2.1 z.2.2) (fun _=>[]) (fun z=>0<z.2.1↔zC7 r.b r.s r.t):=by
 have hH:=fun W (hW:Below w.heap.size w W)=>zGY r W (ht.below hW) hs hv hrad hl
 have hsome:=fun k h=>zIp (b:=r.b) (s:=r.s) (t:=r.t) (k:=k) (h:=h)
 have hthr:zC7 r.b r.s r.t↔∃ (i:Nat) (x:St),r.t[i]?=some x∧x.side≠0∧x.wall<hgtI r.b r.s r.t i x:=Iff.rfl
 generalize zC7 r.b r.s r.t=TB at *
 generalize zEO r.b r.s r.t r.t.length=fB at *
 generalize hgtI r.b r.s r.t=hg at *
 obtain ⟨⟨cls,st,ru,dr,we,se⟩,t,A,c,b9⟩:=r
 unfold vRi at *
 simp only at *
 (refine ze (n:=30) Tryz.func54 rfl rfl rfl ?_)
 (repeat' (first|((with_reducible refine zV ?_);first|refine zO rfl rfl rfl ?_|refine zD rfl rfl rfl ?_|(refine zQ rfl rfl rfl ?_;refine ⟨_,rfl,?_⟩)|refine zS rfl rfl rfl ?_|(refine zd rfl rfl rfl rfl rfl (fun h=>?_) (fun h=>?_)<;>(dsimp only [cmpP] at h;(try (exfalso;omega))))|(refine zAU rfl rfl rfl rfl (fun _ _ q=>hH _ q.below) ?_;rintro m -;dsimp only [List.cons_append,List.nil_append])|refine zq rfl rfl rfl rfl ?_|refine zK rfl rfl rfl rfl rfl (by omega) ?_|refine zL rfl rfl rfl rfl rfl (by first|decide|omega) ?_|(refine zl rfl rfl rfl rfl (fun b=>?_))|(refine zR rfl rfl rfl ?_;refine ⟨rfl,_,rfl,fun b=>?_⟩))|(with_reducible first|refine zW ?_|refine zC ?_|refine zU ?_|refine zB ?_|refine zX ?_|refine zT ?_|refine zF ?_|refine zf ?_|refine zP ?_|refine zZ ?_|refine zY ?_|refine za ?_|refine zG ?_|refine zJ ?_)|((with_reducible refine zE ?_ ?_);(· exact rfl))|((with_reducible refine zI ?_ ?_);(· exact rfl))|((with_reducible refine zH ?_ ?_);(· exact rfl))))
 refine u_fmOpen (kv:=vI) (vv:=vI) (by (repeat constructor)) (fun l0 c0 hlo hle=>?_)
 have hmem:∀ p∈l0,∃ (i:Nat) (x:St),p.1=(i:Int)∧t[i]?=some x∧x.side≠0∧p.2.1=hg i x:=fun p hp=>by
  obtain ⟨k,h,bn⟩:=p
  have:=look_mem hlo.keys hp
  rw [hle] at this
  exact (hsome k h).1 this
 have hll:=keys_len (n:=t.length) hlo (fun p hp=>by
  obtain ⟨i,x,h1,h2,_⟩:=hmem p hp
  exact ⟨i,h1,(List.getElem?_eq_some_iff.1 h2).1⟩)
 (repeat' (first|((with_reducible refine zV ?_);first|refine zO rfl rfl rfl ?_|refine zD rfl rfl rfl ?_|(refine zQ rfl rfl rfl ?_;refine ⟨_,rfl,?_⟩)|refine zS rfl rfl rfl ?_|(refine zd rfl rfl rfl rfl rfl (fun h=>?_) (fun h=>?_)<;>(dsimp only [cmpP] at h;(try (exfalso;omega))))|refine zGr (kv:=vI) (vv:=vI) rfl rfl rfl (by (repeat constructor)) (fun r=>?_)|refine zq rfl rfl rfl rfl ?_|refine zK rfl rfl rfl rfl rfl (by omega) ?_|refine zL rfl rfl rfl rfl rfl (by first|decide|omega) ?_|(refine zl rfl rfl rfl rfl (fun b=>?_))|(refine zR rfl rfl rfl ?_;refine ⟨rfl,_,rfl,fun b=>?_⟩))|(with_reducible first|refine zW ?_|refine zC ?_|refine zU ?_|refine zB ?_|refine zX ?_|refine zT ?_|refine zF ?_|refine zf ?_|refine zP ?_|refine zZ ?_|refine zY ?_|refine za ?_|refine zG ?_|refine zJ ?_)|((with_reducible refine zE ?_ ?_);(· exact rfl))|((with_reducible refine zI ?_ ?_);(· exact rfl))|((with_reducible refine zH ?_ ?_);(· exact rfl))))
 obtain ⟨bR,hbR⟩:∃ y,y=r:=⟨_,rfl⟩
 subst hbR
 refine zAw encI 1 3 ?_
 refine zAC (ι:=List Nat × Value × List Int) [1,8] rfl (fun q=>q.2.2.length+zEf l0 q.1≤l0.length∧(0<q.2.2.length↔∃ p∈l0,p.2.2∈q.1∧∃ (i:Nat) (x:St),p.1=(i:Int)∧t[i]?=some x∧x.wall<p.2.1)) (fun q=>[(3,q.2.1)]) (fun q=>[.itl bR m c0 q.1,.ml m vI vI l0 c0,.row encI 1 3 q.2.1 q.2.2,.blk b [.int .u8 cls,.int .i64 st.lo,.int .i64 st.hi,.int .i64 ru.lo,.int .i64 ru.hi,.int .i64 dr.lo,.int .i64 dr.hi,.int .i64 we.lo,.int .i64 we.hi,.int .i64 se.lo,.int .i64 se.hi,.slice A t.length c,.bool b9]]) (fun q=>zEf l0 q.1) ([],.slice none 0 0,[]) ⟨by rw [zIi];simp,by simp⟩ (by (repeat first|exact lK1|refine zp rfl ?_)) (by (repeat constructor)) ?_
 rintro ⟨seen,v,xs⟩ ⟨hx1,hx2⟩
 simp only at hx1 hx2
 simp only [zAm,List.cons_append,List.nil_append]
 (repeat' (first|((with_reducible refine zV ?_);first|refine zO rfl rfl rfl ?_|refine zD rfl rfl rfl ?_|(refine zQ rfl rfl rfl ?_;refine ⟨_,rfl,?_⟩)|refine zS rfl rfl rfl ?_|(refine zd rfl rfl rfl rfl rfl (fun h=>?_) (fun h=>?_)<;>(dsimp only [cmpP] at h;(try (exfalso;omega))))|(refine zIE (kv:=vI) (vv:=vI) rfl rfl rfl (by (repeat constructor)) (by (repeat constructor)) hlo (fun hend=>?_) (fun p hp hpn=>?_)<;>skip)|refine zq rfl rfl rfl rfl ?_|refine zK rfl rfl rfl rfl rfl (by omega) ?_|refine zL rfl rfl rfl rfl rfl (by first|decide|omega) ?_|(refine zl rfl rfl rfl rfl (fun b=>?_))|(refine zR rfl rfl rfl ?_;refine ⟨rfl,_,rfl,fun b=>?_⟩))|(with_reducible first|refine zW ?_|refine zC ?_|refine zU ?_|refine zB ?_|refine zX ?_|refine zT ?_|refine zF ?_|refine zf ?_|refine zP ?_|refine zZ ?_|refine zY ?_|refine za ?_|refine zG ?_|refine zJ ?_)|((with_reducible refine zE ?_ ?_);(· exact rfl))|((with_reducible refine zI ?_ ?_);(· exact rfl))|((with_reducible refine zH ?_ ?_);(· exact rfl))))
 ·have hiff:0<xs.length↔TB:=by
   rw [hx2,hthr]
   constructor
   ·rintro ⟨p,hp,_,i,x,h1,h2,h3⟩
    obtain ⟨j,y,g1,g2,g3,g4⟩:=hmem p hp
    obtain rfl:i=j:=by omega
    rw [h2] at g2;cases g2
    exact ⟨i,x,h2,g3,by rw [← g4];exact h3⟩
   ·rintro ⟨i,x,h1,h2,h3⟩
    have h4:=(hsome (i:Int) (hg i x)).2 ⟨i,x,rfl,h1,h2,rfl⟩
    rw [← hle] at h4
    obtain ⟨j,bn,_,h5⟩:=zB3 0 h4
    have h6:=List.mem_of_getElem? h5
    exact ⟨_,h6,hend _ h6,i,x,rfl,h1,h3⟩
  (repeat' (first|((with_reducible refine zV ?_);first|refine zO rfl rfl rfl ?_|refine zD rfl rfl rfl ?_|(refine zQ rfl rfl rfl ?_;refine ⟨_,rfl,?_⟩)|refine zS rfl rfl rfl ?_|(refine zd rfl rfl rfl rfl rfl (fun h=>?_) (fun h=>?_)<;>(dsimp only [cmpP] at h;(try (exfalso;omega))))|refine zq rfl rfl rfl rfl ?_|refine zK rfl rfl rfl rfl rfl (by omega) ?_|refine zL rfl rfl rfl rfl rfl (by first|decide|omega) ?_|(refine zl rfl rfl rfl rfl (fun b=>?_))|(refine zR rfl rfl rfl ?_;refine ⟨rfl,_,rfl,fun b=>?_⟩))|(with_reducible first|refine zW ?_|refine zC ?_|refine zU ?_|refine zB ?_|refine zX ?_|refine zT ?_|refine zF ?_|refine zf ?_|refine zP ?_|refine zZ ?_|refine zY ?_|refine za ?_|refine zG ?_|refine zJ ?_)|((with_reducible refine zE ?_ ?_);(· exact rfl))|((with_reducible refine zI ?_ ?_);(· exact rfl))|((with_reducible refine zH ?_ ?_);(· exact rfl))))
  refine zDN [.row encI 1 3 v xs] [] rfl rfl rfl rfl (by (repeat constructor)) (fun _ _ q=>zHt xs v _ _ _ (by omega) (Own.append.1 q.own).1) ?_
  rintro ⟨A9,c9⟩ hv9
  simp only at hv9
  subst hv9
  simp only [List.cons_append,List.nil_append]
  (repeat' (first|((with_reducible refine zV ?_);first|refine zO rfl rfl rfl ?_|refine zD rfl rfl rfl ?_|(refine zQ rfl rfl rfl ?_;refine ⟨_,rfl,?_⟩)|refine zS rfl rfl rfl ?_|(refine zd rfl rfl rfl rfl rfl (fun h=>?_) (fun h=>?_)<;>(dsimp only [cmpP] at h;(try (exfalso;omega))))|refine zq rfl rfl rfl rfl ?_|refine zK rfl rfl rfl rfl rfl (by omega) ?_|refine zL rfl rfl rfl rfl rfl (by first|decide|omega) ?_|(refine zl rfl rfl rfl rfl (fun b=>?_))|(refine zR rfl rfl rfl ?_;refine ⟨rfl,_,rfl,fun b=>?_⟩))|(with_reducible first|refine zW ?_|refine zC ?_|refine zU ?_|refine zB ?_|refine zX ?_|refine zT ?_|refine zF ?_|refine zf ?_|refine zP ?_|refine zZ ?_|refine zY ?_|refine za ?_|refine zG ?_|refine zJ ?_)|((with_reducible refine zE ?_ ?_);(· exact rfl))|((with_reducible refine zI ?_ ?_);(· exact rfl))|((with_reducible refine zH ?_ ?_);(· exact rfl))))
  exact zk (by exact rTm rfl) (A9,xs.length,c9) hiff rfl (fun _ h=>h.sub (by (repeat constructor)))
 ·obtain ⟨i,x,h1,h2,h3,h4⟩:=hmem p hp
  have hlt:=(List.getElem?_eq_some_iff.1 h2).1
  have hN:=zHD (seen:=seen) hp hpn
  obtain ⟨k,hh,bn⟩:=p
  simp only at h1 h4 hN
  subst h1
  obtain ⟨bA,oA,hAe,hAl,hAc⟩:=ht.at_ hlt
  subst hAe
  have:InS w bA oA zA3 9 t:=⟨ht⟩
  have:zAZ t i x:=⟨h2⟩
  have hxw:∀ p'∈l0,p'.2.2∈seen++[bn]→p'.2.2∈seen∨p'=((i:Int),hh,bn):=fun p' hp' hs'=>by
   rcases List.mem_append.1 hs' with h9|h9
   ·exact .inl h9
   ·exact .inr (zF0 hlo hp' hp (by simpa using h9))
  (repeat' (first|((with_reducible refine zV ?_);first|refine zO rfl rfl rfl ?_|refine zD rfl rfl rfl ?_|(refine zQ rfl rfl rfl ?_;refine ⟨_,rfl,?_⟩)|refine zS rfl rfl rfl ?_|(refine zd rfl rfl rfl rfl rfl (fun h=>?_) (fun h=>?_)<;>(dsimp only [cmpP] at h;(try (exfalso;omega))))|refine u_entryM (kv:=vI) (vv:=vI) (p:=((i:Int),hh,bn)) rfl rfl rfl (by (repeat constructor)) (by (repeat constructor)) hlo hp ?_|refine zK (I:=i) rfl rfl rfl rfl rfl (by omega) ?_|(refine zBc (enc:=encI) [_] rfl rfl rfl (by (repeat constructor)) rfl rfl (zAO (by exact rfl)) (by refine ⟨?_,by decide⟩;(try simp only [List.length_append,List.length_cons,List.length_nil]);omega) (fun A' c'=>?_))|refine zq rfl rfl rfl rfl ?_|refine zK rfl rfl rfl rfl rfl (by omega) ?_|refine zL rfl rfl rfl rfl rfl (by first|decide|omega) ?_|(refine zl rfl rfl rfl rfl (fun b=>?_))|(refine zR rfl rfl rfl ?_;refine ⟨rfl,_,rfl,fun b=>?_⟩))|(with_reducible first|refine zW ?_|refine zC ?_|refine zU ?_|refine zB ?_|refine zX ?_|refine zT ?_|refine zF ?_|refine zf ?_|refine zP ?_|refine zZ ?_|refine zY ?_|refine za ?_|refine zG ?_|refine zJ ?_)|((with_reducible refine zE ?_ ?_);(· exact rfl))|((with_reducible refine zI ?_ ?_);(· exact rfl))|((with_reducible refine zH ?_ ?_);(· exact rfl))))
  ·refine z6 (ι:=List Nat × Value × List Int) (seen++[bn],.slice A' (xs++[(i:Int)]).length c',xs++[(i:Int)]) ⟨by simp only [List.length_append,List.length_cons,List.length_nil];omega,?_⟩ hN (by (repeat first|exact lK1|refine zp rfl ?_)) (by (repeat constructor))
   simp only [List.length_append,List.length_cons,List.length_nil]
   constructor
   ·intro _
    exact ⟨_,hp,by simp,i,x,rfl,h2,by simp only;omega⟩
   ·intro _;omega
  ·refine z6 (ι:=List Nat × Value × List Int) (seen++[bn],v,xs) ⟨by simp only;omega,?_⟩ hN (by (repeat first|exact lK1|refine zp rfl ?_)) (by (repeat constructor))
   simp only
   rw [hx2]
   constructor
   ·rintro ⟨p',g1,g2,g3⟩
    exact ⟨p',g1,by simp [g2],g3⟩
   ·rintro ⟨p',g1,g2,j,y,e1,e2,e3⟩
    rcases hxw p' g1 g2 with g4|rfl
    ·exact ⟨p',g1,g4,j,y,e1,e2,e3⟩
    ·simp only at e1 e3
     obtain rfl:i=j:=by omega
     rw [h2] at e2;cases e2
     omega
set_option maxHeartbeats 4000000 in
theorem zFm (s:SlM) (t:List St) (A:Option Addr) (c:Nat) (w:World) (ht:zAB zA3 9 w A t) (hf:FitT t) (hl:t.length≤20) (hv:valid t=true) (hs:zDC s=true):Gv Tryz.prog 21 [.agg #[.slice A t.length c],vSl s] w (.tuple #[.int .u8 (zEY s t),.int .i64 0]):=by
 have hO:=fun W (hW:Below w.heap.size w W)=>zFk s t A c W (ht.below hW) hf (by omega) hv hs
 have hsf:=zB7.1 hs
 have hst:=zDn hv
 have hrad:=zIU hv
 have hT1:=fun W (hW:Below w.heap.size w W)=>zEW ⟨s,t,A,c,false⟩ W (ht.below hW) hsf hst hrad hl
 have hT2:=fun W (hW:Below w.heap.size w W)=>zEW ⟨s,t,A,c,true⟩ W (ht.below hW) hsf hst hrad hl
 simp only at hT1 hT2
 have e:zEY s t=(open Classical in if zC7 false s t then 0 else if zC7 true s t then 1 else 2):=rfl
 rw [e]
 clear e hst hrad hsf
 generalize zC7 false s t=T1 at *
 generalize zC7 true s t=T2 at *
 unfold Gv
 unfold vSl vRi at *
 simp only at *
 (refine ze (n:=30) Tryz.func21 rfl rfl rfl ?_)
 (repeat' (first|((with_reducible refine zV ?_);first|refine zO rfl rfl rfl ?_|refine zD rfl rfl rfl ?_|(refine zQ rfl rfl rfl ?_;refine ⟨_,rfl,?_⟩)|(refine zd rfl rfl rfl rfl rfl (fun h=>?_) (fun h=>?_)<;>(dsimp only [cmpP] at h;(try (exfalso;omega))))|refine zn rfl rfl rfl rfl (fun _ _ q=>hO _ q.below) ?_|(refine zAU rfl rfl rfl rfl (fun _ _ q=>hT1 _ q.below) ?_;rintro ⟨A1,n1,c1⟩ h1;simp only at h1;dsimp only [List.cons_append,List.nil_append])|(refine zAU rfl rfl rfl rfl (fun _ _ q=>hT2 _ q.below) ?_;rintro ⟨A2,n2,c2⟩ h2;simp only at h2;dsimp only [List.cons_append,List.nil_append])|refine zq rfl rfl rfl rfl ?_|refine zj rfl rfl rfl ?_|(refine zg rfl rfl rfl rfl rfl ?_;refine ⟨rfl,by first|decide|exact Nat.le_of_ble_eq_true rfl|(simp;omega),_,rfl,?_⟩)|(refine zh rfl rfl (fun b=>?_))|(refine zl rfl rfl rfl rfl (fun b=>?_)))|(with_reducible first|refine zW ?_|refine zC ?_|refine zU ?_|refine zB ?_|refine zX ?_|refine zT ?_|refine zF ?_|refine zf ?_|refine zP ?_|refine zZ ?_|refine zY ?_|refine za ?_|refine zG ?_|refine zJ ?_)|((with_reducible refine zE ?_ ?_);(· exact rfl))|((with_reducible refine zI ?_ ?_);(· exact rfl))|((with_reducible refine zH ?_ ?_);(· exact rfl))))
 ·exact zk (by (exact zAX.cons (by exact zBv.tmp rfl) (zAX.cons (by exact zBv.tmp rfl) zAX.nil))) () trivial (by rw [if_pos (h1.1 (by omega))];rfl) (fun _ h=>h.sub (by (repeat constructor)))
 ·exact zk (by (exact zAX.cons (by exact zBv.tmp rfl) (zAX.cons (by exact zBv.tmp rfl) zAX.nil))) () trivial (by rw [if_neg (fun h=>by have:=h1.2 h;omega),if_pos (h2.1 (by omega))];rfl) (fun _ h=>h.sub (by (repeat constructor)))
 ·exact zk (by (exact zAX.cons (by exact zBv.tmp rfl) (zAX.cons (by exact zBv.tmp rfl) zAX.nil))) () trivial (by rw [if_neg (fun h=>by have:=h1.2 h;omega),if_neg (fun h=>by have:=h2.2 h;omega)];rfl) (fun _ h=>h.sub (by (repeat constructor)))
end Two
end Go.Proofs.YtcpdjamlhhfbhaaGreat
namespace Go.Proofs.YtcpdjamlhhfbhaaGreat.Two
variable {ro : Option Nat}
open Go.RowKit
set_option maxRecDepth 20000
theorem zDO (a b:Int) (w:World):Gv Tryz.prog 19 [.int .i64 a,.int .i64 b] w (.agg #[.int .i64 a,.int .i64 b]):=by
 unfold Gv
 (refine ze (n:=8) Tryz.func19 rfl rfl rfl ?_)
 (repeat' (first|((with_reducible refine zV ?_);first|refine zO rfl rfl rfl ?_|(refine zg rfl rfl rfl rfl rfl ?_;refine ⟨rfl,by first|decide|exact Nat.le_of_ble_eq_true rfl|(simp;omega),_,rfl,?_⟩)|(refine zh rfl rfl (fun b=>?_))|(refine zy rfl rfl rfl ?_;refine ⟨_,rfl,?_⟩))|(with_reducible first|refine zW ?_|refine zC ?_|refine zU ?_|refine zB ?_|refine zX ?_)))
 exact zk (by (exact zAX.cons (by exact res1c rfl (by exact rfl)) zAX.nil)) () trivial rfl (fun _ h=>h.sub (by (repeat constructor)))
theorem elem_bm : Elem Tryz.prog 37 82 4 32 (.agg #[.int .i64 0,.int .i64 0,.int .i64 0,.int .i64 0]):=⟨by rfl,by exact ⟨_,rfl,rfl,rfl,rfl⟩,by decide,by decide⟩
instance : ElI Tryz.prog 37 82 4 32:=⟨⟨_,elem_bm⟩⟩
end Go.Proofs.YtcpdjamlhhfbhaaGreat.Two
