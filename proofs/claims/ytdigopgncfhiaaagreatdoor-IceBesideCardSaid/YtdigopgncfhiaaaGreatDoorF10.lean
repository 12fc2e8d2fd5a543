/- F10 -/
import Derived.Test.YtdigopgncfhiaaaGreatDoorF9
set_option linter.unusedSimpArgs false
set_option linter.unusedVariables false
namespace Go.Proofs.YtdigopgncfhiaaaGreatDoor
open Go.RowKit
set_option maxRecDepth 20000
def zBs (c:Cov) (pl:List Sli):Int:=if zAm c=0 then (if zBY c pl then 0 else 21) else zAm c
theorem zEw (c:Cov) (A:Option Addr) (ca:Nat) (B:Option Addr) (cb:Nat) (C:Option Addr) (cc:Nat) (w:World) (h:zAe w c A B C) (hs:Small c) (he:zAm c≠0):Gv Tryz.prog 62 [zAH c A ca B cb C cc] w (.tuple #[.pointer none,.int .i64 (zAm c)]):=by
 have hc:=fun W (hb:Below w.heap.size w W)=>zIJ c A ca B cb C cc W (h.below hb) hs
 unfold zAH zM at hc
 generalize zAm c=e at *
 unfold Gv zAH zM
 (refine zJ (n:=13) Tryz.func62 rfl rfl rfl ?_)
 (repeat' (first|((with_reducible refine zF ?_);first|refine zE rfl rfl rfl ?_|refine zC rfl rfl rfl ?_|(refine zK rfl rfl rfl ?_;refine ⟨_,rfl,?_⟩)|(refine zQ rfl rfl rfl rfl rfl (fun h=>?_) (fun h=>?_)<;>(dsimp only [cmpP] at h;(try (exfalso;omega))))|refine zV rfl rfl rfl rfl (fun _ _ q=>hc _ q.below) ?_|(refine zu rfl rfl rfl rfl (fun b=>?_)))|(with_reducible first|refine zH ?_|refine zB ?_|refine zD ?_|refine zA ?_|refine zX ?_|refine zZ ?_)|((with_reducible refine zI ?_ ?_);(· exact rfl))))
 all_goals exact zS (by (exact zi.cons (by exact zAR.tmp rfl) (zi.cons (by exact zAR.tmp rfl) zi.nil))) () trivial rfl (fun _ h=>h.sub (by (repeat constructor)))
theorem zCu (c:Cov) (A:Option Addr) (ca:Nat) (B:Option Addr) (cb:Nat) (C:Option Addr) (cc:Nat) (w:World) (h:zAe w c A B C) (hs:Small c) (he:zAm c=0):Ret Tryz.prog 62 [zAH c A ca B cb C cc] w (fun g:Nat=>.tuple #[.pointer (some ⟨g,0,none⟩),.int .i64 0]) (fun g=>[.blk g (zM c A ca B cb C cc)]) (fun _=>True):=by
 have hc:=fun W (hb:Below w.heap.size w W)=>zIJ c A ca B cb C cc W (h.below hb) hs
 unfold zAH zM at hc
 rw [he] at hc
 unfold zAH zM
 (refine zJ (n:=13) Tryz.func62 rfl rfl rfl ?_)
 (repeat' (first|((with_reducible refine zF ?_);first|refine zE rfl rfl rfl ?_|refine zC rfl rfl rfl ?_|(refine zK rfl rfl rfl ?_;refine ⟨_,rfl,?_⟩)|(refine zQ rfl rfl rfl rfl rfl (fun h=>?_) (fun h=>?_)<;>(dsimp only [cmpP] at h;(try (exfalso;omega))))|refine zV rfl rfl rfl rfl (fun _ _ q=>hc _ q.below) ?_|(refine zu rfl rfl rfl rfl (fun b=>?_))|(refine zAl rfl rfl rfl ?_;refine ⟨_,rfl,?_⟩))|(with_reducible first|refine zH ?_|refine zB ?_|refine zD ?_|refine zA ?_|refine zX ?_|refine zT ?_)|((with_reducible refine zG ?_ ?_);(· exact rfl))))
 all_goals exact zS (by (exact zi.cons (by exact zAR.tmp rfl) (zi.cons (by exact zAR.tmp rfl) zi.nil))) _ trivial rfl (fun _ h=>h.sub (by (repeat constructor)))
theorem zDz (c:Cov) (A:Option Addr) (ca:Nat) (B:Option Addr) (cb:Nat) (C:Option Addr) (cc:Nat) (pl:List Sli) (P:Option Addr) (cp:Nat) (w:World) (h:zAe w c A B C) (hs:Small c) (hp:zBG w P pl) (hl:pl.length≤12) (hrl:∀ s∈pl,s.xs.length≤20) (he:zBs c pl≠0) :
  Gv Tryz.prog 56 [zAH c A ca B cb C cc,.slice P pl.length cp] w (.tuple #[.pointer none,.int .i64 (zBs c pl)]):=by
 have h1:=fun W (hb:Below w.heap.size w W)=>zEw c A ca B cb C cc W (h.below hb) hs
 have h2:=fun W (hb:Below w.heap.size w W)=>zCu c A ca B cb C cc W (h.below hb) hs
 have h3:=fun W (hb:Below w.heap.size w W) g (hr:InC W g 0 (zM c A ca B cb C cc))=>zGF c A ca B cb C cc g pl P cp W hr (h.below hb) (hp.below hb) hs hl hrl
 unfold zAH at h1 h2
 unfold Gv zAH
 unfold zBs at he ⊢
 by_cases h0:zAm c=0
 ·rw [if_pos h0] at he ⊢
  have hpl:zBY c pl=false:=by
   cases hq:zBY c pl with
   | false=>rfl
   | true=>rw [hq] at he;exact absurd rfl he
  rw [hpl] at h3 ⊢
  unfold zM at h2 h3 ⊢
  (refine zJ (n:=21) Tryz.func56 rfl rfl rfl ?_)
  (repeat' (first|((with_reducible refine zF ?_);first|refine zE rfl rfl rfl ?_|refine zC rfl rfl rfl ?_|(refine zK rfl rfl rfl ?_;refine ⟨_,rfl,?_⟩)|(refine zQ rfl rfl rfl rfl rfl (fun h=>?_) (fun h=>?_)<;>(dsimp only [cmpP] at h;(try (exfalso;omega))))|(refine zAQ rfl rfl rfl rfl (fun _ _ q=>h2 _ q.below h0) ?_;rintro g -;dsimp only [List.cons_append,List.nil_append])|refine zV rfl rfl rfl rfl (fun _ _ q=>h3 _ q.below _ (zA5 q.own (Below.refl _ _) rfl)) ?_|refine zc rfl rfl rfl rfl ?_|refine zAN rfl rfl rfl ?_|(refine zu rfl rfl rfl rfl (fun b=>?_)))|(with_reducible first|refine zH ?_|refine zB ?_|refine zD ?_|refine zA ?_|refine zX ?_|refine zT ?_|refine zZ ?_)|((with_reducible refine zI ?_ ?_);(· exact rfl))|((with_reducible refine zG ?_ ?_);(· exact rfl))))
  all_goals exact zS (by (exact zi.cons (by exact zAR.tmp rfl) (zi.cons (by exact zAR.tmp rfl) zi.nil))) () trivial rfl (fun _ h=>h.sub (by (repeat constructor)))
 ·rw [if_neg h0] at he ⊢
  unfold zM at h1 ⊢
  generalize zAm c=e at *
  (refine zJ (n:=21) Tryz.func56 rfl rfl rfl ?_)
  (repeat' (first|((with_reducible refine zF ?_);first|refine zE rfl rfl rfl ?_|refine zC rfl rfl rfl ?_|(refine zK rfl rfl rfl ?_;refine ⟨_,rfl,?_⟩)|(refine zQ rfl rfl rfl rfl rfl (fun h=>?_) (fun h=>?_)<;>(dsimp only [cmpP] at h;(try (exfalso;omega))))|refine zV rfl rfl rfl rfl (fun _ _ q=>h1 _ q.below h0) ?_|refine zc rfl rfl rfl rfl ?_|(refine zu rfl rfl rfl rfl (fun b=>?_)))|(with_reducible first|refine zH ?_|refine zB ?_|refine zD ?_|refine zA ?_|refine zX ?_|refine zZ ?_)|((with_reducible refine zI ?_ ?_);(· exact rfl))))
  all_goals exact zS (by (exact zi.cons (by exact zAR.tmp rfl) (zi.cons (by exact zAR.tmp rfl) zi.nil))) () trivial rfl (fun _ h=>h.sub (by (repeat constructor)))
theorem zDy (c:Cov) (A:Option Addr) (ca:Nat) (B:Option Addr) (cb:Nat) (C:Option Addr) (cc:Nat) (pl:List Sli) (P:Option Addr) (cp:Nat) (w:World) (h:zAe w c A B C) (hs:Small c) (hp:zBG w P pl) (hl:pl.length≤12) (hrl:∀ s∈pl,s.xs.length≤20) (he:zAm c=0) (hpl:zBY c pl=true) :
  Ret Tryz.prog 56 [zAH c A ca B cb C cc,.slice P pl.length cp] w (fun g:Nat=>.tuple #[.pointer (some ⟨g,0,none⟩),.int .i64 0]) (fun g=>[.blk g (zM c A ca B cb C cc)]) (fun _=>True):=by
 have h2:=fun W (hb:Below w.heap.size w W)=>zCu c A ca B cb C cc W (h.below hb) hs he
 have h3:=fun W (hb:Below w.heap.size w W) g (hr:InC W g 0 (zM c A ca B cb C cc))=>zGF c A ca B cb C cc g pl P cp W hr (h.below hb) (hp.below hb) hs hl hrl
 unfold zAH at h2 ⊢
 rw [hpl] at h3
 unfold zM at h2 h3 ⊢
 (refine zJ (n:=21) Tryz.func56 rfl rfl rfl ?_)
 (repeat' (first|((with_reducible refine zF ?_);first|refine zE rfl rfl rfl ?_|refine zC rfl rfl rfl ?_|(refine zK rfl rfl rfl ?_;refine ⟨_,rfl,?_⟩)|(refine zQ rfl rfl rfl rfl rfl (fun h=>?_) (fun h=>?_)<;>(dsimp only [cmpP] at h;(try (exfalso;omega))))|(refine zAQ rfl rfl rfl rfl (fun _ _ q=>h2 _ q.below) ?_;rintro g -;dsimp only [List.cons_append,List.nil_append])|refine zV rfl rfl rfl rfl (fun _ _ q=>h3 _ q.below _ (zA5 q.own (Below.refl _ _) rfl)) ?_|refine zc rfl rfl rfl rfl ?_|refine zAN rfl rfl rfl ?_|(refine zu rfl rfl rfl rfl (fun b=>?_)))|(with_reducible first|refine zH ?_|refine zB ?_|refine zD ?_|refine zA ?_|refine zX ?_|refine zT ?_)|((with_reducible refine zG ?_ ?_);(· exact rfl))))
 all_goals exact zS (by (exact zi.cons (by exact zAR.tmp rfl) (zi.cons (by exact zAR.tmp rfl) zi.nil))) _ trivial rfl (fun _ h=>h.sub (by (repeat constructor)))
def zBh (c:Cov) (z:Bed) (u:Hour):Sp:=⟨z.sun * u.melt.lo+u.runs * c.wear.lo,z.sun * u.melt.hi+u.runs * c.wear.hi⟩
structure zDo (c:Cov):Prop where
 bed:∀ z∈c.beds,zEG z=true
 hour:∀ u∈c.hours,zCH u=true
 wear:zBE c.wear 0 20=true
 layer:zBE c.layer 1 100=true
 rate:inB 0 100 c.rate=true
 limit:inB 0 2000 c.limit=true
 base:inB 0 c.limit c.base=true
 beds:c.beds.length=c.t.length
 hours:inB 1 8 c.hours.length=true
theorem zBu {c:Cov} (h:zAm c=0):zDo c:=by
 unfold zAm at h
 by_cases hv:valid c.t=true
 ·rw [if_pos hv] at h
  by_cases hi:zDe c=true
  ·obtain ⟨i1,i2,i3,i4,i5,i6,i7,i8,i9⟩:=zCO.1 hi
   exact ⟨fun z hz=>List.all_eq_true.1 i3 z hz,fun z hz=>List.all_eq_true.1 i4 z hz,i5,i6,i7,i8,i9,i1,i2⟩
  ·rw [if_neg hi] at h;cases h
 ·rw [if_neg hv] at h;cases h
theorem zEt {a b A B:Int} (h1:0≤a) (h2:a≤A) (h3:0≤b) (h4:b≤B):0≤a * b∧a * b≤A * B :=
 ⟨Int.mul_nonneg h1 h3,Int.le_trans (Int.mul_le_mul_of_nonneg_right h2 h3) (Int.mul_le_mul_of_nonneg_left h4 (Int.le_trans h1 h2))⟩
theorem zMy {c:Cov} {z:Bed} {u:Hour} (hf:zDo c) (hz:z∈c.beds) (hu:u∈c.hours) :
  (0≤z.sun * u.melt.lo∧z.sun * u.melt.lo≤450)∧(0≤z.sun * u.melt.hi∧z.sun * u.melt.hi≤450)∧(0≤u.runs * c.wear.lo∧u.runs * c.wear.lo≤1200)∧(0≤u.runs * c.wear.hi∧u.runs * c.wear.hi≤1200):=by
 have h1:=hf.bed z hz;have h2:=hf.hour u hu;have h3:=hf.wear
 simp only [zEG,zCH,Bool.and_eq_true,zBD,zAC] at h1 h2 h3
 exact ⟨zEt (A:=9) (B:=50) (by omega) (by omega) (by omega) (by omega),zEt (A:=9) (B:=50) (by omega) (by omega) (by omega) (by omega),zEt (A:=60) (B:=20) (by omega) (by omega) (by omega) (by omega),zEt (A:=60) (B:=20) (by omega) (by omega) (by omega) (by omega)⟩
theorem zDv {c:Cov} {z:Bed} {u:Hour} (hf:zDo c) (hz:z∈c.beds) (hu:u∈c.hours):0≤(zBh c z u).lo∧(zBh c z u).lo≤1650∧0≤(zBh c z u).hi∧(zBh c z u).hi≤1650:=by
 have:=zMy hf hz hu
 simp only [zBh];omega
set_option maxHeartbeats 2000000 in
theorem zFG (c:Cov) (A:Option Addr) (ca:Nat) (B:Option Addr) (cb:Nat) (C:Option Addr) (cc g i j:Nat) (z:Bed) (u:Hour) (w:World) (hr:InC w g 0 (zM c A ca B cb C cc)) (h:zAe w c A B C) (hs:Small c) (hf:zDo c) (hz:c.beds[i]?=some z) (hu:c.hours[j]?=some u) :
  Gv Tryz.prog 88 [.pointer (some ⟨g,0,none⟩),.int .i64 (i:Int),.int .i64 (j:Int)] w (vSp (zBh c z u)):=by
 have h4:=hs.b;have h5:=hs.h
 have hb:=h.b;have hh:=h.h
 have hzm:=List.mem_of_getElem? hz
 have hum:=List.mem_of_getElem? hu
 obtain ⟨⟨m1,m2⟩,⟨m3,m4⟩,⟨m5,m6⟩,m7,m8⟩:=zMy hf hzm hum
 have hi:=(List.getElem?_eq_some_iff.1 hz).1
 have hj:=(List.getElem?_eq_some_iff.1 hu).1
 obtain ⟨bb,o,rfl,hblt,hc⟩:=hb.at_ hi
 have:InS w bb o zAK 3 c.beds:=⟨hb⟩
 have:zAT c.beds i z:=⟨hz⟩
 obtain ⟨bc,oc,rfl,hblt2,hc2⟩:=hh.at_ hj
 have:InS w bc oc zr 5 c.hours:=⟨hh⟩
 have:zAT c.hours j u:=⟨hu⟩
 unfold zM at hr
 unfold Gv zBh vSp
 (refine zJ (n:=57) Tryz.func88 rfl rfl rfl ?_)
 (repeat' (first|((with_reducible refine zF ?_);first|(refine zj rfl rfl (fun b=>?_)))|(with_reducible first|refine zH ?_|refine zB ?_|refine zD ?_|refine zA ?_)))
 (refine Two.zA1 [] [] [] rfl (show ([]:List Nat).Nodup by decide) (fun _ h=>h) (by kernel_rfl) [[],[Z],[Z,Z],[Z,Z,Z],[Z,Z,Z,Z],[Y,Y,Y,Y,Y],[Z,Z,Z,Z,Z,Z],[Z,Z,Z,Z,Z,Z,Z],[Z,Z,Z,Z,Z,Z,Z,Z],[Y,Y,Y,Y,Y,Y,Y,Y,Y],[Z,Y,Y,Y,Y,Y,Y,Y,Y,Y],[Z,Z,Y,Y,Y,Y,Y,Y,Y,Y,Y],[Z,Z,Z,Y,Y,Y,Y,Y,Y,Y,Y,Y],[Z,Z,Z,Z,Y,Y,Y,Y,Y,Y,Y,Y,Y],[Y,Y,Y,Y,Y,Y,Y,Y,Y,Y,Y,Y,Y,Y],[Z,Z,Z,Z,Z,Z,Y,Y,Y,Y,Y,Y,Y,Y,Y],[Z,Z,Z,Z,Z,Z,Z,Y,Y,Y,Y,Y,Y,Y,Y,Y],[Y,Y,Y,Y,Y,Y,Y,Y,Y,Y,Y,Y,Y,Y,Y,Y,Y],[Z,Y,Y,Y,Y,Y,Y,Y,Y,Z,Z,Z,Z,Z,Z,Z,Z,Z],[Z,Z,Z,Z,Z,Z,Z,Z,Z,Z,Z,Z,Z,Z,Z,Z,Z,Z,Z]] (by kernel_rfl) (by kernel_rfl) (by kernel_rfl) (by kernel_rfl) (by kernel_rfl) ?_)
 (repeat' (first|(((with_reducible refine Two.zDQ ?_ ?_);(· exact rfl);refine ⟨_,fun G=>(by (try simp (decide:=true) only [Two.vis,Two.see,fltT,zAF,Nat.reduceAdd,Nat.reduceSub,if_true,if_false,List.set_cons_zero,List.set_cons_succ,List.set_nil,List.nil_append,List.cons_append]);rfl),?_⟩);first|refine Two.zm _ (fun _=>zAi rfl rfl) (fun _=>rfl) rfl (by intro G G' h;simp (decide:=true) only [h]) ?_|refine Two.zm _ (fun _=>zAG rfl rfl (by exact rfl)) (fun _=>rfl) rfl (by intro G G' h;simp (decide:=true) only [h]) ?_|(refine Two.zAj rfl ?_;refine Two.zm _ (fun _=>zAU rfl rfl) (fun _=>rfl) rfl (by intro G G' h;simp (decide:=true) only [h]) ?_)|refine Two.zm _ (fun _=>zCE rfl rfl) (fun _=>rfl) rfl (by intro G G' h;simp (decide:=true) only [h]) ?_|refine Two.zm _ (fun _=>zAr (I:=i) rfl rfl rfl rfl (by omega)) (fun _=>rfl) rfl (by exact fun _ _ _=>rfl) ?_|refine Two.zm _ (fun _=>zAr (I:=j) rfl rfl rfl rfl (by omega)) (fun _=>rfl) rfl (by exact fun _ _ _=>rfl) ?_|refine Two.zm _ (fun _=>zAg rfl rfl) (fun _=>rfl) rfl (by intro G G' h;simp (decide:=true) only [h]) ?_|refine Two.zHX rfl (fun _=>rfl) rfl ?_)|((with_reducible refine Two.zB3 ?_ ?_);(· exact rfl))))
 (intro G;simp only [regsT,zAF,Two.zBb,Two.ini,List.nil_append,List.cons_append])
 (repeat' (first|((with_reducible refine zF ?_);first|(refine zb rfl rfl rfl rfl rfl ?_;refine ⟨rfl,by first|decide|exact Nat.le_of_ble_eq_true rfl|(simp;omega),_,rfl,?_⟩))|(with_reducible first|refine zH ?_|refine zD ?_|refine zA ?_)))
 (refine Two.zA1 [] [] [] rfl (show ([]:List Nat).Nodup by decide) (fun _ h=>h) (by kernel_rfl) [[],[Y],[Z,Y],[Z,Z,Y],[Z,Z,Z,Z],[Y,Y,Y,Y,Y],[Z,Y,Y,Y,Y,Y],[Y,Y,Y,Y,Y,Y,Y],[Z,Y,Y,Y,Y,Y,Y,Y],[Z,Z,Y,Y,Y,Y,Y,Y,Y],[Z,Z,Z,Y,Y,Y,Y,Y,Y,Y],[Z,Z,Z,Z,Y,Y,Y,Y,Y,Y,Y],[Z,Z,Z,Z,Z,Y,Y,Y,Y,Y,Y,Y],[Z,Z,Z,Z,Z,Z,Z,Z,Y,Y,Y,Y,Y],[Z,Z,Z,Z,Z,Z,Z,Z,Z,Z,Z,Z,Z,Z],[Y,Y,Y,Y,Y,Y,Y,Y,Y,Y,Y,Y,Y,Y,Y],[Y,Y,Y,Y,Y,Y,Y,Y,Y,Y,Y,Y,Y,Y,Y,Y],[Z,Y,Y,Y,Y,Y,Y,Y,Y,Y,Y,Y,Y,Y,Y,Y,Y],[Z,Z,Y,Y,Y,Y,Y,Y,Y,Y,Y,Y,Y,Y,Y,Y,Y,Y],[Z,Z,Z,Z,Y,Y,Y,Y,Y,Y,Y,Y,Y,Y,Y,Y,Y,Y,Y],[Y,Y,Y,Y,Y,Y,Y,Y,Y,Y,Y,Y,Y,Y,Y,Y,Y,Y,Y,Y],[Z,Y,Y,Y,Y,Y,Y,Y,Y,Y,Y,Y,Y,Y,Y,Y,Y,Y,Y,Y,Y],[Y,Y,Y,Y,Y,Y,Y,Y,Y,Y,Y,Y,Y,Y,Y,Y,Y,Y,Y,Y,Y,Y],[Z,Y,Y,Y,Y,Y,Y,Y,Y,Y,Y,Y,Y,Y,Y,Y,Y,Y,Y,Y,Y,Y,Y],[Z,Z,Y,Y,Y,Y,Y,Y,Y,Y,Y,Y,Y,Y,Y,Y,Y,Y,Y,Y,Y,Y,Y,Y],[Z,Z,Z,Y,Y,Y,Y,Y,Y,Y,Y,Y,Y,Y,Y,Y,Y,Y,Y,Y,Y,Y,Y,Y,Y],[Z,Z,Z,Z,Y,Y,Y,Y,Y,Y,Y,Y,Y,Y,Y,Y,Y,Y,Y,Y,Y,Y,Y,Y,Y,Y],[Z,Z,Z,Z,Z,Y,Y,Y,Y,Y,Y,Y,Y,Y,Y,Y,Y,Y,Y,Y,Y,Y,Y,Y,Y,Y,Y],[Z,Z,Z,Z,Z,Z,Z,Z,Y,Y,Y,Y,Y,Y,Y,Y,Y,Y,Y,Y,Y,Y,Y,Y,Y,Y,Y,Y],[Z,Z,Z,Z,Z,Z,Z,Z,Z,Z,Z,Z,Z,Z,Y,Y,Y,Y,Y,Y,Y,Y,Y,Y,Y,Y,Y,Y,Y],[Z,Z,Z,Z,Z,Z,Z,Z,Z,Z,Z,Z,Z,Z,Z,Z,Z,Z,Z,Z,Z,Z,Z,Z,Z,Z,Z,Z,Z,Z],[Z,Z,Z,Z,Z,Z,Z,Z,Z,Z,Z,Z,Z,Z,Z,Z,Z,Z,Z,Z,Z,Z,Z,Z,Z,Z,Z,Z,Z,Z,Z]] (by kernel_rfl) (by kernel_rfl) (by kernel_rfl) (by kernel_rfl) (by kernel_rfl) ?_)
 (repeat' (first|(((with_reducible refine Two.zDQ ?_ ?_);(· exact rfl);refine ⟨_,fun G=>(by (try simp (decide:=true) only [Two.vis,Two.see,fltT,zAF,Nat.reduceAdd,Nat.reduceSub,if_true,if_false,List.set_cons_zero,List.set_cons_succ,List.set_nil,List.nil_append,List.cons_append]);rfl),?_⟩);first|refine Two.zm _ (fun _=>zAi rfl rfl) (fun _=>rfl) rfl (by intro G G' h;simp (decide:=true) only [h]) ?_|refine Two.zm _ (fun _=>zAG rfl rfl (by exact rfl)) (fun _=>rfl) rfl (by intro G G' h;simp (decide:=true) only [h]) ?_|(refine Two.zAj rfl ?_;refine Two.zm _ (fun _=>zAU rfl rfl) (fun _=>rfl) rfl (by intro G G' h;simp (decide:=true) only [h]) ?_)|refine Two.zm _ (fun _=>zLR rfl rfl rfl (IntWalk.i64_in _ (by omega))) (fun _=>rfl) rfl (by intro G G' h;simp (decide:=true) only [h]) ?_|refine Two.zm _ (fun _=>e_mul rfl rfl rfl (IntWalk.i64_in _ (by omega))) (fun _=>rfl) rfl (by intro G G' h;simp (decide:=true) only [h]) ?_|refine Two.zm _ (fun _=>zAg rfl rfl) (fun _=>rfl) rfl (by intro G G' h;simp (decide:=true) only [h]) ?_|refine Two.zm _ (fun _=>zD9 rfl rfl (by exact rfl)) (fun _=>rfl) rfl (by intro G G' h;simp (decide:=true) only [h]) ?_)|((with_reducible refine Two.zB3 ?_ ?_);(· exact rfl))))
 (intro G;simp only [regsT,zAF,Two.zBb,Two.ini,List.nil_append,List.cons_append])
 (repeat' (first|((with_reducible refine zF ?_);first|(refine zb rfl rfl rfl rfl rfl ?_;refine ⟨rfl,by first|decide|exact Nat.le_of_ble_eq_true rfl|(simp;omega),_,rfl,?_⟩))|(with_reducible first|refine zD ?_|refine zA ?_|refine zX ?_)))
 exact zS (by (exact zi.cons (by exact res1c rfl (by exact rfl)) zi.nil)) () trivial rfl (fun _ h=>h.sub (by (repeat constructor)))
end Go.Proofs.YtdigopgncfhiaaaGreatDoor
namespace Go.Proofs.YtdigopgncfhiaaaGreatDoor
open Go.RowKit
set_option maxRecDepth 20000
theorem InC.below {w W:World} {b off:Nat} {vs:List Value} (h:InC w b off vs) (hb:Below w.heap.size w W):InC W b off vs:=⟨fun j v hv=>by
 have h1:=h.cells j v hv
 rw [hb.cell (p:=⟨b,off+j,none⟩) (World.block_lt_of_cell? w _ h1)];exact h1⟩
theorem zL3 {n:Nat} {i:Int} (h:inB 0 ((n:Int) - 1) i=true):∃ I:Nat,i=(I:Int)∧I<n:=by
 rw [zAC] at h
 exact ⟨i.toNat,by omega,by omega⟩
set_option maxHeartbeats 1000000 in
theorem zNs (l:List Int) (n:Int) (A:Option Addr) (c:Nat) (w:World) (h:zq encI 1 w A l) (hl:l.length≤1000000):Gv Tryz.prog 133 [.slice A l.length c,.int .i64 n] w (.int .i64 (zCa (fun y=>decide (n=y)) l)):=by
 unfold Gv
 (refine zJ (n:=19) Tryz.func133 rfl rfl rfl ?_)
 (repeat' (first|((with_reducible refine zF ?_);first|refine zE rfl rfl rfl ?_|refine zC rfl rfl rfl ?_|refine zo rfl rfl rfl ?_)|(with_reducible first|refine zH ?_|refine zB ?_|refine zD ?_|refine zA ?_|refine zP ?_)))
 refine zw (ι:=Nat) [0,1,7] rfl (fun i=>i≤l.length∧∀ j y,j<i→l[j]?=some y→decide (n=y)=false) (fun i=>[(8,.int .i64 (i:Int))]) (fun _=>[]) (fun i=>l.length - i) 0 ⟨Nat.zero_le _,fun j z h=>by omega⟩ (by (repeat first|exact lK1|refine zL rfl ?_)) (by (repeat constructor)) ?_
 rintro i ⟨hi,hall⟩
 simp only [zAt,List.cons_append,List.nil_append]
 by_cases hlt:i<l.length
 ·obtain ⟨x,hx⟩:∃ x,l[i]?=some x:=⟨_,List.getElem?_eq_getElem hlt⟩
  obtain ⟨bb,o,rfl,hblt,hc⟩:=h.at_ hlt
  have:InS w bb o encI 1 l:=⟨h⟩
  have:zAT l i x:=⟨hx⟩
  (repeat' (first|((with_reducible refine zF ?_);first|refine zE rfl rfl rfl ?_|refine zC rfl rfl rfl ?_|(refine zK rfl rfl rfl ?_;refine ⟨_,rfl,?_⟩)|(refine zQ rfl rfl rfl rfl rfl (fun h=>?_) (fun h=>?_)<;>(dsimp only [cmpP] at h;(try (exfalso;omega))))|refine zh rfl rfl rfl rfl (by omega) ?_|refine zl rfl rfl rfl rfl rfl (by omega) ?_)|(with_reducible first|refine zH ?_|refine zB ?_|refine zD ?_|refine zA ?_|refine zX ?_|refine zT ?_|refine zZ ?_|refine zP ?_|refine zg ?_|refine zAP ?_)|((with_reducible refine zI ?_ ?_);(· exact rfl))|((with_reducible refine zG ?_ ?_);(· exact rfl))))
  ·exact zS (by exact rTm rfl) () trivial (by rw [zD3 hlt (by rw [List.getElem?_eq_getElem hlt] at hx;cases hx;simp;omega) hall];rfl) (fun _ h=>h.sub (by (repeat constructor)))
  ·exact zf (i+1) ⟨by omega,fun j y hj hy=>by
    by_cases e:j=i
    ·subst e;rw [hx] at hy;cases hy;simp;omega
    ·exact hall j y (by omega) hy⟩ (by omega) (by (repeat first|exact lK1|refine zL rfl ?_)) (by (repeat constructor))
 ·obtain rfl:i=l.length:=by omega
  (repeat' (first|((with_reducible refine zF ?_);first|refine zC rfl rfl rfl ?_|(refine zQ rfl rfl rfl rfl rfl (fun h=>?_) (fun h=>?_)<;>(dsimp only [cmpP] at h;(try (exfalso;omega)))))|(with_reducible first|refine zH ?_|refine zB ?_|refine zD ?_|refine zA ?_|refine zX ?_|refine zk ?_|refine zR ?_|refine zW ?_)|((with_reducible refine zG ?_ ?_);(· exact rfl))))
  exact zS (by exact rTm rfl) () trivial (by rw [zDJ (fun y hy=>by obtain ⟨j,hj⟩:=List.mem_iff_getElem?.1 hy;exact hall j y (List.getElem?_eq_some_iff.1 hj).1 hj)];rfl) (fun _ h=>h.sub (by (repeat constructor)))
theorem zN2 {l:List Int} {n:Int}:(0≤zCa (fun y=>decide (n=y)) l)↔l.contains n=true:=by
 rw [List.contains_iff_mem]
 unfold zCa
 cases hf:l.findIdx? (fun y=>decide (n=y)) with
 | none =>
  rw [List.findIdx?_eq_none_iff] at hf
  simp only
  constructor
  ·intro h;omega
  ·intro h;have:=hf n h;simp at this
 | some k =>
  obtain ⟨hk,hp,_⟩:=List.findIdx?_eq_some_iff_getElem.1 hf
  simp only
  constructor
  ·intro _
   simp only [decide_eq_true_eq] at hp
   rw [hp];exact List.getElem_mem hk
  ·intro _;omega
theorem zGL (l:List Int) (n:Int) (A:Option Addr) (c:Nat) (w:World) (h:zq encI 1 w A l) (hl:l.length≤1000000):Gv Tryz.prog 105 [.slice A l.length c,.int .i64 n] w (.bool (l.contains n)):=by
 have h1:=fun W (hb:Below w.heap.size w W)=>zNs l n A c W (h.below hb) hl
 have h2:=zN2 (l:=l) (n:=n)
 generalize zCa (fun y=>decide (n=y)) l=m at *
 unfold Gv
 (refine zJ (n:=9) Tryz.func105 rfl rfl rfl ?_)
 (repeat' (first|((with_reducible refine zF ?_);first|refine zE rfl rfl rfl ?_|refine zC rfl rfl rfl ?_|(refine zQ rfl rfl rfl rfl rfl (fun h=>?_) (fun h=>?_)<;>(dsimp only [cmpP] at h;(try (exfalso;omega))))|refine zV rfl rfl rfl rfl (fun _ _ q=>h1 _ q.below) ?_)|(with_reducible first|refine zH ?_|refine zB ?_|refine zD ?_|refine zA ?_|refine zX ?_)))
 ·exact zS (by exact rTm rfl) () trivial (by rw [h2.1 (by omega)];rfl) (fun _ h=>h.sub (by (repeat constructor)))
 ·exact zS (by exact rTm rfl) () trivial (by rw [show l.contains n=false from by cases e:l.contains n with|false=>rfl|true=>(have:=h2.2 e;omega)];rfl) (fun _ h=>h.sub (by (repeat constructor)))
end Go.Proofs.YtdigopgncfhiaaaGreatDoor
namespace Go.Proofs.YtdigopgncfhiaaaGreatDoor
open Go.RowKit
set_option maxRecDepth 20000
def thinned (t l:Sp):Sp:=⟨max 0 (t.lo - l.hi),max 0 (t.hi - l.lo)⟩
def layered (c:Cov) (on:Bool) (t:Sp):Sp:=if on then ⟨t.lo+c.layer.lo,t.hi+c.layer.hi⟩ else t
def thickN (c:Cov) (pl:List Sli) (z:Bed) (i:Int):Nat→Sp
 | 0=>z.thick
 | h+1=>layered c ((pl.getD h default).xs.contains i) (thinned (thickN c pl z i h) (zBh c z (c.hours.getD h default)))
theorem zFz {c:Cov} {pl:List Sli} {z:Bed} {i:Int} (hf:zDo c) (hz:z∈c.beds):∀ h,h≤c.hours.length→0≤(thickN c pl z i h).lo∧(thickN c pl z i h).lo≤2000+100 * h∧0≤(thickN c pl z i h).hi∧(thickN c pl z i h).hi≤2000+100 * h
 | 0,_=>by
  have:=hf.bed z hz
  simp only [zEG,Bool.and_eq_true,zBD] at this
  simp only [thickN];omega
 | h+1,hl=>by
  have ih:=zFz (pl:=pl) (i:=i) hf hz h (by omega)
  obtain ⟨u,hu⟩:∃ u,c.hours[h]?=some u:=⟨_,List.getElem?_eq_getElem (by omega)⟩
  have l4:=zDv hf hz (List.mem_of_getElem? hu)
  have hl:=hf.layer
  simp only [zBD] at hl
  simp only [thickN,zBB hu,layered,thinned]
  split<;>simp only<;>omega
end Go.Proofs.YtdigopgncfhiaaaGreatDoor
namespace Go.Proofs.YtdigopgncfhiaaaGreatDoor
open Go.RowKit
set_option maxRecDepth 20000
def zHG (c:Cov) (pl:List Sli) (z:Bed) (i:Int):List (Nat × Sp):=(List.range (c.hours.length+1)).map fun h=>(h,thickN c pl z i h)
def zEy (x:Nat × Sp):List Value:=[.int .i64 (x.1:Int),vSp x.2]
theorem zEB {c:Cov} {pl:List Sli} {z:Bed} {i:Int}:(zHG c pl z i).length=c.hours.length+1:=by simp [zHG]
theorem zGK {c:Cov} {pl:List Sli} {z:Bed} {i:Int} {k:Nat} (h:k≤c.hours.length):(zHG c pl z i)[k]?=some (k,thickN c pl z i k):=by
 simp only [zHG,List.getElem?_map,List.getElem?_range (show k<c.hours.length+1 by omega),Option.map_some]
def zCA (c:Cov) (A:Option Addr) (ca:Nat) (B:Option Addr) (cb:Nat) (C:Option Addr) (cc:Nat) (pl:List Sli) (P:Option Addr) (cp g1 g2 g3 r:Nat) (i:Int):List Ent :=
 [.blk g1 [.pointer (some ⟨r,0,none⟩)],.blk g2 [.int .i64 i],.blk g3 [.slice P pl.length cp],.blk r (zM c A ca B cb C cc)]
set_option maxHeartbeats 4000000 in
theorem days_seq (c:Cov) (A:Option Addr) (ca:Nat) (B:Option Addr) (cb:Nat) (C:Option Addr) (cc:Nat) (pl:List Sli) (P:Option Addr) (cp i g1 g2 g3 r:Nat) (z:Bed) (wb:World) (h:zAe wb c A B C) (hs:Small c) (hf:zDo c) (hp:zBG wb P pl) (hrl:∀ s∈pl,s.xs.length≤20) (hpl:pl.length=c.hours.length) (hz:c.beds[i]?=some z) :
  Seq Tryz.prog 104 [.pointer (some ⟨g1,0,none⟩),.pointer (some ⟨g2,0,none⟩),.pointer (some ⟨g3,0,none⟩)] (zCA c A ca B cb C cc pl P cp g1 g2 g3 r (i:Int)) zEy (zHG c pl z i) wb:=by
 intro ι l m I Cx go s0 w hwb hI0 hO hm hgo hend hround
 have h4:=hs.b;have h5:=hs.h
 have hb:=h.b;have hpp:=hp.p;have hh:=h.h
 have hzm:=List.mem_of_getElem? hz
 have hi:=(List.getElem?_eq_some_iff.1 hz).1
 have hlay:=hf.layer
 simp only [zBD] at hlay
 have hL:=fun W (hW:Below wb.heap.size wb W) j u (hu:c.hours[j]?=some u) (hr:InC W r 0 (zM c A ca B cb C cc))=>zFG c A ca B cb C cc r i j z u W hr (h.below hW) hs hf hz hu
 obtain ⟨bb,o,rfl,hblt,hc⟩:=hb.at_ hi
 have:InS wb bb o zAK 3 c.beds:=⟨hb⟩
 have:zAT c.beds i z:=⟨hz⟩
 have hh1:=hf.hours
 rw [zAC] at hh1
 obtain ⟨b2,o2,rfl,hblt2,hc2⟩:=hpp.at_ (show 0<pl.length by omega)
 have:InS wb b2 o2 zBF 1 pl:=⟨hpp⟩
 unfold vSp at hL
 rw [zEB] at hm hend
 have hround:=fun k s W (hk:k<m)=>hround k (k,thickN c pl z i k) s W hk (zGK (by omega))
 unfold zCA zEy vSp at *
 unfold zM at *
 refine zHy (n:=83) hwb hO Tryz.func104 rfl rfl rfl ?_
 refine zEj (fun _ h=>zBA.1 h) ?_
 simp only [List.cons_append,List.nil_append]
 (repeat' (first|(with_reducible first|refine zH ?_)))
 (refine Two.zA1 [] [] [] rfl (show ([]:List Nat).Nodup by decide) (fun _ h=>h) (by kernel_rfl) [[],[Z],[Z,Z],[Z,Z,Z],[Z,Z,Z,Z],[Y,Y,Y,Y,Y],[Z,Z,Z,Z,Z,Z],[Z,Z,Z,Z,Z,Z,Z],[Z,Z,Z,Z,Z,Z,Z,Z],[Y,Y,Y,Y,Y,Y,Y,Y,Y],[Z,Z,Z,Z,Z,Z,Z,Z,Z,Z]] (by kernel_rfl) (by kernel_rfl) (by kernel_rfl) (by kernel_rfl) (by kernel_rfl) ?_)
 (repeat' (first|(((with_reducible refine Two.zDQ ?_ ?_);(· exact rfl);refine ⟨_,fun G=>(by (try simp (decide:=true) only [Two.vis,Two.see,fltT,zAF,Nat.reduceAdd,Nat.reduceSub,if_true,if_false,List.set_cons_zero,List.set_cons_succ,List.set_nil,List.nil_append,List.cons_append]);rfl),?_⟩);first|refine Two.zm _ (fun _=>zAG rfl rfl (by exact rfl)) (fun _=>rfl) rfl (by intro G G' h;simp (decide:=true) only [h]) ?_|(refine Two.zAj rfl ?_;refine Two.zm _ (fun _=>zAU rfl rfl) (fun _=>rfl) rfl (by intro G G' h;simp (decide:=true) only [h]) ?_)|refine Two.zm _ (fun _=>zAr (I:=i) rfl rfl rfl rfl (by omega)) (fun _=>rfl) rfl (by exact fun _ _ _=>rfl) ?_|refine Two.zm _ (fun _=>zAg rfl rfl) (fun _=>rfl) rfl (by intro G G' h;simp (decide:=true) only [h]) ?_|refine Two.zHX rfl (fun _=>rfl) rfl ?_)|((with_reducible refine Two.zB3 ?_ ?_);(· exact rfl))))
 (intro G;simp only [regsT,zAF,Two.zBb,Two.ini,List.nil_append,List.cons_append])
 (repeat' (first|((with_reducible refine zF ?_);first|refine zE rfl rfl rfl ?_|(refine zK rfl rfl rfl ?_;refine ⟨_,rfl,?_⟩)|refine za rfl rfl rfl ?_|refine zo rfl rfl rfl ?_|(refine zb rfl rfl rfl rfl rfl ?_;refine ⟨rfl,by first|decide|exact Nat.le_of_ble_eq_true rfl|(simp;omega),_,rfl,?_⟩)|refine zA6 rfl rfl rfl ?_)|(with_reducible first|refine zH ?_|refine zB ?_|refine zD ?_|refine zA ?_|refine zP ?_)))
 simp only [Nat.zero_add,Nat.reduceAdd]
 generalize (G 9).g=bt
 have hm0:0<m:=by omega
 refine zw (ι:=Nat × ι) [0,1,2,3,5,22] rfl (fun q=>q.1≤c.hours.length∧q.1<m∧I q.1 q.2) (fun q=>[(23,.int .i64 (q.1:Int))]) (fun q=>.blk bt (zAz (thickN c pl z i q.1))::(zCA c A ca (some ⟨bb,o,none⟩) cb C cc pl (some ⟨b2,o2,none⟩) cp g1 g2 g3 r (i:Int)++[.all (Cx q.2),.oldx w wb.heap.size (feet (zCA c A ca (some ⟨bb,o,none⟩) cb C cc pl (some ⟨b2,o2,none⟩) cp g1 g2 g3 r (i:Int)++Cx s0))])) (fun q=>c.hours.length - q.1) (0,s0) ⟨Nat.zero_le _,hm0,hI0⟩ (by (repeat first|exact lK1|refine zL rfl ?_)) (by (repeat constructor)) ?_
 rintro ⟨k,s⟩ ⟨hk,hkm,hIk⟩
 simp only at hk hkm hIk
 have hY:=fun W=>hround k s W hkm hIk
 clear hround
 simp only [zAt,zCA,zM,List.cons_append,List.nil_append]
 by_cases hlt:k<c.hours.length
 ·obtain ⟨u,hu⟩:∃ u,c.hours[k]?=some u:=⟨_,List.getElem?_eq_getElem (by omega)⟩
  obtain ⟨sl,hsk⟩:∃ s,pl[k]?=some s:=⟨_,List.getElem?_eq_getElem (by omega)⟩
  have hsm:=List.mem_of_getElem? hsk
  have hrow:=hp.rows sl hsm
  have hsl:=hrl sl hsm
  have hin:=zFz (pl:=pl) (i:=i) hf hzm k (by omega)
  have hlin:=zDv hf hzm (List.mem_of_getElem? hu)
  have e1:thickN c pl z i (k+1)=layered c (sl.xs.contains (i:Int)) (thinned (thickN c pl z i k) (zBh c z u)):=by simp only [thickN,zBB hu,zBB hsk]
  generalize thickN c pl z i k=t at *
  have hL:=fun W hW=>hL W hW k u hu
  generalize zBh c z u=lo at *
  obtain ⟨sA,xs,sc⟩:=sl
  simp only at hrow hsl e1
  have hH:=fun W (hW:Below wb.heap.size wb W)=>zGL xs (i:Int) sA sc W (hrow.below hW) (by omega)
  have:zAT pl k ⟨sA,xs,sc⟩:=⟨hsk⟩
  generalize xs.contains (i:Int)=on at *
  cases hgk:go k
  ·simp only [hgk] at hY
   unfold zAz
   (repeat' (first|((with_reducible refine zF ?_);first|refine zE rfl rfl rfl ?_|refine zC rfl rfl rfl ?_|(refine zK rfl rfl rfl ?_;refine ⟨_,rfl,?_⟩)|(refine zQ rfl rfl rfl rfl rfl (fun h=>?_) (fun h=>?_)<;>(dsimp only [cmpP] at h;(try (exfalso;omega))))|(refine zE1 (D:=zCA c A ca (some ⟨bb,o,none⟩) cb C cc pl (some ⟨b2,o2,none⟩) cp g1 g2 g3 r (i:Int)) (L:=Cx s) (C:=Cx) (p:=I (k+1)) (go:=false) rfl rfl rfl rfl [.blk bt (zAz t),.oldx w wb.heap.size (feet (zCA c A ca (some ⟨bb,o,none⟩) cb C cc pl (some ⟨b2,o2,none⟩) cp g1 g2 g3 r (i:Int)++Cx s0))] (by (repeat constructor)) (fun _ W q=>hY W q.below (Own.append.1 (zBA.2 q.own)).1) ?_;rintro s' hs';simp only [zCA,zM,List.cons_append,List.nil_append])|refine zAN rfl rfl rfl ?_)|(with_reducible first|refine zH ?_|refine zB ?_|refine zD ?_|refine zA ?_|refine zX ?_|refine zT ?_|refine zZ ?_|refine zP ?_|refine zAP ?_)|((with_reducible refine zI ?_ ?_);(· exact rfl))))
   have hmk:m=k+1:=by
    rcases Nat.lt_or_ge (k+1) m with h9|h9
    ·have:=hgo k h9;rw [hgk] at this;cases this
    ·omega
   exact zHO (vs:=[]) zi.nil s' (hmk ▸ hs') rfl hwb (fun W9 h=>zBA.2 (show Own wb.heap.size W9 (zCA c A ca (some ⟨bb,o,none⟩) cb C cc pl (some ⟨b2,o2,none⟩) cp g1 g2 g3 r (i:Int) ++ .all (Cx s')::[.oldx w wb.heap.size (feet (zCA c A ca (some ⟨bb,o,none⟩) cb C cc pl (some ⟨b2,o2,none⟩) cp g1 g2 g3 r (i:Int)++Cx s0))]) from h.sub (by (repeat constructor))))
  ·simp only [hgk] at hY
   have hmk:k+1<m:=by
    rcases hend with h9 | ⟨h9,h10⟩
    ·omega
    ·rcases Nat.lt_or_ge (k+1) m with h11|h11
     ·exact h11
     ·have:m - 1=k:=by omega
      rw [this,hgk] at h10;cases h10
   unfold zAz
   (repeat' (first|((with_reducible refine zF ?_);first|refine zE rfl rfl rfl ?_|refine zC rfl rfl rfl ?_|(refine zK rfl rfl rfl ?_;refine ⟨_,rfl,?_⟩)|refine za rfl rfl rfl ?_|(refine zQ rfl rfl rfl rfl rfl (fun h=>?_) (fun h=>?_)<;>(dsimp only [cmpP] at h;(try (exfalso;omega))))|(refine zE1 (D:=zCA c A ca (some ⟨bb,o,none⟩) cb C cc pl (some ⟨b2,o2,none⟩) cp g1 g2 g3 r (i:Int)) (L:=Cx s) (C:=Cx) (p:=I (k+1)) (go:=true) rfl rfl rfl rfl [.blk bt (zAz t),.oldx w wb.heap.size (feet (zCA c A ca (some ⟨bb,o,none⟩) cb C cc pl (some ⟨b2,o2,none⟩) cp g1 g2 g3 r (i:Int)++Cx s0))] (by (repeat constructor)) (fun _ W q=>hY W q.below (Own.append.1 (zBA.2 q.own)).1) ?_;rintro s' hs';simp only [zCA,zM,List.cons_append,List.nil_append];unfold zAz)|refine zV rfl rfl rfl rfl (fun _ _ q=>hL _ q.below (zA5 q.own (Below.refl _ _) rfl)) ?_|refine zAN rfl rfl rfl ?_|refine zCC rfl rfl rfl rfl (IntWalk.i64_in _ (by omega)) ?_|(refine zb rfl rfl rfl rfl rfl ?_;refine ⟨rfl,by first|decide|exact Nat.le_of_ble_eq_true rfl|(simp;omega),_,rfl,?_⟩)|(refine zj rfl rfl (fun b=>?_))|(refine zAl rfl rfl rfl ?_;refine ⟨_,rfl,?_⟩)|refine zIv rfl rfl rfl rfl ?_)|(with_reducible first|refine zH ?_|refine zB ?_|refine zD ?_|refine zA ?_|refine zT ?_|refine zP ?_)|((with_reducible refine zI ?_ ?_);(· exact rfl))|((with_reducible refine zG ?_ ?_);(· exact rfl))))
   (refine zBP (by kernel_rfl) (by kernel_rfl) (by kernel_rfl) ?_)
   (repeat' (first|((with_reducible refine zBr ?_);first|refine zn (zAi rfl rfl) rfl ?_|refine zn (zAG rfl rfl (by exact rfl)) rfl ?_|refine zn (zAr (I:=k) rfl rfl rfl (by omega) (by first|omega|(dsimp only;omega))) rfl ?_|(refine zKk rfl rfl rfl rfl (fun _ _ q=>hH _ q.below) (fun h=>?_) (fun h=>?_)))|(with_reducible refine zCZ ?_)))
   ·(repeat' (first|(with_reducible first|refine zA ?_)|((with_reducible refine zI ?_ ?_);(· exact rfl))))
    (refine Two.zA1 [] [] [] rfl (show ([]:List Nat).Nodup by decide) (fun _ h=>h) (by kernel_rfl) [[],[Z],[Y,Y],[Z,Y,Y],[Z,Z,Y,Y],[Z,Z,Z,Y,Y],[Z,Z,Z,Z,Y,Y],[Z,Z,Z,Z,Z,Y,Y],[Z,Z,Z,Z,Z,Z,Z,Z],[Y,Y,Y,Y,Y,Y,Y,Y,Y],[Z,Y,Y,Y,Y,Y,Y,Y,Y,Y],[Y,Y,Y,Y,Y,Y,Y,Y,Y,Y,Y],[Z,Y,Y,Y,Y,Y,Y,Y,Y,Y,Y,Y],[Z,Z,Y,Y,Y,Y,Y,Y,Y,Y,Y,Y,Y],[Z,Z,Z,Y,Y,Y,Y,Y,Y,Y,Y,Y,Y,Y],[Z,Z,Z,Z,Y,Y,Y,Y,Y,Y,Y,Y,Y,Y,Y],[Z,Z,Z,Z,Z,Y,Y,Y,Y,Y,Y,Y,Y,Y,Y,Y],[Z,Z,Z,Z,Z,Z,Z,Z,Y,Y,Y,Y,Y,Y,Y,Y,Y],[Z,Z,Z,Z,Z,Z,Z,Z,Z,Z,Z,Z,Z,Z,Z,Z,Z,Z],[Z,Z,Z,Z,Z,Z,Z,Z,Z,Z,Z,Z,Z,Z,Z,Z,Z,Z,Z]] (by kernel_rfl) (by kernel_rfl) (by kernel_rfl) (by kernel_rfl) (by kernel_rfl) ?_)
    (repeat' (first|(((with_reducible refine Two.zDQ ?_ ?_);(· exact rfl);refine ⟨_,fun G=>(by (try simp (decide:=true) only [Two.vis,Two.see,fltT,zAF,Nat.reduceAdd,Nat.reduceSub,if_true,if_false,List.set_cons_zero,List.set_cons_succ,List.set_nil,List.nil_append,List.cons_append]);rfl),?_⟩);first|refine Two.zm _ (fun _=>zAG rfl rfl (by exact rfl)) (fun _=>rfl) rfl (by intro G G' h;simp (decide:=true) only [h]) ?_|(refine Two.zAj rfl ?_;refine Two.zm _ (fun _=>zAU rfl rfl) (fun _=>rfl) rfl (by intro G G' h;simp (decide:=true) only [h]) ?_)|refine Two.zm _ (fun _=>zLR rfl rfl rfl (IntWalk.i64_in _ (by omega))) (fun _=>rfl) rfl (by intro G G' h;simp (decide:=true) only [h]) ?_|refine Two.zm _ (fun _=>zAg rfl rfl) (fun _=>rfl) rfl (by intro G G' h;simp (decide:=true) only [h]) ?_|refine Two.zm _ (fun _=>zD9 rfl rfl (by exact rfl)) (fun _=>rfl) rfl (by intro G G' h;simp (decide:=true) only [h]) ?_)|((with_reducible refine Two.zB3 ?_ ?_);(· exact rfl))))
    (intro G;simp only [regsT,zAF,Two.zBb,Two.ini,List.nil_append,List.cons_append])
    (repeat' (first|((with_reducible refine zF ?_);first|refine zE rfl rfl rfl ?_|refine zh rfl rfl rfl rfl (by omega) ?_|(refine zb rfl rfl rfl rfl rfl ?_;refine ⟨rfl,by first|decide|exact Nat.le_of_ble_eq_true rfl|(simp;omega),_,rfl,?_⟩))|(with_reducible first|refine zB ?_|refine zD ?_|refine zA ?_|refine zg ?_)))
    exact zf (k+1,s') ⟨by omega,hmk,hs'⟩ (by simp only;omega) (by (repeat first|exact lK1|refine zL rfl ?_)) (by
     dsimp only
     rw [e1]
     subst h
     simp only [layered,thinned,if_true,if_false,Bool.false_eq_true]
     (repeat constructor))
   ·(repeat' (first|((with_reducible refine zF ?_);first|refine zE rfl rfl rfl ?_|refine zh rfl rfl rfl rfl (by omega) ?_)|(with_reducible first|refine zB ?_|refine zD ?_|refine zA ?_|refine zT ?_|refine zg ?_)|((with_reducible refine zG ?_ ?_);(· exact rfl))))
    exact zf (k+1,s') ⟨by omega,hmk,hs'⟩ (by simp only;omega) (by (repeat first|exact lK1|refine zL rfl ?_)) (by
     dsimp only
     rw [e1]
     subst h
     simp only [layered,thinned,if_true,if_false,Bool.false_eq_true]
     (repeat constructor))
 ·obtain rfl:k=c.hours.length:=by omega
  (repeat' (first|((with_reducible refine zF ?_);first|(refine zQ rfl rfl rfl rfl rfl (fun h=>?_) (fun h=>?_)<;>(dsimp only [cmpP] at h;(try (exfalso;omega)))))|(with_reducible first|refine zH ?_|refine zB ?_|refine zD ?_|refine zA ?_|refine zk ?_|refine zR ?_|refine zW ?_)|((with_reducible refine zG ?_ ?_);(· exact rfl))))
  (refine Two.zA1 [] [] [] rfl (show ([]:List Nat).Nodup by decide) (fun _ h=>h) (by kernel_rfl) [[],[Y],[Z,Y],[Z,Z,Y],[Z,Z,Z,Y],[Z,Z,Z,Z,Y],[Z,Z,Z,Z,Z,Y],[Y,Y,Y,Y,Y,Y,Y],[Z,Z,Z,Z,Z,Z,Z,Z]] (by kernel_rfl) (by kernel_rfl) (by kernel_rfl) (by kernel_rfl) (by kernel_rfl) ?_)
  (repeat' (first|(((with_reducible refine Two.zDQ ?_ ?_);(· exact rfl);refine ⟨_,fun G=>(by (try simp (decide:=true) only [Two.vis,Two.see,fltT,zAF,Nat.reduceAdd,Nat.reduceSub,if_true,if_false,List.set_cons_zero,List.set_cons_succ,List.set_nil,List.nil_append,List.cons_append]);rfl),?_⟩);first|refine Two.zm _ (fun _=>zAi rfl rfl) (fun _=>rfl) rfl (by intro G G' h;simp (decide:=true) only [h]) ?_|refine Two.zm _ (fun _=>zAG rfl rfl (by exact rfl)) (fun _=>rfl) rfl (by intro G G' h;simp (decide:=true) only [h]) ?_|(refine Two.zAj rfl ?_;refine Two.zm _ (fun _=>zAU rfl rfl) (fun _=>rfl) rfl (by intro G G' h;simp (decide:=true) only [h]) ?_)|refine Two.zm _ (fun _=>zD8 rfl rfl) (fun _=>rfl) rfl (by intro G G' h;simp (decide:=true) only [h]) ?_|refine Two.zm _ (fun _=>zAg rfl rfl) (fun _=>rfl) rfl (by intro G G' h;simp (decide:=true) only [h]) ?_)|((with_reducible refine Two.zB3 ?_ ?_);(· exact rfl))))
  (intro G;simp only [regsT,zAF,Two.zBb,Two.ini,List.nil_append,List.cons_append])
  unfold zAz
  (repeat' (first|((with_reducible refine zF ?_);first|(refine zE1 (D:=zCA c A ca (some ⟨bb,o,none⟩) cb C cc pl (some ⟨b2,o2,none⟩) cp g1 g2 g3 r (i:Int)) (L:=Cx s) (C:=Cx) (p:=I (c.hours.length+1)) (go:=go c.hours.length) rfl rfl rfl rfl [.blk bt (zAz (thickN c pl z i c.hours.length)),.oldx w wb.heap.size (feet (zCA c A ca (some ⟨bb,o,none⟩) cb C cc pl (some ⟨b2,o2,none⟩) cp g1 g2 g3 r (i:Int)++Cx s0))] (by (repeat constructor)) (fun _ W q=>hY W q.below (Own.append.1 (zBA.2 q.own)).1) ?_;rintro s' hs';simp only [zCA,zM,List.cons_append,List.nil_append]))|(with_reducible first|refine zD ?_)))
  refine u_endG ?_
  have hmk:m=c.hours.length+1:=by omega
  exact zHO (vs:=[]) zi.nil s' (hmk ▸ hs') rfl hwb (fun W9 h=>zBA.2 (show Own wb.heap.size W9 (zCA c A ca (some ⟨bb,o,none⟩) cb C cc pl (some ⟨b2,o2,none⟩) cp g1 g2 g3 r (i:Int) ++ .all (Cx s')::[.oldx w wb.heap.size (feet (zCA c A ca (some ⟨bb,o,none⟩) cb C cc pl (some ⟨b2,o2,none⟩) cp g1 g2 g3 r (i:Int)++Cx s0))]) from h.sub (by (repeat constructor))))
def zB9 (c:Cov) (A:Option Addr) (ca:Nat) (B:Option Addr) (cb:Nat) (C:Option Addr) (cc:Nat) (pl:List Sli) (P:Option Addr) (cp g1 g2 g3 r:Nat) (i:Int):List Ent :=
 [.blk g1 [.pointer (some ⟨r,0,none⟩)],.blk g2 [.int .i64 i],.blk g3 [.slice P pl.length cp]]
set_option maxHeartbeats 4000000 in
theorem zOC (c:Cov) (A:Option Addr) (ca:Nat) (B:Option Addr) (cb:Nat) (C:Option Addr) (cc:Nat) (pl:List Sli) (P:Option Addr) (cp i g1 g2 g3 r:Nat) (z:Bed) (wb:World) (hr:InC wb r 0 (zM c A ca B cb C cc)) (h:zAe wb c A B C) (hs:Small c) (hf:zDo c) (hp:zBG wb P pl) (hrl:∀ s∈pl,s.xs.length≤20) (hpl:pl.length=c.hours.length) (hz:c.beds[i]?=some z) :
  Seq Tryz.prog 104 [.pointer (some ⟨g1,0,none⟩),.pointer (some ⟨g2,0,none⟩),.pointer (some ⟨g3,0,none⟩)] (zB9 c A ca B cb C cc pl P cp g1 g2 g3 r (i:Int)) zEy (zHG c pl z i) wb:=by
 intro ι l m I Cx go s0 w hwb hI0 hO hm hgo hend hround
 have h4:=hs.b;have h5:=hs.h
 have hb:=h.b;have hpp:=hp.p;have hh:=h.h
 have hzm:=List.mem_of_getElem? hz
 have hi:=(List.getElem?_eq_some_iff.1 hz).1
 have hlay:=hf.layer
 simp only [zBD] at hlay
 have hL:=fun W (hW:Below wb.heap.size wb W) j u (hu:c.hours[j]?=some u) (hr:InC W r 0 (zM c A ca B cb C cc))=>zFG c A ca B cb C cc r i j z u W hr (h.below hW) hs hf hz hu
 obtain ⟨bb,o,rfl,hblt,hc⟩:=hb.at_ hi
 have:InS wb bb o zAK 3 c.beds:=⟨hb⟩
 have:zAT c.beds i z:=⟨hz⟩
 have hh1:=hf.hours
 rw [zAC] at hh1
 obtain ⟨b2,o2,rfl,hblt2,hc2⟩:=hpp.at_ (show 0<pl.length by omega)
 have:InS wb b2 o2 zBF 1 pl:=⟨hpp⟩
 unfold vSp at hL
 rw [zEB] at hm hend
 have hround:=fun k s W (hk:k<m)=>hround k (k,thickN c pl z i k) s W hk (zGK (by omega))
 unfold zB9 zEy vSp at *
 unfold zM at *
 refine zHy (n:=83) hwb hO Tryz.func104 rfl rfl rfl ?_
 refine zEj (fun _ h=>zBA.1 h) ?_
 simp only [List.cons_append,List.nil_append]
 (repeat' (first|(with_reducible first|refine zH ?_)))
 (refine Two.zA1 [] [] [] rfl (show ([]:List Nat).Nodup by decide) (fun _ h=>h) (by kernel_rfl) [[],[Z],[Z,Z],[Z,Z,Z],[Z,Z,Z,Z],[Y,Y,Y,Y,Y],[Z,Z,Z,Z,Z,Z],[Z,Z,Z,Z,Z,Z,Z],[Z,Z,Z,Z,Z,Z,Z,Z],[Y,Y,Y,Y,Y,Y,Y,Y,Y],[Z,Z,Z,Z,Z,Z,Z,Z,Z,Z]] (by kernel_rfl) (by kernel_rfl) (by kernel_rfl) (by kernel_rfl) (by kernel_rfl) ?_)
 (repeat' (first|(((with_reducible refine Two.zDQ ?_ ?_);(· exact rfl);refine ⟨_,fun G=>(by (try simp (decide:=true) only [Two.vis,Two.see,fltT,zAF,Nat.reduceAdd,Nat.reduceSub,if_true,if_false,List.set_cons_zero,List.set_cons_succ,List.set_nil,List.nil_append,List.cons_append]);rfl),?_⟩);first|refine Two.zm _ (fun _=>zAG rfl rfl (by exact rfl)) (fun _=>rfl) rfl (by intro G G' h;simp (decide:=true) only [h]) ?_|(refine Two.zAj rfl ?_;refine Two.zm _ (fun _=>zAU rfl rfl) (fun _=>rfl) rfl (by intro G G' h;simp (decide:=true) only [h]) ?_)|refine Two.zm _ (fun _=>zAr (I:=i) rfl rfl rfl rfl (by omega)) (fun _=>rfl) rfl (by exact fun _ _ _=>rfl) ?_|refine Two.zm _ (fun _=>zAg rfl rfl) (fun _=>rfl) rfl (by intro G G' h;simp (decide:=true) only [h]) ?_|refine Two.zHX rfl (fun _=>rfl) rfl ?_)|((with_reducible refine Two.zB3 ?_ ?_);(· exact rfl))))
 (intro G;simp only [regsT,zAF,Two.zBb,Two.ini,List.nil_append,List.cons_append])
 (repeat' (first|((with_reducible refine zF ?_);first|refine zE rfl rfl rfl ?_|(refine zK rfl rfl rfl ?_;refine ⟨_,rfl,?_⟩)|refine za rfl rfl rfl ?_|refine zo rfl rfl rfl ?_|(refine zb rfl rfl rfl rfl rfl ?_;refine ⟨rfl,by first|decide|exact Nat.le_of_ble_eq_true rfl|(simp;omega),_,rfl,?_⟩)|refine zA6 rfl rfl rfl ?_)|(with_reducible first|refine zH ?_|refine zB ?_|refine zD ?_|refine zA ?_|refine zP ?_)))
 simp only [Nat.zero_add,Nat.reduceAdd]
 generalize (G 9).g=bt
 have hm0:0<m:=by omega
 refine zw (ι:=Nat × ι) [0,1,2,3,5,22] rfl (fun q=>q.1≤c.hours.length∧q.1<m∧I q.1 q.2) (fun q=>[(23,.int .i64 (q.1:Int))]) (fun q=>.blk bt (zAz (thickN c pl z i q.1))::(zB9 c A ca (some ⟨bb,o,none⟩) cb C cc pl (some ⟨b2,o2,none⟩) cp g1 g2 g3 r (i:Int)++[.all (Cx q.2),.oldx w wb.heap.size (feet (zB9 c A ca (some ⟨bb,o,none⟩) cb C cc pl (some ⟨b2,o2,none⟩) cp g1 g2 g3 r (i:Int)++Cx s0))])) (fun q=>c.hours.length - q.1) (0,s0) ⟨Nat.zero_le _,hm0,hI0⟩ (by (repeat first|exact lK1|refine zL rfl ?_)) (by (repeat constructor)) ?_
 rintro ⟨k,s⟩ ⟨hk,hkm,hIk⟩
 simp only at hk hkm hIk
 have hY:=fun W=>hround k s W hkm hIk
 clear hround
 simp only [zAt,zB9,zM,List.cons_append,List.nil_append]
 by_cases hlt:k<c.hours.length
 ·obtain ⟨u,hu⟩:∃ u,c.hours[k]?=some u:=⟨_,List.getElem?_eq_getElem (by omega)⟩
  obtain ⟨sl,hsk⟩:∃ s,pl[k]?=some s:=⟨_,List.getElem?_eq_getElem (by omega)⟩
  have hsm:=List.mem_of_getElem? hsk
  have hrow:=hp.rows sl hsm
  have hsl:=hrl sl hsm
  have hin:=zFz (pl:=pl) (i:=i) hf hzm k (by omega)
  have hlin:=zDv hf hzm (List.mem_of_getElem? hu)
  have e1:thickN c pl z i (k+1)=layered c (sl.xs.contains (i:Int)) (thinned (thickN c pl z i k) (zBh c z u)):=by simp only [thickN,zBB hu,zBB hsk]
  generalize thickN c pl z i k=t at *
  have hL:=fun W hW=>hL W hW k u hu
  generalize zBh c z u=lo at *
  obtain ⟨sA,xs,sc⟩:=sl
  simp only at hrow hsl e1
  have hH:=fun W (hW:Below wb.heap.size wb W)=>zGL xs (i:Int) sA sc W (hrow.below hW) (by omega)
  have:zAT pl k ⟨sA,xs,sc⟩:=⟨hsk⟩
  generalize xs.contains (i:Int)=on at *
  cases hgk:go k
  ·simp only [hgk] at hY
   unfold zAz
   (repeat' (first|((with_reducible refine zF ?_);first|refine zE rfl rfl rfl ?_|refine zC rfl rfl rfl ?_|(refine zK rfl rfl rfl ?_;refine ⟨_,rfl,?_⟩)|(refine zQ rfl rfl rfl rfl rfl (fun h=>?_) (fun h=>?_)<;>(dsimp only [cmpP] at h;(try (exfalso;omega))))|(refine zE1 (D:=zB9 c A ca (some ⟨bb,o,none⟩) cb C cc pl (some ⟨b2,o2,none⟩) cp g1 g2 g3 r (i:Int)) (L:=Cx s) (C:=Cx) (p:=I (k+1)) (go:=false) rfl rfl rfl rfl [.blk bt (zAz t),.oldx w wb.heap.size (feet (zB9 c A ca (some ⟨bb,o,none⟩) cb C cc pl (some ⟨b2,o2,none⟩) cp g1 g2 g3 r (i:Int)++Cx s0))] (by (repeat constructor)) (fun _ W q=>hY W q.below (Own.append.1 (zBA.2 q.own)).1) ?_;rintro s' hs';simp only [zB9,zM,List.cons_append,List.nil_append])|refine zAN rfl rfl rfl ?_)|(with_reducible first|refine zH ?_|refine zB ?_|refine zD ?_|refine zA ?_|refine zX ?_|refine zT ?_|refine zZ ?_|refine zP ?_|refine zAP ?_)|((with_reducible refine zI ?_ ?_);(· exact rfl))))
   have hmk:m=k+1:=by
    rcases Nat.lt_or_ge (k+1) m with h9|h9
    ·have:=hgo k h9;rw [hgk] at this;cases this
    ·omega
   exact zHO (vs:=[]) zi.nil s' (hmk ▸ hs') rfl hwb (fun W9 h=>zBA.2 (show Own wb.heap.size W9 (zB9 c A ca (some ⟨bb,o,none⟩) cb C cc pl (some ⟨b2,o2,none⟩) cp g1 g2 g3 r (i:Int) ++ .all (Cx s')::[.oldx w wb.heap.size (feet (zB9 c A ca (some ⟨bb,o,none⟩) cb C cc pl (some ⟨b2,o2,none⟩) cp g1 g2 g3 r (i:Int)++Cx s0))]) from h.sub (by (repeat constructor))))
  ·simp only [hgk] at hY
   have hmk:k+1<m:=by
    rcases hend with h9 | ⟨h9,h10⟩
    ·omega
    ·rcases Nat.lt_or_ge (k+1) m with h11|h11
     ·exact h11
     ·have:m - 1=k:=by omega
      rw [this,hgk] at h10;cases h10
   unfold zAz
   (repeat' (first|((with_reducible refine zF ?_);first|refine zE rfl rfl rfl ?_|refine zC rfl rfl rfl ?_|(refine zK rfl rfl rfl ?_;refine ⟨_,rfl,?_⟩)|refine za rfl rfl rfl ?_|(refine zQ rfl rfl rfl rfl rfl (fun h=>?_) (fun h=>?_)<;>(dsimp only [cmpP] at h;(try (exfalso;omega))))|(refine zE1 (D:=zB9 c A ca (some ⟨bb,o,none⟩) cb C cc pl (some ⟨b2,o2,none⟩) cp g1 g2 g3 r (i:Int)) (L:=Cx s) (C:=Cx) (p:=I (k+1)) (go:=true) rfl rfl rfl rfl [.blk bt (zAz t),.oldx w wb.heap.size (feet (zB9 c A ca (some ⟨bb,o,none⟩) cb C cc pl (some ⟨b2,o2,none⟩) cp g1 g2 g3 r (i:Int)++Cx s0))] (by (repeat constructor)) (fun _ W q=>hY W q.below (Own.append.1 (zBA.2 q.own)).1) ?_;rintro s' hs';simp only [zB9,zM,List.cons_append,List.nil_append];unfold zAz)|refine zV rfl rfl rfl rfl (fun _ _ q=>hL _ q.below (hr.below q.below)) ?_|refine zAN rfl rfl rfl ?_|refine zCC rfl rfl rfl rfl (IntWalk.i64_in _ (by omega)) ?_|(refine zb rfl rfl rfl rfl rfl ?_;refine ⟨rfl,by first|decide|exact Nat.le_of_ble_eq_true rfl|(simp;omega),_,rfl,?_⟩)|(refine zj rfl rfl (fun b=>?_))|(refine zAl rfl rfl rfl ?_;refine ⟨_,rfl,?_⟩)|refine zIv rfl rfl rfl rfl ?_)|(with_reducible first|refine zH ?_|refine zB ?_|refine zD ?_|refine zA ?_|refine zT ?_|refine zP ?_)|((with_reducible refine zI ?_ ?_);(· exact rfl))|((with_reducible refine zG ?_ ?_);(· exact rfl))))
   (refine zBP (by kernel_rfl) (by kernel_rfl) (by kernel_rfl) ?_)
   (repeat' (first|((with_reducible refine zBr ?_);first|refine zn (zAi rfl rfl) rfl ?_|refine zn (zAG rfl rfl (by exact rfl)) rfl ?_|refine zn (zAr (I:=k) rfl rfl rfl (by omega) (by first|omega|(dsimp only;omega))) rfl ?_|(refine zKk rfl rfl rfl rfl (fun _ _ q=>hH _ q.below) (fun h=>?_) (fun h=>?_)))|(with_reducible refine zCZ ?_)))
   ·(repeat' (first|(with_reducible first|refine zA ?_)|((with_reducible refine zI ?_ ?_);(· exact rfl))))
    (refine Two.zA1 [] [] [] rfl (show ([]:List Nat).Nodup by decide) (fun _ h=>h) (by kernel_rfl) [[],[Z],[Y,Y],[Z,Y,Y],[Z,Z,Y,Y],[Z,Z,Z,Y,Y],[Z,Z,Z,Z,Y,Y],[Z,Z,Z,Z,Z,Y,Y],[Z,Z,Z,Z,Z,Z,Z,Z],[Y,Y,Y,Y,Y,Y,Y,Y,Y],[Z,Y,Y,Y,Y,Y,Y,Y,Y,Y],[Y,Y,Y,Y,Y,Y,Y,Y,Y,Y,Y],[Z,Y,Y,Y,Y,Y,Y,Y,Y,Y,Y,Y],[Z,Z,Y,Y,Y,Y,Y,Y,Y,Y,Y,Y,Y],[Z,Z,Z,Y,Y,Y,Y,Y,Y,Y,Y,Y,Y,Y],[Z,Z,Z,Z,Y,Y,Y,Y,Y,Y,Y,Y,Y,Y,Y],[Z,Z,Z,Z,Z,Y,Y,Y,Y,Y,Y,Y,Y,Y,Y,Y],[Z,Z,Z,Z,Z,Z,Z,Z,Y,Y,Y,Y,Y,Y,Y,Y,Y],[Z,Z,Z,Z,Z,Z,Z,Z,Z,Z,Z,Z,Z,Z,Z,Z,Z,Z],[Z,Z,Z,Z,Z,Z,Z,Z,Z,Z,Z,Z,Z,Z,Z,Z,Z,Z,Z]] (by kernel_rfl) (by kernel_rfl) (by kernel_rfl) (by kernel_rfl) (by kernel_rfl) ?_)
    (repeat' (first|(((with_reducible refine Two.zDQ ?_ ?_);(· exact rfl);refine ⟨_,fun G=>(by (try simp (decide:=true) only [Two.vis,Two.see,fltT,zAF,Nat.reduceAdd,Nat.reduceSub,if_true,if_false,List.set_cons_zero,List.set_cons_succ,List.set_nil,List.nil_append,List.cons_append]);rfl),?_⟩);first|refine Two.zm _ (fun _=>zAG rfl rfl (by exact rfl)) (fun _=>rfl) rfl (by intro G G' h;simp (decide:=true) only [h]) ?_|(refine Two.zAj rfl ?_;refine Two.zm _ (fun _=>zAU rfl rfl) (fun _=>rfl) rfl (by intro G G' h;simp (decide:=true) only [h]) ?_)|refine Two.zm _ (fun _=>zLR rfl rfl rfl (IntWalk.i64_in _ (by omega))) (fun _=>rfl) rfl (by intro G G' h;simp (decide:=true) only [h]) ?_|refine Two.zm _ (fun _=>zAg rfl rfl) (fun _=>rfl) rfl (by intro G G' h;simp (decide:=true) only [h]) ?_|refine Two.zm _ (fun _=>zD9 rfl rfl (by exact rfl)) (fun _=>rfl) rfl (by intro G G' h;simp (decide:=true) only [h]) ?_)|((with_reducible refine Two.zB3 ?_ ?_);(· exact rfl))))
    (intro G;simp only [regsT,zAF,Two.zBb,Two.ini,List.nil_append,List.cons_append])
    (repeat' (first|((with_reducible refine zF ?_);first|refine zE rfl rfl rfl ?_|refine zh rfl rfl rfl rfl (by omega) ?_|(refine zb rfl rfl rfl rfl rfl ?_;refine ⟨rfl,by first|decide|exact Nat.le_of_ble_eq_true rfl|(simp;omega),_,rfl,?_⟩))|(with_reducible first|refine zB ?_|refine zD ?_|refine zA ?_|refine zg ?_)))
    exact zf (k+1,s') ⟨by omega,hmk,hs'⟩ (by simp only;omega) (by (repeat first|exact lK1|refine zL rfl ?_)) (by
     dsimp only
     rw [e1]
     subst h
     simp only [layered,thinned,if_true,if_false,Bool.false_eq_true]
     (repeat constructor))
   ·(repeat' (first|((with_reducible refine zF ?_);first|refine zE rfl rfl rfl ?_|refine zh rfl rfl rfl rfl (by omega) ?_)|(with_reducible first|refine zB ?_|refine zD ?_|refine zA ?_|refine zT ?_|refine zg ?_)|((with_reducible refine zG ?_ ?_);(· exact rfl))))
    exact zf (k+1,s') ⟨by omega,hmk,hs'⟩ (by simp only;omega) (by (repeat first|exact lK1|refine zL rfl ?_)) (by
     dsimp only
     rw [e1]
     subst h
     simp only [layered,thinned,if_true,if_false,Bool.false_eq_true]
     (repeat constructor))
 ·obtain rfl:k=c.hours.length:=by omega
  (repeat' (first|((with_reducible refine zF ?_);first|(refine zQ rfl rfl rfl rfl rfl (fun h=>?_) (fun h=>?_)<;>(dsimp only [cmpP] at h;(try (exfalso;omega)))))|(with_reducible first|refine zH ?_|refine zB ?_|refine zD ?_|refine zA ?_|refine zk ?_|refine zR ?_|refine zW ?_)|((with_reducible refine zG ?_ ?_);(· exact rfl))))
  (refine Two.zA1 [] [] [] rfl (show ([]:List Nat).Nodup by decide) (fun _ h=>h) (by kernel_rfl) [[],[Y],[Z,Y],[Z,Z,Y],[Z,Z,Z,Y],[Z,Z,Z,Z,Y],[Z,Z,Z,Z,Z,Y],[Y,Y,Y,Y,Y,Y,Y],[Z,Z,Z,Z,Z,Z,Z,Z]] (by kernel_rfl) (by kernel_rfl) (by kernel_rfl) (by kernel_rfl) (by kernel_rfl) ?_)
  (repeat' (first|(((with_reducible refine Two.zDQ ?_ ?_);(· exact rfl);refine ⟨_,fun G=>(by (try simp (decide:=true) only [Two.vis,Two.see,fltT,zAF,Nat.reduceAdd,Nat.reduceSub,if_true,if_false,List.set_cons_zero,List.set_cons_succ,List.set_nil,List.nil_append,List.cons_append]);rfl),?_⟩);first|refine Two.zm _ (fun _=>zAi rfl rfl) (fun _=>rfl) rfl (by intro G G' h;simp (decide:=true) only [h]) ?_|refine Two.zm _ (fun _=>zAG rfl rfl (by exact rfl)) (fun _=>rfl) rfl (by intro G G' h;simp (decide:=true) only [h]) ?_|(refine Two.zAj rfl ?_;refine Two.zm _ (fun _=>zAU rfl rfl) (fun _=>rfl) rfl (by intro G G' h;simp (decide:=true) only [h]) ?_)|refine Two.zm _ (fun _=>zD8 rfl rfl) (fun _=>rfl) rfl (by intro G G' h;simp (decide:=true) only [h]) ?_|refine Two.zm _ (fun _=>zAg rfl rfl) (fun _=>rfl) rfl (by intro G G' h;simp (decide:=true) only [h]) ?_)|((with_reducible refine Two.zB3 ?_ ?_);(· exact rfl))))
  (intro G;simp only [regsT,zAF,Two.zBb,Two.ini,List.nil_append,List.cons_append])
  unfold zAz
  (repeat' (first|((with_reducible refine zF ?_);first|(refine zE1 (D:=zB9 c A ca (some ⟨bb,o,none⟩) cb C cc pl (some ⟨b2,o2,none⟩) cp g1 g2 g3 r (i:Int)) (L:=Cx s) (C:=Cx) (p:=I (c.hours.length+1)) (go:=go c.hours.length) rfl rfl rfl rfl [.blk bt (zAz (thickN c pl z i c.hours.length)),.oldx w wb.heap.size (feet (zB9 c A ca (some ⟨bb,o,none⟩) cb C cc pl (some ⟨b2,o2,none⟩) cp g1 g2 g3 r (i:Int)++Cx s0))] (by (repeat constructor)) (fun _ W q=>hY W q.below (Own.append.1 (zBA.2 q.own)).1) ?_;rintro s' hs';simp only [zB9,zM,List.cons_append,List.nil_append]))|(with_reducible first|refine zD ?_)))
  refine u_endG ?_
  have hmk:m=c.hours.length+1:=by omega
  exact zHO (vs:=[]) zi.nil s' (hmk ▸ hs') rfl hwb (fun W9 h=>zBA.2 (show Own wb.heap.size W9 (zB9 c A ca (some ⟨bb,o,none⟩) cb C cc pl (some ⟨b2,o2,none⟩) cp g1 g2 g3 r (i:Int) ++ .all (Cx s')::[.oldx w wb.heap.size (feet (zB9 c A ca (some ⟨bb,o,none⟩) cb C cc pl (some ⟨b2,o2,none⟩) cp g1 g2 g3 r (i:Int)++Cx s0))]) from h.sub (by (repeat constructor))))
end Go.Proofs.YtdigopgncfhiaaaGreatDoor
