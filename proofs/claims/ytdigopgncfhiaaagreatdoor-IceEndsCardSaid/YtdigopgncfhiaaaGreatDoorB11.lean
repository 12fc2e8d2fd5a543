/- B11 -/
import Derived.Test.YtdigopgncfhiaaaGreatDoorB1
import Derived.Test.YtdigopgncfhiaaaGreatDoorB8
import Derived.Test.YtdigopgncfhiaaaGreatDoorB10
set_option linter.unusedSimpArgs false
set_option linter.unusedVariables false
namespace Go.Proofs.YtdigopgncfhiaaaGreatDoor
theorem zRg {p:Prop} (h:p:=by (exact zO.cons (by exact res1c rfl zRe) (zO.cons (by exact zn.tmp rfl) zO.nil))):p:=h
theorem zRd {p:Prop} (h:p:=by (exact zO.cons (by exact zn.tmp rfl) (zO.cons (by exact zn.tmp rfl) zO.nil))):p:=h
open Go.RowKit
set_option maxRecDepth 20000
def zCC (c:Cov) (pl:List Sli):Int:=if zAp c=0 then (if zA2 c pl then 0 else 21) else zAp c
theorem zFD (c:Cov) (A:Option Addr) (ca:Nat) (B:Option Addr) (cb:Nat) (C:Option Addr) (cc:Nat) (w:World) (h:zAl w c A B C) (hs:Small c) (he:zAp c≠0):Gv Tryz.prog 62 [zAQ c A ca B cb C cc] w (.tuple #[.pointer none,.int .i64 (zAp c)]):=by
 have hc:=fun W (hb:Below w.heap.size w W)=>zKI c A ca B cb C cc W (h.below hb) hs
 unfold zAQ zH at hc
 generalize zAp c=e at *
 unfold Gv zAQ zH
 (refine zM (n:=13) Tryz.func62 rfl rfl rfl ?_)
 (repeat' (first|((with_reducible refine zG ?_);first|refine zE rfl rfl rfl rfl rfl ?_|refine zC rfl rfl rfl rfl rfl ?_|(refine zK rfl rfl rfl rfl rfl ?_;refine ⟨_,rfl,?_⟩)|(refine zQ rfl rfl rfl rfl rfl rfl rfl (fun h=>?_) (fun h=>?_)<;>(dsimp only [cmpP] at h;(try (exfalso;omega))))|refine zV rfl rfl rfl rfl rfl rfl (fun _ _ q=>hc _ q.below) ?_|(refine zAI rfl rfl rfl rfl rfl rfl (fun b=>?_)))|(with_reducible first|refine zI ?_|refine zB ?_|refine zD ?_|refine zA ?_|refine za ?_|refine zb ?_)|((with_reducible refine zJ ?_ ?_);(· exact rfl))))
 all_goals exact zU zRd () trivial rfl (fun _ _=>Own.nil _ _)
theorem zDy (c:Cov) (A:Option Addr) (ca:Nat) (B:Option Addr) (cb:Nat) (C:Option Addr) (cc:Nat) (w:World) (h:zAl w c A B C) (hs:Small c) (he:zAp c=0):Ret Tryz.prog 62 [zAQ c A ca B cb C cc] w (fun g:Nat=>.tuple #[.pointer (some ⟨g,0,none⟩),.int .i64 0]) (fun g=>[.blk g (zH c A ca B cb C cc)]) (fun _=>True):=by
 have hc:=fun W (hb:Below w.heap.size w W)=>zKI c A ca B cb C cc W (h.below hb) hs
 unfold zAQ zH at hc
 rw [he] at hc
 unfold zAQ zH
 (refine zM (n:=13) Tryz.func62 rfl rfl rfl ?_)
 (repeat' (first|((with_reducible refine zG ?_);first|refine zE rfl rfl rfl rfl rfl ?_|refine zC rfl rfl rfl rfl rfl ?_|(refine zK rfl rfl rfl rfl rfl ?_;refine ⟨_,rfl,?_⟩)|(refine zQ rfl rfl rfl rfl rfl rfl rfl (fun h=>?_) (fun h=>?_)<;>(dsimp only [cmpP] at h;(try (exfalso;omega))))|refine zV rfl rfl rfl rfl rfl rfl (fun _ _ q=>hc _ q.below) ?_|(refine zAI rfl rfl rfl rfl rfl rfl (fun b=>?_))|(refine zBC rfl rfl rfl rfl rfl ?_;refine ⟨_,rfl,?_⟩))|(with_reducible first|refine zI ?_|refine zB ?_|refine zD ?_|refine zA ?_|refine za ?_|refine zP ?_)|((with_reducible refine zF ?_ ?_);(· exact rfl))))
 all_goals exact zU zRd _ trivial rfl (fun _ h=>h.sub zRQ)
theorem zFI (c:Cov) (A:Option Addr) (ca:Nat) (B:Option Addr) (cb:Nat) (C:Option Addr) (cc:Nat) (pl:List Sli) (P:Option Addr) (cp:Nat) (w:World) (h:zAl w c A B C) (hs:Small c) (hp:zBA w P pl) (hl:pl.length≤12) (hrl:∀ s∈pl,s.xs.length≤20) (he:zCC c pl≠0) :
  Gv Tryz.prog 56 [zAQ c A ca B cb C cc,.slice P pl.length cp] w (.tuple #[.pointer none,.int .i64 (zCC c pl)]):=by
 have h1:=fun W (hb:Below w.heap.size w W)=>zFD c A ca B cb C cc W (h.below hb) hs
 have h2:=fun W (hb:Below w.heap.size w W)=>zDy c A ca B cb C cc W (h.below hb) hs
 have h3:=fun W (hb:Below w.heap.size w W) g (hr:InC W g 0 (zH c A ca B cb C cc))=>zHt c A ca B cb C cc g pl P cp W hr (h.below hb) (hp.below hb) hs hl hrl
 unfold zAQ at h1 h2
 unfold Gv zAQ
 unfold zCC at he ⊢
 by_cases h0:zAp c=0
 ·rw [if_pos h0] at he ⊢
  have hpl:zA2 c pl=false:=by
   cases hq:zA2 c pl with
   | false=>rfl
   | true=>rw [hq] at he;exact absurd rfl he
  rw [hpl] at h3 ⊢
  unfold zH at h2 h3 ⊢
  (refine zM (n:=21) Tryz.func56 rfl rfl rfl ?_)
  (repeat' (first|((with_reducible refine zG ?_);first|refine zE rfl rfl rfl rfl rfl ?_|refine zC rfl rfl rfl rfl rfl ?_|(refine zK rfl rfl rfl rfl rfl ?_;refine ⟨_,rfl,?_⟩)|(refine zQ rfl rfl rfl rfl rfl rfl rfl (fun h=>?_) (fun h=>?_)<;>(dsimp only [cmpP] at h;(try (exfalso;omega))))|(refine zAV rfl rfl rfl rfl rfl rfl (fun _ _ q=>h2 _ q.below h0) ?_;rintro g -;dsimp only [List.cons_append,List.nil_append])|refine zV rfl rfl rfl rfl rfl rfl (fun _ _ q=>h3 _ q.below _ (zBf q.own (Below.refl _ _) rfl)) ?_|refine zj rfl rfl rfl rfl rfl rfl ?_|refine zAf rfl rfl rfl rfl rfl ?_|(refine zAI rfl rfl rfl rfl rfl rfl (fun b=>?_)))|(with_reducible first|refine zI ?_|refine zB ?_|refine zD ?_|refine zA ?_|refine za ?_|refine zP ?_|refine zb ?_)|((with_reducible refine zJ ?_ ?_);(· exact rfl))|((with_reducible refine zF ?_ ?_);(· exact rfl))))
  all_goals exact zU zRd () trivial rfl (fun _ _=>Own.nil _ _)
 ·rw [if_neg h0] at he ⊢
  unfold zH at h1 ⊢
  generalize zAp c=e at *
  (refine zM (n:=21) Tryz.func56 rfl rfl rfl ?_)
  (repeat' (first|((with_reducible refine zG ?_);first|refine zE rfl rfl rfl rfl rfl ?_|refine zC rfl rfl rfl rfl rfl ?_|(refine zK rfl rfl rfl rfl rfl ?_;refine ⟨_,rfl,?_⟩)|(refine zQ rfl rfl rfl rfl rfl rfl rfl (fun h=>?_) (fun h=>?_)<;>(dsimp only [cmpP] at h;(try (exfalso;omega))))|refine zV rfl rfl rfl rfl rfl rfl (fun _ _ q=>h1 _ q.below h0) ?_|refine zj rfl rfl rfl rfl rfl rfl ?_|(refine zAI rfl rfl rfl rfl rfl rfl (fun b=>?_)))|(with_reducible first|refine zI ?_|refine zB ?_|refine zD ?_|refine zA ?_|refine za ?_|refine zb ?_)|((with_reducible refine zJ ?_ ?_);(· exact rfl))))
  all_goals exact zU zRd () trivial rfl (fun _ _=>Own.nil _ _)
theorem zFH (c:Cov) (A:Option Addr) (ca:Nat) (B:Option Addr) (cb:Nat) (C:Option Addr) (cc:Nat) (pl:List Sli) (P:Option Addr) (cp:Nat) (w:World) (h:zAl w c A B C) (hs:Small c) (hp:zBA w P pl) (hl:pl.length≤12) (hrl:∀ s∈pl,s.xs.length≤20) (he:zAp c=0) (hpl:zA2 c pl=true) :
  Ret Tryz.prog 56 [zAQ c A ca B cb C cc,.slice P pl.length cp] w (fun g:Nat=>.tuple #[.pointer (some ⟨g,0,none⟩),.int .i64 0]) (fun g=>[.blk g (zH c A ca B cb C cc)]) (fun _=>True):=by
 have h2:=fun W (hb:Below w.heap.size w W)=>zDy c A ca B cb C cc W (h.below hb) hs he
 have h3:=fun W (hb:Below w.heap.size w W) g (hr:InC W g 0 (zH c A ca B cb C cc))=>zHt c A ca B cb C cc g pl P cp W hr (h.below hb) (hp.below hb) hs hl hrl
 unfold zAQ at h2 ⊢
 rw [hpl] at h3
 unfold zH at h2 h3 ⊢
 (refine zM (n:=21) Tryz.func56 rfl rfl rfl ?_)
 (repeat' (first|((with_reducible refine zG ?_);first|refine zE rfl rfl rfl rfl rfl ?_|refine zC rfl rfl rfl rfl rfl ?_|(refine zK rfl rfl rfl rfl rfl ?_;refine ⟨_,rfl,?_⟩)|(refine zQ rfl rfl rfl rfl rfl rfl rfl (fun h=>?_) (fun h=>?_)<;>(dsimp only [cmpP] at h;(try (exfalso;omega))))|(refine zAV rfl rfl rfl rfl rfl rfl (fun _ _ q=>h2 _ q.below) ?_;rintro g -;dsimp only [List.cons_append,List.nil_append])|refine zV rfl rfl rfl rfl rfl rfl (fun _ _ q=>h3 _ q.below _ (zBf q.own (Below.refl _ _) rfl)) ?_|refine zj rfl rfl rfl rfl rfl rfl ?_|refine zAf rfl rfl rfl rfl rfl ?_|(refine zAI rfl rfl rfl rfl rfl rfl (fun b=>?_)))|(with_reducible first|refine zI ?_|refine zB ?_|refine zD ?_|refine zA ?_|refine za ?_|refine zP ?_)|((with_reducible refine zF ?_ ?_);(· exact rfl))))
 all_goals exact zU zRd _ trivial rfl (fun _ h=>h.sub zRQ)
def zBB (c:Cov) (z:Bed) (u:Hour):Sp:=⟨z.sun * u.melt.lo+u.runs * c.wear.lo,z.sun * u.melt.hi+u.runs * c.wear.hi⟩
structure zBm (c:Cov):Prop where
 bed:∀ z∈c.beds,zCm z=true
 hour:∀ u∈c.hours,zBR u=true
 wear:zBp c.wear 0 20=true
 layer:zBp c.layer 1 100=true
 rate:inB 0 100 c.rate=true
 limit:inB 0 2000 c.limit=true
 base:inB 0 c.limit c.base=true
 beds:c.beds.length=c.t.length
 hours:inB 1 8 c.hours.length=true
theorem zAy {c:Cov} (h:zAp c=0):zBm c:=by
 unfold zAp at h
 by_cases hv:valid c.t=true
 ·rw [if_pos hv] at h
  by_cases hi:zET c=true
  ·obtain ⟨i1,i2,i3,i4,i5,i6,i7,i8,i9⟩:=zCt.1 hi
   exact ⟨fun z hz=>List.all_eq_true.1 i3 z hz,fun z hz=>List.all_eq_true.1 i4 z hz,i5,i6,i7,i8,i9,i1,i2⟩
  ·rw [if_neg hi] at h;cases h
 ·rw [if_neg hv] at h;cases h
theorem zGA {a b A B:Int} (h1:0≤a) (h2:a≤A) (h3:0≤b) (h4:b≤B):0≤a * b∧a * b≤A * B :=
 ⟨Int.mul_nonneg h1 h3,Int.le_trans (Int.mul_le_mul_of_nonneg_right h2 h3) (Int.mul_le_mul_of_nonneg_left h4 (Int.le_trans h1 h2))⟩
theorem zPo {c:Cov} {z:Bed} {u:Hour} (hf:zBm c) (hz:z∈c.beds) (hu:u∈c.hours) :
  (0≤z.sun * u.melt.lo∧z.sun * u.melt.lo≤450)∧(0≤z.sun * u.melt.hi∧z.sun * u.melt.hi≤450)∧(0≤u.runs * c.wear.lo∧u.runs * c.wear.lo≤1200)∧(0≤u.runs * c.wear.hi∧u.runs * c.wear.hi≤1200):=by
 have h1:=hf.bed z hz;have h2:=hf.hour u hu;have h3:=hf.wear
 simp only [zCm,zBR,Bool.and_eq_true,zAE,zx] at h1 h2 h3
 exact ⟨zGA (A:=9) (B:=50) zRU zRU zRU zRU,zGA (A:=9) (B:=50) zRU zRU zRU zRU,zGA (A:=60) (B:=20) zRU zRU zRU zRU,zGA (A:=60) (B:=20) zRU zRU zRU zRU⟩
theorem zFB {c:Cov} {z:Bed} {u:Hour} (hf:zBm c) (hz:z∈c.beds) (hu:u∈c.hours):0≤(zBB c z u).lo∧(zBB c z u).lo≤1650∧0≤(zBB c z u).hi∧(zBB c z u).hi≤1650:=by
 have:=zPo hf hz hu
 simp only [zBB];omega
set_option maxHeartbeats 2000000 in
theorem zFG (c:Cov) (A:Option Addr) (ca:Nat) (B:Option Addr) (cb:Nat) (C:Option Addr) (cc g i j:Nat) (z:Bed) (u:Hour) (w:World) (hr:InC w g 0 (zH c A ca B cb C cc)) (h:zAl w c A B C) (hs:Small c) (hf:zBm c) (hz:c.beds[i]?=some z) (hu:c.hours[j]?=some u) :
  Gv Tryz.prog 88 [.pointer (some ⟨g,0,none⟩),.int .i64 (i:Int),.int .i64 (j:Int)] w (vSp (zBB c z u)):=by
 have h4:=hs.b;have h5:=hs.h
 have hb:=h.b;have hh:=h.h
 have hzm:=List.mem_of_getElem? hz
 have hum:=List.mem_of_getElem? hu
 obtain ⟨⟨m1,m2⟩,⟨m3,m4⟩,⟨m5,m6⟩,m7,m8⟩:=zPo hf hzm hum
 have hi:=(List.getElem?_eq_some_iff.1 hz).1
 have hj:=(List.getElem?_eq_some_iff.1 hu).1
 obtain ⟨bb,o,rfl,hblt,hc⟩:=hb.at_ hi
 have:InS w bb o zAX 3 c.beds:=⟨hb⟩
 have:zAP c.beds i z:=⟨hz⟩
 obtain ⟨bc,oc,rfl,hblt2,hc2⟩:=hh.at_ hj
 have:InS w bc oc zw 5 c.hours:=⟨hh⟩
 have:zAP c.hours j u:=⟨hu⟩
 unfold zH at hr
 unfold Gv zBB vSp
 (refine zM (n:=57) Tryz.func88 rfl rfl rfl ?_)
 (repeat' (first|((with_reducible refine zG ?_);first|(refine zr rfl rfl rfl rfl (fun b=>?_)))|(with_reducible first|refine zI ?_|refine zB ?_|refine zD ?_|refine zA ?_)))
 (refine Two.zAc [] [] [] rfl (show ([]:List Nat).Nodup by decide) (fun _ h=>h) zRW [[],[I0],[I0,I0],[I0,I0,I0],[I0,I0,I0,I0],[O0,O0,O0,O0,O0],[I0,I0,I0,I0,I0,I0],[I0,I0,I0,I0,I0,I0,I0],[I0,I0,I0,I0,I0,I0,I0,I0],[O0,O0,O0,O0,O0,O0,O0,O0,O0],[I0,O0,O0,O0,O0,O0,O0,O0,O0,O0],[I0,I0,O0,O0,O0,O0,O0,O0,O0,O0,O0],[I0,I0,I0,O0,O0,O0,O0,O0,O0,O0,O0,O0],[I0,I0,I0,I0,O0,O0,O0,O0,O0,O0,O0,O0,O0],[O0,O0,O0,O0,O0,O0,O0,O0,O0,O0,O0,O0,O0,O0],[I0,I0,I0,I0,I0,I0,O0,O0,O0,O0,O0,O0,O0,O0,O0],[I0,I0,I0,I0,I0,I0,I0,O0,O0,O0,O0,O0,O0,O0,O0,O0],[O0,O0,O0,O0,O0,O0,O0,O0,O0,O0,O0,O0,O0,O0,O0,O0,O0],[I0,O0,O0,O0,O0,O0,O0,O0,O0,I0,I0,I0,I0,I0,I0,I0,I0,I0],[I0,I0,I0,I0,I0,I0,I0,I0,I0,I0,I0,I0,I0,I0,I0,I0,I0,I0,I0]] zRW zRW zRW zRW zRW ?_)
 (repeat' (first|(((with_reducible refine Two.zCT ?_ ?_);(· exact rfl);refine ⟨_,fun G=>zRa,?_⟩);first|refine Two.zX _ (fun _=>zAM rfl rfl) (fun _=>rfl) rfl zRR ?_|refine Two.zX _ (fun _=>zy rfl rfl zRe) (fun _=>rfl) rfl zRR ?_|(refine Two.zAU rfl ?_;refine Two.zX _ (fun _=>zAJ rfl rfl) (fun _=>rfl) rfl zRR ?_)|refine Two.zX _ (fun _=>zBe rfl rfl) (fun _=>rfl) rfl zRR ?_|refine Two.zX _ (fun _=>zAO (I:=i) rfl rfl rfl rfl zRU) (fun _=>rfl) rfl zRm ?_|refine Two.zX _ (fun _=>zAO (I:=j) rfl rfl rfl rfl zRU) (fun _=>rfl) rfl zRm ?_|refine Two.zX _ (fun _=>zAY rfl rfl) (fun _=>rfl) rfl zRR ?_|refine Two.zH4 rfl (fun _=>rfl) rfl ?_)|((with_reducible refine Two.zBU ?_ ?_);(· exact rfl))))
 (intro G;simp only [regsT,zAG,Two.zBZ,Two.ini,List.nil_append,List.cons_append])
 (repeat' (first|((with_reducible refine zG ?_);first|(refine zf rfl rfl rfl rfl rfl ?_;refine And.intro rfl (And.intro zRY ⟨_,rfl,?_⟩)))|(with_reducible first|refine zI ?_|refine zD ?_|refine zA ?_)))
 (refine Two.zAc [] [] [] rfl (show ([]:List Nat).Nodup by decide) (fun _ h=>h) zRW [[],[O0],[I0,O0],[I0,I0,O0],[I0,I0,I0,I0],[O0,O0,O0,O0,O0],[I0,O0,O0,O0,O0,O0],[O0,O0,O0,O0,O0,O0,O0],[I0,O0,O0,O0,O0,O0,O0,O0],[I0,I0,O0,O0,O0,O0,O0,O0,O0],[I0,I0,I0,O0,O0,O0,O0,O0,O0,O0],[I0,I0,I0,I0,O0,O0,O0,O0,O0,O0,O0],[I0,I0,I0,I0,I0,O0,O0,O0,O0,O0,O0,O0],[I0,I0,I0,I0,I0,I0,I0,I0,O0,O0,O0,O0,O0],[I0,I0,I0,I0,I0,I0,I0,I0,I0,I0,I0,I0,I0,I0],[O0,O0,O0,O0,O0,O0,O0,O0,O0,O0,O0,O0,O0,O0,O0],[O0,O0,O0,O0,O0,O0,O0,O0,O0,O0,O0,O0,O0,O0,O0,O0],[I0,O0,O0,O0,O0,O0,O0,O0,O0,O0,O0,O0,O0,O0,O0,O0,O0],[I0,I0,O0,O0,O0,O0,O0,O0,O0,O0,O0,O0,O0,O0,O0,O0,O0,O0],[I0,I0,I0,I0,O0,O0,O0,O0,O0,O0,O0,O0,O0,O0,O0,O0,O0,O0,O0],[O0,O0,O0,O0,O0,O0,O0,O0,O0,O0,O0,O0,O0,O0,O0,O0,O0,O0,O0,O0],[I0,O0,O0,O0,O0,O0,O0,O0,O0,O0,O0,O0,O0,O0,O0,O0,O0,O0,O0,O0,O0],[O0,O0,O0,O0,O0,O0,O0,O0,O0,O0,O0,O0,O0,O0,O0,O0,O0,O0,O0,O0,O0,O0],[I0,O0,O0,O0,O0,O0,O0,O0,O0,O0,O0,O0,O0,O0,O0,O0,O0,O0,O0,O0,O0,O0,O0],[I0,I0,O0,O0,O0,O0,O0,O0,O0,O0,O0,O0,O0,O0,O0,O0,O0,O0,O0,O0,O0,O0,O0,O0],[I0,I0,I0,O0,O0,O0,O0,O0,O0,O0,O0,O0,O0,O0,O0,O0,O0,O0,O0,O0,O0,O0,O0,O0,O0],[I0,I0,I0,I0,O0,O0,O0,O0,O0,O0,O0,O0,O0,O0,O0,O0,O0,O0,O0,O0,O0,O0,O0,O0,O0,O0],[I0,I0,I0,I0,I0,O0,O0,O0,O0,O0,O0,O0,O0,O0,O0,O0,O0,O0,O0,O0,O0,O0,O0,O0,O0,O0,O0],[I0,I0,I0,I0,I0,I0,I0,I0,O0,O0,O0,O0,O0,O0,O0,O0,O0,O0,O0,O0,O0,O0,O0,O0,O0,O0,O0,O0],[I0,I0,I0,I0,I0,I0,I0,I0,I0,I0,I0,I0,I0,I0,O0,O0,O0,O0,O0,O0,O0,O0,O0,O0,O0,O0,O0,O0,O0],[I0,I0,I0,I0,I0,I0,I0,I0,I0,I0,I0,I0,I0,I0,I0,I0,I0,I0,I0,I0,I0,I0,I0,I0,I0,I0,I0,I0,I0,I0],[I0,I0,I0,I0,I0,I0,I0,I0,I0,I0,I0,I0,I0,I0,I0,I0,I0,I0,I0,I0,I0,I0,I0,I0,I0,I0,I0,I0,I0,I0,I0]] zRW zRW zRW zRW zRW ?_)
 (repeat' (first|(((with_reducible refine Two.zCT ?_ ?_);(· exact rfl);refine ⟨_,fun G=>zRa,?_⟩);first|refine Two.zX _ (fun _=>zAM rfl rfl) (fun _=>rfl) rfl zRR ?_|refine Two.zX _ (fun _=>zy rfl rfl zRe) (fun _=>rfl) rfl zRR ?_|(refine Two.zAU rfl ?_;refine Two.zX _ (fun _=>zAJ rfl rfl) (fun _=>rfl) rfl zRR ?_)|refine Two.zX _ (fun _=>zDS rfl rfl rfl (IntWalk.i64_in _ zRU)) (fun _=>rfl) rfl zRR ?_|refine Two.zX _ (fun _=>zGM rfl rfl rfl (IntWalk.i64_in _ zRU)) (fun _=>rfl) rfl zRR ?_|refine Two.zX _ (fun _=>zAY rfl rfl) (fun _=>rfl) rfl zRR ?_|refine Two.zX _ (fun _=>zD1 rfl rfl zRe) (fun _=>rfl) rfl zRR ?_)|((with_reducible refine Two.zBU ?_ ?_);(· exact rfl))))
 (intro G;simp only [regsT,zAG,Two.zBZ,Two.ini,List.nil_append,List.cons_append])
 (repeat' (first|((with_reducible refine zG ?_);first|(refine zf rfl rfl rfl rfl rfl ?_;refine And.intro rfl (And.intro zRY ⟨_,rfl,?_⟩)))|(with_reducible first|refine zD ?_|refine zA ?_|refine za ?_)))
 exact zU zRo () trivial rfl (fun _ _=>Own.nil _ _)
end Go.Proofs.YtdigopgncfhiaaaGreatDoor
namespace Go.Proofs.YtdigopgncfhiaaaGreatDoor
open Go.RowKit
set_option maxRecDepth 20000
theorem InC.below {w W:World} {b off:Nat} {vs:List Value} (h:InC w b off vs) (hb:Below w.heap.size w W):InC W b off vs:=⟨fun j v hv=>by
 have h1:=h.cells j v hv
 rw [hb.cell (p:=⟨b,off+j,none⟩) (World.block_lt_of_cell? w _ h1)];exact h1⟩
def zNr (c:Cov) (i j:Int):Sp × Int :=
 if zAp c=0 then (if inB 0 ((c.beds.length:Int) - 1) i=true∧inB 0 ((c.hours.length:Int) - 1) j=true then (zBB c (c.beds.getD i.toNat default) (c.hours.getD j.toNat default),0) else (⟨0,0⟩,2)) else (⟨0,0⟩,zAp c)
theorem zJ5 {n:Nat} {i:Int} (h:inB 0 ((n:Int) - 1) i=true):∃ I:Nat,i=(I:Int)∧I<n:=by
 rw [zx] at h
 exact ⟨i.toNat,by omega,by omega⟩
set_option maxHeartbeats 2000000 in
theorem zQv (c:Cov) (A:Option Addr) (ca:Nat) (B:Option Addr) (cb:Nat) (C:Option Addr) (cc:Nat) (i j:Int) (w:World) (h:zAl w c A B C) (hs:Small c) :
  Gv Tryz.prog 43 [zAQ c A ca B cb C cc,.int .i64 i,.int .i64 j] w (.tuple #[vSp (zNr c i j).1,.int .i64 (zNr c i j).2]):=by
 have hl4:=hs.b;have hl5:=hs.h
 have h1:=fun W (hb:Below w.heap.size w W)=>zFD c A ca B cb C cc W (h.below hb) hs
 have h2:=fun W (hb:Below w.heap.size w W)=>zDy c A ca B cb C cc W (h.below hb) hs
 unfold zAQ at h1 h2
 unfold Gv zAQ zNr
 by_cases h0:zAp c=0
 ·rw [if_pos h0]
  have hf:=zAy h0
  by_cases hin:inB 0 ((c.beds.length:Int) - 1) i=true∧inB 0 ((c.hours.length:Int) - 1) j=true
  ·rw [if_pos hin]
   obtain ⟨I,rfl,hI⟩:=zJ5 hin.1
   obtain ⟨J,rfl,hJ⟩:=zJ5 hin.2
   obtain ⟨hi1,hi2⟩:=hin
   obtain ⟨z,hz⟩:∃ z,c.beds[I]?=some z:=⟨_,List.getElem?_eq_getElem hI⟩
   obtain ⟨u,hu⟩:∃ u,c.hours[J]?=some u:=⟨_,List.getElem?_eq_getElem hJ⟩
   have h3:=fun W (hb:Below w.heap.size w W) g (hr:InC W g 0 (zH c A ca B cb C cc))=>zFG c A ca B cb C cc g I J z u W hr (h.below hb) hs hf hz hu
   simp only [Int.toNat_natCast]
   rw [zAS hz,zAS hu]
   unfold vSp at h3
   unfold vSp
   unfold zH at h2 h3 ⊢
   (refine zM (n:=42) Tryz.func43 rfl rfl rfl ?_)
   (repeat' (first|((with_reducible refine zG ?_);first|refine zE rfl rfl rfl rfl rfl ?_|refine zC rfl rfl rfl rfl rfl ?_|(refine zK rfl rfl rfl rfl rfl ?_;refine ⟨_,rfl,?_⟩)|refine zd rfl rfl rfl rfl rfl ?_|refine zAg rfl rfl rfl rfl rfl rfl ?_|(refine zQ rfl rfl rfl rfl rfl rfl rfl (fun h=>?_) (fun h=>?_)<;>(dsimp only [cmpP] at h;(try (exfalso;omega))))|(refine zAV rfl rfl rfl rfl rfl rfl (fun _ _ q=>h2 _ q.below h0) ?_;rintro g -;dsimp only [List.cons_append,List.nil_append])|(refine zV rfl rfl rfl rfl rfl rfl (fun _ _ q=>hi1 ▸ iin1 _ _ _ _ _ _ (zAd (enc:=encI) zRe _ q.below q.own)) ?_)|(refine zV rfl rfl rfl rfl rfl rfl (fun _ _ q=>hi2 ▸ iin1 _ _ _ _ _ _ (zAd (enc:=encI) zRe _ q.below q.own)) ?_)|refine zV rfl rfl rfl rfl rfl rfl (fun _ _ q=>h3 _ q.below _ (zBf q.own (Below.refl _ _) rfl)) ?_|refine zj rfl rfl rfl rfl rfl rfl ?_|refine zAf rfl rfl rfl rfl rfl ?_|refine zCc rfl rfl rfl rfl rfl rfl (IntWalk.i64_in _ zRU) ?_|refine zp rfl rfl rfl rfl rfl ?_|(refine zf rfl rfl rfl rfl rfl ?_;refine And.intro rfl (And.intro zRY ⟨_,rfl,?_⟩))|(refine zr rfl rfl rfl rfl (fun b=>?_))|(refine zAI rfl rfl rfl rfl rfl rfl (fun b=>?_))|(refine zz rfl rfl rfl rfl rfl ?_;refine ⟨rfl,_,rfl,fun b=>?_⟩))|(with_reducible first|refine zI ?_|refine zB ?_|refine zD ?_|refine zA ?_|refine za ?_|refine zP ?_)|((with_reducible refine zF ?_ ?_);(· exact rfl))))
   all_goals exact zU zRg () trivial rfl (fun _ _=>Own.nil _ _)
  ·rw [if_neg hin]
   unfold vSp
   unfold zH at h2 ⊢
   (refine zM (n:=42) Tryz.func43 rfl rfl rfl ?_)
   (repeat' (first|((with_reducible refine zG ?_);first|refine zE rfl rfl rfl rfl rfl ?_|refine zC rfl rfl rfl rfl rfl ?_|(refine zK rfl rfl rfl rfl rfl ?_;refine ⟨_,rfl,?_⟩)|refine zd rfl rfl rfl rfl rfl ?_|refine zAg rfl rfl rfl rfl rfl rfl ?_|refine zAN rfl rfl rfl ?_|(refine zQ rfl rfl rfl rfl rfl rfl rfl (fun h=>?_) (fun h=>?_)<;>(dsimp only [cmpP] at h;(try (exfalso;omega))))|(refine zAV rfl rfl rfl rfl rfl rfl (fun _ _ q=>h2 _ q.below h0) ?_;rintro g -;dsimp only [List.cons_append,List.nil_append])|(refine zAe rfl rfl rfl rfl rfl rfl (fun _ _ q=>iin1 _ _ _ _ _ _ (zAd (enc:=encI) zRe _ q.below q.own)) (fun h=>?_) (fun h=>?_)<;>(try (exfalso;omega)))|refine zj rfl rfl rfl rfl rfl rfl ?_|refine zAf rfl rfl rfl rfl rfl ?_|refine zCc rfl rfl rfl rfl rfl rfl (IntWalk.i64_in _ zRU) ?_|refine zp rfl rfl rfl rfl rfl ?_|(refine zf rfl rfl rfl rfl rfl ?_;refine And.intro rfl (And.intro zRY ⟨_,rfl,?_⟩))|(refine zr rfl rfl rfl rfl (fun b=>?_))|(refine zAI rfl rfl rfl rfl rfl rfl (fun b=>?_))|(refine zBC rfl rfl rfl rfl rfl ?_;refine ⟨_,rfl,?_⟩)|(refine zz rfl rfl rfl rfl rfl ?_;refine ⟨rfl,_,rfl,fun b=>?_⟩))|(with_reducible first|refine zI ?_|refine zB ?_|refine zD ?_|refine zA ?_|refine za ?_|refine zP ?_|refine zb ?_)|((with_reducible refine zJ ?_ ?_);(· exact rfl))|((with_reducible refine zF ?_ ?_);(· exact rfl))))
   all_goals first|exact zU zRg () trivial rfl (fun _ _=>Own.nil _ _)|(exfalso;exact hin ⟨by assumption,by assumption⟩)
 ·rw [if_neg h0]
  unfold vSp
  unfold zH at h1 ⊢
  generalize zAp c=e at *
  (refine zM (n:=42) Tryz.func43 rfl rfl rfl ?_)
  (repeat' (first|((with_reducible refine zG ?_);first|refine zE rfl rfl rfl rfl rfl ?_|refine zC rfl rfl rfl rfl rfl ?_|(refine zK rfl rfl rfl rfl rfl ?_;refine ⟨_,rfl,?_⟩)|(refine zQ rfl rfl rfl rfl rfl rfl rfl (fun h=>?_) (fun h=>?_)<;>(dsimp only [cmpP] at h;(try (exfalso;omega))))|refine zV rfl rfl rfl rfl rfl rfl (fun _ _ q=>h1 _ q.below h0) ?_|refine zj rfl rfl rfl rfl rfl rfl ?_|(refine zf rfl rfl rfl rfl rfl ?_;refine And.intro rfl (And.intro zRY ⟨_,rfl,?_⟩))|(refine zr rfl rfl rfl rfl (fun b=>?_))|(refine zAI rfl rfl rfl rfl rfl rfl (fun b=>?_))|(refine zBC rfl rfl rfl rfl rfl ?_;refine ⟨_,rfl,?_⟩))|(with_reducible first|refine zI ?_|refine zB ?_|refine zD ?_|refine zA ?_|refine za ?_|refine zb ?_)|((with_reducible refine zJ ?_ ?_);(· exact rfl))))
  all_goals exact zU zRg () trivial rfl (fun _ _=>Own.nil _ _)
theorem has_step {l:List Int} {n:Int} {i:Nat} {x:Int} (hx:l[i]?=some x) (hne:¬ n=x) (h:∀ j y,j<i→l[j]?=some y→¬ n=y):∀ j y,j<i+1→l[j]?=some y→¬ n=y:=by
 intro j y hj hy
 by_cases e:j=i
 ·subst e;rw [hx] at hy;cases hy;exact hne
 ·exact h j y zRU hy
theorem has_no {l:List Int} {n:Int} (h:∀ j y,j<l.length→l[j]?=some y→¬ n=y):l.contains n=false:=by
 rw [← Bool.not_eq_true,List.contains_iff_mem]
 intro hm
 obtain ⟨j,hj⟩:=List.mem_iff_getElem?.1 hm
 exact h j n (List.getElem?_eq_some_iff.1 hj).1 hj rfl
theorem has_yes {l:List Int} {n x:Int} {i:Nat} (hx:l[i]?=some x) (e:n=x):l.contains n=true:=by
 rw [List.contains_iff_mem,e];exact List.mem_of_getElem? hx
set_option maxHeartbeats 1000000 in
theorem zJo (l:List Int) (n:Int) (A:Option Addr) (c:Nat) (w:World) (h:zAB encI 1 w A l) (hl:l.length≤1000000):Gv Tryz.prog 30 [.slice A l.length c,.int .i64 n] w (.bool (l.contains n)):=by
 unfold Gv
 (refine zM (n:=18) Tryz.func30 rfl rfl rfl ?_)
 (repeat' (first|((with_reducible refine zG ?_);first|refine zC rfl rfl rfl rfl rfl ?_)|(with_reducible first|refine zI ?_|refine zB ?_|refine zD ?_|refine zA ?_|refine zN ?_)))
 refine zq (ι:=Nat) [0,1] rfl (fun i=>i≤l.length∧∀ j y,j<i→l[j]?=some y→¬ n=y) (fun i=>[(5,.int .i64 (i:Int))]) (fun _=>[]) (fun i=>l.length - i) 0 ⟨Nat.zero_le _,fun j z h=>by omega⟩ zRS zRQ ?_
 rintro i ⟨hi,hall⟩
 simp only [zAn,List.cons_append,List.nil_append]
 by_cases hlt:i<l.length
 ·obtain ⟨x,hx⟩:∃ x,l[i]?=some x:=⟨_,List.getElem?_eq_getElem hlt⟩
  obtain ⟨bb,o,rfl,hblt,hc⟩:=h.at_ hlt
  have:InS w bb o encI 1 l:=⟨h⟩
  have:zAP l i x:=⟨hx⟩
  (repeat' (first|((with_reducible refine zG ?_);first|refine zE rfl rfl rfl rfl rfl ?_|refine zC rfl rfl rfl rfl rfl ?_|(refine zK rfl rfl rfl rfl rfl ?_;refine ⟨_,rfl,?_⟩)|(refine zQ rfl rfl rfl rfl rfl rfl rfl (fun h=>?_) (fun h=>?_)<;>(dsimp only [cmpP] at h;(try (exfalso;omega))))|refine zg rfl rfl rfl rfl rfl rfl zRU ?_|refine ze rfl rfl rfl rfl rfl rfl rfl zRU ?_|refine zp rfl rfl rfl rfl rfl ?_)|(with_reducible first|refine zI ?_|refine zB ?_|refine zD ?_|refine zA ?_|refine za ?_|refine zP ?_|refine zb ?_|refine zN ?_|refine zi ?_|refine zAv ?_)|((with_reducible refine zJ ?_ ?_);(· exact rfl))|((with_reducible refine zF ?_ ?_);(· exact rfl))))
  all_goals first|exact zU zRZ () trivial (by rw [has_yes hx zRU];rfl) (fun _ h=>h.sub zRQ)|exact zc (i+1) ⟨by omega,has_step hx zRU hall⟩ zRU zRS zRQ
 ·obtain rfl:i=l.length:=by omega
  (repeat' (first|((with_reducible refine zG ?_);first|refine zE rfl rfl rfl rfl rfl ?_|refine zC rfl rfl rfl rfl rfl ?_|(refine zQ rfl rfl rfl rfl rfl rfl rfl (fun h=>?_) (fun h=>?_)<;>(dsimp only [cmpP] at h;(try (exfalso;omega))))|refine zp rfl rfl rfl rfl rfl ?_)|(with_reducible first|refine zI ?_|refine zB ?_|refine zD ?_|refine zA ?_|refine za ?_|refine zk ?_|refine zR ?_|refine zY ?_)|((with_reducible refine zF ?_ ?_);(· exact rfl))))
  exact zU zRZ () trivial (by rw [has_no hall];rfl) (fun _ h=>h.sub zRQ)
set_option maxHeartbeats 1000000 in
theorem zQp (l:List Int) (n:Int) (A:Option Addr) (c:Nat) (w:World) (h:zAB encI 1 w A l) (hl:l.length≤1000000):Gv Tryz.prog 133 [.slice A l.length c,.int .i64 n] w (.int .i64 (zDZ (fun y=>decide (n=y)) l)):=by
 unfold Gv
 (refine zM (n:=19) Tryz.func133 rfl rfl rfl ?_)
 (repeat' (first|((with_reducible refine zG ?_);first|refine zE rfl rfl rfl rfl rfl ?_|refine zC rfl rfl rfl rfl rfl ?_|refine zp rfl rfl rfl rfl rfl ?_)|(with_reducible first|refine zI ?_|refine zB ?_|refine zD ?_|refine zA ?_|refine zN ?_)))
 refine zq (ι:=Nat) [0,1,7] rfl (fun i=>i≤l.length∧∀ j y,j<i→l[j]?=some y→decide (n=y)=false) (fun i=>[(8,.int .i64 (i:Int))]) (fun _=>[]) (fun i=>l.length - i) 0 ⟨Nat.zero_le _,fun j z h=>by omega⟩ zRS zRQ ?_
 rintro i ⟨hi,hall⟩
 simp only [zAn,List.cons_append,List.nil_append]
 by_cases hlt:i<l.length
 ·obtain ⟨x,hx⟩:∃ x,l[i]?=some x:=⟨_,List.getElem?_eq_getElem hlt⟩
  obtain ⟨bb,o,rfl,hblt,hc⟩:=h.at_ hlt
  have:InS w bb o encI 1 l:=⟨h⟩
  have:zAP l i x:=⟨hx⟩
  (repeat' (first|((with_reducible refine zG ?_);first|refine zE rfl rfl rfl rfl rfl ?_|refine zC rfl rfl rfl rfl rfl ?_|(refine zK rfl rfl rfl rfl rfl ?_;refine ⟨_,rfl,?_⟩)|(refine zQ rfl rfl rfl rfl rfl rfl rfl (fun h=>?_) (fun h=>?_)<;>(dsimp only [cmpP] at h;(try (exfalso;omega))))|refine zg rfl rfl rfl rfl rfl rfl zRU ?_|refine ze rfl rfl rfl rfl rfl rfl rfl zRU ?_)|(with_reducible first|refine zI ?_|refine zB ?_|refine zD ?_|refine zA ?_|refine za ?_|refine zP ?_|refine zb ?_|refine zN ?_|refine zi ?_|refine zAv ?_)|((with_reducible refine zJ ?_ ?_);(· exact rfl))|((with_reducible refine zF ?_ ?_);(· exact rfl))))
  ·exact zU zRZ () trivial (by rw [zFN hlt (by rw [List.getElem?_eq_getElem hlt] at hx;cases hx;simp;omega) hall];rfl) (fun _ h=>h.sub zRQ)
  ·exact zc (i+1) ⟨by omega,fun j y hj hy=>by
    by_cases e:j=i
    ·subst e;rw [hx] at hy;cases hy;simp;omega
    ·exact hall j y zRU hy⟩ zRU zRS zRQ
 ·obtain rfl:i=l.length:=by omega
  (repeat' (first|((with_reducible refine zG ?_);first|refine zC rfl rfl rfl rfl rfl ?_|(refine zQ rfl rfl rfl rfl rfl rfl rfl (fun h=>?_) (fun h=>?_)<;>(dsimp only [cmpP] at h;(try (exfalso;omega)))))|(with_reducible first|refine zI ?_|refine zB ?_|refine zD ?_|refine zA ?_|refine za ?_|refine zk ?_|refine zR ?_|refine zY ?_)|((with_reducible refine zF ?_ ?_);(· exact rfl))))
  exact zU zRZ () trivial (by rw [zEW (fun y hy=>by obtain ⟨j,hj⟩:=List.mem_iff_getElem?.1 hy;exact hall j y (List.getElem?_eq_some_iff.1 hj).1 hj)];rfl) (fun _ h=>h.sub zRQ)
theorem zQ6 {l:List Int} {n:Int}:(0≤zDZ (fun y=>decide (n=y)) l)↔l.contains n=true:=by
 rw [List.contains_iff_mem]
 unfold zDZ
 cases hf:l.findIdx? (fun y=>decide (n=y)) with
 | none =>
  rw [List.findIdx?_eq_none_iff] at hf
  simp only
  constructor
  ·intro h;omega
  ·intro h;have:=hf n h;simp at this
 | some k =>
  obtain ⟨hk,hp,_⟩:=List.findIdx?_eq_some_iff_getElem.1 hf
  simp only
  constructor
  ·intro _
   simp only [decide_eq_true_eq] at hp
   rw [hp];exact List.getElem_mem hk
  ·intro _;omega
theorem zH0 (l:List Int) (n:Int) (A:Option Addr) (c:Nat) (w:World) (h:zAB encI 1 w A l) (hl:l.length≤1000000):Gv Tryz.prog 105 [.slice A l.length c,.int .i64 n] w (.bool (l.contains n)):=by
 have h1:=fun W (hb:Below w.heap.size w W)=>zQp l n A c W (h.below hb) hl
 have h2:=zQ6 (l:=l) (n:=n)
 generalize zDZ (fun y=>decide (n=y)) l=m at *
 unfold Gv
 (refine zM (n:=9) Tryz.func105 rfl rfl rfl ?_)
 (repeat' (first|((with_reducible refine zG ?_);first|refine zE rfl rfl rfl rfl rfl ?_|refine zC rfl rfl rfl rfl rfl ?_|(refine zQ rfl rfl rfl rfl rfl rfl rfl (fun h=>?_) (fun h=>?_)<;>(dsimp only [cmpP] at h;(try (exfalso;omega))))|refine zV rfl rfl rfl rfl rfl rfl (fun _ _ q=>h1 _ q.below) ?_)|(with_reducible first|refine zI ?_|refine zB ?_|refine zD ?_|refine zA ?_|refine za ?_)))
 ·exact zU zRZ () trivial (by rw [h2.1 zRU];rfl) (fun _ h=>h.sub zRQ)
 ·exact zU zRZ () trivial (by rw [show l.contains n=false from by cases e:l.contains n with|false=>rfl|true=>(have:=h2.2 e;omega)];rfl) (fun _ h=>h.sub zRQ)
end Go.Proofs.YtdigopgncfhiaaaGreatDoor
namespace Go.Proofs.YtdigopgncfhiaaaGreatDoor
open Go.RowKit
set_option maxRecDepth 20000
def thinned (t l:Sp):Sp:=⟨max 0 (t.lo - l.hi),max 0 (t.hi - l.lo)⟩
def layered (c:Cov) (on:Bool) (t:Sp):Sp:=if on then ⟨t.lo+c.layer.lo,t.hi+c.layer.hi⟩ else t
def thickN (c:Cov) (pl:List Sli) (z:Bed) (i:Int):Nat→Sp
 | 0=>z.thick
 | h+1=>layered c ((pl.getD h default).xs.contains i) (thinned (thickN c pl z i h) (zBB c z (c.hours.getD h default)))
theorem zF1 {c:Cov} {pl:List Sli} {z:Bed} {i:Int} (hf:zBm c) (hz:z∈c.beds):∀ h,h≤c.hours.length→0≤(thickN c pl z i h).lo∧(thickN c pl z i h).lo≤2000+100 * h∧0≤(thickN c pl z i h).hi∧(thickN c pl z i h).hi≤2000+100 * h
 | 0,_=>by
  have:=hf.bed z hz
  simp only [zCm,Bool.and_eq_true,zAE] at this
  simp only [thickN];omega
 | h+1,hl=>by
  have ih:=zF1 (pl:=pl) (i:=i) hf hz h zRU
  obtain ⟨u,hu⟩:∃ u,c.hours[h]?=some u:=⟨_,List.getElem?_eq_getElem zRU⟩
  have l4:=zFB hf hz (List.mem_of_getElem? hu)
  have hl:=hf.layer
  simp only [zAE] at hl
  simp only [thickN,zAS hu,layered,thinned]
  split<;>simp only<;>omega
end Go.Proofs.YtdigopgncfhiaaaGreatDoor
