/- C11 -/
import Derived.Test.YtdigopgncfhiaaaGreatDoorC10
set_option linter.unusedSimpArgs false
set_option linter.unusedVariables false
namespace Go.Proofs.YtdigopgncfhiaaaGreatDoor
open Go.RowKit
set_option maxRecDepth 20000
def zCG (c:Cov) (pl:List Sli):Int:=if zAr c=0 then (if zAz c pl then 0 else 21) else zAr c
theorem zFZ (c:Cov) (A:Option Addr) (ca:Nat) (B:Option Addr) (cb:Nat) (C:Option Addr) (cc:Nat) (w:World) (h:zAU w c A B C) (hs:Small c) (he:zAr c≠0):Gv Tryz.prog 62 [zAI c A ca B cb C cc] w (.tuple #[.pointer none,.int .i64 (zAr c)]):=by
 have hc:=fun W (hb:Below w.heap.size w W)=>zKm c A ca B cb C cc W (h.below hb) hs
 unfold zAI zH at hc
 generalize zAr c=e at *
 unfold Gv zAI zH
 (refine zM (n:=13) Tryz.func62 rfl rfl rfl ?_)
 (repeat' (first|((with_reducible refine zG ?_);first|refine zE rfl rfl rfl rfl rfl ?_|refine zC rfl rfl rfl rfl rfl ?_|(refine zK rfl rfl rfl rfl rfl ?_;refine ⟨_,rfl,?_⟩)|(refine zQ rfl rfl rfl rfl rfl rfl rfl (fun h=>?_) (fun h=>?_)<;>(dsimp only [cmpP] at h;(try (exfalso;omega))))|refine zS rfl rfl rfl rfl rfl rfl (fun _ _ q=>hc _ q.below) ?_|(refine zAM rfl rfl rfl rfl rfl rfl (fun b=>?_)))|(with_reducible first|refine zI ?_|refine zB ?_|refine zD ?_|refine zA ?_|refine zb ?_|refine zd ?_)|((with_reducible refine zJ ?_ ?_);(· exact rfl))))
 all_goals exact zT (by (exact zO.cons (by exact zq.tmp rfl) (zO.cons (by exact zq.tmp rfl) zO.nil))) () trivial rfl (fun _ _=>Own.nil _ _)
theorem zEB (c:Cov) (A:Option Addr) (ca:Nat) (B:Option Addr) (cb:Nat) (C:Option Addr) (cc:Nat) (w:World) (h:zAU w c A B C) (hs:Small c) (he:zAr c=0):Ret Tryz.prog 62 [zAI c A ca B cb C cc] w (fun g:Nat=>.tuple #[.pointer (some ⟨g,0,none⟩),.int .i64 0]) (fun g=>[.blk g (zH c A ca B cb C cc)]) (fun _=>True):=by
 have hc:=fun W (hb:Below w.heap.size w W)=>zKm c A ca B cb C cc W (h.below hb) hs
 unfold zAI zH at hc
 rw [he] at hc
 unfold zAI zH
 (refine zM (n:=13) Tryz.func62 rfl rfl rfl ?_)
 (repeat' (first|((with_reducible refine zG ?_);first|refine zE rfl rfl rfl rfl rfl ?_|refine zC rfl rfl rfl rfl rfl ?_|(refine zK rfl rfl rfl rfl rfl ?_;refine ⟨_,rfl,?_⟩)|(refine zQ rfl rfl rfl rfl rfl rfl rfl (fun h=>?_) (fun h=>?_)<;>(dsimp only [cmpP] at h;(try (exfalso;omega))))|refine zS rfl rfl rfl rfl rfl rfl (fun _ _ q=>hc _ q.below) ?_|(refine zAM rfl rfl rfl rfl rfl rfl (fun b=>?_))|(refine zBA rfl rfl rfl rfl rfl ?_;refine ⟨_,rfl,?_⟩))|(with_reducible first|refine zI ?_|refine zB ?_|refine zD ?_|refine zA ?_|refine zb ?_|refine zP ?_)|((with_reducible refine zF ?_ ?_);(· exact rfl))))
 all_goals exact zT (by (exact zO.cons (by exact zq.tmp rfl) (zO.cons (by exact zq.tmp rfl) zO.nil))) _ trivial rfl (fun _ h=>h.sub (by (repeat (first|exact oK1 _|(refine oK2 (by (repeat (first|exact tK1 _ _|apply tK2))) ?_)))))
theorem zFe (c:Cov) (A:Option Addr) (ca:Nat) (B:Option Addr) (cb:Nat) (C:Option Addr) (cc:Nat) (pl:List Sli) (P:Option Addr) (cp:Nat) (w:World) (h:zAU w c A B C) (hs:Small c) (hp:zAu w P pl) (hl:pl.length≤12) (hrl:∀ s∈pl,s.xs.length≤20) (he:zCG c pl≠0) :
  Gv Tryz.prog 56 [zAI c A ca B cb C cc,.slice P pl.length cp] w (.tuple #[.pointer none,.int .i64 (zCG c pl)]):=by
 have h1:=fun W (hb:Below w.heap.size w W)=>zFZ c A ca B cb C cc W (h.below hb) hs
 have h2:=fun W (hb:Below w.heap.size w W)=>zEB c A ca B cb C cc W (h.below hb) hs
 have h3:=fun W (hb:Below w.heap.size w W) g (hr:InC W g 0 (zH c A ca B cb C cc))=>zIG c A ca B cb C cc g pl P cp W hr (h.below hb) (hp.below hb) hs hl hrl
 unfold zAI at h1 h2
 unfold Gv zAI
 unfold zCG at he ⊢
 by_cases h0:zAr c=0
 ·rw [if_pos h0] at he ⊢
  have hpl:zAz c pl=false:=by
   cases hq:zAz c pl with
   | false=>rfl
   | true=>rw [hq] at he;exact absurd rfl he
  rw [hpl] at h3 ⊢
  unfold zH at h2 h3 ⊢
  (refine zM (n:=21) Tryz.func56 rfl rfl rfl ?_)
  (repeat' (first|((with_reducible refine zG ?_);first|refine zE rfl rfl rfl rfl rfl ?_|refine zC rfl rfl rfl rfl rfl ?_|(refine zK rfl rfl rfl rfl rfl ?_;refine ⟨_,rfl,?_⟩)|(refine zQ rfl rfl rfl rfl rfl rfl rfl (fun h=>?_) (fun h=>?_)<;>(dsimp only [cmpP] at h;(try (exfalso;omega))))|(refine zAG rfl rfl rfl rfl rfl rfl (fun _ _ q=>h2 _ q.below h0) ?_;rintro g -;dsimp only [List.cons_append,List.nil_append])|refine zS rfl rfl rfl rfl rfl rfl (fun _ _ q=>h3 _ q.below _ (zBi q.own (Below.refl _ _) rfl)) ?_|refine zg rfl rfl rfl rfl rfl rfl ?_|refine zAh rfl rfl rfl rfl rfl ?_|(refine zAM rfl rfl rfl rfl rfl rfl (fun b=>?_)))|(with_reducible first|refine zI ?_|refine zB ?_|refine zD ?_|refine zA ?_|refine zb ?_|refine zP ?_|refine zd ?_)|((with_reducible refine zJ ?_ ?_);(· exact rfl))|((with_reducible refine zF ?_ ?_);(· exact rfl))))
  all_goals exact zT (by (exact zO.cons (by exact zq.tmp rfl) (zO.cons (by exact zq.tmp rfl) zO.nil))) () trivial rfl (fun _ _=>Own.nil _ _)
 ·rw [if_neg h0] at he ⊢
  unfold zH at h1 ⊢
  generalize zAr c=e at *
  (refine zM (n:=21) Tryz.func56 rfl rfl rfl ?_)
  (repeat' (first|((with_reducible refine zG ?_);first|refine zE rfl rfl rfl rfl rfl ?_|refine zC rfl rfl rfl rfl rfl ?_|(refine zK rfl rfl rfl rfl rfl ?_;refine ⟨_,rfl,?_⟩)|(refine zQ rfl rfl rfl rfl rfl rfl rfl (fun h=>?_) (fun h=>?_)<;>(dsimp only [cmpP] at h;(try (exfalso;omega))))|refine zS rfl rfl rfl rfl rfl rfl (fun _ _ q=>h1 _ q.below h0) ?_|refine zg rfl rfl rfl rfl rfl rfl ?_|(refine zAM rfl rfl rfl rfl rfl rfl (fun b=>?_)))|(with_reducible first|refine zI ?_|refine zB ?_|refine zD ?_|refine zA ?_|refine zb ?_|refine zd ?_)|((with_reducible refine zJ ?_ ?_);(· exact rfl))))
  all_goals exact zT (by (exact zO.cons (by exact zq.tmp rfl) (zO.cons (by exact zq.tmp rfl) zO.nil))) () trivial rfl (fun _ _=>Own.nil _ _)
theorem zFd (c:Cov) (A:Option Addr) (ca:Nat) (B:Option Addr) (cb:Nat) (C:Option Addr) (cc:Nat) (pl:List Sli) (P:Option Addr) (cp:Nat) (w:World) (h:zAU w c A B C) (hs:Small c) (hp:zAu w P pl) (hl:pl.length≤12) (hrl:∀ s∈pl,s.xs.length≤20) (he:zAr c=0) (hpl:zAz c pl=true) :
  Ret Tryz.prog 56 [zAI c A ca B cb C cc,.slice P pl.length cp] w (fun g:Nat=>.tuple #[.pointer (some ⟨g,0,none⟩),.int .i64 0]) (fun g=>[.blk g (zH c A ca B cb C cc)]) (fun _=>True):=by
 have h2:=fun W (hb:Below w.heap.size w W)=>zEB c A ca B cb C cc W (h.below hb) hs he
 have h3:=fun W (hb:Below w.heap.size w W) g (hr:InC W g 0 (zH c A ca B cb C cc))=>zIG c A ca B cb C cc g pl P cp W hr (h.below hb) (hp.below hb) hs hl hrl
 unfold zAI at h2 ⊢
 rw [hpl] at h3
 unfold zH at h2 h3 ⊢
 (refine zM (n:=21) Tryz.func56 rfl rfl rfl ?_)
 (repeat' (first|((with_reducible refine zG ?_);first|refine zE rfl rfl rfl rfl rfl ?_|refine zC rfl rfl rfl rfl rfl ?_|(refine zK rfl rfl rfl rfl rfl ?_;refine ⟨_,rfl,?_⟩)|(refine zQ rfl rfl rfl rfl rfl rfl rfl (fun h=>?_) (fun h=>?_)<;>(dsimp only [cmpP] at h;(try (exfalso;omega))))|(refine zAG rfl rfl rfl rfl rfl rfl (fun _ _ q=>h2 _ q.below) ?_;rintro g -;dsimp only [List.cons_append,List.nil_append])|refine zS rfl rfl rfl rfl rfl rfl (fun _ _ q=>h3 _ q.below _ (zBi q.own (Below.refl _ _) rfl)) ?_|refine zg rfl rfl rfl rfl rfl rfl ?_|refine zAh rfl rfl rfl rfl rfl ?_|(refine zAM rfl rfl rfl rfl rfl rfl (fun b=>?_)))|(with_reducible first|refine zI ?_|refine zB ?_|refine zD ?_|refine zA ?_|refine zb ?_|refine zP ?_)|((with_reducible refine zF ?_ ?_);(· exact rfl))))
 all_goals exact zT (by (exact zO.cons (by exact zq.tmp rfl) (zO.cons (by exact zq.tmp rfl) zO.nil))) _ trivial rfl (fun _ h=>h.sub (by (repeat (first|exact oK1 _|(refine oK2 (by (repeat (first|exact tK1 _ _|apply tK2))) ?_)))))
def zBF (c:Cov) (z:Bed) (u:Hour):Sp:=⟨z.sun * u.melt.lo+u.runs * c.wear.lo,z.sun * u.melt.hi+u.runs * c.wear.hi⟩
structure zBl (c:Cov):Prop where
 bed:∀ z∈c.beds,zC0 z=true
 hour:∀ u∈c.hours,zBX u=true
 wear:zBu c.wear 0 20=true
 layer:zBu c.layer 1 100=true
 rate:inB 0 100 c.rate=true
 limit:inB 0 2000 c.limit=true
 base:inB 0 c.limit c.base=true
 beds:c.beds.length=c.t.length
 hours:inB 1 8 c.hours.length=true
theorem zA1 {c:Cov} (h:zAr c=0):zBl c:=by
 unfold zAr at h
 by_cases hv:valid c.t=true
 ·rw [if_pos hv] at h
  by_cases hi:zEM c=true
  ·obtain ⟨i1,i2,i3,i4,i5,i6,i7,i8,i9⟩:=zCg.1 hi
   exact ⟨fun z hz=>List.all_eq_true.1 i3 z hz,fun z hz=>List.all_eq_true.1 i4 z hz,i5,i6,i7,i8,i9,i1,i2⟩
  ·rw [if_neg hi] at h;cases h
 ·rw [if_neg hv] at h;cases h
theorem zGV {a b A B:Int} (h1:0≤a) (h2:a≤A) (h3:0≤b) (h4:b≤B):0≤a * b∧a * b≤A * B :=
 ⟨Int.mul_nonneg h1 h3,Int.le_trans (Int.mul_le_mul_of_nonneg_right h2 h3) (Int.mul_le_mul_of_nonneg_left h4 (Int.le_trans h1 h2))⟩
theorem zQc {c:Cov} {z:Bed} {u:Hour} (hf:zBl c) (hz:z∈c.beds) (hu:u∈c.hours) :
  (0≤z.sun * u.melt.lo∧z.sun * u.melt.lo≤450)∧(0≤z.sun * u.melt.hi∧z.sun * u.melt.hi≤450)∧(0≤u.runs * c.wear.lo∧u.runs * c.wear.lo≤1200)∧(0≤u.runs * c.wear.hi∧u.runs * c.wear.hi≤1200):=by
 have h1:=hf.bed z hz;have h2:=hf.hour u hu;have h3:=hf.wear
 simp only [zC0,zBX,Bool.and_eq_true,zAF,zAA] at h1 h2 h3
 exact ⟨zGV (A:=9) (B:=50) (by omega) (by omega) (by omega) (by omega),zGV (A:=9) (B:=50) (by omega) (by omega) (by omega) (by omega),zGV (A:=60) (B:=20) (by omega) (by omega) (by omega) (by omega),zGV (A:=60) (B:=20) (by omega) (by omega) (by omega) (by omega)⟩
theorem zFX {c:Cov} {z:Bed} {u:Hour} (hf:zBl c) (hz:z∈c.beds) (hu:u∈c.hours):0≤(zBF c z u).lo∧(zBF c z u).lo≤1650∧0≤(zBF c z u).hi∧(zBF c z u).hi≤1650:=by
 have:=zQc hf hz hu
 simp only [zBF];omega
set_option maxHeartbeats 2000000 in
theorem zFc (c:Cov) (A:Option Addr) (ca:Nat) (B:Option Addr) (cb:Nat) (C:Option Addr) (cc g i j:Nat) (z:Bed) (u:Hour) (w:World) (hr:InC w g 0 (zH c A ca B cb C cc)) (h:zAU w c A B C) (hs:Small c) (hf:zBl c) (hz:c.beds[i]?=some z) (hu:c.hours[j]?=some u) :
  Gv Tryz.prog 88 [.pointer (some ⟨g,0,none⟩),.int .i64 (i:Int),.int .i64 (j:Int)] w (vSp (zBF c z u)):=by
 have h4:=hs.b;have h5:=hs.h
 have hb:=h.b;have hh:=h.h
 have hzm:=List.mem_of_getElem? hz
 have hum:=List.mem_of_getElem? hu
 obtain ⟨⟨m1,m2⟩,⟨m3,m4⟩,⟨m5,m6⟩,m7,m8⟩:=zQc hf hzm hum
 have hi:=(List.getElem?_eq_some_iff.1 hz).1
 have hj:=(List.getElem?_eq_some_iff.1 hu).1
 obtain ⟨bb,o,rfl,hblt,hc⟩:=hb.at_ hi
 have:InS w bb o zAJ 3 c.beds:=⟨hb⟩
 have:zAR c.beds i z:=⟨hz⟩
 obtain ⟨bc,oc,rfl,hblt2,hc2⟩:=hh.at_ hj
 have:InS w bc oc zp 5 c.hours:=⟨hh⟩
 have:zAR c.hours j u:=⟨hu⟩
 unfold zH at hr
 unfold Gv zBF vSp
 (refine zM (n:=57) Tryz.func88 rfl rfl rfl ?_)
 (repeat' (first|((with_reducible refine zG ?_);first|(refine zo rfl rfl rfl rfl (fun b=>?_)))|(with_reducible first|refine zI ?_|refine zB ?_|refine zD ?_|refine zA ?_)))
 (refine Two.zAd [] [] [] rfl (show ([]:List Nat).Nodup by decide) (fun _ h=>h) (by kernel_rfl) [[],[Z],[Z,Z],[Z,Z,Z],[Z,Z,Z,Z],[Y,Y,Y,Y,Y],[Z,Z,Z,Z,Z,Z],[Z,Z,Z,Z,Z,Z,Z],[Z,Z,Z,Z,Z,Z,Z,Z],[Y,Y,Y,Y,Y,Y,Y,Y,Y],[Z,Y,Y,Y,Y,Y,Y,Y,Y,Y],[Z,Z,Y,Y,Y,Y,Y,Y,Y,Y,Y],[Z,Z,Z,Y,Y,Y,Y,Y,Y,Y,Y,Y],[Z,Z,Z,Z,Y,Y,Y,Y,Y,Y,Y,Y,Y],[Y,Y,Y,Y,Y,Y,Y,Y,Y,Y,Y,Y,Y,Y],[Z,Z,Z,Z,Z,Z,Y,Y,Y,Y,Y,Y,Y,Y,Y],[Z,Z,Z,Z,Z,Z,Z,Y,Y,Y,Y,Y,Y,Y,Y,Y],[Y,Y,Y,Y,Y,Y,Y,Y,Y,Y,Y,Y,Y,Y,Y,Y,Y],[Z,Y,Y,Y,Y,Y,Y,Y,Y,Z,Z,Z,Z,Z,Z,Z,Z,Z],[Z,Z,Z,Z,Z,Z,Z,Z,Z,Z,Z,Z,Z,Z,Z,Z,Z,Z,Z]] (by kernel_rfl) (by kernel_rfl) (by kernel_rfl) (by kernel_rfl) (by kernel_rfl) ?_)
 (repeat' (first|(((with_reducible refine Two.zCJ ?_ ?_);(· exact rfl);refine ⟨_,fun G=>(by (try simp (decide:=true) only [Two.vis,Two.see,fltT,zAD,Nat.reduceAdd,Nat.reduceSub,if_true,if_false,List.set_cons_zero,List.set_cons_succ,List.set_nil,List.nil_append,List.cons_append]);rfl),?_⟩);first|refine Two.zX _ (fun _=>zAK rfl rfl) (fun _=>rfl) rfl (by first|exact fun _ _ _=>rfl|(intro G G' h;simp (decide:=true) only [h])) ?_|refine Two.zX _ (fun _=>zy rfl rfl (by exact rfl)) (fun _=>rfl) rfl (by first|exact fun _ _ _=>rfl|(intro G G' h;simp (decide:=true) only [h])) ?_|(refine Two.zAb rfl ?_;refine Two.zX _ (fun _=>zAO rfl rfl) (fun _=>rfl) rfl (by first|exact fun _ _ _=>rfl|(intro G G' h;simp (decide:=true) only [h])) ?_)|refine Two.zX _ (fun _=>zBK rfl rfl) (fun _=>rfl) rfl (by first|exact fun _ _ _=>rfl|(intro G G' h;simp (decide:=true) only [h])) ?_|refine Two.zX _ (fun _=>zAS (I:=i) rfl rfl rfl rfl (by omega)) (fun _=>rfl) rfl (by exact fun _ _ _=>rfl) ?_|refine Two.zX _ (fun _=>zAS (I:=j) rfl rfl rfl rfl (by omega)) (fun _=>rfl) rfl (by exact fun _ _ _=>rfl) ?_|refine Two.zX _ (fun _=>zAi rfl rfl) (fun _=>rfl) rfl (by first|exact fun _ _ _=>rfl|(intro G G' h;simp (decide:=true) only [h])) ?_|refine Two.zGC rfl (fun _=>rfl) rfl ?_)|((with_reducible refine Two.zBa ?_ ?_);(· exact rfl))))
 (intro G;simp only [regsT,zAD,Two.zBU,Two.ini,List.nil_append,List.cons_append])
 (repeat' (first|((with_reducible refine zG ?_);first|(refine zf rfl rfl rfl rfl rfl ?_;refine And.intro rfl (And.intro (by first|decide|exact Nat.le_of_ble_eq_true rfl|(simp;omega)) ⟨_,rfl,?_⟩)))|(with_reducible first|refine zI ?_|refine zD ?_|refine zA ?_)))
 (refine Two.zAd [] [] [] rfl (show ([]:List Nat).Nodup by decide) (fun _ h=>h) (by kernel_rfl) [[],[Y],[Z,Y],[Z,Z,Y],[Z,Z,Z,Z],[Y,Y,Y,Y,Y],[Z,Y,Y,Y,Y,Y],[Y,Y,Y,Y,Y,Y,Y],[Z,Y,Y,Y,Y,Y,Y,Y],[Z,Z,Y,Y,Y,Y,Y,Y,Y],[Z,Z,Z,Y,Y,Y,Y,Y,Y,Y],[Z,Z,Z,Z,Y,Y,Y,Y,Y,Y,Y],[Z,Z,Z,Z,Z,Y,Y,Y,Y,Y,Y,Y],[Z,Z,Z,Z,Z,Z,Z,Z,Y,Y,Y,Y,Y],[Z,Z,Z,Z,Z,Z,Z,Z,Z,Z,Z,Z,Z,Z],[Y,Y,Y,Y,Y,Y,Y,Y,Y,Y,Y,Y,Y,Y,Y],[Y,Y,Y,Y,Y,Y,Y,Y,Y,Y,Y,Y,Y,Y,Y,Y],[Z,Y,Y,Y,Y,Y,Y,Y,Y,Y,Y,Y,Y,Y,Y,Y,Y],[Z,Z,Y,Y,Y,Y,Y,Y,Y,Y,Y,Y,Y,Y,Y,Y,Y,Y],[Z,Z,Z,Z,Y,Y,Y,Y,Y,Y,Y,Y,Y,Y,Y,Y,Y,Y,Y],[Y,Y,Y,Y,Y,Y,Y,Y,Y,Y,Y,Y,Y,Y,Y,Y,Y,Y,Y,Y],[Z,Y,Y,Y,Y,Y,Y,Y,Y,Y,Y,Y,Y,Y,Y,Y,Y,Y,Y,Y,Y],[Y,Y,Y,Y,Y,Y,Y,Y,Y,Y,Y,Y,Y,Y,Y,Y,Y,Y,Y,Y,Y,Y],[Z,Y,Y,Y,Y,Y,Y,Y,Y,Y,Y,Y,Y,Y,Y,Y,Y,Y,Y,Y,Y,Y,Y],[Z,Z,Y,Y,Y,Y,Y,Y,Y,Y,Y,Y,Y,Y,Y,Y,Y,Y,Y,Y,Y,Y,Y,Y],[Z,Z,Z,Y,Y,Y,Y,Y,Y,Y,Y,Y,Y,Y,Y,Y,Y,Y,Y,Y,Y,Y,Y,Y,Y],[Z,Z,Z,Z,Y,Y,Y,Y,Y,Y,Y,Y,Y,Y,Y,Y,Y,Y,Y,Y,Y,Y,Y,Y,Y,Y],[Z,Z,Z,Z,Z,Y,Y,Y,Y,Y,Y,Y,Y,Y,Y,Y,Y,Y,Y,Y,Y,Y,Y,Y,Y,Y,Y],[Z,Z,Z,Z,Z,Z,Z,Z,Y,Y,Y,Y,Y,Y,Y,Y,Y,Y,Y,Y,Y,Y,Y,Y,Y,Y,Y,Y],[Z,Z,Z,Z,Z,Z,Z,Z,Z,Z,Z,Z,Z,Z,Y,Y,Y,Y,Y,Y,Y,Y,Y,Y,Y,Y,Y,Y,Y],[Z,Z,Z,Z,Z,Z,Z,Z,Z,Z,Z,Z,Z,Z,Z,Z,Z,Z,Z,Z,Z,Z,Z,Z,Z,Z,Z,Z,Z,Z],[Z,Z,Z,Z,Z,Z,Z,Z,Z,Z,Z,Z,Z,Z,Z,Z,Z,Z,Z,Z,Z,Z,Z,Z,Z,Z,Z,Z,Z,Z,Z]] (by kernel_rfl) (by kernel_rfl) (by kernel_rfl) (by kernel_rfl) (by kernel_rfl) ?_)
 (repeat' (first|(((with_reducible refine Two.zCJ ?_ ?_);(· exact rfl);refine ⟨_,fun G=>(by (try simp (decide:=true) only [Two.vis,Two.see,fltT,zAD,Nat.reduceAdd,Nat.reduceSub,if_true,if_false,List.set_cons_zero,List.set_cons_succ,List.set_nil,List.nil_append,List.cons_append]);rfl),?_⟩);first|refine Two.zX _ (fun _=>zAK rfl rfl) (fun _=>rfl) rfl (by first|exact fun _ _ _=>rfl|(intro G G' h;simp (decide:=true) only [h])) ?_|refine Two.zX _ (fun _=>zy rfl rfl (by exact rfl)) (fun _=>rfl) rfl (by first|exact fun _ _ _=>rfl|(intro G G' h;simp (decide:=true) only [h])) ?_|(refine Two.zAb rfl ?_;refine Two.zX _ (fun _=>zAO rfl rfl) (fun _=>rfl) rfl (by first|exact fun _ _ _=>rfl|(intro G G' h;simp (decide:=true) only [h])) ?_)|refine Two.zX _ (fun _=>zDg rfl rfl rfl (IntWalk.i64_in _ (by omega))) (fun _=>rfl) rfl (by first|exact fun _ _ _=>rfl|(intro G G' h;simp (decide:=true) only [h])) ?_|refine Two.zX _ (fun _=>zGg rfl rfl rfl (IntWalk.i64_in _ (by omega))) (fun _=>rfl) rfl (by first|exact fun _ _ _=>rfl|(intro G G' h;simp (decide:=true) only [h])) ?_|refine Two.zX _ (fun _=>zAi rfl rfl) (fun _=>rfl) rfl (by first|exact fun _ _ _=>rfl|(intro G G' h;simp (decide:=true) only [h])) ?_|refine Two.zX _ (fun _=>zEE rfl rfl (by exact rfl)) (fun _=>rfl) rfl (by first|exact fun _ _ _=>rfl|(intro G G' h;simp (decide:=true) only [h])) ?_)|((with_reducible refine Two.zBa ?_ ?_);(· exact rfl))))
 (intro G;simp only [regsT,zAD,Two.zBU,Two.ini,List.nil_append,List.cons_append])
 (repeat' (first|((with_reducible refine zG ?_);first|(refine zf rfl rfl rfl rfl rfl ?_;refine And.intro rfl (And.intro (by first|decide|exact Nat.le_of_ble_eq_true rfl|(simp;omega)) ⟨_,rfl,?_⟩)))|(with_reducible first|refine zD ?_|refine zA ?_|refine zb ?_)))
 exact zT (by (exact zO.cons (by exact res1c rfl (by exact rfl)) zO.nil)) () trivial rfl (fun _ _=>Own.nil _ _)
end Go.Proofs.YtdigopgncfhiaaaGreatDoor
namespace Go.Proofs.YtdigopgncfhiaaaGreatDoor
open Go.RowKit
set_option maxRecDepth 20000
theorem InC.below {w W:World} {b off:Nat} {vs:List Value} (h:InC w b off vs) (hb:Below w.heap.size w W):InC W b off vs:=⟨fun j v hv=>by
 have h1:=h.cells j v hv
 rw [hb.cell (p:=⟨b,off+j,none⟩) (World.block_lt_of_cell? w _ h1)];exact h1⟩
def zL9 (c:Cov) (i j:Int):Sp × Int :=
 if zAr c=0 then (if inB 0 ((c.beds.length:Int) - 1) i=true∧inB 0 ((c.hours.length:Int) - 1) j=true then (zBF c (c.beds.getD i.toNat default) (c.hours.getD j.toNat default),0) else (⟨0,0⟩,2)) else (⟨0,0⟩,zAr c)
theorem zKX {n:Nat} {i:Int} (h:inB 0 ((n:Int) - 1) i=true):∃ I:Nat,i=(I:Int)∧I<n:=by
 rw [zAA] at h
 exact ⟨i.toNat,by omega,by omega⟩
set_option maxHeartbeats 2000000 in
theorem zMK (c:Cov) (A:Option Addr) (ca:Nat) (B:Option Addr) (cb:Nat) (C:Option Addr) (cc:Nat) (i j:Int) (w:World) (h:zAU w c A B C) (hs:Small c) :
  Gv Tryz.prog 43 [zAI c A ca B cb C cc,.int .i64 i,.int .i64 j] w (.tuple #[vSp (zL9 c i j).1,.int .i64 (zL9 c i j).2]):=by
 have hl4:=hs.b;have hl5:=hs.h
 have h1:=fun W (hb:Below w.heap.size w W)=>zFZ c A ca B cb C cc W (h.below hb) hs
 have h2:=fun W (hb:Below w.heap.size w W)=>zEB c A ca B cb C cc W (h.below hb) hs
 unfold zAI at h1 h2
 unfold Gv zAI zL9
 by_cases h0:zAr c=0
 ·rw [if_pos h0]
  have hf:=zA1 h0
  by_cases hin:inB 0 ((c.beds.length:Int) - 1) i=true∧inB 0 ((c.hours.length:Int) - 1) j=true
  ·rw [if_pos hin]
   obtain ⟨I,rfl,hI⟩:=zKX hin.1
   obtain ⟨J,rfl,hJ⟩:=zKX hin.2
   obtain ⟨hi1,hi2⟩:=hin
   obtain ⟨z,hz⟩:∃ z,c.beds[I]?=some z:=⟨_,List.getElem?_eq_getElem hI⟩
   obtain ⟨u,hu⟩:∃ u,c.hours[J]?=some u:=⟨_,List.getElem?_eq_getElem hJ⟩
   have h3:=fun W (hb:Below w.heap.size w W) g (hr:InC W g 0 (zH c A ca B cb C cc))=>zFc c A ca B cb C cc g I J z u W hr (h.below hb) hs hf hz hu
   simp only [Int.toNat_natCast]
   rw [zAW hz,zAW hu]
   unfold vSp at h3
   unfold vSp
   unfold zH at h2 h3 ⊢
   (refine zM (n:=42) Tryz.func43 rfl rfl rfl ?_)
   (repeat' (first|((with_reducible refine zG ?_);first|refine zE rfl rfl rfl rfl rfl ?_|refine zC rfl rfl rfl rfl rfl ?_|(refine zK rfl rfl rfl rfl rfl ?_;refine ⟨_,rfl,?_⟩)|refine ze rfl rfl rfl rfl rfl ?_|refine zAf rfl rfl rfl rfl rfl rfl ?_|(refine zQ rfl rfl rfl rfl rfl rfl rfl (fun h=>?_) (fun h=>?_)<;>(dsimp only [cmpP] at h;(try (exfalso;omega))))|(refine zAG rfl rfl rfl rfl rfl rfl (fun _ _ q=>h2 _ q.below h0) ?_;rintro g -;dsimp only [List.cons_append,List.nil_append])|(refine zS rfl rfl rfl rfl rfl rfl (fun _ _ q=>hi1 ▸ iin1 _ _ _ _ _ _ (zAl (enc:=encI) (by exact rfl) _ q.below q.own)) ?_)|(refine zS rfl rfl rfl rfl rfl rfl (fun _ _ q=>hi2 ▸ iin1 _ _ _ _ _ _ (zAl (enc:=encI) (by exact rfl) _ q.below q.own)) ?_)|refine zS rfl rfl rfl rfl rfl rfl (fun _ _ q=>h3 _ q.below _ (zBi q.own (Below.refl _ _) rfl)) ?_|refine zg rfl rfl rfl rfl rfl rfl ?_|refine zAh rfl rfl rfl rfl rfl ?_|refine zCn rfl rfl rfl rfl rfl rfl (IntWalk.i64_in _ (by omega)) ?_|refine zr rfl rfl rfl rfl rfl ?_|(refine zf rfl rfl rfl rfl rfl ?_;refine And.intro rfl (And.intro (by first|decide|exact Nat.le_of_ble_eq_true rfl|(simp;omega)) ⟨_,rfl,?_⟩))|(refine zo rfl rfl rfl rfl (fun b=>?_))|(refine zAM rfl rfl rfl rfl rfl rfl (fun b=>?_))|(refine zz rfl rfl rfl rfl rfl ?_;refine ⟨rfl,_,rfl,fun b=>?_⟩))|(with_reducible first|refine zI ?_|refine zB ?_|refine zD ?_|refine zA ?_|refine zb ?_|refine zP ?_)|((with_reducible refine zF ?_ ?_);(· exact rfl))))
   all_goals exact zT (by (exact zO.cons (by exact res1c rfl (by exact rfl)) (zO.cons (by exact zq.tmp rfl) zO.nil))) () trivial rfl (fun _ _=>Own.nil _ _)
  ·rw [if_neg hin]
   unfold vSp
   unfold zH at h2 ⊢
   (refine zM (n:=42) Tryz.func43 rfl rfl rfl ?_)
   (repeat' (first|((with_reducible refine zG ?_);first|refine zE rfl rfl rfl rfl rfl ?_|refine zC rfl rfl rfl rfl rfl ?_|(refine zK rfl rfl rfl rfl rfl ?_;refine ⟨_,rfl,?_⟩)|refine ze rfl rfl rfl rfl rfl ?_|refine zAf rfl rfl rfl rfl rfl rfl ?_|refine zAT rfl rfl rfl ?_|(refine zQ rfl rfl rfl rfl rfl rfl rfl (fun h=>?_) (fun h=>?_)<;>(dsimp only [cmpP] at h;(try (exfalso;omega))))|(refine zAG rfl rfl rfl rfl rfl rfl (fun _ _ q=>h2 _ q.below h0) ?_;rintro g -;dsimp only [List.cons_append,List.nil_append])|(refine zAm rfl rfl rfl rfl rfl rfl (fun _ _ q=>iin1 _ _ _ _ _ _ (zAl (enc:=encI) (by exact rfl) _ q.below q.own)) (fun h=>?_) (fun h=>?_)<;>(try (exfalso;omega)))|refine zg rfl rfl rfl rfl rfl rfl ?_|refine zAh rfl rfl rfl rfl rfl ?_|refine zCn rfl rfl rfl rfl rfl rfl (IntWalk.i64_in _ (by omega)) ?_|refine zr rfl rfl rfl rfl rfl ?_|(refine zf rfl rfl rfl rfl rfl ?_;refine And.intro rfl (And.intro (by first|decide|exact Nat.le_of_ble_eq_true rfl|(simp;omega)) ⟨_,rfl,?_⟩))|(refine zo rfl rfl rfl rfl (fun b=>?_))|(refine zAM rfl rfl rfl rfl rfl rfl (fun b=>?_))|(refine zBA rfl rfl rfl rfl rfl ?_;refine ⟨_,rfl,?_⟩)|(refine zz rfl rfl rfl rfl rfl ?_;refine ⟨rfl,_,rfl,fun b=>?_⟩))|(with_reducible first|refine zI ?_|refine zB ?_|refine zD ?_|refine zA ?_|refine zb ?_|refine zP ?_|refine zd ?_)|((with_reducible refine zJ ?_ ?_);(· exact rfl))|((with_reducible refine zF ?_ ?_);(· exact rfl))))
   all_goals first|exact zT (by (exact zO.cons (by exact res1c rfl (by exact rfl)) (zO.cons (by exact zq.tmp rfl) zO.nil))) () trivial rfl (fun _ _=>Own.nil _ _)|(exfalso;exact hin ⟨by assumption,by assumption⟩)
 ·rw [if_neg h0]
  unfold vSp
  unfold zH at h1 ⊢
  generalize zAr c=e at *
  (refine zM (n:=42) Tryz.func43 rfl rfl rfl ?_)
  (repeat' (first|((with_reducible refine zG ?_);first|refine zE rfl rfl rfl rfl rfl ?_|refine zC rfl rfl rfl rfl rfl ?_|(refine zK rfl rfl rfl rfl rfl ?_;refine ⟨_,rfl,?_⟩)|(refine zQ rfl rfl rfl rfl rfl rfl rfl (fun h=>?_) (fun h=>?_)<;>(dsimp only [cmpP] at h;(try (exfalso;omega))))|refine zS rfl rfl rfl rfl rfl rfl (fun _ _ q=>h1 _ q.below h0) ?_|refine zg rfl rfl rfl rfl rfl rfl ?_|(refine zf rfl rfl rfl rfl rfl ?_;refine And.intro rfl (And.intro (by first|decide|exact Nat.le_of_ble_eq_true rfl|(simp;omega)) ⟨_,rfl,?_⟩))|(refine zo rfl rfl rfl rfl (fun b=>?_))|(refine zAM rfl rfl rfl rfl rfl rfl (fun b=>?_))|(refine zBA rfl rfl rfl rfl rfl ?_;refine ⟨_,rfl,?_⟩))|(with_reducible first|refine zI ?_|refine zB ?_|refine zD ?_|refine zA ?_|refine zb ?_|refine zd ?_)|((with_reducible refine zJ ?_ ?_);(· exact rfl))))
  all_goals exact zT (by (exact zO.cons (by exact res1c rfl (by exact rfl)) (zO.cons (by exact zq.tmp rfl) zO.nil))) () trivial rfl (fun _ _=>Own.nil _ _)
theorem has_step {l:List Int} {n:Int} {i:Nat} {x:Int} (hx:l[i]?=some x) (hne:¬ n=x) (h:∀ j y,j<i→l[j]?=some y→¬ n=y):∀ j y,j<i+1→l[j]?=some y→¬ n=y:=by
 intro j y hj hy
 by_cases e:j=i
 ·subst e;rw [hx] at hy;cases hy;exact hne
 ·exact h j y (by omega) hy
theorem has_no {l:List Int} {n:Int} (h:∀ j y,j<l.length→l[j]?=some y→¬ n=y):l.contains n=false:=by
 rw [← Bool.not_eq_true,List.contains_iff_mem]
 intro hm
 obtain ⟨j,hj⟩:=List.mem_iff_getElem?.1 hm
 exact h j n (List.getElem?_eq_some_iff.1 hj).1 hj rfl
theorem has_yes {l:List Int} {n x:Int} {i:Nat} (hx:l[i]?=some x) (e:n=x):l.contains n=true:=by
 rw [List.contains_iff_mem,e];exact List.mem_of_getElem? hx
set_option maxHeartbeats 1000000 in
theorem zKH (l:List Int) (n:Int) (A:Option Addr) (c:Nat) (w:World) (h:zAB encI 1 w A l) (hl:l.length≤1000000):Gv Tryz.prog 30 [.slice A l.length c,.int .i64 n] w (.bool (l.contains n)):=by
 unfold Gv
 (refine zM (n:=18) Tryz.func30 rfl rfl rfl ?_)
 (repeat' (first|((with_reducible refine zG ?_);first|refine zC rfl rfl rfl rfl rfl ?_)|(with_reducible first|refine zI ?_|refine zB ?_|refine zD ?_|refine zA ?_|refine zN ?_)))
 refine zu (ι:=Nat) [0,1] rfl (fun i=>i≤l.length∧∀ j y,j<i→l[j]?=some y→¬ n=y) (fun i=>[(5,.int .i64 (i:Int))]) (fun _=>[]) (fun i=>l.length - i) 0 ⟨Nat.zero_le _,fun j z h=>by omega⟩ (by (first|exact lK1|(repeat (first|exact lK1|(refine zL rfl ?_))))) (by (repeat (first|exact oK1 _|(refine oK2 (by (repeat (first|exact tK1 _ _|apply tK2))) ?_)))) ?_
 rintro i ⟨hi,hall⟩
 simp only [zAq,List.cons_append,List.nil_append]
 by_cases hlt:i<l.length
 ·obtain ⟨x,hx⟩:∃ x,l[i]?=some x:=⟨_,List.getElem?_eq_getElem hlt⟩
  obtain ⟨bb,o,rfl,hblt,hc⟩:=h.at_ hlt
  have:InS w bb o encI 1 l:=⟨h⟩
  have:zAR l i x:=⟨hx⟩
  (repeat' (first|((with_reducible refine zG ?_);first|refine zE rfl rfl rfl rfl rfl ?_|refine zC rfl rfl rfl rfl rfl ?_|(refine zK rfl rfl rfl rfl rfl ?_;refine ⟨_,rfl,?_⟩)|(refine zQ rfl rfl rfl rfl rfl rfl rfl (fun h=>?_) (fun h=>?_)<;>(dsimp only [cmpP] at h;(try (exfalso;omega))))|refine zj rfl rfl rfl rfl rfl rfl (by omega) ?_|refine zi rfl rfl rfl rfl rfl rfl rfl (by omega) ?_|refine zr rfl rfl rfl rfl rfl ?_)|(with_reducible first|refine zI ?_|refine zB ?_|refine zD ?_|refine zA ?_|refine zb ?_|refine zP ?_|refine zd ?_|refine zN ?_|refine zk ?_|refine zA3 ?_)|((with_reducible refine zJ ?_ ?_);(· exact rfl))|((with_reducible refine zF ?_ ?_);(· exact rfl))))
  all_goals first|exact zT (by (exact zO.cons (by exact zq.tmp rfl) zO.nil)) () trivial (by rw [has_yes hx (by omega)];rfl) (fun _ h=>h.sub (by (repeat (first|exact oK1 _|(refine oK2 (by (repeat (first|exact tK1 _ _|apply tK2))) ?_)))))|exact zc (i+1) ⟨by omega,has_step hx (by omega) hall⟩ (by omega) (by (first|exact lK1|(repeat (first|exact lK1|(refine zL rfl ?_))))) (by (repeat (first|exact oK1 _|(refine oK2 (by (repeat (first|exact tK1 _ _|apply tK2))) ?_))))
 ·obtain rfl:i=l.length:=by omega
  (repeat' (first|((with_reducible refine zG ?_);first|refine zE rfl rfl rfl rfl rfl ?_|refine zC rfl rfl rfl rfl rfl ?_|(refine zQ rfl rfl rfl rfl rfl rfl rfl (fun h=>?_) (fun h=>?_)<;>(dsimp only [cmpP] at h;(try (exfalso;omega))))|refine zr rfl rfl rfl rfl rfl ?_)|(with_reducible first|refine zI ?_|refine zB ?_|refine zD ?_|refine zA ?_|refine zb ?_|refine zn ?_|refine zR ?_|refine zY ?_)|((with_reducible refine zF ?_ ?_);(· exact rfl))))
  exact zT (by (exact zO.cons (by exact zq.tmp rfl) zO.nil)) () trivial (by rw [has_no hall];rfl) (fun _ h=>h.sub (by (repeat (first|exact oK1 _|(refine oK2 (by (repeat (first|exact tK1 _ _|apply tK2))) ?_)))))
set_option maxHeartbeats 1000000 in
theorem zRg (l:List Int) (n:Int) (A:Option Addr) (c:Nat) (w:World) (h:zAB encI 1 w A l) (hl:l.length≤1000000):Gv Tryz.prog 133 [.slice A l.length c,.int .i64 n] w (.int .i64 (zDp (fun y=>decide (n=y)) l)):=by
 unfold Gv
 (refine zM (n:=19) Tryz.func133 rfl rfl rfl ?_)
 (repeat' (first|((with_reducible refine zG ?_);first|refine zE rfl rfl rfl rfl rfl ?_|refine zC rfl rfl rfl rfl rfl ?_|refine zr rfl rfl rfl rfl rfl ?_)|(with_reducible first|refine zI ?_|refine zB ?_|refine zD ?_|refine zA ?_|refine zN ?_)))
 refine zu (ι:=Nat) [0,1,7] rfl (fun i=>i≤l.length∧∀ j y,j<i→l[j]?=some y→decide (n=y)=false) (fun i=>[(8,.int .i64 (i:Int))]) (fun _=>[]) (fun i=>l.length - i) 0 ⟨Nat.zero_le _,fun j z h=>by omega⟩ (by (first|exact lK1|(repeat (first|exact lK1|(refine zL rfl ?_))))) (by (repeat (first|exact oK1 _|(refine oK2 (by (repeat (first|exact tK1 _ _|apply tK2))) ?_)))) ?_
 rintro i ⟨hi,hall⟩
 simp only [zAq,List.cons_append,List.nil_append]
 by_cases hlt:i<l.length
 ·obtain ⟨x,hx⟩:∃ x,l[i]?=some x:=⟨_,List.getElem?_eq_getElem hlt⟩
  obtain ⟨bb,o,rfl,hblt,hc⟩:=h.at_ hlt
  have:InS w bb o encI 1 l:=⟨h⟩
  have:zAR l i x:=⟨hx⟩
  (repeat' (first|((with_reducible refine zG ?_);first|refine zE rfl rfl rfl rfl rfl ?_|refine zC rfl rfl rfl rfl rfl ?_|(refine zK rfl rfl rfl rfl rfl ?_;refine ⟨_,rfl,?_⟩)|(refine zQ rfl rfl rfl rfl rfl rfl rfl (fun h=>?_) (fun h=>?_)<;>(dsimp only [cmpP] at h;(try (exfalso;omega))))|refine zj rfl rfl rfl rfl rfl rfl (by omega) ?_|refine zi rfl rfl rfl rfl rfl rfl rfl (by omega) ?_)|(with_reducible first|refine zI ?_|refine zB ?_|refine zD ?_|refine zA ?_|refine zb ?_|refine zP ?_|refine zd ?_|refine zN ?_|refine zk ?_|refine zA3 ?_)|((with_reducible refine zJ ?_ ?_);(· exact rfl))|((with_reducible refine zF ?_ ?_);(· exact rfl))))
  ·exact zT (by (exact zO.cons (by exact zq.tmp rfl) zO.nil)) () trivial (by rw [zFi hlt (by rw [List.getElem?_eq_getElem hlt] at hx;cases hx;simp;omega) hall];rfl) (fun _ h=>h.sub (by (repeat (first|exact oK1 _|(refine oK2 (by (repeat (first|exact tK1 _ _|apply tK2))) ?_)))))
  ·exact zc (i+1) ⟨by omega,fun j y hj hy=>by
    by_cases e:j=i
    ·subst e;rw [hx] at hy;cases hy;simp;omega
    ·exact hall j y (by omega) hy⟩ (by omega) (by (first|exact lK1|(repeat (first|exact lK1|(refine zL rfl ?_))))) (by (repeat (first|exact oK1 _|(refine oK2 (by (repeat (first|exact tK1 _ _|apply tK2))) ?_))))
 ·obtain rfl:i=l.length:=by omega
  (repeat' (first|((with_reducible refine zG ?_);first|refine zC rfl rfl rfl rfl rfl ?_|(refine zQ rfl rfl rfl rfl rfl rfl rfl (fun h=>?_) (fun h=>?_)<;>(dsimp only [cmpP] at h;(try (exfalso;omega)))))|(with_reducible first|refine zI ?_|refine zB ?_|refine zD ?_|refine zA ?_|refine zb ?_|refine zn ?_|refine zR ?_|refine zY ?_)|((with_reducible refine zF ?_ ?_);(· exact rfl))))
  exact zT (by (exact zO.cons (by exact zq.tmp rfl) zO.nil)) () trivial (by rw [zEr (fun y hy=>by obtain ⟨j,hj⟩:=List.mem_iff_getElem?.1 hy;exact hall j y (List.getElem?_eq_some_iff.1 hj).1 hj)];rfl) (fun _ h=>h.sub (by (repeat (first|exact oK1 _|(refine oK2 (by (repeat (first|exact tK1 _ _|apply tK2))) ?_)))))
theorem zRx {l:List Int} {n:Int}:(0≤zDp (fun y=>decide (n=y)) l)↔l.contains n=true:=by
 rw [List.contains_iff_mem]
 unfold zDp
 cases hf:l.findIdx? (fun y=>decide (n=y)) with
 | none =>
  rw [List.findIdx?_eq_none_iff] at hf
  simp only
  constructor
  ·intro h;omega
  ·intro h;have:=hf n h;simp at this
 | some k =>
  obtain ⟨hk,hp,_⟩:=List.findIdx?_eq_some_iff_getElem.1 hf
  simp only
  constructor
  ·intro _
   simp only [decide_eq_true_eq] at hp
   rw [hp];exact List.getElem_mem hk
  ·intro _;omega
theorem zIL (l:List Int) (n:Int) (A:Option Addr) (c:Nat) (w:World) (h:zAB encI 1 w A l) (hl:l.length≤1000000):Gv Tryz.prog 105 [.slice A l.length c,.int .i64 n] w (.bool (l.contains n)):=by
 have h1:=fun W (hb:Below w.heap.size w W)=>zRg l n A c W (h.below hb) hl
 have h2:=zRx (l:=l) (n:=n)
 generalize zDp (fun y=>decide (n=y)) l=m at *
 unfold Gv
 (refine zM (n:=9) Tryz.func105 rfl rfl rfl ?_)
 (repeat' (first|((with_reducible refine zG ?_);first|refine zE rfl rfl rfl rfl rfl ?_|refine zC rfl rfl rfl rfl rfl ?_|(refine zQ rfl rfl rfl rfl rfl rfl rfl (fun h=>?_) (fun h=>?_)<;>(dsimp only [cmpP] at h;(try (exfalso;omega))))|refine zS rfl rfl rfl rfl rfl rfl (fun _ _ q=>h1 _ q.below) ?_)|(with_reducible first|refine zI ?_|refine zB ?_|refine zD ?_|refine zA ?_|refine zb ?_)))
 ·exact zT (by (exact zO.cons (by exact zq.tmp rfl) zO.nil)) () trivial (by rw [h2.1 (by omega)];rfl) (fun _ h=>h.sub (by (repeat (first|exact oK1 _|(refine oK2 (by (repeat (first|exact tK1 _ _|apply tK2))) ?_)))))
 ·exact zT (by (exact zO.cons (by exact zq.tmp rfl) zO.nil)) () trivial (by rw [show l.contains n=false from by cases e:l.contains n with|false=>rfl|true=>(have:=h2.2 e;omega)];rfl) (fun _ h=>h.sub (by (repeat (first|exact oK1 _|(refine oK2 (by (repeat (first|exact tK1 _ _|apply tK2))) ?_)))))
end Go.Proofs.YtdigopgncfhiaaaGreatDoor
namespace Go.Proofs.YtdigopgncfhiaaaGreatDoor
open Go.RowKit
set_option maxRecDepth 20000
def thinned (t l:Sp):Sp:=⟨max 0 (t.lo - l.hi),max 0 (t.hi - l.lo)⟩
def layered (c:Cov) (on:Bool) (t:Sp):Sp:=if on then ⟨t.lo+c.layer.lo,t.hi+c.layer.hi⟩ else t
def thickN (c:Cov) (pl:List Sli) (z:Bed) (i:Int):Nat→Sp
 | 0=>z.thick
 | h+1=>layered c ((pl.getD h default).xs.contains i) (thinned (thickN c pl z i h) (zBF c z (c.hours.getD h default)))
theorem zGN {c:Cov} {pl:List Sli} {z:Bed} {i:Int} (hf:zBl c) (hz:z∈c.beds):∀ h,h≤c.hours.length→0≤(thickN c pl z i h).lo∧(thickN c pl z i h).lo≤2000+100 * h∧0≤(thickN c pl z i h).hi∧(thickN c pl z i h).hi≤2000+100 * h
 | 0,_=>by
  have:=hf.bed z hz
  simp only [zC0,Bool.and_eq_true,zAF] at this
  simp only [thickN];omega
 | h+1,hl=>by
  have ih:=zGN (pl:=pl) (i:=i) hf hz h (by omega)
  obtain ⟨u,hu⟩:∃ u,c.hours[h]?=some u:=⟨_,List.getElem?_eq_getElem (by omega)⟩
  have l4:=zFX hf hz (List.mem_of_getElem? hu)
  have hl:=hf.layer
  simp only [zAF] at hl
  simp only [thickN,zAW hu,layered,thinned]
  split<;>simp only<;>omega
end Go.Proofs.YtdigopgncfhiaaaGreatDoor
