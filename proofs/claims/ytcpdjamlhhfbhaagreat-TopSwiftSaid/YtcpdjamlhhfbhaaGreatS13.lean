/- S13 -/
import Derived.Test.YtcpdjamlhhfbhaaGreatS11
import Derived.Test.YtcpdjamlhhfbhaaGreatS12
set_option linter.unusedSimpArgs false
set_option linter.unusedVariables false
namespace Go.Proofs.YtcpdjamlhhfbhaaGreat
variable {ro : Option Nat}
open Go.RowKit
set_option maxRecDepth 20000
def zCd (last:Int) (s:Sy):Bool:=inB (last+1) 86400000 s.at_ && (inB (-10000) 10000 s.ah.lo && inB (-10000) 10000 s.ah.hi) && decide (s.ah.lo≤s.ah.hi)
def zC1 (c:Clk) (s o:Sy):Int:=upI (c.drift * (s.at_ - o.at_)) 1000000
def zBl (c:Clk) (s o:Sy):Bool:=decide (s.ah.lo - o.ah.hi≤zC1 c s o) && decide (o.ah.lo - s.ah.hi≤zC1 c s o)
def zAZ (c:Clk) (i:Nat):Int:=match i with | 0=>-1|i+1=>(c.syncs.getD i default).at_
def zEG (c:Clk) (i:Nat):Bool:=match c.syncs[i]? with|some s=>zCd (zAZ c i) s && (c.syncs.take i).all (zBl c s)|none=>true
def zAe (c:Clk):Bool:=inB 0 1000 c.drift && inB 1 5 c.syncs.length && (List.range c.syncs.length).all (zEG c)
theorem zA8 {c:Clk}:zAe c=true↔inB 0 1000 c.drift=true∧inB 1 5 c.syncs.length=true∧∀ i,i<c.syncs.length→zEG c i=true:=by
 unfold zAe
 simp only [Bool.and_eq_true,List.all_eq_true,List.mem_range,and_assoc]
theorem zCf {c:Clk} {i:Nat} {s:Sy} (h:c.syncs[i]?=some s):zEG c i=(zCd (zAZ c i) s && (c.syncs.take i).all (zBl c s)):=by unfold zEG;rw [h]
theorem zB0 {c:Clk} {i:Nat} {s:Sy} (h:c.syncs[i]?=some s):zAZ c (i+1)=s.at_:=by simp [zAZ,List.getD_eq_getElem?_getD,h]
theorem zBW {last:Int} {s:Sy}:zCd last s=true↔(last+1≤s.at_∧s.at_≤86400000)∧-10000≤s.ah.lo∧s.ah.lo≤s.ah.hi∧s.ah.hi≤10000:=by
 unfold zCd;simp only [Bool.and_eq_true,zy,decide_eq_true_eq];omega
theorem zFi {c:Clk} {i:Nat} (h:∀ j,j<i→zEG c j=true) (hi:i≤c.syncs.length):-1≤zAZ c i∧zAZ c i≤86400000∧∀ j s,j<i→c.syncs[j]?=some s→0≤s.at_∧s.at_≤zAZ c i∧-10000≤s.ah.lo∧s.ah.lo≤s.ah.hi∧s.ah.hi≤10000:=by
 induction i with
 | zero=>exact ⟨Int.le_refl _,by simp [zAZ],fun j s hj=>by omega⟩
 | succ i ih =>
  obtain ⟨h1,h2,h3⟩:=ih (fun j hj=>h j (by omega)) (by omega)
  obtain ⟨s,hs⟩:∃ s,c.syncs[i]?=some s:=⟨_,List.getElem?_eq_getElem (by omega)⟩
  have h4:=h i (by omega)
  rw [zCf hs,Bool.and_eq_true] at h4
  have h5:=zBW.1 h4.1
  rw [zB0 hs]
  refine ⟨by omega,by omega,fun j s' hj hs'=>?_⟩
  by_cases e:j=i
  ·subst e;rw [hs] at hs';cases hs';omega
  ·have:=h3 j s' (by omega) hs';omega
theorem zCz {c:Clk} {s o:Sy} {j:Nat} {l:List Sy} (h:l[j]?=some o):(l.take (j+1)).all (zBl c s)=((l.take j).all (zBl c s) && zBl c s o):=by
 rw [List.take_add_one,h];simp [List.all_append]
theorem zFy {c:Clk} {s o:Sy} (hd:0≤c.drift∧c.drift≤1000) (h:0≤s.at_ - o.at_) (h2:s.at_ - o.at_≤86400000):0≤c.drift * (s.at_ - o.at_)∧c.drift * (s.at_ - o.at_)≤86400000000:=by
 have:=mulIn hd.1 hd.2 h h2;omega
set_option maxHeartbeats 8000000 in
theorem goes_any (x:CkM) (w:World) (hs:zg zAf 3 w x.A x.c.syncs) (hl:x.c.syncs.length≤10) (hcap:x.c.syncs.length≤x.cap):Gv Tryz.prog 98 [vCk x] w (.bool (zAe x.c)):=by
  unfold Gv vCk
  by_cases h0:inB 0 1000 x.c.drift=true∧inB 1 5 x.c.syncs.length=true
  rotate_left
  · have e : zAe x.c = false := by
      cases hg:zAe x.c with
      | false=>rfl
      | true=>exact absurd ⟨(zA8.1 hg).1,(zA8.1 hg).2.1⟩ h0
    rw [e]
    have h0':inB 0 1000 x.c.drift=true→inB 1 5 (x.c.syncs.length:Int)=false:=fun h1=>by
      cases h2:inB 1 5 (x.c.syncs.length:Int) with
      | false=>rfl
      | true=>exact absurd ⟨h1,h2⟩ h0
    (refine zD (n:=104) Tryz.func98 rfl rfl rfl ?_)
    (repeat' (first|((with_reducible refine zH ?_);first|refine zF rfl rfl rfl ?_|refine zC rfl rfl rfl ?_|(refine zM rfl rfl rfl ?_;refine ⟨_,rfl,?_⟩)|refine zP rfl rfl rfl ?_|refine zn rfl rfl rfl rfl ?_|refine zd rfl rfl rfl ?_|(refine zAO rfl rfl rfl rfl (fun _ _ q=>bin1 _ _ _ _ _ _ (zo (enc:=encI) (by exact rfl) _ q.below q.own)) (fun h=>?_) (fun h=>?_)<;>(try (exfalso;omega)))|refine zAB rfl rfl rfl ?_|refine zz rfl rfl rfl ?_|(refine zf rfl rfl rfl rfl (fun b=>?_))|(refine zc rfl rfl rfl ?_;refine ⟨rfl,_,rfl,fun b=>?_⟩))|(with_reducible first|refine zK ?_|refine zB ?_|refine zG ?_|refine zA ?_|refine zR ?_|refine zU ?_|refine zb ?_|refine zT ?_|refine zGj ?_)|((with_reducible refine zO ?_ ?_);(· exact rfl))|((with_reducible refine zI ?_ ?_);(· exact rfl))|(with_reducible refine zGi ?_)|(with_reducible refine zBg ?_)))
    all_goals first|exact zN (by exact rTm rfl) () trivial rfl (fun _ h=>h.sub (by (repeat constructor)))|(exfalso;simp_all;done)
  obtain ⟨h1,h2⟩:=h0
  have hd:=zy.1 h1
  have hn:=zy.1 h2
  have hpos:0<x.c.syncs.length:=by omega
  obtain ⟨bb,o,hA,hblt,hc⟩:=hs.at_ hpos
  rw [hA] at hs
  have:InS w bb o zAf 3 x.c.syncs:=⟨hs⟩
  rw [hA]
  (refine zD (n:=104) Tryz.func98 rfl rfl rfl ?_)
  (repeat' (first|((with_reducible refine zH ?_);first|refine zF rfl rfl rfl ?_|refine zC rfl rfl rfl ?_|(refine zM rfl rfl rfl ?_;refine ⟨_,rfl,?_⟩)|refine zP rfl rfl rfl ?_|refine zn rfl rfl rfl rfl ?_|(refine zE rfl rfl rfl rfl (fun _ _ q=>h1 ▸ bin1 _ _ _ _ _ _ (zo (enc:=encI) (by exact rfl) _ q.below q.own)) ?_)|(refine zE rfl rfl rfl rfl (fun _ _ q=>h2 ▸ bin1 _ _ _ _ _ _ (zo (enc:=encI) (by exact rfl) _ q.below q.own)) ?_)|refine zAB rfl rfl rfl ?_|refine zz rfl rfl rfl ?_|(refine zf rfl rfl rfl rfl (fun b=>?_))|(refine zc rfl rfl rfl ?_;refine ⟨rfl,_,rfl,fun b=>?_⟩))|(with_reducible first|refine zK ?_|refine zB ?_|refine zG ?_|refine zA ?_|refine zU ?_|refine zT ?_|refine zGj ?_)|((with_reducible refine zI ?_ ?_);(· exact rfl))|(with_reducible refine zGi ?_)))
  rename_i b1 _
  refine z9 (ι:=Nat) [1,24,25] rfl (fun i=>i≤x.c.syncs.length∧∀ j,j<i→zEG x.c j=true) (fun i=>[(26,.int .i64 (i:Int)),(3,.int .i64 (zAZ x.c i)),(4,.bool true)]) (fun i=>[.blk b1 [.int .i64 x.c.drift,.slice (some ⟨bb,o,none⟩) x.c.syncs.length x.cap]]) (fun i=>x.c.syncs.length - i) 0 ⟨Nat.zero_le _,fun j hj=>by omega⟩ (by (repeat first|exact lK1|refine za rfl ?_)) (by (repeat constructor)) ?_
  rintro i ⟨hi,hall⟩
  simp only [zAu,List.cons_append,List.nil_append]
  by_cases hlt:i<x.c.syncs.length
  · obtain ⟨s,hx⟩:∃ s,x.c.syncs[i]?=some s:=⟨_,List.getElem?_eq_getElem hlt⟩
    have hsb:=zCf hx
    obtain ⟨l1,l2,l3⟩:=zFi hall hi
    have hls:=zB0 hx
    have:zA5 x.c.syncs i s:=⟨hx⟩
    have hgo:∀ v,zEG x.c i=v→v=false→zAe x.c=false:=fun v h9 h8=>by
      subst h8
      cases hg:zAe x.c with
      | false=>rfl
      | true=>have:=(zA8.1 hg).2.2 i hlt;rw [h9] at this;cases this
    generalize zAZ x.c i=la at *
    (repeat' (first|((with_reducible refine zH ?_);first|refine zF rfl rfl rfl ?_|refine zC rfl rfl rfl ?_|(refine zM rfl rfl rfl ?_;refine ⟨_,rfl,?_⟩)|refine zP rfl rfl rfl ?_|refine zn rfl rfl rfl rfl ?_|refine zd rfl rfl rfl ?_|(refine zS rfl rfl rfl rfl rfl (fun h=>?_) (fun h=>?_)<;>(dsimp only [cmpP] at h;(try (exfalso;omega))))|(refine zAO rfl rfl rfl rfl (fun _ _ q=>bin1 _ _ _ _ _ _ (zo (enc:=encI) (by exact rfl) _ q.below q.own)) (fun h=>?_) (fun h=>?_)<;>(try (exfalso;omega)))|(refine zAO rfl rfl rfl rfl (fun _ _ q=>bin2 _ _ _ _ _ _ _ (zBB (enc:=encI) [_,_] (by exact rfl) _ q.below q.own)) (fun h=>?_) (fun h=>?_)<;>(try (exfalso;omega)))|refine zAI rfl (Two.e_prefix i rfl rfl rfl rfl (by omega)) ?_|refine zCx rfl rfl rfl rfl (IntWalk.i64_in _ (by omega)) ?_|refine zAN rfl rfl rfl rfl rfl (by omega) ?_|refine zz rfl rfl rfl ?_|(refine zV rfl rfl rfl rfl rfl ?_;refine ⟨rfl,by first|decide|exact Nat.le_of_ble_eq_true rfl|(simp;omega),_,rfl,?_⟩)|(refine zX rfl rfl (fun b=>?_))|(refine zc rfl rfl rfl ?_;refine ⟨rfl,_,rfl,fun b=>?_⟩))|(with_reducible first|refine zK ?_|refine zB ?_|refine zG ?_|refine zA ?_|refine zU ?_|refine zT ?_)|((with_reducible refine zO ?_ ?_);(· exact rfl))))
    · rename_i b6 _ _ _
      have hok:zCd la s=true:=by unfold zCd;simp only [Bool.and_eq_true,decide_eq_true_eq];simp_all
      have hok2:=zBW.1 hok
      rw [hok,Bool.true_and] at hsb
      refine z9 (ι:=Nat) [1,5,6,24,25,26,59,60] rfl (fun j=>j≤i) (fun j=>[(61,.int .i64 (j:Int)),(4,.bool ((x.c.syncs.take j).all (zBl x.c s)))]) (fun j=>[.blk b6 (zAf s),.blk b1 [.int .i64 x.c.drift,.slice (some ⟨bb,o,none⟩) x.c.syncs.length x.cap]]) (fun j=>i - j) 0 (Nat.zero_le _) (by (repeat first|exact lK1|refine za rfl ?_)) (by (repeat constructor)) ?_
      rintro j hj
      simp only [zAu,zAf,List.cons_append,List.nil_append]
      by_cases hjl:j<i
      · obtain ⟨y,hy⟩:∃ y,x.c.syncs[j]?=some y:=⟨_,List.getElem?_eq_getElem (by omega)⟩
        have:zA5 x.c.syncs j y:=⟨hy⟩
        have hya:=l3 j y hjl hy
        have e:=zCz (c:=x.c) (s:=s) hy
        obtain ⟨m1,m2⟩:=zFy (c:=x.c) (s:=s) (o:=y) hd (by omega) (by omega)
        have hU:=fun W=>up_ok (x.c.drift * (s.at_ - y.at_)) 1000000 W m1 (by omega) (by decide) (by decide)
        have hm:=upI_in (b:=1000000) m1 (by decide)
        have e3:upI (x.c.drift * (s.at_ - y.at_)) 1000000=zC1 x.c s y:=rfl
        rw [e3] at hU hm
        have e4:zBl x.c s y=(decide (s.ah.lo - y.ah.hi≤zC1 x.c s y) && decide (y.ah.lo - s.ah.hi≤zC1 x.c s y)):=rfl
        rw [e4] at e
        generalize zC1 x.c s y=mo at *
        cases hr:(x.c.syncs.take j).all (zBl x.c s)
        · rw [hr,Bool.false_and] at e
          (repeat' (first|((with_reducible refine zH ?_);first|refine zF rfl rfl rfl ?_|refine zC rfl rfl rfl ?_|(refine zM rfl rfl rfl ?_;refine ⟨_,rfl,?_⟩)|refine zP rfl rfl rfl ?_|refine zn rfl rfl rfl rfl ?_|refine zd rfl rfl rfl ?_|(refine zS rfl rfl rfl rfl rfl (fun h=>?_) (fun h=>?_)<;>(dsimp only [cmpP] at h;(try (exfalso;omega))))|refine zE rfl rfl rfl rfl (fun _ _ q=>hU _) ?_|refine zAD rfl rfl rfl rfl (by omega) ?_|refine zBu rfl rfl rfl rfl (IntWalk.i64_in _ (by omega)) ?_|refine zDC rfl rfl rfl rfl (IntWalk.i64_in _ (by omega)) ?_|refine zAN rfl rfl rfl rfl rfl (by omega) ?_|(refine zV rfl rfl rfl rfl rfl ?_;refine ⟨rfl,by first|decide|exact Nat.le_of_ble_eq_true rfl|(simp;omega),_,rfl,?_⟩)|(refine zX rfl rfl (fun b=>?_)))|(with_reducible first|refine zK ?_|refine zB ?_|refine zG ?_|refine zA ?_|refine zU ?_|refine zT ?_|refine zu ?_)|((with_reducible refine zO ?_ ?_);(· exact rfl))))
          exact zl (ι:=Nat) (j+1) (by omega) (by omega) (by (try simp only [e]);(repeat first|exact lK1|refine za rfl ?_)) (by (repeat constructor))
        · rw [hr,Bool.true_and] at e
          (repeat' (first|((with_reducible refine zH ?_);first|refine zF rfl rfl rfl ?_|refine zC rfl rfl rfl ?_|(refine zM rfl rfl rfl ?_;refine ⟨_,rfl,?_⟩)|refine zP rfl rfl rfl ?_|refine zn rfl rfl rfl rfl ?_|refine zd rfl rfl rfl ?_|(refine zS rfl rfl rfl rfl rfl (fun h=>?_) (fun h=>?_)<;>(dsimp only [cmpP] at h;(try (exfalso;omega))))|refine zE rfl rfl rfl rfl (fun _ _ q=>hU _) ?_|refine zAD rfl rfl rfl rfl (by omega) ?_|refine zBu rfl rfl rfl rfl (IntWalk.i64_in _ (by omega)) ?_|refine zDC rfl rfl rfl rfl (IntWalk.i64_in _ (by omega)) ?_|refine zAN rfl rfl rfl rfl rfl (by omega) ?_|(refine zV rfl rfl rfl rfl rfl ?_;refine ⟨rfl,by first|decide|exact Nat.le_of_ble_eq_true rfl|(simp;omega),_,rfl,?_⟩)|(refine zX rfl rfl (fun b=>?_)))|(with_reducible first|refine zK ?_|refine zB ?_|refine zG ?_|refine zA ?_|refine zU ?_|refine zT ?_|refine zu ?_)|((with_reducible refine zO ?_ ?_);(· exact rfl))))
          all_goals first
            | (have e5 : (List.take (j + 1) x.c.syncs).all (zBl x.c s) = true := by
                rw [e];simp only [Bool.and_eq_true,decide_eq_true_eq];omega
               exact zl (ι:=Nat) (j+1) (by omega) (by omega) (by (try simp only [e5]);(repeat first|exact lK1|refine za rfl ?_)) (by (repeat constructor)))
            | (have e5 : (List.take (j + 1) x.c.syncs).all (zBl x.c s) = false := by
                rw [e];simp only [Bool.and_eq_false_iff,decide_eq_false_iff_not];omega
               exact zl (ι:=Nat) (j+1) (by omega) (by omega) (by (try simp only [e5]);(repeat first|exact lK1|refine za rfl ?_)) (by (repeat constructor)))
      · obtain rfl:j=i:=by omega
        cases hr:(x.c.syncs.take j).all (zBl x.c s)
        · rw [hr] at hsb
          rw [hgo _ hsb rfl]
          (repeat' (first|((with_reducible refine zH ?_);first|refine zF rfl rfl rfl ?_|refine zC rfl rfl rfl ?_|(refine zS rfl rfl rfl rfl rfl (fun h=>?_) (fun h=>?_)<;>(dsimp only [cmpP] at h;(try (exfalso;omega))))|refine zAB rfl rfl rfl ?_)|(with_reducible first|refine zK ?_|refine zB ?_|refine zG ?_|refine zA ?_|refine zR ?_|refine zr ?_|refine zZ ?_|refine ze ?_)|((with_reducible refine zBH ?_ ?_);(· exact rfl))|((with_reducible refine zO ?_ ?_);(· exact rfl))|((with_reducible refine zI ?_ ?_);(· exact rfl))|(with_reducible refine zBg ?_)))
          exact zN (by exact rTm rfl) () trivial rfl (fun _ h=>h.sub (by (repeat constructor)))
        · rw [hr] at hsb
          (repeat' (first|((with_reducible refine zH ?_);first|refine zF rfl rfl rfl ?_|refine zC rfl rfl rfl ?_|(refine zM rfl rfl rfl ?_;refine ⟨_,rfl,?_⟩)|refine zP rfl rfl rfl ?_|(refine zS rfl rfl rfl rfl rfl (fun h=>?_) (fun h=>?_)<;>(dsimp only [cmpP] at h;(try (exfalso;omega))))|refine zAB rfl rfl rfl ?_|refine zAD rfl rfl rfl rfl (by omega) ?_)|(with_reducible first|refine zK ?_|refine zB ?_|refine zG ?_|refine zA ?_|refine zU ?_|refine zr ?_|refine zu ?_|refine zZ ?_|refine ze ?_)|((with_reducible refine zI ?_ ?_);(· exact rfl))))
          exact zl (ι:=Nat) (j+1) ⟨by omega,fun k hk=>by
            by_cases e:k=j
            · subst e;exact hsb
            · exact hall k (by omega)⟩ (by omega) (by (try simp only [hls]);(repeat first|exact lK1|refine za rfl ?_)) (by (repeat constructor))
    · rename_i b6 _ _ _
      have hok:zCd la s=false:=by unfold zCd;simp_all
      rw [hok,Bool.false_and] at hsb
      rw [hgo _ hsb rfl]
      refine z9 (ι:=Nat) [1,4,5,6,24,25,26,59,60] rfl (fun j=>j≤i) (fun j=>[(61,.int .i64 (j:Int))]) (fun j=>[.blk b6 (zAf s),.blk b1 [.int .i64 x.c.drift,.slice (some ⟨bb,o,none⟩) x.c.syncs.length x.cap]]) (fun j=>i - j) 0 (Nat.zero_le _) (by (repeat first|exact lK1|refine za rfl ?_)) (by (repeat constructor)) ?_
      rintro j hj
      simp only [zAu,zAf,List.cons_append,List.nil_append]
      by_cases hjl:j<i
      · obtain ⟨y,hy⟩:∃ y,x.c.syncs[j]?=some y:=⟨_,List.getElem?_eq_getElem (by omega)⟩
        have:zA5 x.c.syncs j y:=⟨hy⟩
        (repeat' (first|((with_reducible refine zH ?_);first|refine zF rfl rfl rfl ?_|refine zC rfl rfl rfl ?_|(refine zM rfl rfl rfl ?_;refine ⟨_,rfl,?_⟩)|refine zP rfl rfl rfl ?_|refine zn rfl rfl rfl rfl ?_|refine zd rfl rfl rfl ?_|(refine zS rfl rfl rfl rfl rfl (fun h=>?_) (fun h=>?_)<;>(dsimp only [cmpP] at h;(try (exfalso;omega))))|refine zFH rfl rfl rfl rfl ?_|refine zGD rfl rfl rfl rfl ?_|refine zE rfl rfl rfl rfl (fun _ _ q=>zFG _ _ _ (by decide)) ?_|refine zAD rfl rfl rfl rfl (by omega) ?_|refine zAN rfl rfl rfl rfl rfl (by omega) ?_|(refine zV rfl rfl rfl rfl rfl ?_;refine ⟨rfl,by first|decide|exact Nat.le_of_ble_eq_true rfl|(simp;omega),_,rfl,?_⟩)|(refine zX rfl rfl (fun b=>?_)))|(with_reducible first|refine zK ?_|refine zB ?_|refine zG ?_|refine zA ?_|refine zU ?_|refine zT ?_|refine zu ?_)|((with_reducible refine zO ?_ ?_);(· exact rfl))))
        exact zl (ι:=Nat) (j+1) (by omega) (by omega) (by (repeat first|exact lK1|refine za rfl ?_)) (by (repeat constructor))
      · obtain rfl:j=i:=by omega
        (repeat' (first|((with_reducible refine zH ?_);first|refine zF rfl rfl rfl ?_|refine zC rfl rfl rfl ?_|(refine zS rfl rfl rfl rfl rfl (fun h=>?_) (fun h=>?_)<;>(dsimp only [cmpP] at h;(try (exfalso;omega))))|refine zAB rfl rfl rfl ?_)|(with_reducible first|refine zK ?_|refine zB ?_|refine zG ?_|refine zA ?_|refine zR ?_|refine zr ?_|refine zZ ?_|refine ze ?_)|((with_reducible refine zBH ?_ ?_);(· exact rfl))|((with_reducible refine zO ?_ ?_);(· exact rfl))|((with_reducible refine zI ?_ ?_);(· exact rfl))|(with_reducible refine zBg ?_)))
        exact zN (by exact rTm rfl) () trivial rfl (fun _ h=>h.sub (by (repeat constructor)))
    · rename_i b6 _ _
      have hok:zCd la s=false:=by unfold zCd;simp_all
      rw [hok,Bool.false_and] at hsb
      rw [hgo _ hsb rfl]
      refine z9 (ι:=Nat) [1,4,5,6,24,25,26,59,60] rfl (fun j=>j≤i) (fun j=>[(61,.int .i64 (j:Int))]) (fun j=>[.blk b6 (zAf s),.blk b1 [.int .i64 x.c.drift,.slice (some ⟨bb,o,none⟩) x.c.syncs.length x.cap]]) (fun j=>i - j) 0 (Nat.zero_le _) (by (repeat first|exact lK1|refine za rfl ?_)) (by (repeat constructor)) ?_
      rintro j hj
      simp only [zAu,zAf,List.cons_append,List.nil_append]
      by_cases hjl:j<i
      · obtain ⟨y,hy⟩:∃ y,x.c.syncs[j]?=some y:=⟨_,List.getElem?_eq_getElem (by omega)⟩
        have:zA5 x.c.syncs j y:=⟨hy⟩
        (repeat' (first|((with_reducible refine zH ?_);first|refine zF rfl rfl rfl ?_|refine zC rfl rfl rfl ?_|(refine zM rfl rfl rfl ?_;refine ⟨_,rfl,?_⟩)|refine zP rfl rfl rfl ?_|refine zn rfl rfl rfl rfl ?_|refine zd rfl rfl rfl ?_|(refine zS rfl rfl rfl rfl rfl (fun h=>?_) (fun h=>?_)<;>(dsimp only [cmpP] at h;(try (exfalso;omega))))|refine zFH rfl rfl rfl rfl ?_|refine zGD rfl rfl rfl rfl ?_|refine zE rfl rfl rfl rfl (fun _ _ q=>zFG _ _ _ (by decide)) ?_|refine zAD rfl rfl rfl rfl (by omega) ?_|refine zAN rfl rfl rfl rfl rfl (by omega) ?_|(refine zV rfl rfl rfl rfl rfl ?_;refine ⟨rfl,by first|decide|exact Nat.le_of_ble_eq_true rfl|(simp;omega),_,rfl,?_⟩)|(refine zX rfl rfl (fun b=>?_)))|(with_reducible first|refine zK ?_|refine zB ?_|refine zG ?_|refine zA ?_|refine zU ?_|refine zT ?_|refine zu ?_)|((with_reducible refine zO ?_ ?_);(· exact rfl))))
        exact zl (ι:=Nat) (j+1) (by omega) (by omega) (by (repeat first|exact lK1|refine za rfl ?_)) (by (repeat constructor))
      · obtain rfl:j=i:=by omega
        (repeat' (first|((with_reducible refine zH ?_);first|refine zF rfl rfl rfl ?_|refine zC rfl rfl rfl ?_|(refine zS rfl rfl rfl rfl rfl (fun h=>?_) (fun h=>?_)<;>(dsimp only [cmpP] at h;(try (exfalso;omega))))|refine zAB rfl rfl rfl ?_)|(with_reducible first|refine zK ?_|refine zB ?_|refine zG ?_|refine zA ?_|refine zR ?_|refine zr ?_|refine zZ ?_|refine ze ?_)|((with_reducible refine zBH ?_ ?_);(· exact rfl))|((with_reducible refine zO ?_ ?_);(· exact rfl))|((with_reducible refine zI ?_ ?_);(· exact rfl))|(with_reducible refine zBg ?_)))
        exact zN (by exact rTm rfl) () trivial rfl (fun _ h=>h.sub (by (repeat constructor)))
    · rename_i b6
      have hok:zCd la s=false:=by unfold zCd;simp_all
      rw [hok,Bool.false_and] at hsb
      rw [hgo _ hsb rfl]
      refine z9 (ι:=Nat) [1,4,5,6,24,25,26,59,60] rfl (fun j=>j≤i) (fun j=>[(61,.int .i64 (j:Int))]) (fun j=>[.blk b6 (zAf s),.blk b1 [.int .i64 x.c.drift,.slice (some ⟨bb,o,none⟩) x.c.syncs.length x.cap]]) (fun j=>i - j) 0 (Nat.zero_le _) (by (repeat first|exact lK1|refine za rfl ?_)) (by (repeat constructor)) ?_
      rintro j hj
      simp only [zAu,zAf,List.cons_append,List.nil_append]
      by_cases hjl:j<i
      · obtain ⟨y,hy⟩:∃ y,x.c.syncs[j]?=some y:=⟨_,List.getElem?_eq_getElem (by omega)⟩
        have:zA5 x.c.syncs j y:=⟨hy⟩
        (repeat' (first|((with_reducible refine zH ?_);first|refine zF rfl rfl rfl ?_|refine zC rfl rfl rfl ?_|(refine zM rfl rfl rfl ?_;refine ⟨_,rfl,?_⟩)|refine zP rfl rfl rfl ?_|refine zn rfl rfl rfl rfl ?_|refine zd rfl rfl rfl ?_|(refine zS rfl rfl rfl rfl rfl (fun h=>?_) (fun h=>?_)<;>(dsimp only [cmpP] at h;(try (exfalso;omega))))|refine zFH rfl rfl rfl rfl ?_|refine zGD rfl rfl rfl rfl ?_|refine zE rfl rfl rfl rfl (fun _ _ q=>zFG _ _ _ (by decide)) ?_|refine zAD rfl rfl rfl rfl (by omega) ?_|refine zAN rfl rfl rfl rfl rfl (by omega) ?_|(refine zV rfl rfl rfl rfl rfl ?_;refine ⟨rfl,by first|decide|exact Nat.le_of_ble_eq_true rfl|(simp;omega),_,rfl,?_⟩)|(refine zX rfl rfl (fun b=>?_)))|(with_reducible first|refine zK ?_|refine zB ?_|refine zG ?_|refine zA ?_|refine zU ?_|refine zT ?_|refine zu ?_)|((with_reducible refine zO ?_ ?_);(· exact rfl))))
        exact zl (ι:=Nat) (j+1) (by omega) (by omega) (by (repeat first|exact lK1|refine za rfl ?_)) (by (repeat constructor))
      · obtain rfl:j=i:=by omega
        (repeat' (first|((with_reducible refine zH ?_);first|refine zF rfl rfl rfl ?_|refine zC rfl rfl rfl ?_|(refine zS rfl rfl rfl rfl rfl (fun h=>?_) (fun h=>?_)<;>(dsimp only [cmpP] at h;(try (exfalso;omega))))|refine zAB rfl rfl rfl ?_)|(with_reducible first|refine zK ?_|refine zB ?_|refine zG ?_|refine zA ?_|refine zR ?_|refine zr ?_|refine zZ ?_|refine ze ?_)|((with_reducible refine zBH ?_ ?_);(· exact rfl))|((with_reducible refine zO ?_ ?_);(· exact rfl))|((with_reducible refine zI ?_ ?_);(· exact rfl))|(with_reducible refine zBg ?_)))
        exact zN (by exact rTm rfl) () trivial rfl (fun _ h=>h.sub (by (repeat constructor)))
  · obtain rfl:i=x.c.syncs.length:=by omega
    rw [zA8.2 ⟨h1,h2,hall⟩]
    (repeat' (first|((with_reducible refine zH ?_);first|refine zF rfl rfl rfl ?_|refine zC rfl rfl rfl ?_|(refine zS rfl rfl rfl rfl rfl (fun h=>?_) (fun h=>?_)<;>(dsimp only [cmpP] at h;(try (exfalso;omega)))))|(with_reducible first|refine zK ?_|refine zB ?_|refine zG ?_|refine zA ?_|refine zR ?_|refine zr ?_|refine zZ ?_|refine ze ?_)|((with_reducible refine zI ?_ ?_);(· exact rfl))|(with_reducible refine zBg ?_)))
    exact zN (by exact rTm rfl) () trivial rfl (fun _ h=>h.sub (by (repeat constructor)))
end Go.Proofs.YtcpdjamlhhfbhaaGreat
namespace Go.Proofs.YtcpdjamlhhfbhaaGreat.Two
variable {ro : Option Nat}
open Go.RowKit
set_option maxRecDepth 20000
def bmOf (l:LnM) (i:Nat):Bm:=l.bms.getD i default
theorem zB3 {l:LnM} {i:Nat} {b:Bm} (h:l.bms[i]?=some b):bmOf l i=b:=by simp [bmOf,List.getD_eq_getElem?_getD,h]
def zAv (l:LnM) (i:Nat):Int:=if i=0 then (atT l.t (bmOf l 0).spot).lo else (apT l.t (bmOf l (i - 1)).spot (bmOf l i).spot).lo
set_option maxHeartbeats 2000000 in
theorem zF6 (l:LnM) (i:Nat) (w:World) (h:zDT w l) (hs:zBa l) (hi:i<l.bms.length):Gv Tryz.prog 32 [vLn l,.int .i64 (i:Int)] w (.int .i64 (zAv l i)):=by
 obtain ⟨bm,hb⟩:∃ b,l.bms[i]?=some b:=⟨_,List.getElem?_eq_getElem hi⟩
 have h4:=hs.b;have h5:=hs.t
 have hA:=fun W (hW:Below w.heap.size w W)=>at_any l.t l.TA l.tc bm.spot W (h.t.below hW) hs.fit (by omega)
 obtain ⟨bb,o,hBA,hblt,hc⟩:=h.b.at_ hi
 have hbb:=h.b
 rw [hBA] at hbb
 have:InS w bb o zAn 4 l.bms:=⟨hbb⟩
 have:zA5 l.bms i bm:=⟨hb⟩
 unfold zAl vSp at hA
 unfold Gv vLn
 rw [hBA]
 cases i with
 | zero =>
  have e:zAv l 0=(atT l.t bm.spot).lo:=by unfold zAv;rw [if_pos rfl,zB3 hb]
  rw [e]
  generalize atT l.t bm.spot=s at *
  generalize zCV l.t bm.spot=er at *
  (refine zD (n:=39) Tryz.func32 rfl rfl rfl ?_)
  (repeat' (first|((with_reducible refine zH ?_);first|refine zF rfl rfl rfl ?_|refine zC rfl rfl rfl ?_|(refine zM rfl rfl rfl ?_;refine ⟨_,rfl,?_⟩)|refine zP rfl rfl rfl ?_|(refine zS rfl rfl rfl rfl rfl (fun h=>?_) (fun h=>?_)<;>(dsimp only [cmpP] at h;(try (exfalso;omega))))|refine zE rfl rfl rfl rfl (fun _ _ q=>hA _ q.below) ?_|refine zh rfl rfl rfl rfl ?_|refine zAN rfl rfl rfl rfl rfl (by omega) ?_|(refine zV rfl rfl rfl rfl rfl ?_;refine ⟨rfl,by first|decide|exact Nat.le_of_ble_eq_true rfl|(simp;omega),_,rfl,?_⟩)|(refine zX rfl rfl (fun b=>?_))|(refine zf rfl rfl rfl rfl (fun b=>?_)))|(with_reducible first|refine zK ?_|refine zB ?_|refine zG ?_|refine zA ?_|refine zR ?_|refine zU ?_)|((with_reducible refine zI ?_ ?_);(· exact rfl))))
  all_goals exact zN (by exact rTm rfl) () trivial rfl (fun _ h=>h.sub (by (repeat constructor)))
 | succ j =>
  obtain ⟨a,ha⟩:∃ a,l.bms[j]?=some a:=⟨_,List.getElem?_eq_getElem (by omega)⟩
  have hP:=fun W (hW:Below w.heap.size w W)=>zHR l.t l.TA l.tc a.spot bm.spot W (h.t.below hW) hs.fit (by omega)
  have:zA5 l.bms j a:=⟨ha⟩
  have e:zAv l (j+1)=(apT l.t a.spot bm.spot).lo:=by unfold zAv;rw [if_neg (by omega),Nat.add_sub_cancel,zB3 hb,zB3 ha]
  rw [e]
  unfold zAl vSp at hP
  generalize atT l.t bm.spot=s at *
  generalize zCV l.t bm.spot=er at *
  generalize apT l.t a.spot bm.spot=s2 at *
  generalize zCe l.t a.spot bm.spot=er2 at *
  (refine zD (n:=39) Tryz.func32 rfl rfl rfl ?_)
  (repeat' (first|((with_reducible refine zH ?_);first|refine zF rfl rfl rfl ?_|refine zC rfl rfl rfl ?_|(refine zM rfl rfl rfl ?_;refine ⟨_,rfl,?_⟩)|refine zP rfl rfl rfl ?_|(refine zS rfl rfl rfl rfl rfl (fun h=>?_) (fun h=>?_)<;>(dsimp only [cmpP] at h;(try (exfalso;omega))))|refine zE rfl rfl rfl rfl (fun _ _ q=>hA _ q.below) ?_|refine zh rfl rfl rfl rfl ?_|refine zAN rfl rfl rfl rfl rfl (by omega) ?_|(refine zV rfl rfl rfl rfl rfl ?_;refine ⟨rfl,by first|decide|exact Nat.le_of_ble_eq_true rfl|(simp;omega),_,rfl,?_⟩)|(refine zX rfl rfl (fun b=>?_))|(refine zf rfl rfl rfl rfl (fun b=>?_)))|(with_reducible first|refine zK ?_|refine zB ?_|refine zG ?_|refine zA ?_)|((with_reducible refine zO ?_ ?_);(· exact rfl))))
  rename_i b2 b5
  (refine zAP [] [(14,0,0,[.blk b [.int .i64 s.lo,.int .i64 s.hi]])] [(14,0,0)] rfl (show ([14]:List Nat).Nodup by decide) (H0:=[.blk b5 [.int .i64 bm.spot.st,.int .i64 bm.spot.off.lo,.int .i64 bm.spot.off.hi],.blk b2 [.slice l.TA l.t.length l.tc,.int .i64 l.fast,.slice l.CA l.cks.length l.cc,.slice (some ⟨bb,o,none⟩) l.bms.length l.bc,.int .i64 l.finish,.int .i64 l.fakes,.int .i64 l.misses]]) (fun _ h=>h.sub (by (repeat constructor))) (by kernel_rfl) [[],[Z],[Y,Y],[Z,Y,Y],[Y,Y,Y,Y],[Z,Y,Y,Y,Y],[Z,Z,Z,Z,Y,Y],[Z,Z,Z,Z,Z,Y,Y],[Z,Z,Z,Z,Z,Z,Y,Y],[Y,Y,Y,Y,Y,Y,Y,Y,Y],[Z,Z,Z,Z,Z,Z,Z,Z,Z,Z],[Z,Z,Z,Z,Z,Z,Z,Z,Z,Z,Z],[Z,Z,Z,Z,Z,Z,Z,Z,Z,Z,Z,Z],[Y,Z,Z,Z,Z,Z,Z,Z,Z,Z,Z,Z,Z],[Y,Z,Z,Z,Z,Z,Z,Z,Z,Z,Z,Z,Z,Z]] (by kernel_rfl) (by kernel_rfl) (by kernel_rfl) (by kernel_rfl) (by kernel_rfl) ?_)
  (repeat' (first|(((with_reducible refine zCL ?_ ?_);(· exact rfl);refine ⟨_,fun G=>(by (try simp (decide:=true) only [vis,see,fltT,z8,Nat.reduceAdd,Nat.reduceSub,if_true,if_false,List.set_cons_zero,List.set_cons_succ,List.set_nil,List.nil_append,List.cons_append]);rfl),?_⟩);first|refine zW _ (fun _=>zAi rfl rfl) (fun _=>rfl) rfl (by intro G G' h;simp (decide:=true) only [h]) ?_|refine zW _ (fun _=>zAC rfl rfl (by exact rfl)) (fun _=>rfl) rfl (by intro G G' h;simp (decide:=true) only [h]) ?_|(refine zAj rfl ?_;refine zW _ (fun _=>zAd rfl rfl) (fun _=>rfl) rfl (by intro G G' h;simp (decide:=true) only [h]) ?_)|refine zAR _ rfl (fun _=>rfl) rfl (fun _=>rfl) (fun _=>rfl) (fun _ _ _ q=>hP _ q.below) (by intro G G' h;simp (decide:=true) only [h]) ?_|refine zW _ (fun _=>zAV (I:=j) rfl rfl rfl (by omega) (by omega)) (fun _=>rfl) rfl (by exact fun _ _ _=>rfl) ?_|refine zW _ (fun _=>zCJ rfl rfl rfl) (fun _=>rfl) rfl (by intro G G' h;simp (decide:=true) only [h]) ?_|refine zW _ (fun _=>zDy rfl rfl rfl (IntWalk.i64_in _ (by omega))) (fun _=>rfl) rfl (by intro G G' h;simp (decide:=true) only [h]) ?_)|(refine zDM (cs':=fun _=>[.int .i64 s2.lo,.int .i64 s2.hi]) List.mem_cons_self rfl rfl (fun _=>rfl) rfl (fun _=>rfl) (fun _=>rfl) (fun _=>rfl) (fun _=>rfl) rfl (fun _=>rfl) (by exact fun _ _ _=>rfl) ?_)|(with_reducible refine zB2 ?_)))
  intro G
  simp only [regsT,List.nil_append,List.cons_append]
  refine zBk (H':=[.blk b [.int .i64 s2.lo,.int .i64 s2.hi],.blk b5 [.int .i64 bm.spot.st,.int .i64 bm.spot.off.lo,.int .i64 bm.spot.off.hi],.blk b2 [.slice l.TA l.t.length l.tc,.int .i64 l.fast,.slice l.CA l.cks.length l.cc,.slice (some ⟨bb,o,none⟩) l.bms.length l.bc,.int .i64 l.finish,.int .i64 l.fakes,.int .i64 l.misses]]) (fun _ h=>h) ?_
  (repeat' (first|((with_reducible refine zH ?_);first|refine zC rfl rfl rfl ?_|(refine zM rfl rfl rfl ?_;refine ⟨_,rfl,?_⟩)|refine zP rfl rfl rfl ?_)|(with_reducible first|refine zK ?_|refine zB ?_|refine zG ?_|refine zA ?_|refine zR ?_)))
  all_goals exact zN (by exact rTm rfl) () trivial rfl (fun _ h=>h.sub (by (repeat constructor)))
set_option maxHeartbeats 2000000 in
theorem rway_any (l:LnM) (i:Nat) (w:World) (h:zDT w l) (hs:zBa l) (hi:i<l.bms.length):Gv Tryz.prog 91 [vLn l,.int .i64 (i:Int)] w (.int .i64 (zAv l i)):=by
 obtain ⟨bm,hb⟩:∃ b,l.bms[i]?=some b:=⟨_,List.getElem?_eq_getElem hi⟩
 have h4:=hs.b;have h5:=hs.t
 obtain ⟨bb,o,hBA,hblt,hc⟩:=h.b.at_ hi
 have hbb:=h.b
 rw [hBA] at hbb
 have:InS w bb o zAn 4 l.bms:=⟨hbb⟩
 have:zA5 l.bms i bm:=⟨hb⟩
 unfold Gv vLn
 rw [hBA]
 cases i with
 | zero =>
  have hA:=fun W (hW:Below w.heap.size w W)=>rAt_any l.t l.TA l.tc bm.spot W (h.t.below hW) hs.fit (by omega)
  unfold zAl vSp at hA
  have e:zAv l 0=(atT l.t bm.spot).lo:=by unfold zAv;rw [if_pos rfl,zB3 hb]
  rw [e]
  generalize atT l.t bm.spot=s at *
  generalize zCV l.t bm.spot=er at *
  (refine zD (n:=45) Tryz.func91 rfl rfl rfl ?_)
  (repeat' (first|((with_reducible refine zH ?_);first|refine zF rfl rfl rfl ?_|refine zC rfl rfl rfl ?_|(refine zS rfl rfl rfl rfl rfl (fun h=>?_) (fun h=>?_)<;>(dsimp only [cmpP] at h;(try (exfalso;omega))))|(refine zf rfl rfl rfl rfl (fun b=>?_)))|(with_reducible first|refine zK ?_|refine zB ?_|refine zG ?_|refine zA ?_)|((with_reducible refine zO ?_ ?_);(· exact rfl))))
  (refine zAP [(11,12)] [] [] rfl (by decide) (fun _ h=>h) (by kernel_rfl) [[],[Z],[Y,Y],[Z,Y,Y],[Z,Z,Y,Y],[Z,Z,Z,Y,Y],[Z,Z,Z,Z,Y,Y],[Z,Z,Z,Z,Z,Z,Z],[Z,Z,Z,Z,Z,Z,Z,Z],[Z,Z,Z,Z,Z,Z,Z,Z,Z],[Y,Z,Z,Z,Z,Z,Z,Z,Z,Z],[Y,Y,Y,Y,Y,Y,Y,Y,Y,Y,Y],[Z,Y,Z,Z,Z,Z,Z,Z,Z,Z,Z,Z],[Z,Z,Z,Z,Z,Z,Z,Z,Z,Z,Z,Z,Z]] (by kernel_rfl) (by kernel_rfl) (by kernel_rfl) (by kernel_rfl) (by kernel_rfl) ?_)
  (repeat' (first|(((with_reducible refine zCL ?_ ?_);(· exact rfl);refine ⟨_,fun G=>(by (try simp (decide:=true) only [vis,see,fltT,z8,Nat.reduceAdd,Nat.reduceSub,if_true,if_false,List.set_cons_zero,List.set_cons_succ,List.set_nil,List.nil_append,List.cons_append]);rfl),?_⟩);first|refine zW _ (fun _=>zAi rfl rfl) (fun _=>rfl) rfl (by intro G G' h;simp (decide:=true) only [h]) ?_|refine zW _ (fun _=>zAC rfl rfl (by exact rfl)) (fun _=>rfl) rfl (by intro G G' h;simp (decide:=true) only [h]) ?_|(refine zAj rfl ?_;refine zW _ (fun _=>zAd rfl rfl) (fun _=>rfl) rfl (by intro G G' h;simp (decide:=true) only [h]) ?_)|refine zW _ (fun _=>zAa rfl rfl) (fun _=>rfl) rfl (by intro G G' h;simp (decide:=true) only [h]) ?_|refine zAR _ rfl (fun _=>rfl) rfl (fun _=>rfl) (fun _=>rfl) (fun _ _ _ q=>hA _ q.below) (by intro G G' h;simp (decide:=true) only [h]) ?_|refine zW _ (fun _=>zAV (I:=0) rfl rfl rfl rfl (by omega)) (fun _=>rfl) rfl (by exact fun _ _ _=>rfl) ?_|refine zW _ (fun _=>zCJ rfl rfl rfl) (fun _=>rfl) rfl (by intro G G' h;simp (decide:=true) only [h]) ?_|refine zDO rfl (fun _=>rfl) rfl ?_)|(refine zCl (gx:=fun G=>(G 11).g) (cs:=fun _=>[.int .i64 0,.int .i64 0]) (cs':=fun _=>[.int .i64 s.lo,.int .i64 s.hi]) 11 (by decide) rfl rfl (fun _=>rfl) rfl (fun _=>rfl) (fun _=>rfl) (fun _=>rfl) (fun _=>rfl) (fun _=>rfl) (fun _=>rfl) (fun _=>rfl) (by intro G G' h;simp (decide:=true) only [h]) (by exact fun _ _ _=>rfl) ?_)|(with_reducible refine zB2 ?_)))
  intro G
  simp only [regsT,List.nil_append,List.cons_append]
  refine zBk (H':=[.blk (G 11).g [.int .i64 s.lo,.int .i64 s.hi],.blk b [.slice l.TA l.t.length l.tc,.int .i64 l.fast,.slice l.CA l.cks.length l.cc,.slice (some ⟨bb,o,none⟩) l.bms.length l.bc,.int .i64 l.finish,.int .i64 l.fakes,.int .i64 l.misses]]) (fun _ h=>h) ?_
  (repeat' (first|((with_reducible refine zH ?_);first|refine zC rfl rfl rfl ?_|(refine zM rfl rfl rfl ?_;refine ⟨_,rfl,?_⟩)|refine zP rfl rfl rfl ?_)|(with_reducible first|refine zK ?_|refine zB ?_|refine zG ?_|refine zA ?_|refine zR ?_|refine zb ?_)))
  all_goals exact zN (by exact rTm rfl) () trivial rfl (fun _ h=>h.sub (by (repeat constructor)))
 | succ j =>
  obtain ⟨a,ha⟩:∃ a,l.bms[j]?=some a:=⟨_,List.getElem?_eq_getElem (by omega)⟩
  have hP:=fun W (hW:Below w.heap.size w W)=>zGP l.t l.TA l.tc a.spot bm.spot W (h.t.below hW) hs.fit (by omega)
  have:zA5 l.bms j a:=⟨ha⟩
  have e:zAv l (j+1)=(apT l.t a.spot bm.spot).lo:=by unfold zAv;rw [if_neg (by omega),Nat.add_sub_cancel,zB3 hb,zB3 ha]
  rw [e]
  unfold zAl vSp at hP
  generalize apT l.t a.spot bm.spot=s2 at *
  generalize zCe l.t a.spot bm.spot=er2 at *
  (refine zD (n:=45) Tryz.func91 rfl rfl rfl ?_)
  (repeat' (first|((with_reducible refine zH ?_);first|refine zF rfl rfl rfl ?_|refine zC rfl rfl rfl ?_|(refine zS rfl rfl rfl rfl rfl (fun h=>?_) (fun h=>?_)<;>(dsimp only [cmpP] at h;(try (exfalso;omega))))|(refine zf rfl rfl rfl rfl (fun b=>?_)))|(with_reducible first|refine zK ?_|refine zB ?_|refine zG ?_|refine zA ?_|refine zU ?_)|((with_reducible refine zI ?_ ?_);(· exact rfl))))
  (refine zAP [(19,20)] [] [] rfl (by decide) (fun _ h=>h) (by kernel_rfl) [[],[Z],[Y,Y],[Z,Y,Y],[Y,Y,Y,Y],[Z,Y,Y,Y,Y],[Z,Z,Z,Z,Y,Y],[Z,Z,Z,Z,Z,Y,Y],[Z,Z,Z,Z,Z,Z,Y,Y],[Y,Y,Y,Y,Y,Y,Y,Y,Y],[Z,Y,Y,Y,Y,Y,Y,Y,Y,Y],[Y,Y,Y,Y,Y,Y,Y,Y,Y,Y,Y],[Z,Z,Z,Y,Y,Y,Y,Y,Y,Y,Y,Y],[Z,Z,Z,Z,Y,Y,Y,Y,Y,Y,Y,Y,Y],[Z,Z,Z,Z,Z,Y,Y,Y,Y,Y,Y,Y,Y,Y],[Z,Z,Z,Z,Z,Z,Z,Z,Z,Z,Z,Z,Z,Z,Z],[Z,Z,Z,Z,Z,Z,Z,Z,Z,Z,Z,Z,Z,Z,Z,Z],[Z,Z,Z,Z,Z,Z,Z,Z,Z,Z,Z,Z,Z,Z,Z,Z,Z],[Y,Z,Z,Z,Z,Z,Z,Z,Z,Z,Z,Z,Z,Z,Z,Z,Z,Z],[Y,Y,Y,Y,Y,Y,Y,Y,Y,Y,Y,Y,Y,Y,Y,Y,Y,Y,Y],[Z,Y,Z,Z,Z,Z,Z,Z,Z,Z,Z,Z,Z,Z,Z,Z,Z,Z,Z,Z],[Z,Z,Z,Z,Z,Z,Z,Z,Z,Z,Z,Z,Z,Z,Z,Z,Z,Z,Z,Z,Z]] (by kernel_rfl) (by kernel_rfl) (by kernel_rfl) (by kernel_rfl) (by kernel_rfl) ?_)
  (repeat' (first|(((with_reducible refine zCL ?_ ?_);(· exact rfl);refine ⟨_,fun G=>(by (try simp (decide:=true) only [vis,see,fltT,z8,Nat.reduceAdd,Nat.reduceSub,if_true,if_false,List.set_cons_zero,List.set_cons_succ,List.set_nil,List.nil_append,List.cons_append]);rfl),?_⟩);first|refine zW _ (fun _=>zAi rfl rfl) (fun _=>rfl) rfl (by intro G G' h;simp (decide:=true) only [h]) ?_|refine zW _ (fun _=>zAC rfl rfl (by exact rfl)) (fun _=>rfl) rfl (by intro G G' h;simp (decide:=true) only [h]) ?_|(refine zAj rfl ?_;refine zW _ (fun _=>zAd rfl rfl) (fun _=>rfl) rfl (by intro G G' h;simp (decide:=true) only [h]) ?_)|refine zW _ (fun _=>zAa rfl rfl) (fun _=>rfl) rfl (by intro G G' h;simp (decide:=true) only [h]) ?_|refine zAR _ rfl (fun _=>rfl) rfl (fun _=>rfl) (fun _=>rfl) (fun _ _ _ q=>hP _ q.below) (by intro G G' h;simp (decide:=true) only [h]) ?_|refine zW _ (fun _=>zAV (I:=j) rfl rfl rfl (by omega) (by omega)) (fun _=>rfl) rfl (by exact fun _ _ _=>rfl) ?_|refine zW _ (fun _=>zAV (I:=j+1) rfl rfl rfl rfl (by omega)) (fun _=>rfl) rfl (by exact fun _ _ _=>rfl) ?_|refine zW _ (fun _=>zCJ rfl rfl rfl) (fun _=>rfl) rfl (by intro G G' h;simp (decide:=true) only [h]) ?_|refine zW _ (fun _=>zDy rfl rfl rfl (IntWalk.i64_in _ (by omega))) (fun _=>rfl) rfl (by intro G G' h;simp (decide:=true) only [h]) ?_|refine zDO rfl (fun _=>rfl) rfl ?_)|(refine zCl (gx:=fun G=>(G 19).g) (cs:=fun _=>[.int .i64 0,.int .i64 0]) (cs':=fun _=>[.int .i64 s2.lo,.int .i64 s2.hi]) 19 (by decide) rfl rfl (fun _=>rfl) rfl (fun _=>rfl) (fun _=>rfl) (fun _=>rfl) (fun _=>rfl) (fun _=>rfl) (fun _=>rfl) (fun _=>rfl) (by intro G G' h;simp (decide:=true) only [h]) (by exact fun _ _ _=>rfl) ?_)|(with_reducible refine zB2 ?_)))
  intro G
  simp only [regsT,List.nil_append,List.cons_append]
  refine zBk (H':=[.blk (G 19).g [.int .i64 s2.lo,.int .i64 s2.hi],.blk b [.slice l.TA l.t.length l.tc,.int .i64 l.fast,.slice l.CA l.cks.length l.cc,.slice (some ⟨bb,o,none⟩) l.bms.length l.bc,.int .i64 l.finish,.int .i64 l.fakes,.int .i64 l.misses]]) (fun _ h=>h) ?_
  (repeat' (first|((with_reducible refine zH ?_);first|refine zC rfl rfl rfl ?_|(refine zM rfl rfl rfl ?_;refine ⟨_,rfl,?_⟩)|refine zP rfl rfl rfl ?_)|(with_reducible first|refine zK ?_|refine zB ?_|refine zG ?_|refine zA ?_|refine zR ?_)))
  all_goals exact zN (by exact rTm rfl) () trivial rfl (fun _ h=>h.sub (by (repeat constructor)))
def ask1 (l:LnM):Bool:=inB 1 5000 l.fast && inB 1 4 l.cks.length && inB 1 6 l.bms.length && inB 0 ((l.bms.length:Int) - 1) l.finish && inB 0 3 l.fakes && inB 0 3 l.misses
def zCm (l:LnM) (b:Bm):Bool:=zj l.t b.spot && inB 0 ((l.cks.length:Int) - 1) b.clock
def zBI (l:LnM):Bool:=ask1 l && (l.cks.all (fun x=>zAe x.c) && (l.bms.all (zCm l) && (List.range l.bms.length).all fun i=>decide (1≤zAv l i)))
def zCv (l:LnM):Int:=if valid l.t then (if zBI l then 0 else 50) else 10
theorem zGU {l:LnM}:zBI l=true↔ask1 l=true∧l.cks.all (fun x=>zAe x.c)=true∧l.bms.all (zCm l)=true∧∀ i,i<l.bms.length→1≤zAv l i:=by
 unfold zBI
 simp only [Bool.and_eq_true,List.all_eq_true,List.mem_range,decide_eq_true_eq]
structure FineL (l:LnM):Prop where
 valid:valid l.t=true
 fast:1≤l.fast∧l.fast≤5000
 cks:1≤l.cks.length∧l.cks.length≤4
 bms:1≤l.bms.length∧l.bms.length≤6
 finish:0≤l.finish∧l.finish<l.bms.length
 fakes:0≤l.fakes∧l.fakes≤3
 misses:0≤l.misses∧l.misses≤3
 goes:∀ x∈l.cks,zAe x.c=true
 bm:∀ b∈l.bms,zj l.t b.spot=true∧0≤b.clock∧b.clock<l.cks.length
 way:∀ i,i<l.bms.length→1≤zAv l i
theorem zEY {l:LnM} (h:zCv l=0):FineL l:=by
 unfold zCv at h
 by_cases hv:valid l.t=true
 ·rw [if_pos hv] at h
  by_cases hi:zBI l=true
  ·obtain ⟨h1,h2,h3,h4⟩:=zGU.1 hi
   simp only [ask1,Bool.and_eq_true,zy] at h1
   refine ⟨hv,by omega,by omega,by omega,by omega,by omega,by omega,fun x hx=>List.all_eq_true.1 h2 x hx,fun b hb=>?_,h4⟩
   have:=List.all_eq_true.1 h3 b hb
   simp only [zCm,Bool.and_eq_true,zy] at this
   exact ⟨this.1,by omega,by omega⟩
  ·rw [if_neg hi] at h;cases h
 ·rw [if_neg hv] at h;cases h
end Go.Proofs.YtcpdjamlhhfbhaaGreat.Two
