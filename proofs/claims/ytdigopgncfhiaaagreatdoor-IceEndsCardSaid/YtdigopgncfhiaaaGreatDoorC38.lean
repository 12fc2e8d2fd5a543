/- C38 -/
import Derived.Test.YtdigopgncfhiaaaGreatDoorC35
set_option linter.unusedSimpArgs false
set_option linter.unusedVariables false
namespace Go.Proofs.YtdigopgncfhiaaaGreatDoor
variable {ro : Option Nat}
open Go.RowKit
set_option maxRecDepth 20000
def endZ (bo:Bool) (z:Bed):Int:=if bo then z.thick.hi else z.thick.lo
def endU (bo:Bool) (u:Hour):Int:=if bo then u.melt.lo else u.melt.hi
def zDf (bo:Bool) (c:Cov):Tru:=if bo then zI5 c else zI4 c
theorem endT_th {bo:Bool} {c:Cov}:(zDf bo c).th=c.beds.map (endZ bo):=by cases bo<;>rfl
theorem endT_me {bo:Bool} {c:Cov}:(zDf bo c).me=c.hours.map (endU bo):=by cases bo<;>rfl
theorem zNl {α β:Type} {f:α→β} {l:List α} {i:Nat} {x:α} (h:l[i]?=some x):(l.take (i+1)).map f=(l.take i).map f++[f x]:=by
 rw [List.take_add_one,h];simp
set_option maxHeartbeats 4000000 in
theorem zOW (c:Cov) (A:Option Addr) (ca:Nat) (B:Option Addr) (cb:Nat) (C:Option Addr) (cc:Nat) (bo:Bool) (w:World) (hc:zAU w c A B C) (hs:Small c) :
  Ret Tryz.prog 46 [zAI c A ca B cb C cc,.bool bo] w (fun z:(Option Addr × Nat) × (Option Addr × Nat)=>.agg (zHC (zDf bo c) z.1.1 z.1.2 z.2.1 z.2.2).toArray) (fun z=>[.sl encI 1 z.1.1 (zDf bo c).th,.sl encI 1 z.2.1 (zDf bo c).me]) (fun _=>True):=by
 have h4:=hs.b;have h5:=hs.h
 have hb:=hc.b;have hh:=hc.h
 unfold zHC
 rw [endT_th,endT_me]
 obtain ⟨we,hwe⟩:∃ we,we=(zDf bo c).we:=⟨_,rfl⟩
 obtain ⟨la,hla⟩:∃ la,la=(zDf bo c).la:=⟨_,rfl⟩
 rw [← hwe,← hla]
 have hwe2:we=if bo then c.wear.lo else c.wear.hi:=by rw [hwe];cases bo<;>rfl
 have hla2:la=if bo then c.layer.hi else c.layer.lo:=by rw [hla];cases bo<;>rfl
 obtain ⟨fz,hfz⟩:∃ f,f=endZ bo:=⟨_,rfl⟩
 obtain ⟨fu,hfu⟩:∃ f,f=endU bo:=⟨_,rfl⟩
 rw [← hfz,← hfu]
 have l1:∀ i,((c.beds.take i).map fz).length≤20:=fun i=>by rw [List.length_map,List.length_take];omega
 have l2:∀ i,((c.hours.take i).map fu).length≤20:=fun i=>by rw [List.length_map,List.length_take];omega
 have t1:c.beds.take c.beds.length=c.beds:=List.take_length
 have t2:c.hours.take c.hours.length=c.hours:=List.take_length
 clear hwe hla
 unfold zAI zH
 (refine zM (n:=70) Tryz.func46 rfl rfl rfl ?_)
 refine zCM encI 1 3 ?_
 refine zCM encI 1 3 ?_
 cases bo
 all_goals
  simp only [Bool.false_eq_true,if_true,if_false] at hwe2 hla2
  (repeat' (first|((with_reducible refine zG ?_);first|refine zE rfl rfl rfl rfl rfl ?_|(refine zK rfl rfl rfl rfl rfl ?_;refine ⟨_,rfl,?_⟩)|refine ze rfl rfl rfl rfl rfl ?_|refine zr rfl rfl rfl rfl rfl ?_|(refine zf rfl rfl rfl rfl rfl ?_;refine And.intro rfl (And.intro (by first|decide|exact Nat.le_of_ble_eq_true rfl|(simp;omega)) ⟨_,rfl,?_⟩))|(refine zo rfl rfl rfl rfl (fun b=>?_))|(refine zAM rfl rfl rfl rfl rfl rfl (fun b=>?_))|(refine zBA rfl rfl rfl rfl rfl ?_;refine ⟨_,rfl,?_⟩))|(with_reducible first|refine zI ?_|refine zB ?_|refine zD ?_|refine zA ?_|refine zP ?_|refine zN ?_)|((with_reducible refine zJ ?_ ?_);(· exact rfl))|((with_reducible refine zF ?_ ?_);(· exact rfl))))
  obtain ⟨b5,hb5⟩:∃ x,x=b:=⟨_,rfl⟩
  subst hb5
  obtain ⟨b4,hb4⟩:∃ x,x=b:=⟨_,rfl⟩
  subst hb4
  obtain ⟨b2,hb2⟩:∃ x,x=b:=⟨_,rfl⟩
  subst hb2
  refine u_blk (b:=b5) (cs':=[.slice none 0 0,.slice none 0 0,.int .i64 we,.int .i64 la]) (by (repeat (first|exact tK1 _ _|apply tK2))) (by rw [hwe2,hla2];rfl) ?_
  refine zu (ι:=Nat × Value) [1,2,4,5,28,29] rfl (fun p=>p.1≤c.beds.length) (fun p=>[(30,.int .i64 (p.1:Int))]) (fun p=>[.row encI 1 3 p.2 ((c.beds.take p.1).map fz),.row encI 1 3 (.slice none 0 0) [],.blk b5 [p.2,.slice none 0 0,.int .i64 we,.int .i64 la],.blk b4 [.slice none 0 0,.slice none 0 0,.int .i64 0,.int .i64 0],.blk b2 [.slice A c.t.length ca,.slice B c.beds.length cb,.slice C c.hours.length cc,.int .i64 c.wear.lo,.int .i64 c.wear.hi,.int .i64 c.layer.lo,.int .i64 c.layer.hi,.int .i64 c.rate,.int .i64 c.limit,.int .i64 c.base]]) (fun p=>c.beds.length - p.1) (0,.slice none 0 0) (Nat.zero_le _) (by (first|exact lK1|(repeat (first|exact lK1|(refine zL rfl ?_))))) (by (repeat (first|exact oK1 _|(refine oK2 (by (repeat (first|exact tK1 _ _|apply tK2))) ?_)))) ?_
  rintro ⟨i,v⟩ hi
  simp only at hi
  simp only [zAq,List.cons_append,List.nil_append]
  by_cases hil:i<c.beds.length
  ·obtain ⟨z,hz⟩:∃ z,c.beds[i]?=some z:=⟨_,List.getElem?_eq_getElem hil⟩
   obtain ⟨bb,ob,rfl,_,_⟩:=hb.at_ hil
   have:InS w bb ob zAJ 3 c.beds:=⟨hb⟩
   have:zAR c.beds i z:=⟨hz⟩
   have e1:=(zNl (f:=fz) hz).symm
   have lI:=l1 i
   generalize (c.beds.take i).map fz=TL at *
   (repeat' (first|((with_reducible refine zG ?_);first|refine zE rfl rfl rfl rfl rfl ?_|refine zC rfl rfl rfl rfl rfl ?_|(refine zK rfl rfl rfl rfl rfl ?_;refine ⟨_,rfl,?_⟩)|refine ze rfl rfl rfl rfl rfl ?_|(refine zQ rfl rfl rfl rfl rfl rfl rfl (fun h=>?_) (fun h=>?_)<;>(dsimp only [cmpP] at h;(try (exfalso;omega))))|(refine zAx (enc:=encI) [_] rfl rfl rfl rfl rfl (by (repeat (first|exact tK1 _ _|apply tK2))) rfl rfl (zAl (by exact rfl)) (by refine ⟨?_,by decide⟩;(try simp only [List.length_append,List.length_cons,List.length_nil]);omega) (fun A' c'=>?_))|refine zj rfl rfl rfl rfl rfl rfl (by omega) ?_|refine zi rfl rfl rfl rfl rfl rfl rfl (by omega) ?_|(refine zf rfl rfl rfl rfl rfl ?_;refine And.intro rfl (And.intro (by first|decide|exact Nat.le_of_ble_eq_true rfl|(simp;omega)) ⟨_,rfl,?_⟩))|(refine zo rfl rfl rfl rfl (fun b=>?_))|(refine zz rfl rfl rfl rfl rfl ?_;refine ⟨rfl,_,rfl,fun b=>?_⟩))|(with_reducible first|refine zI ?_|refine zB ?_|refine zD ?_|refine zA ?_|refine zP ?_|refine zN ?_|refine zk ?_)|((with_reducible refine zJ ?_ ?_);(· exact rfl))|((with_reducible refine zF ?_ ?_);(· exact rfl))))
   first|rw [show fz z=z.thick.lo by rw [hfz];rfl] at e1|rw [show fz z=z.thick.hi by rw [hfz];rfl] at e1
   rw [e1]
   exact zc (ι:=Nat × Value) (i+1,.slice A' ((c.beds.take (i+1)).map fz).length c') (by simp only;omega) (by simp only;omega) (by (first|exact lK1|(repeat (first|exact lK1|(refine zL rfl ?_))))) (by (repeat (first|exact oK1 _|(refine oK2 (by (repeat (first|exact tK1 _ _|apply tK2))) ?_))))
  obtain rfl:i=c.beds.length:=by omega
  rw [t1]
  obtain ⟨v1,hv1⟩:∃ x,x=v:=⟨_,rfl⟩
  subst hv1
  (repeat' (first|((with_reducible refine zG ?_);first|refine zE rfl rfl rfl rfl rfl ?_|(refine zK rfl rfl rfl rfl rfl ?_;refine ⟨_,rfl,?_⟩)|refine ze rfl rfl rfl rfl rfl ?_|(refine zQ rfl rfl rfl rfl rfl rfl rfl (fun h=>?_) (fun h=>?_)<;>(dsimp only [cmpP] at h;(try (exfalso;omega))))|refine zr rfl rfl rfl rfl rfl ?_)|(with_reducible first|refine zI ?_|refine zB ?_|refine zD ?_|refine zA ?_|refine zN ?_|refine zn ?_|refine zR ?_|refine zY ?_)|((with_reducible refine zF ?_ ?_);(· exact rfl))))
  refine zu (ι:=Nat × Value) [1,2,4,5,49,50] rfl (fun p=>p.1≤c.hours.length) (fun p=>[(51,.int .i64 (p.1:Int))]) (fun p=>[.row encI 1 3 p.2 ((c.hours.take p.1).map fu),.row encI 1 3 v1 (c.beds.map fz),.blk b5 [v1,p.2,.int .i64 we,.int .i64 la],.blk b4 [.slice none 0 0,.slice none 0 0,.int .i64 0,.int .i64 0],.blk b2 [.slice A c.t.length ca,.slice B c.beds.length cb,.slice C c.hours.length cc,.int .i64 c.wear.lo,.int .i64 c.wear.hi,.int .i64 c.layer.lo,.int .i64 c.layer.hi,.int .i64 c.rate,.int .i64 c.limit,.int .i64 c.base]]) (fun p=>c.hours.length - p.1) (0,.slice none 0 0) (Nat.zero_le _) (by (first|exact lK1|(repeat (first|exact lK1|(refine zL rfl ?_))))) (by (repeat (first|exact oK1 _|(refine oK2 (by (repeat (first|exact tK1 _ _|apply tK2))) ?_)))) ?_
  rintro ⟨i,v⟩ hi
  simp only at hi
  simp only [zAq,List.cons_append,List.nil_append]
  by_cases hil:i<c.hours.length
  ·obtain ⟨z,hz⟩:∃ z,c.hours[i]?=some z:=⟨_,List.getElem?_eq_getElem hil⟩
   obtain ⟨bb,ob,rfl,_,_⟩:=hh.at_ hil
   have:InS w bb ob zp 5 c.hours:=⟨hh⟩
   have:zAR c.hours i z:=⟨hz⟩
   have e1:=(zNl (f:=fu) hz).symm
   have lI:=l2 i
   generalize (c.hours.take i).map fu=TL at *
   (repeat' (first|((with_reducible refine zG ?_);first|refine zE rfl rfl rfl rfl rfl ?_|refine zC rfl rfl rfl rfl rfl ?_|(refine zK rfl rfl rfl rfl rfl ?_;refine ⟨_,rfl,?_⟩)|refine ze rfl rfl rfl rfl rfl ?_|(refine zQ rfl rfl rfl rfl rfl rfl rfl (fun h=>?_) (fun h=>?_)<;>(dsimp only [cmpP] at h;(try (exfalso;omega))))|(refine zAx (enc:=encI) [_] rfl rfl rfl rfl rfl (by (repeat (first|exact tK1 _ _|apply tK2))) rfl rfl (zAl (by exact rfl)) (by refine ⟨?_,by decide⟩;(try simp only [List.length_append,List.length_cons,List.length_nil]);omega) (fun A' c'=>?_))|refine zj rfl rfl rfl rfl rfl rfl (by omega) ?_|refine zi rfl rfl rfl rfl rfl rfl rfl (by omega) ?_|(refine zf rfl rfl rfl rfl rfl ?_;refine And.intro rfl (And.intro (by first|decide|exact Nat.le_of_ble_eq_true rfl|(simp;omega)) ⟨_,rfl,?_⟩))|(refine zo rfl rfl rfl rfl (fun b=>?_))|(refine zz rfl rfl rfl rfl rfl ?_;refine ⟨rfl,_,rfl,fun b=>?_⟩))|(with_reducible first|refine zI ?_|refine zB ?_|refine zD ?_|refine zA ?_|refine zP ?_|refine zN ?_|refine zk ?_)|((with_reducible refine zJ ?_ ?_);(· exact rfl))|((with_reducible refine zF ?_ ?_);(· exact rfl))))
   first|rw [show fu z=z.melt.lo by rw [hfu];rfl] at e1|rw [show fu z=z.melt.hi by rw [hfu];rfl] at e1
   rw [e1]
   exact zc (ι:=Nat × Value) (i+1,.slice A' ((c.hours.take (i+1)).map fu).length c') (by simp only;omega) (by simp only;omega) (by (first|exact lK1|(repeat (first|exact lK1|(refine zL rfl ?_))))) (by (repeat (first|exact oK1 _|(refine oK2 (by (repeat (first|exact tK1 _ _|apply tK2))) ?_))))
  obtain rfl:i=c.hours.length:=by omega
  rw [t2]
  refine zDJ (xs:=c.beds.map fz) (enc:=encI) (by (repeat (first|exact tK1 _ _|apply tK2))) ?_
  rintro A1 k1 rfl
  refine zDJ (xs:=c.hours.map fu) (enc:=encI) (by (repeat (first|exact tK1 _ _|apply tK2))) ?_
  rintro A2 k2 rfl
  (repeat' (first|((with_reducible refine zG ?_);first|(refine zK rfl rfl rfl rfl rfl ?_;refine ⟨_,rfl,?_⟩)|(refine zQ rfl rfl rfl rfl rfl rfl rfl (fun h=>?_) (fun h=>?_)<;>(dsimp only [cmpP] at h;(try (exfalso;omega))))|(refine zf rfl rfl rfl rfl rfl ?_;refine And.intro rfl (And.intro (by first|decide|exact Nat.le_of_ble_eq_true rfl|(simp;omega)) ⟨_,rfl,?_⟩)))|(with_reducible first|refine zI ?_|refine zB ?_|refine zD ?_|refine zA ?_|refine zb ?_|refine zn ?_|refine zR ?_|refine zY ?_)|((with_reducible refine zF ?_ ?_);(· exact rfl))))
  exact zT (by (exact zO.cons (by exact res1c rfl (by exact rfl)) zO.nil)) ((A1,k1),(A2,k2)) trivial rfl (fun _ h=>((h.zCT (xs:=c.beds.map fz) (enc:=encI) (by (repeat (first|exact tK1 _ _|apply tK2)))).zCT (xs:=c.hours.map fu) (enc:=encI) (by (repeat (first|exact tK1 _ _|apply tK2)))).sub (by (repeat (first|exact oK1 _|(refine oK2 (by (repeat (first|exact tK1 _ _|apply tK2))) ?_)))))
theorem zRK {c:Cov} {pl:List Sli} (h:zCG c pl=0) (hf:zBl c):(zBR c pl=0∨zBR c pl=1∨zBR c pl=2)∧(zBR c pl=0↔0<(zAg c pl zDH).length):=by
 have h1:(zAg c pl zAZ).length=0→(zAg c pl zDH).length=0:=fun h=>by
  rw [List.length_eq_zero_iff] at h ⊢
  rw [List.eq_nil_iff_forall_not_mem]
  intro p hp
  have:=zKt hf (zNL hf) (zQj hf (zNL hf) hp)
  rw [h] at this
  cases this
 unfold zBR
 rw [if_pos h]
 by_cases h3:(zAg c pl zAZ).length=0
 ·simp [h3,h1 h3]
 ·rw [if_neg h3]
  by_cases h4:(zAg c pl zDH).length=0
  ·simp [h4]
  ·simp [h4];omega
end Go.Proofs.YtdigopgncfhiaaaGreatDoor
namespace Go.Proofs.YtdigopgncfhiaaaGreatDoor.Two
variable {ro : Option Nat}
open Go.RowKit
set_option maxRecDepth 20000
set_option maxHeartbeats 8000000 in
theorem zOe (c:Cov) (A:Option Addr) (ca:Nat) (B:Option Addr) (cb:Nat) (C:Option Addr) (cc:Nat) (ch:List Int) (D:Option Addr) (cd:Nat) (w:World) (hc:zAU w c A B C) (hfit:zE0 c.t) (hD:zAB zHE 1 w D ch) (hfu:zJB ch) (hG:InC w 0 0 zB7) :
  Gv Tryz.prog 12 [zAI c A ca B cb C cc,.slice D ch.length cd] w (.bool true):=by
 have hAl:=fun W (hW:Below w.heap.size w W)=>zCu W (hG.below hW)
 have hR:=fun W (hW:Below w.heap.size w W)=>zCt c A ca B cb C cc W (hc.below hW) hfit
 cases hr:zDK c
 ·rw [hr] at hR
  unfold zAI zH at hR ⊢
  unfold Gv
  (refine zM (n:=203) Tryz.func12 rfl rfl rfl ?_)
  (repeat' (first|((with_reducible refine zG ?_);first|refine zE rfl rfl rfl rfl rfl ?_|refine zC rfl rfl rfl rfl rfl ?_|(refine zK rfl rfl rfl rfl rfl ?_;refine ⟨_,rfl,?_⟩)|refine zS rfl rfl rfl rfl rfl rfl (fun _ _ q=>hAl _ q.below) ?_|refine zS rfl rfl rfl rfl rfl rfl (fun _ _ q=>hR _ q.below) ?_|refine zAh rfl rfl rfl rfl rfl ?_|(refine zAM rfl rfl rfl rfl rfl rfl (fun b=>?_)))|(with_reducible first|refine zI ?_|refine zB ?_|refine zD ?_|refine zA ?_|refine zb ?_|refine zP ?_|refine zd ?_)|((with_reducible refine zJ ?_ ?_);(· exact rfl))|((with_reducible refine zF ?_ ?_);(· exact rfl))))
  all_goals exact zT (by (exact zO.cons (by exact zq.tmp rfl) zO.nil)) () trivial rfl (fun _ _=>Own.nil _ _)
 rw [hr] at hR
 have hs:=zCU hr hfit
 have h0:=(zCV.1 hr).2
 have hf:=zA1 h0
 have h4:=hs.b;have h5:=hs.h
 have hb:=hc.b;have hh:=hc.h
 have hh1:=hf.hours
 rw [zAA] at hh1
 have hb0:=zFu h0
 have hyo:=zGh (ch:=ch) (f:=0) hf
 have hyl:(zZ c ch 0).length=c.hours.length:=zBQ
 have hyr:∀ r∈zZ c ch 0,r.length≤20:=fun r hr=>Nat.le_trans (zEv r hr) h4
 have hDr:=fun W (hW:Below w.heap.size w W)=>zHg c A ca B cb C cc ch D cd 0 W (hc.below hW) hs (hD.below hW) hfu (by omega)
 have hT0:zFv c (zDf false c):=zNL hf
 have hT1:zFv c (zDf true c):=endB_ok hf
 have hE0:=fun W (hW:Below w.heap.size w W)=>zOW c A ca B cb C cc false W (hc.below hW) hs
 have hE1:=fun W (hW:Below w.heap.size w W)=>zOW c A ca B cb C cc true W (hc.below hW) hs
 have hek:=zC7 h0 hyo
 have hSf:=zRK hek hf
 have hg0:goS c (zm (zZ c ch 0)) (zDf false c) c.hours.length=zAg c (zm (zZ c ch 0)) zAZ:=zRp hf
 have hg1:goS c (zm (zZ c ch 0)) (zDf true c) c.hours.length=zAg c (zm (zZ c ch 0)) zDH:=goS_best hf
 have hgo0:=fun W (hW:Below w.heap.size w W) TA tc MA mc P cp h1 h2 hp=>zPq c A ca B cb C cc (zDf false c) TA tc MA mc (zZ c ch 0) P cp W (hc.below hW) hs hf hT0 hb0 h1 h2 hp hyl hyr
 have hgo1:=fun W (hW:Below w.heap.size w W) TA tc MA mc P cp h1 h2 hp=>zPq c A ca B cb C cc (zDf true c) TA tc MA mc (zZ c ch 0) P cp W (hc.below hW) hs hf hT1 hb0 h1 h2 hp hyl hyr
 rw [hg0] at hgo0
 rw [hg1] at hgo1
 have hTh:=fun W (hW:Below w.heap.size w W) P cp hp=>zIy c A ca B cb C cc (zZ c ch 0) P cp W (hc.below hW) hs hp (by omega) hyr (hG.below hW)
 have hSa:=fun W (hW:Below w.heap.size w W) P cp hp=>zFJ c A ca B cb C cc (zZ c ch 0) P cp W (hc.below hW) hs hp (by omega) hyr (hG.below hW)
 have hTk:=fun W (hW:Below w.heap.size w W) P cp hp (i k:Nat) (hi:i<c.beds.length) (hk:k≤c.hours.length)=>by
  have:=zD5 c A ca B cb C cc (zZ c ch 0) P cp W (hc.below hW) hs hp (by omega) hyr (i:Int) (k:Int)
  rw [zFQ hek hi hk] at this
  exact this
 have hLo:=fun W (hW:Below w.heap.size w W) (i k:Nat) (hi:i<c.beds.length) (hk:k<c.hours.length)=>by
  have:=zMK c A ca B cb C cc (i:Int) (k:Int) W (hc.below hW) hs
  rw [lossT_at h0 hi hk] at this
  exact this
 have hth:zDl c (zm (zZ c ch 0))=zAg c (zm (zZ c ch 0)) zAZ:=by unfold zDl;rw [if_pos hek]
 have htl:=zGt (c:=c) (pl:=zm (zZ c ch 0)) (en:=zAZ) (by exact h4) (by exact h5)
 rw [hek,hth] at hTh
 rw [hek] at hSa
 rw [hyl] at hTh hSa hTk
 have hSm:=fun W X cx Y cy (h1:zAB zAX 2 W X (zAg c (zm (zZ c ch 0)) zAZ)) (h2:zAB zAX 2 W Y (zAg c (zm (zZ c ch 0)) zAZ))=>zHL _ X cx Y cy W h1 h2 (by omega)
 have hA0:∀ y i,y≤c.hours.length→i<c.beds.length→(goL c (zm (zZ c ch 0)) (zDf false c) (c.hours.length+1))[y]?=some (goA c (zm (zZ c ch 0)) (zDf false c) y)∧(goA c (zm (zZ c ch 0)) (zDf false c) y)[i]?=some (thickN c (zm (zZ c ch 0)) (c.beds.getD i default) i y).lo:=fun y i hy hi=>by
  refine ⟨?_,(zNI hi).trans (congrArg some (zI1 hi y hy))⟩
  unfold goL
  rw [List.getElem?_map,List.getElem?_range (by omega)];rfl
 have hA1:∀ y i,y≤c.hours.length→i<c.beds.length→(goL c (zm (zZ c ch 0)) (zDf true c) (c.hours.length+1))[y]?=some (goA c (zm (zZ c ch 0)) (zDf true c) y)∧(goA c (zm (zZ c ch 0)) (zDf true c) y)[i]?=some (thickN c (zm (zZ c ch 0)) (c.beds.getD i default) i y).hi:=fun y i hy hi=>by
  refine ⟨?_,(zNI hi).trans (congrArg some (zKv hi y hy))⟩
  unfold goL
  rw [List.getElem?_map,List.getElem?_range (by omega)];rfl
 have hz0:(goL c (zm (zZ c ch 0)) (zDf false c) (c.hours.length+1)).length=c.hours.length+1:=by simp [goL]
 have hz1:(goL c (zm (zZ c ch 0)) (zDf true c) (c.hours.length+1)).length=c.hours.length+1:=by simp [goL]
 have hl0:=fun y=>zCk (c:=c) (pl:=zm (zZ c ch 0)) (t:=zDf false c) (h:=y)
 have hl1:=fun y=>zCk (c:=c) (pl:=zm (zZ c ch 0)) (t:=zDf true c) (h:=y)
 clear hg0 hg1 hT0 hT1
 generalize zBR c (zm (zZ c ch 0))=sf at *
 generalize zAg c (zm (zZ c ch 0)) zAZ=tS at *
 generalize zAg c (zm (zZ c ch 0)) zDH=bS at *
 generalize goA c (zm (zZ c ch 0)) (zDf false c)=gA0 at *
 generalize goA c (zm (zZ c ch 0)) (zDf true c)=gA1 at *
 generalize goL c (zm (zZ c ch 0)) (zDf false c) (c.hours.length+1)=gL0 at *
 generalize goL c (zm (zZ c ch 0)) (zDf true c) (c.hours.length+1)=gL1 at *
 generalize zZ c ch 0=yss at *
 generalize zDf false c=T0 at *
 generalize zDf true c=T1 at *
 unfold zAI at hR hDr hE0 hE1 hgo0 hgo1 hTh hSa hTk hLo
 unfold zH at hR hDr hE0 hE1 hgo0 hgo1 hTh hSa hTk hLo
 unfold vSp at hTk hLo
 unfold Gv zAI zH
 (refine zM (n:=203) Tryz.func12 rfl rfl rfl ?_)
 (repeat' (first|((with_reducible refine zG ?_);first|refine zE rfl rfl rfl rfl rfl ?_|refine zC rfl rfl rfl rfl rfl ?_|(refine zK rfl rfl rfl rfl rfl ?_;refine ⟨_,rfl,?_⟩)|refine zS rfl rfl rfl rfl rfl rfl (fun _ _ q=>hAl _ q.below) ?_|refine zS rfl rfl rfl rfl rfl rfl (fun _ _ q=>hR _ q.below) ?_|(refine zAG rfl rfl rfl rfl rfl rfl (fun _ _ q=>hDr _ q.below) ?_;rintro ⟨pg,pn,P,cp⟩ -;dsimp only [List.cons_append,List.nil_append])|refine zAh rfl rfl rfl rfl rfl ?_|(refine zAM rfl rfl rfl rfl rfl rfl (fun b=>?_)))|(with_reducible first|refine zI ?_|refine zB ?_|refine zD ?_|refine zA ?_|refine zP ?_)|((with_reducible refine zF ?_ ?_);(· exact rfl))))
 (refine zAd [] [] [] rfl (show ([]:List Nat).Nodup by decide) (fun _ h=>h) (by kernel_rfl) [[],[Z],[Y,Y],[Y,Y,Y],[Z,Z,Z,Z],[Z,Z,Z,Z,Z],[Z,Z,Z,Z,Z,Z],[Y,Z,Z,Z,Z,Z,Z],[Y,Z,Z,Z,Z,Z,Z,Z],[Z,Z,Z,Z,Z,Z,Z,Z,Z]] (by kernel_rfl) (by kernel_rfl) (by kernel_rfl) (by kernel_rfl) (by kernel_rfl) ?_)
 (repeat' (first|(((with_reducible refine zCJ ?_ ?_);(· exact rfl);refine ⟨_,fun G=>(by (try simp (decide:=true) only [vis,see,fltT,zAD,Nat.reduceAdd,Nat.reduceSub,if_true,if_false,List.set_cons_zero,List.set_cons_succ,List.set_nil,List.nil_append,List.cons_append]);rfl),?_⟩);first|refine zX _ (fun _=>zAK rfl rfl) (fun _=>rfl) rfl (by first|exact fun _ _ _=>rfl|(intro G G' h;simp (decide:=true) only [h])) ?_|refine zX _ (fun _=>zy rfl rfl (by exact rfl)) (fun _=>rfl) rfl (by first|exact fun _ _ _=>rfl|(intro G G' h;simp (decide:=true) only [h])) ?_|refine zX _ (fun _=>zBK rfl rfl) (fun _=>rfl) rfl (by first|exact fun _ _ _=>rfl|(intro G G' h;simp (decide:=true) only [h])) ?_|(refine zGk (α:=(Option Addr × Nat) × (Option Addr × Nat)) rfl (fun _=>rfl) rfl (fun _=>rfl) (fun _=>rfl) (fun _ _ _ q=>hE0 _ q.below) ?_)|(refine zGk (α:=((Option Addr × Nat) × List Sli) × (Option Addr × Nat)) rfl (fun _=>rfl) rfl (fun _=>rfl) (fun _=>rfl) (fun _ _ _ q=>hgo0 _ q.below _ _ _ _ _ _ (zAL q.own (Below.refl _ _)) (zAL q.own (Below.refl _ _)) (zBJ q.own (by (repeat (first|exact tK1 _ _|apply tK2))))) ?_)|refine zX _ (fun _=>zCR rfl rfl rfl) (fun _=>rfl) rfl (by first|exact fun _ _ _=>rfl|(intro G G' h;simp (decide:=true) only [h])) ?_)|(with_reducible refine zFr ?_)))
 (intro G;simp only [regsT,zAD,zBU,ini,List.nil_append,List.cons_append])
 generalize deC (((Option Addr × Nat) × List Sli) × Option Addr × Nat) _=z2
 obtain ⟨⟨⟨A6,c6⟩,L⟩,A7,c7⟩:=z2
 refine zMr (by (repeat (first|exact tK1 _ _|apply tK2))) fun hL=>?_
 simp only at hL
 simp only
 (repeat' (first|(with_reducible first|refine zI ?_|refine zA ?_)))
 (refine zAd [] [] [] rfl (show ([]:List Nat).Nodup by decide) (fun _ h=>h) (by kernel_rfl) [[],[Z],[Y,Y],[Y,Y,Y],[Z,Z,Z,Z],[Z,Z,Z,Z,Z],[Z,Z,Z,Z,Z,Z],[Y,Z,Z,Z,Z,Z,Z],[Y,Z,Z,Z,Z,Z,Z,Z],[Z,Z,Z,Z,Z,Z,Z,Z,Z]] (by kernel_rfl) (by kernel_rfl) (by kernel_rfl) (by kernel_rfl) (by kernel_rfl) ?_)
 (repeat' (first|(((with_reducible refine zCJ ?_ ?_);(· exact rfl);refine ⟨_,fun G=>(by (try simp (decide:=true) only [vis,see,fltT,zAD,Nat.reduceAdd,Nat.reduceSub,if_true,if_false,List.set_cons_zero,List.set_cons_succ,List.set_nil,List.nil_append,List.cons_append]);rfl),?_⟩);first|refine zX _ (fun _=>zAK rfl rfl) (fun _=>rfl) rfl (by first|exact fun _ _ _=>rfl|(intro G G' h;simp (decide:=true) only [h])) ?_|refine zX _ (fun _=>zy rfl rfl (by exact rfl)) (fun _=>rfl) rfl (by first|exact fun _ _ _=>rfl|(intro G G' h;simp (decide:=true) only [h])) ?_|refine zX _ (fun _=>zBK rfl rfl) (fun _=>rfl) rfl (by first|exact fun _ _ _=>rfl|(intro G G' h;simp (decide:=true) only [h])) ?_|(refine zGk (α:=(Option Addr × Nat) × (Option Addr × Nat)) rfl (fun _=>rfl) rfl (fun _=>rfl) (fun _=>rfl) (fun _ _ _ q=>hE1 _ q.below) ?_)|(refine zGk (α:=((Option Addr × Nat) × List Sli) × (Option Addr × Nat)) rfl (fun _=>rfl) rfl (fun _=>rfl) (fun _=>rfl) (fun _ _ _ q=>hgo1 _ q.below _ _ _ _ _ _ (zAL q.own (Below.refl _ _)) (zAL q.own (Below.refl _ _)) (zBJ q.own (by (repeat (first|exact tK1 _ _|apply tK2))))) ?_)|refine zX _ (fun _=>zCR rfl rfl rfl) (fun _=>rfl) rfl (by first|exact fun _ _ _=>rfl|(intro G G' h;simp (decide:=true) only [h])) ?_)|(with_reducible refine zFr ?_)))
 (intro G;simp only [regsT,zAD,zBU,ini,List.nil_append,List.cons_append])
 generalize deC (((Option Addr × Nat) × List Sli) × Option Addr × Nat) _=z2
 obtain ⟨⟨⟨A16,c16⟩,L1⟩,A17,c17⟩:=z2
 refine zMr (by (repeat (first|exact tK1 _ _|apply tK2))) fun hL1=>?_
 simp only at hL1
 simp only
 (repeat' (first|((with_reducible refine zG ?_);first|refine zE rfl rfl rfl rfl rfl ?_|refine zC rfl rfl rfl rfl rfl ?_|(refine zK rfl rfl rfl rfl rfl ?_;refine ⟨_,rfl,?_⟩)|refine zAf rfl rfl rfl rfl rfl rfl ?_|(refine zQ rfl rfl rfl rfl rfl rfl rfl (fun h=>?_) (fun h=>?_)<;>(dsimp only [cmpP] at h;(try (exfalso;omega))))|(refine zAG rfl rfl rfl rfl rfl rfl (fun _ _ q=>hTh _ q.below _ _ (zBJ q.own (by (repeat (first|exact tK1 _ _|apply tK2))))) ?_;rintro ⟨A8,c8⟩ -;dsimp only [List.cons_append,List.nil_append])|refine zS rfl rfl rfl rfl rfl rfl (fun _ _ q=>hSa _ q.below _ _ (zBJ q.own (by (repeat (first|exact tK1 _ _|apply tK2))))) ?_|refine zS rfl rfl rfl rfl rfl rfl (fun _ _ q=>hSm _ _ _ _ _ (zAL q.own (Below.refl _ _)) (zAL q.own (Below.refl _ _))) ?_|refine zAe rfl rfl rfl (zOv rfl rfl rfl) ?_|refine zg rfl rfl rfl rfl rfl rfl ?_|refine zAh rfl rfl rfl rfl rfl ?_|refine zr rfl rfl rfl rfl rfl ?_)|(with_reducible first|refine zI ?_|refine zB ?_|refine zD ?_|refine zA ?_|refine zP ?_|refine zN ?_)|((with_reducible refine zF ?_ ?_);(· exact rfl))))
 all_goals
  have hLl:L.length=c.hours.length+1:=by rw [← hz0,← hL,List.length_map]
  have hLl1:L1.length=c.hours.length+1:=by rw [← hz1,← hL1,List.length_map]
  refine zu (ι:=Nat) [2,5,6,7,9,80] rfl (fun y=>y≤c.hours.length+1) (fun y=>[(81,.int .i64 (y:Int))]) (fun _=>[.zEL pg pn P yss,.sl zAC 1 A6 L,.rows L,.sl zAC 1 A16 L1,.rows L1,.blk b [.slice A c.t.length ca,.slice B c.beds.length cb,.slice C c.hours.length cc,.int .i64 c.wear.lo,.int .i64 c.wear.hi,.int .i64 c.layer.lo,.int .i64 c.layer.hi,.int .i64 c.rate,.int .i64 c.limit,.int .i64 c.base]]) (fun y=>c.hours.length+1 - y) 0 (Nat.zero_le _) (by (first|exact lK1|(repeat (first|exact lK1|(refine zL rfl ?_))))) (by (repeat (first|exact oK1 _|(refine oK2 (by (repeat (first|exact tK1 _ _|apply tK2))) ?_)))) ?_
  rintro y hy
  simp only [zAq,List.cons_append,List.nil_append]
  by_cases hyl:y<c.hours.length+1
  ·obtain ⟨s,hs1⟩:∃ s,L[y]?=some s:=⟨_,List.getElem?_eq_getElem (by omega)⟩
   obtain ⟨s1,hs2⟩:∃ s,L1[y]?=some s:=⟨_,List.getElem?_eq_getElem (by omega)⟩
   have hsx:s.xs=gA0 y:=by
    have h1:=(hA0 y 0 (by omega) hb0).1
    rw [← hL,List.getElem?_map,hs1] at h1
    exact Option.some.inj h1
   have hsx1:s1.xs=gA1 y:=by
    have h1:=(hA1 y 0 (by omega) hb0).1
    rw [← hL1,List.getElem?_map,hs2] at h1
    exact Option.some.inj h1
   have hsl:s.xs.length=c.beds.length:=by rw [hsx];exact hl0 y
   have hsl1:s1.xs.length=c.beds.length:=by rw [hsx1];exact hl1 y
   have hsm:=List.mem_of_getElem? hs1
   have hsm1:=List.mem_of_getElem? hs2
   have:zAR L y s:=⟨hs1⟩
   have:zAR L1 y s1:=⟨hs2⟩
   refine zEb (enc:=zAC) (A:=A6) (xs:=L) (by (repeat (first|exact tK1 _ _|apply tK2))) (by omega) ?_
   rintro ba oa rfl
   refine zEb (enc:=zAC) (A:=A16) (xs:=L1) (by (repeat (first|exact tK1 _ _|apply tK2))) (by omega) ?_
   rintro bz oz rfl
   refine zMp (L:=L) (s:=s) (by (repeat (first|exact tK1 _ _|apply tK2))) hsm (by omega) ?_
   rintro bs os hA
   have hRI:RowIs L bs os s.xs:=⟨s,hsm,hA,rfl⟩
   refine zMp (L:=L1) (s:=s1) (by (repeat (first|exact tK1 _ _|apply tK2))) hsm1 (by omega) ?_
   rintro bt ot hA2
   have hRI2:RowIs L1 bt ot s1.xs:=⟨s1,hsm1,hA2,rfl⟩
   obtain ⟨sA,sx,sc⟩:=s
   simp only at hA hsx hsl hRI
   subst hA
   obtain ⟨sA1,sx1,sc1⟩:=s1
   simp only at hA2 hsx1 hsl1 hRI2
   subst hA2
   (repeat' (first|((with_reducible refine zG ?_);first|refine zE rfl rfl rfl rfl rfl ?_|refine zC rfl rfl rfl rfl rfl ?_|(refine zK rfl rfl rfl rfl rfl ?_;refine ⟨_,rfl,?_⟩)|refine ze rfl rfl rfl rfl rfl ?_|(refine zQ rfl rfl rfl rfl rfl rfl rfl (fun h=>?_) (fun h=>?_)<;>(dsimp only [cmpP] at h;(try (exfalso;omega))))|refine zr rfl rfl rfl rfl rfl ?_)|(with_reducible first|refine zI ?_|refine zB ?_|refine zD ?_|refine zA ?_|refine zP ?_|refine zN ?_)|((with_reducible refine zJ ?_ ?_);(· exact rfl))))
   refine zu (ι:=Nat) [2,5,6,7,9,15,80,81,86] rfl (fun i=>i≤c.beds.length) (fun i=>[(87,.int .i64 (i:Int))]) (fun _=>[.zEL pg pn P yss,.sl zAC 1 (some ⟨ba,oa,none⟩) L,.rows L,.sl zAC 1 (some ⟨bz,oz,none⟩) L1,.rows L1,.blk b [.slice A c.t.length ca,.slice B c.beds.length cb,.slice C c.hours.length cc,.int .i64 c.wear.lo,.int .i64 c.wear.hi,.int .i64 c.layer.lo,.int .i64 c.layer.hi,.int .i64 c.rate,.int .i64 c.limit,.int .i64 c.base]]) (fun i=>c.beds.length - i) 0 (Nat.zero_le _) (by (first|exact lK1|(repeat (first|exact lK1|(refine zL rfl ?_))))) (by (repeat (first|exact oK1 _|(refine oK2 (by (repeat (first|exact tK1 _ _|apply tK2))) ?_)))) ?_
   rintro i hi
   simp only [zAq,List.cons_append,List.nil_append]
   by_cases hil:i<c.beds.length
   ·have hx:=(hA0 y i (by omega) hil).2
    have hx1:=(hA1 y i (by omega) hil).2
    rw [← hsx] at hx
    rw [← hsx1] at hx1
    have hTki:=fun W hW P cp hp=>hTk W hW P cp hp i y hil (by omega)
    generalize thickN c (zm yss) (c.beds.getD i default) (i:Int) y=tk at *
    obtain ⟨tl,th⟩:=tk
    simp only at hx hx1 hTki
    have:zAR sx i tl:=⟨hx⟩
    have:zAR sx1 i th:=⟨hx1⟩
    by_cases hyn:y<c.hours.length
    ·obtain ⟨z,hz⟩:∃ z,c.beds[i]?=some z:=⟨_,List.getElem?_eq_getElem hil⟩
     obtain ⟨u,hu⟩:∃ u,c.hours[y]?=some u:=⟨_,List.getElem?_eq_getElem hyn⟩
     have hLoi:=fun W hW=>hLo W hW i y hil hyn
     rw [zAW hz,zAW hu] at hLoi
     simp only [zBF] at hLoi
     obtain ⟨bb,ob,rfl,_,_⟩:=hb.at_ hil
     have:InS w bb ob zAJ 3 c.beds:=⟨hb⟩
     have:zAR c.beds i z:=⟨hz⟩
     obtain ⟨bh,oh,rfl,_,_⟩:=hh.at_ hyn
     have:InS w bh oh zp 5 c.hours:=⟨hh⟩
     have:zAR c.hours y u:=⟨hu⟩
     have hoz:=hf.bed z (List.mem_of_getElem? hz)
     have hou:=hf.hour u (List.mem_of_getElem? hu)
     have hfw:=hf.wear
     simp only [zC0,zBX,Bool.and_eq_true,zAF,zAA] at hoz hou hfw
     have p1:=Int.mul_le_mul (show z.sun≤9 by omega) (show u.melt.lo≤50 by omega) (show 0≤u.melt.lo by omega) (by omega)
     have p2:=Int.mul_nonneg (show 0≤z.sun by omega) (show 0≤u.melt.lo by omega)
     have p3:=Int.mul_le_mul (show z.sun≤9 by omega) (show u.melt.hi≤50 by omega) (show 0≤u.melt.hi by omega) (by omega)
     have p4:=Int.mul_le_mul_of_nonneg_left (show u.melt.lo≤u.melt.hi by omega) (show 0≤z.sun by omega)
     have p5:=Int.mul_le_mul (show u.runs≤60 by omega) (show c.wear.lo≤20 by omega) (show 0≤c.wear.lo by omega) (by omega)
     have p6:=Int.mul_nonneg (show 0≤u.runs by omega) (show 0≤c.wear.lo by omega)
     have p7:=Int.mul_le_mul (show u.runs≤60 by omega) (show c.wear.hi≤20 by omega) (show 0≤c.wear.hi by omega) (by omega)
     have p8:=Int.mul_le_mul_of_nonneg_left (show c.wear.lo≤c.wear.hi by omega) (show 0≤u.runs by omega)
     (repeat' (first|((with_reducible refine zG ?_);first|refine zE rfl rfl rfl rfl rfl ?_|refine zC rfl rfl rfl rfl rfl ?_|(refine zK rfl rfl rfl rfl rfl ?_;refine ⟨_,rfl,?_⟩)|(refine zQ rfl rfl rfl rfl rfl rfl rfl (fun h=>?_) (fun h=>?_)<;>(dsimp only [cmpP] at h;(try (exfalso;omega))))|refine zS rfl rfl rfl rfl rfl rfl (fun _ _ q=>hTki _ q.below _ _ (zBJ q.own (by (repeat (first|exact tK1 _ _|apply tK2))))) ?_|refine zg rfl rfl rfl rfl rfl rfl ?_|(refine zf rfl rfl rfl rfl rfl ?_;refine And.intro rfl (And.intro (by first|decide|exact Nat.le_of_ble_eq_true rfl|(simp;omega)) ⟨_,rfl,?_⟩))|(refine zo rfl rfl rfl rfl (fun b=>?_)))|(with_reducible first|refine zI ?_|refine zB ?_|refine zD ?_|refine zA ?_|refine zP ?_|refine zN ?_)|((with_reducible refine zJ ?_ ?_);(· exact rfl))))
     (refine zAv (by kernel_rfl) (by kernel_rfl) (by kernel_rfl) ?_)
     (repeat' (first|((with_reducible refine zBH ?_);first|refine zW (zAK rfl rfl) rfl rfl rfl ?_|refine zW (zy rfl rfl (by exact rfl)) rfl rfl rfl ?_|refine zW (zB8 rfl rfl rfl) rfl rfl rfl ?_|(refine zCj rfl rfl rfl rfl rfl rfl rfl (fun h=>?_) (fun h=>?_)<;>(dsimp only [cmpP] at h;(try (exfalso;omega))))|refine zW (zAS (I:=y) rfl rfl rfl (by omega) (by first|omega|(dsimp only;omega))) rfl rfl rfl ?_|refine zW (zAS (I:=i) rfl rfl rfl (by omega) (by first|omega|(dsimp only;omega))) rfl rfl rfl ?_|refine zC4 rfl rfl rfl rfl rfl rfl (fun _ _ q=>zB3 _ _ _) ?_|refine zW (zK4 rfl rfl rfl) rfl rfl rfl ?_)|(with_reducible refine zBs ?_)))
     (repeat' (first|((with_reducible refine zG ?_);first|refine zE rfl rfl rfl rfl rfl ?_|refine zC rfl rfl rfl rfl rfl ?_|(refine zK rfl rfl rfl rfl rfl ?_;refine ⟨_,rfl,?_⟩)|refine ze rfl rfl rfl rfl rfl ?_|(refine zQ rfl rfl rfl rfl rfl rfl rfl (fun h=>?_) (fun h=>?_)<;>(dsimp only [cmpP] at h;(try (exfalso;omega))))|refine zS rfl rfl rfl rfl rfl rfl (fun _ _ q=>hLoi _ q.below) ?_|refine zg rfl rfl rfl rfl rfl rfl ?_|refine zr rfl rfl rfl rfl rfl ?_|(refine zf rfl rfl rfl rfl rfl ?_;refine And.intro rfl (And.intro (by first|decide|exact Nat.le_of_ble_eq_true rfl|(simp;omega)) ⟨_,rfl,?_⟩))|(refine zo rfl rfl rfl rfl (fun b=>?_)))|(with_reducible first|refine zI ?_|refine zB ?_|refine zD ?_|refine zA ?_|refine zP ?_)|((with_reducible refine zF ?_ ?_);(· exact rfl))))
     dsimp only [List.append]
     (refine zAv (by kernel_rfl) (by kernel_rfl) (by kernel_rfl) ?_)
     (repeat' (first|((with_reducible refine zBH ?_);first|refine zW (zAK rfl rfl) rfl rfl rfl ?_|refine zW (zy rfl rfl (by exact rfl)) rfl rfl rfl ?_|refine zW (zAO rfl rfl) rfl rfl rfl ?_|refine zW (zB8 rfl rfl rfl) rfl rfl rfl ?_|(refine zCj rfl rfl rfl rfl rfl rfl rfl (fun h=>?_) (fun h=>?_)<;>(dsimp only [cmpP] at h;(try (exfalso;omega))))|refine zW (zAS (I:=y) rfl rfl rfl (by omega) (by first|omega|(dsimp only;omega))) rfl rfl rfl ?_|refine zW (zAS (I:=i) rfl rfl rfl (by omega) (by first|omega|(dsimp only;omega))) rfl rfl rfl ?_|refine zW (zDg rfl rfl rfl (IntWalk.i64_in _ (by omega))) rfl rfl rfl ?_|refine zW (zGg rfl rfl rfl (IntWalk.i64_in _ (by omega))) rfl rfl rfl ?_)|(with_reducible refine zBs ?_)))
     (repeat' (first|((with_reducible refine zG ?_);first|refine zE rfl rfl rfl rfl rfl ?_|refine zj rfl rfl rfl rfl rfl rfl (by omega) ?_)|(with_reducible first|refine zB ?_|refine zD ?_|refine zA ?_|refine zP ?_|refine zk ?_)|((with_reducible refine zF ?_ ?_);(· exact rfl))))
     exact zc (ι:=Nat) (i+1) (by omega) (by omega) (by (first|exact lK1|(repeat (first|exact lK1|(refine zL rfl ?_))))) (by (repeat (first|exact oK1 _|(refine oK2 (by (repeat (first|exact tK1 _ _|apply tK2))) ?_))))
    ·obtain rfl:y=c.hours.length:=by omega
     (repeat' (first|((with_reducible refine zG ?_);first|refine zE rfl rfl rfl rfl rfl ?_|refine zC rfl rfl rfl rfl rfl ?_|(refine zK rfl rfl rfl rfl rfl ?_;refine ⟨_,rfl,?_⟩)|(refine zQ rfl rfl rfl rfl rfl rfl rfl (fun h=>?_) (fun h=>?_)<;>(dsimp only [cmpP] at h;(try (exfalso;omega))))|refine zS rfl rfl rfl rfl rfl rfl (fun _ _ q=>hTki _ q.below _ _ (zBJ q.own (by (repeat (first|exact tK1 _ _|apply tK2))))) ?_|refine zg rfl rfl rfl rfl rfl rfl ?_|(refine zf rfl rfl rfl rfl rfl ?_;refine And.intro rfl (And.intro (by first|decide|exact Nat.le_of_ble_eq_true rfl|(simp;omega)) ⟨_,rfl,?_⟩))|(refine zo rfl rfl rfl rfl (fun b=>?_)))|(with_reducible first|refine zI ?_|refine zB ?_|refine zD ?_|refine zA ?_|refine zP ?_|refine zN ?_)|((with_reducible refine zJ ?_ ?_);(· exact rfl))))
     (refine zAv (by kernel_rfl) (by kernel_rfl) (by kernel_rfl) ?_)
     (repeat' (first|((with_reducible refine zBH ?_);first|refine zW (zAK rfl rfl) rfl rfl rfl ?_|refine zW (zy rfl rfl (by exact rfl)) rfl rfl rfl ?_|refine zW (zB8 rfl rfl rfl) rfl rfl rfl ?_|(refine zCj rfl rfl rfl rfl rfl rfl rfl (fun h=>?_) (fun h=>?_)<;>(dsimp only [cmpP] at h;(try (exfalso;omega))))|refine zW (zAS (I:=(c.hours.length)) rfl rfl rfl (by omega) (by first|omega|(dsimp only;omega))) rfl rfl rfl ?_|refine zW (zAS (I:=i) rfl rfl rfl (by omega) (by first|omega|(dsimp only;omega))) rfl rfl rfl ?_|refine zC4 rfl rfl rfl rfl rfl rfl (fun _ _ q=>zB3 _ _ _) ?_|refine zW (zK4 rfl rfl rfl) rfl rfl rfl ?_)|(with_reducible refine zBs ?_)))
     (repeat' (first|((with_reducible refine zG ?_);first|refine zE rfl rfl rfl rfl rfl ?_|(refine zK rfl rfl rfl rfl rfl ?_;refine ⟨_,rfl,?_⟩)|refine ze rfl rfl rfl rfl rfl ?_|(refine zQ rfl rfl rfl rfl rfl rfl rfl (fun h=>?_) (fun h=>?_)<;>(dsimp only [cmpP] at h;(try (exfalso;omega))))|refine zj rfl rfl rfl rfl rfl rfl (by omega) ?_|refine zr rfl rfl rfl rfl rfl ?_)|(with_reducible first|refine zI ?_|refine zB ?_|refine zD ?_|refine zA ?_|refine zP ?_|refine zn ?_|refine zR ?_|refine zY ?_)|((with_reducible refine zJ ?_ ?_);(· exact rfl))|((with_reducible refine zF ?_ ?_);(· exact rfl))))
     exact zc (ι:=Nat) (i+1) (by omega) (by omega) (by (first|exact lK1|(repeat (first|exact lK1|(refine zL rfl ?_))))) (by (repeat (first|exact oK1 _|(refine oK2 (by (repeat (first|exact tK1 _ _|apply tK2))) ?_))))
   ·obtain rfl:i=c.beds.length:=by omega
    (repeat' (first|((with_reducible refine zG ?_);first|refine zE rfl rfl rfl rfl rfl ?_|(refine zQ rfl rfl rfl rfl rfl rfl rfl (fun h=>?_) (fun h=>?_)<;>(dsimp only [cmpP] at h;(try (exfalso;omega))))|refine zj rfl rfl rfl rfl rfl rfl (by omega) ?_)|(with_reducible first|refine zI ?_|refine zB ?_|refine zD ?_|refine zA ?_|refine zn ?_|refine zk ?_|refine zR ?_|refine zY ?_)|((with_reducible refine zF ?_ ?_);(· exact rfl))))
    exact zc (ι:=Nat) (y+1) (by omega) (by omega) (by (first|exact lK1|(repeat (first|exact lK1|(refine zL rfl ?_))))) (by (repeat (first|exact oK1 _|(refine oK2 (by (repeat (first|exact tK1 _ _|apply tK2))) ?_))))
  ·obtain rfl:y=c.hours.length+1:=by omega
   (repeat' (first|((with_reducible refine zG ?_);first|refine zE rfl rfl rfl rfl rfl ?_|refine zC rfl rfl rfl rfl rfl ?_|(refine zQ rfl rfl rfl rfl rfl rfl rfl (fun h=>?_) (fun h=>?_)<;>(dsimp only [cmpP] at h;(try (exfalso;omega)))))|(with_reducible first|refine zI ?_|refine zB ?_|refine zD ?_|refine zA ?_|refine zb ?_|refine zn ?_|refine zR ?_|refine zY ?_)|((with_reducible refine zF ?_ ?_);(· exact rfl))))
   exact zT (by (exact zO.cons (by exact zq.tmp rfl) zO.nil)) () trivial rfl (fun _ _=>Own.nil _ _)
end Go.Proofs.YtdigopgncfhiaaaGreatDoor.Two
