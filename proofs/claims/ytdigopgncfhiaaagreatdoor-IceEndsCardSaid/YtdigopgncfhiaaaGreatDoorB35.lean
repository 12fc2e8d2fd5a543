/- B35 -/
import Derived.Test.YtdigopgncfhiaaaGreatDoorB18
import Derived.Test.YtdigopgncfhiaaaGreatDoorB1
import Derived.Test.YtdigopgncfhiaaaGreatDoorB10
import Derived.Test.YtdigopgncfhiaaaGreatDoorB8
import Derived.Test.YtdigopgncfhiaaaGreatDoorB34
set_option linter.unusedSimpArgs false
set_option linter.unusedVariables false
namespace Go.Proofs.YtdigopgncfhiaaaGreatDoor
variable {ro : Option Nat}
open Go.RowKit
set_option maxRecDepth 20000
theorem e_neSp {w0:World} {n:Nat} {d:List Deferred} {R:List (Nat × Value)} {H:List Ent} {o:Oper} {x y:Operand} {a b:Int} {T':TypeId} (hop:o.op = .binOp .neq 28 x y T') (hx:evR R x=some (.agg #[.int .i64 a,.int .i64 b])) (hy:evR R y=some (.agg #[.int .i64 a,.int .i64 b])):Ev Tryz.prog w0 n d R H o (.bool false):=fun k w q=>by
 have e:=zOa a b a b w
 rw [show zFR ⟨a,b⟩ ⟨a,b⟩=true from zHw.2 ⟨rfl,rfl⟩] at e
 have g:=gd_sp .neq x y #[.int .i64 a,.int .i64 b] #[.int .i64 a,.int .i64 b] w
 unfold execOp;rw [hop]
 simp only [Sem.run_bind,q.ev hx,q.ev hy,g,Result.andThen_ok,e,Sem.run_pure]
 rfl
def endZ (bo:Bool) (z:Bed):Int:=if bo then z.thick.hi else z.thick.lo
def endU (bo:Bool) (u:Hour):Int:=if bo then u.melt.lo else u.melt.hi
def zDQ (bo:Bool) (c:Cov):Tru:=if bo then zIg c else zIf c
theorem endT_th {bo:Bool} {c:Cov}:(zDQ bo c).th=c.beds.map (endZ bo):=by cases bo<;>rfl
theorem endT_me {bo:Bool} {c:Cov}:(zDQ bo c).me=c.hours.map (endU bo):=by cases bo<;>rfl
theorem zNC {α β:Type} {f:α→β} {l:List α} {i:Nat} {x:α} (h:l[i]?=some x):(l.take (i+1)).map f=(l.take i).map f++[f x]:=by
 rw [List.take_add_one,h];simp
set_option maxHeartbeats 4000000 in
theorem zNw (c:Cov) (A:Option Addr) (ca:Nat) (B:Option Addr) (cb:Nat) (C:Option Addr) (cc:Nat) (bo:Bool) (w:World) (hc:zAl w c A B C) (hs:Small c) :
  Ret Tryz.prog 46 [zAQ c A ca B cb C cc,.bool bo] w (fun z:(Option Addr × Nat) × (Option Addr × Nat)=>.agg (zGq (zDQ bo c) z.1.1 z.1.2 z.2.1 z.2.2).toArray) (fun z=>[.sl encI 1 z.1.1 (zDQ bo c).th,.sl encI 1 z.2.1 (zDQ bo c).me]) (fun _=>True):=by
 have h4:=hs.b;have h5:=hs.h
 have hb:=hc.b;have hh:=hc.h
 unfold zGq
 rw [endT_th,endT_me]
 obtain ⟨we,hwe⟩:∃ we,we=(zDQ bo c).we:=⟨_,rfl⟩
 obtain ⟨la,hla⟩:∃ la,la=(zDQ bo c).la:=⟨_,rfl⟩
 rw [← hwe,← hla]
 have hwe2:we=if bo then c.wear.lo else c.wear.hi:=by rw [hwe];cases bo<;>rfl
 have hla2:la=if bo then c.layer.hi else c.layer.lo:=by rw [hla];cases bo<;>rfl
 obtain ⟨fz,hfz⟩:∃ f,f=endZ bo:=⟨_,rfl⟩
 obtain ⟨fu,hfu⟩:∃ f,f=endU bo:=⟨_,rfl⟩
 rw [← hfz,← hfu]
 have l1:∀ i,((c.beds.take i).map fz).length≤20:=fun i=>by rw [List.length_map,List.length_take];omega
 have l2:∀ i,((c.hours.take i).map fu).length≤20:=fun i=>by rw [List.length_map,List.length_take];omega
 have t1:c.beds.take c.beds.length=c.beds:=List.take_length
 have t2:c.hours.take c.hours.length=c.hours:=List.take_length
 clear hwe hla
 unfold zAQ zH
 (refine zM (n:=70) Tryz.func46 rfl rfl rfl ?_)
 refine zCE encI 1 3 ?_
 refine zCE encI 1 3 ?_
 cases bo
 all_goals
  simp only [Bool.false_eq_true,if_true,if_false] at hwe2 hla2
  (repeat' (first|((with_reducible refine zG ?_);first|refine zE rfl rfl rfl rfl rfl ?_|(refine zK rfl rfl rfl rfl rfl ?_;refine ⟨_,rfl,?_⟩)|refine zd rfl rfl rfl rfl rfl ?_|refine zp rfl rfl rfl rfl rfl ?_|(refine zf rfl rfl rfl rfl rfl ?_;refine And.intro rfl (And.intro zRY ⟨_,rfl,?_⟩))|(refine zr rfl rfl rfl rfl (fun b=>?_))|(refine zAI rfl rfl rfl rfl rfl rfl (fun b=>?_))|(refine zBC rfl rfl rfl rfl rfl ?_;refine ⟨_,rfl,?_⟩))|(with_reducible first|refine zI ?_|refine zB ?_|refine zD ?_|refine zA ?_|refine zP ?_|refine zN ?_)|((with_reducible refine zJ ?_ ?_);(· exact rfl))|((with_reducible refine zF ?_ ?_);(· exact rfl))))
  obtain ⟨b5,hb5⟩:∃ x,x=b:=⟨_,rfl⟩
  subst hb5
  obtain ⟨b4,hb4⟩:∃ x,x=b:=⟨_,rfl⟩
  subst hb4
  obtain ⟨b2,hb2⟩:∃ x,x=b:=⟨_,rfl⟩
  subst hb2
  refine u_blk (b:=b5) (cs':=[.slice none 0 0,.slice none 0 0,.int .i64 we,.int .i64 la]) zRT (by rw [hwe2,hla2];rfl) ?_
  refine zq (ι:=Nat × Value) [1,2,4,5,28,29] rfl (fun p=>p.1≤c.beds.length) (fun p=>[(30,.int .i64 (p.1:Int))]) (fun p=>[.row encI 1 3 p.2 ((c.beds.take p.1).map fz),.row encI 1 3 (.slice none 0 0) [],.blk b5 [p.2,.slice none 0 0,.int .i64 we,.int .i64 la],.blk b4 [.slice none 0 0,.slice none 0 0,.int .i64 0,.int .i64 0],.blk b2 [.slice A c.t.length ca,.slice B c.beds.length cb,.slice C c.hours.length cc,.int .i64 c.wear.lo,.int .i64 c.wear.hi,.int .i64 c.layer.lo,.int .i64 c.layer.hi,.int .i64 c.rate,.int .i64 c.limit,.int .i64 c.base]]) (fun p=>c.beds.length - p.1) (0,.slice none 0 0) (Nat.zero_le _) zRS zRQ ?_
  rintro ⟨i,v⟩ hi
  simp only at hi
  simp only [zAn,List.cons_append,List.nil_append]
  by_cases hil:i<c.beds.length
  ·obtain ⟨z,hz⟩:∃ z,c.beds[i]?=some z:=⟨_,List.getElem?_eq_getElem hil⟩
   obtain ⟨bb,ob,rfl,_,_⟩:=hb.at_ hil
   have:InS w bb ob zAX 3 c.beds:=⟨hb⟩
   have:zAP c.beds i z:=⟨hz⟩
   have e1:=(zNC (f:=fz) hz).symm
   have lI:=l1 i
   generalize (c.beds.take i).map fz=TL at *
   (repeat' (first|((with_reducible refine zG ?_);first|refine zE rfl rfl rfl rfl rfl ?_|refine zC rfl rfl rfl rfl rfl ?_|(refine zK rfl rfl rfl rfl rfl ?_;refine ⟨_,rfl,?_⟩)|refine zd rfl rfl rfl rfl rfl ?_|(refine zQ rfl rfl rfl rfl rfl rfl rfl (fun h=>?_) (fun h=>?_)<;>(dsimp only [cmpP] at h;(try (exfalso;omega))))|(refine zAq (enc:=encI) [_] rfl rfl rfl rfl rfl zRT rfl rfl (zAd zRe) zRc (fun A' c'=>?_))|refine zg rfl rfl rfl rfl rfl rfl zRU ?_|refine ze rfl rfl rfl rfl rfl rfl rfl zRU ?_|(refine zf rfl rfl rfl rfl rfl ?_;refine And.intro rfl (And.intro zRY ⟨_,rfl,?_⟩))|(refine zr rfl rfl rfl rfl (fun b=>?_))|(refine zz rfl rfl rfl rfl rfl ?_;refine ⟨rfl,_,rfl,fun b=>?_⟩))|(with_reducible first|refine zI ?_|refine zB ?_|refine zD ?_|refine zA ?_|refine zP ?_|refine zN ?_|refine zi ?_)|((with_reducible refine zJ ?_ ?_);(· exact rfl))|((with_reducible refine zF ?_ ?_);(· exact rfl))))
   first|rw [show fz z=z.thick.lo by rw [hfz];rfl] at e1|rw [show fz z=z.thick.hi by rw [hfz];rfl] at e1
   rw [e1]
   exact zc (ι:=Nat × Value) (i+1,.slice A' ((c.beds.take (i+1)).map fz).length c') zRi zRi zRS zRQ
  obtain rfl:i=c.beds.length:=by omega
  rw [t1]
  obtain ⟨v1,hv1⟩:∃ x,x=v:=⟨_,rfl⟩
  subst hv1
  (repeat' (first|((with_reducible refine zG ?_);first|refine zE rfl rfl rfl rfl rfl ?_|(refine zK rfl rfl rfl rfl rfl ?_;refine ⟨_,rfl,?_⟩)|refine zd rfl rfl rfl rfl rfl ?_|(refine zQ rfl rfl rfl rfl rfl rfl rfl (fun h=>?_) (fun h=>?_)<;>(dsimp only [cmpP] at h;(try (exfalso;omega))))|refine zp rfl rfl rfl rfl rfl ?_)|(with_reducible first|refine zI ?_|refine zB ?_|refine zD ?_|refine zA ?_|refine zN ?_|refine zk ?_|refine zR ?_|refine zY ?_)|((with_reducible refine zF ?_ ?_);(· exact rfl))))
  refine zq (ι:=Nat × Value) [1,2,4,5,49,50] rfl (fun p=>p.1≤c.hours.length) (fun p=>[(51,.int .i64 (p.1:Int))]) (fun p=>[.row encI 1 3 p.2 ((c.hours.take p.1).map fu),.row encI 1 3 v1 (c.beds.map fz),.blk b5 [v1,p.2,.int .i64 we,.int .i64 la],.blk b4 [.slice none 0 0,.slice none 0 0,.int .i64 0,.int .i64 0],.blk b2 [.slice A c.t.length ca,.slice B c.beds.length cb,.slice C c.hours.length cc,.int .i64 c.wear.lo,.int .i64 c.wear.hi,.int .i64 c.layer.lo,.int .i64 c.layer.hi,.int .i64 c.rate,.int .i64 c.limit,.int .i64 c.base]]) (fun p=>c.hours.length - p.1) (0,.slice none 0 0) (Nat.zero_le _) zRS zRQ ?_
  rintro ⟨i,v⟩ hi
  simp only at hi
  simp only [zAn,List.cons_append,List.nil_append]
  by_cases hil:i<c.hours.length
  ·obtain ⟨z,hz⟩:∃ z,c.hours[i]?=some z:=⟨_,List.getElem?_eq_getElem hil⟩
   obtain ⟨bb,ob,rfl,_,_⟩:=hh.at_ hil
   have:InS w bb ob zw 5 c.hours:=⟨hh⟩
   have:zAP c.hours i z:=⟨hz⟩
   have e1:=(zNC (f:=fu) hz).symm
   have lI:=l2 i
   generalize (c.hours.take i).map fu=TL at *
   (repeat' (first|((with_reducible refine zG ?_);first|refine zE rfl rfl rfl rfl rfl ?_|refine zC rfl rfl rfl rfl rfl ?_|(refine zK rfl rfl rfl rfl rfl ?_;refine ⟨_,rfl,?_⟩)|refine zd rfl rfl rfl rfl rfl ?_|(refine zQ rfl rfl rfl rfl rfl rfl rfl (fun h=>?_) (fun h=>?_)<;>(dsimp only [cmpP] at h;(try (exfalso;omega))))|(refine zAq (enc:=encI) [_] rfl rfl rfl rfl rfl zRT rfl rfl (zAd zRe) zRc (fun A' c'=>?_))|refine zg rfl rfl rfl rfl rfl rfl zRU ?_|refine ze rfl rfl rfl rfl rfl rfl rfl zRU ?_|(refine zf rfl rfl rfl rfl rfl ?_;refine And.intro rfl (And.intro zRY ⟨_,rfl,?_⟩))|(refine zr rfl rfl rfl rfl (fun b=>?_))|(refine zz rfl rfl rfl rfl rfl ?_;refine ⟨rfl,_,rfl,fun b=>?_⟩))|(with_reducible first|refine zI ?_|refine zB ?_|refine zD ?_|refine zA ?_|refine zP ?_|refine zN ?_|refine zi ?_)|((with_reducible refine zJ ?_ ?_);(· exact rfl))|((with_reducible refine zF ?_ ?_);(· exact rfl))))
   first|rw [show fu z=z.melt.lo by rw [hfu];rfl] at e1|rw [show fu z=z.melt.hi by rw [hfu];rfl] at e1
   rw [e1]
   exact zc (ι:=Nat × Value) (i+1,.slice A' ((c.hours.take (i+1)).map fu).length c') zRi zRi zRS zRQ
  obtain rfl:i=c.hours.length:=by omega
  rw [t2]
  refine zC4 (xs:=c.beds.map fz) (enc:=encI) zRT ?_
  rintro A1 k1 rfl
  refine zC4 (xs:=c.hours.map fu) (enc:=encI) zRT ?_
  rintro A2 k2 rfl
  (repeat' (first|((with_reducible refine zG ?_);first|(refine zK rfl rfl rfl rfl rfl ?_;refine ⟨_,rfl,?_⟩)|(refine zQ rfl rfl rfl rfl rfl rfl rfl (fun h=>?_) (fun h=>?_)<;>(dsimp only [cmpP] at h;(try (exfalso;omega))))|(refine zf rfl rfl rfl rfl rfl ?_;refine And.intro rfl (And.intro zRY ⟨_,rfl,?_⟩)))|(with_reducible first|refine zI ?_|refine zB ?_|refine zD ?_|refine zA ?_|refine za ?_|refine zk ?_|refine zR ?_|refine zY ?_)|((with_reducible refine zF ?_ ?_);(· exact rfl))))
  exact zU zRo ((A1,k1),(A2,k2)) trivial rfl (fun _ h=>((h.zCK (xs:=c.beds.map fz) (enc:=encI) zRT).zCK (xs:=c.hours.map fu) (enc:=encI) zRT).sub zRQ)
theorem lossT_at {c:Cov} (h:zAp c=0) {i k:Nat} (hi:i<c.beds.length) (hk:k<c.hours.length):zNr c (i:Int) (k:Int)=(zBB c (c.beds.getD i default) (c.hours.getD k default),0):=by
 unfold zNr
 rw [if_pos h,if_pos (by rw [zx,zx];omega)]
 rfl
theorem zQW {c:Cov} {pl:List Sli} (h:zCC c pl=0) (hf:zBm c):(zBN c pl=0∨zBN c pl=1∨zBN c pl=2)∧(zBN c pl=0↔0<(zAm c pl zC2).length):=by
 have h1:(zAm c pl zAa).length=0→(zAm c pl zC2).length=0:=fun h=>by
  rw [List.length_eq_zero_iff] at h ⊢
  rw [List.eq_nil_iff_forall_not_mem]
  intro p hp
  have:=zKO hf (zMn hf) (zPu hf (zMn hf) hp)
  rw [h] at this
  cases this
 unfold zBN
 rw [if_pos h]
 by_cases h3:(zAm c pl zAa).length=0
 ·simp [h3,h1 h3]
 ·rw [if_neg h3]
  by_cases h4:(zAm c pl zC2).length=0
  ·simp [h4]
  ·simp [h4];omega
end Go.Proofs.YtdigopgncfhiaaaGreatDoor
namespace Go.Proofs.YtdigopgncfhiaaaGreatDoor.Two
variable {ro : Option Nat}
open Go.RowKit
set_option maxRecDepth 20000
set_option maxHeartbeats 8000000 in
theorem zN2 (c:Cov) (A:Option Addr) (ca:Nat) (B:Option Addr) (cb:Nat) (C:Option Addr) (cc:Nat) (ch:List Int) (D:Option Addr) (cd:Nat) (w:World) (hc:zAl w c A B C) (hfit:zFc c.t) (hD:zAB zHx 1 w D ch) (hfu:zKn ch) (hG:InC w 0 0 zCS) :
  Gv Tryz.prog 12 [zAQ c A ca B cb C cc,.slice D ch.length cd] w (.bool true):=by
 have hAl:=fun W (hW:Below w.heap.size w W)=>zDh W (hG.below hW)
 have hR:=fun W (hW:Below w.heap.size w W)=>zDg c A ca B cb C cc W (hc.below hW) hfit
 cases hr:zDc c
 ·rw [hr] at hR
  unfold zAQ zH at hR ⊢
  unfold Gv
  (refine zM (n:=203) Tryz.func12 rfl rfl rfl ?_)
  (repeat' (first|((with_reducible refine zG ?_);first|refine zE rfl rfl rfl rfl rfl ?_|refine zC rfl rfl rfl rfl rfl ?_|(refine zK rfl rfl rfl rfl rfl ?_;refine ⟨_,rfl,?_⟩)|refine zV rfl rfl rfl rfl rfl rfl (fun _ _ q=>hAl _ q.below) ?_|refine zV rfl rfl rfl rfl rfl rfl (fun _ _ q=>hR _ q.below) ?_|refine zAf rfl rfl rfl rfl rfl ?_|(refine zAI rfl rfl rfl rfl rfl rfl (fun b=>?_)))|(with_reducible first|refine zI ?_|refine zB ?_|refine zD ?_|refine zA ?_|refine za ?_|refine zP ?_|refine zb ?_)|((with_reducible refine zJ ?_ ?_);(· exact rfl))|((with_reducible refine zF ?_ ?_);(· exact rfl))))
  all_goals exact zU zRZ () trivial rfl (fun _ _=>Own.nil _ _)
 rw [hr] at hR
 have hs:=zCq hr hfit
 have h0:=(zC5.1 hr).2
 have hf:=zAy h0
 have h4:=hs.b;have h5:=hs.h
 have hb:=hc.b;have hh:=hc.h
 have hh1:=hf.hours
 rw [zx] at hh1
 have hb0:=zGP h0
 have hyo:=zHy (ch:=ch) (f:=0) hf
 have hyl:(zu c ch 0).length=c.hours.length:=zBT
 have hyr:∀ r∈zu c ch 0,r.length≤20:=fun r hr=>Nat.le_trans (zFq r hr) h4
 have hDr:=fun W (hW:Below w.heap.size w W)=>zHK c A ca B cb C cc ch D cd 0 W (hc.below hW) hs (hD.below hW) hfu zRU
 have hT0:zFa c (zDQ false c):=zMn hf
 have hT1:zFa c (zDQ true c):=endB_ok hf
 have hE0:=fun W (hW:Below w.heap.size w W)=>zNw c A ca B cb C cc false W (hc.below hW) hs
 have hE1:=fun W (hW:Below w.heap.size w W)=>zNw c A ca B cb C cc true W (hc.below hW) hs
 have hek:=zDs h0 hyo
 have hSf:=zQW hek hf
 have hg0:goS c (zAC (zu c ch 0)) (zDQ false c) c.hours.length=zAm c (zAC (zu c ch 0)) zAa:=zQz hf
 have hg1:goS c (zAC (zu c ch 0)) (zDQ true c) c.hours.length=zAm c (zAC (zu c ch 0)) zC2:=goS_best hf
 have hgo0:=fun W (hW:Below w.heap.size w W) TA tc MA mc P cp h1 h2 hp=>zO2 c A ca B cb C cc (zDQ false c) TA tc MA mc (zu c ch 0) P cp W (hc.below hW) hs hf hT0 hb0 h1 h2 hp hyl hyr
 have hgo1:=fun W (hW:Below w.heap.size w W) TA tc MA mc P cp h1 h2 hp=>zO2 c A ca B cb C cc (zDQ true c) TA tc MA mc (zu c ch 0) P cp W (hc.below hW) hs hf hT1 hb0 h1 h2 hp hyl hyr
 rw [hg0] at hgo0
 rw [hg1] at hgo1
 have hTh:=fun W (hW:Below w.heap.size w W) P cp hp=>zO5 c A ca B cb C cc (zu c ch 0) P cp W (hc.below hW) hs hp zRU hyr (hG.below hW)
 have hSa:=fun W (hW:Below w.heap.size w W) P cp hp=>zFl c A ca B cb C cc (zu c ch 0) P cp W (hc.below hW) hs hp zRU hyr (hG.below hW)
 have hTk:=fun W (hW:Below w.heap.size w W) P cp hp (i k:Nat) (hi:i<c.beds.length) (hk:k≤c.hours.length)=>by
  have:=zMh c A ca B cb C cc (zu c ch 0) P cp W (hc.below hW) hs hp zRU hyr (i:Int) (k:Int)
  rw [zLD hek hi hk] at this
  exact this
 have hLo:=fun W (hW:Below w.heap.size w W) (i k:Nat) (hi:i<c.beds.length) (hk:k<c.hours.length)=>by
  have:=zQv c A ca B cb C cc (i:Int) (k:Int) W (hc.below hW) hs
  rw [lossT_at h0 hi hk] at this
  exact this
 have hth:zE3 c (zAC (zu c ch 0))=zAm c (zAC (zu c ch 0)) zAa:=by unfold zE3;rw [if_pos hek]
 have htl:=zIE (c:=c) (pl:=zAC (zu c ch 0)) (en:=zAa) (by exact h4) (by exact h5)
 rw [hek,hth] at hTh
 rw [hek] at hSa
 rw [hyl] at hTh hSa hTk
 have hSm:=fun W X cx Y cy (h1:zAB zAW 2 W X (zAm c (zAC (zu c ch 0)) zAa)) (h2:zAB zAW 2 W Y (zAm c (zAC (zu c ch 0)) zAa))=>zGz _ X cx Y cy W h1 h2 zRU
 have hA0:∀ y i,y≤c.hours.length→i<c.beds.length→(goL c (zAC (zu c ch 0)) (zDQ false c) (c.hours.length+1))[y]?=some (goA c (zAC (zu c ch 0)) (zDQ false c) y)∧(goA c (zAC (zu c ch 0)) (zDQ false c) y)[i]?=some (thickN c (zAC (zu c ch 0)) (c.beds.getD i default) i y).lo:=fun y i hy hi=>by
  refine ⟨?_,(zMk hi).trans (congrArg some (zIc hi y hy))⟩
  unfold goL
  rw [List.getElem?_map,List.getElem?_range zRU];rfl
 have hA1:∀ y i,y≤c.hours.length→i<c.beds.length→(goL c (zAC (zu c ch 0)) (zDQ true c) (c.hours.length+1))[y]?=some (goA c (zAC (zu c ch 0)) (zDQ true c) y)∧(goA c (zAC (zu c ch 0)) (zDQ true c) y)[i]?=some (thickN c (zAC (zu c ch 0)) (c.beds.getD i default) i y).hi:=fun y i hy hi=>by
  refine ⟨?_,(zMk hi).trans (congrArg some (zKQ hi y hy))⟩
  unfold goL
  rw [List.getElem?_map,List.getElem?_range zRU];rfl
 have hz0:(goL c (zAC (zu c ch 0)) (zDQ false c) (c.hours.length+1)).length=c.hours.length+1:=by simp [goL]
 have hz1:(goL c (zAC (zu c ch 0)) (zDQ true c) (c.hours.length+1)).length=c.hours.length+1:=by simp [goL]
 have hl0:=fun y=>zCY (c:=c) (pl:=zAC (zu c ch 0)) (t:=zDQ false c) (h:=y)
 have hl1:=fun y=>zCY (c:=c) (pl:=zAC (zu c ch 0)) (t:=zDQ true c) (h:=y)
 clear hg0 hg1 hT0 hT1
 generalize zBN c (zAC (zu c ch 0))=sf at *
 generalize zAm c (zAC (zu c ch 0)) zAa=tS at *
 generalize zAm c (zAC (zu c ch 0)) zC2=bS at *
 generalize goA c (zAC (zu c ch 0)) (zDQ false c)=gA0 at *
 generalize goA c (zAC (zu c ch 0)) (zDQ true c)=gA1 at *
 generalize goL c (zAC (zu c ch 0)) (zDQ false c) (c.hours.length+1)=gL0 at *
 generalize goL c (zAC (zu c ch 0)) (zDQ true c) (c.hours.length+1)=gL1 at *
 generalize zu c ch 0=yss at *
 generalize zDQ false c=T0 at *
 generalize zDQ true c=T1 at *
 unfold zAQ at hR hDr hE0 hE1 hgo0 hgo1 hTh hSa hTk hLo
 unfold zH at hR hDr hE0 hE1 hgo0 hgo1 hTh hSa hTk hLo
 unfold vSp at hTk hLo
 unfold Gv zAQ zH
 (refine zM (n:=203) Tryz.func12 rfl rfl rfl ?_)
 (repeat' (first|((with_reducible refine zG ?_);first|refine zE rfl rfl rfl rfl rfl ?_|refine zC rfl rfl rfl rfl rfl ?_|(refine zK rfl rfl rfl rfl rfl ?_;refine ⟨_,rfl,?_⟩)|refine zV rfl rfl rfl rfl rfl rfl (fun _ _ q=>hAl _ q.below) ?_|refine zV rfl rfl rfl rfl rfl rfl (fun _ _ q=>hR _ q.below) ?_|(refine zAV rfl rfl rfl rfl rfl rfl (fun _ _ q=>hDr _ q.below) ?_;rintro ⟨pg,pn,P,cp⟩ -;dsimp only [List.cons_append,List.nil_append])|refine zAf rfl rfl rfl rfl rfl ?_|(refine zAI rfl rfl rfl rfl rfl rfl (fun b=>?_)))|(with_reducible first|refine zI ?_|refine zB ?_|refine zD ?_|refine zA ?_|refine zP ?_)|((with_reducible refine zF ?_ ?_);(· exact rfl))))
 (refine zAc [] [] [] rfl (show ([]:List Nat).Nodup by decide) (fun _ h=>h) zRW [[],[I0],[O0,O0],[O0,O0,O0],[I0,I0,I0,I0],[I0,I0,I0,I0,I0],[I0,I0,I0,I0,I0,I0],[O0,I0,I0,I0,I0,I0,I0],[O0,I0,I0,I0,I0,I0,I0,I0],[I0,I0,I0,I0,I0,I0,I0,I0,I0]] zRW zRW zRW zRW zRW ?_)
 (repeat' (first|(((with_reducible refine zCT ?_ ?_);(· exact rfl);refine ⟨_,fun G=>zRX,?_⟩);first|refine zX _ (fun _=>zAM rfl rfl) (fun _=>rfl) rfl zRR ?_|refine zX _ (fun _=>zy rfl rfl zRe) (fun _=>rfl) rfl zRR ?_|refine zX _ (fun _=>zBe rfl rfl) (fun _=>rfl) rfl zRR ?_|(refine zIk (α:=(Option Addr × Nat) × (Option Addr × Nat)) rfl (fun _=>rfl) rfl (fun _=>rfl) (fun _=>rfl) (fun _ _ _ q=>hE0 _ q.below) ?_)|(refine zIk (α:=((Option Addr × Nat) × List Sli) × (Option Addr × Nat)) rfl (fun _=>rfl) rfl (fun _=>rfl) (fun _=>rfl) (fun _ _ _ q=>hgo0 _ q.below _ _ _ _ _ _ (zA5 q.own (Below.refl _ _)) (zA5 q.own (Below.refl _ _)) (zBd q.own zRT)) ?_)|refine zX _ (fun _=>zDk rfl rfl rfl) (fun _=>rfl) rfl zRR ?_)|(with_reducible refine zH3 ?_)))
 (intro G;simp only [regsT,zAG,zBZ,ini,List.nil_append,List.cons_append])
 generalize deC (((Option Addr × Nat) × List Sli) × Option Addr × Nat) _=z2
 obtain ⟨⟨⟨A6,c6⟩,L⟩,A7,c7⟩:=z2
 refine zMG zRT fun hL=>?_
 simp only at hL
 simp only
 (repeat' (first|(with_reducible first|refine zI ?_|refine zA ?_)))
 (refine zAc [] [] [] rfl (show ([]:List Nat).Nodup by decide) (fun _ h=>h) zRW [[],[I0],[O0,O0],[O0,O0,O0],[I0,I0,I0,I0],[I0,I0,I0,I0,I0],[I0,I0,I0,I0,I0,I0],[O0,I0,I0,I0,I0,I0,I0],[O0,I0,I0,I0,I0,I0,I0,I0],[I0,I0,I0,I0,I0,I0,I0,I0,I0]] zRW zRW zRW zRW zRW ?_)
 (repeat' (first|(((with_reducible refine zCT ?_ ?_);(· exact rfl);refine ⟨_,fun G=>zRX,?_⟩);first|refine zX _ (fun _=>zAM rfl rfl) (fun _=>rfl) rfl zRR ?_|refine zX _ (fun _=>zy rfl rfl zRe) (fun _=>rfl) rfl zRR ?_|refine zX _ (fun _=>zBe rfl rfl) (fun _=>rfl) rfl zRR ?_|(refine zIk (α:=(Option Addr × Nat) × (Option Addr × Nat)) rfl (fun _=>rfl) rfl (fun _=>rfl) (fun _=>rfl) (fun _ _ _ q=>hE1 _ q.below) ?_)|(refine zIk (α:=((Option Addr × Nat) × List Sli) × (Option Addr × Nat)) rfl (fun _=>rfl) rfl (fun _=>rfl) (fun _=>rfl) (fun _ _ _ q=>hgo1 _ q.below _ _ _ _ _ _ (zA5 q.own (Below.refl _ _)) (zA5 q.own (Below.refl _ _)) (zBd q.own zRT)) ?_)|refine zX _ (fun _=>zDk rfl rfl rfl) (fun _=>rfl) rfl zRR ?_)|(with_reducible refine zH3 ?_)))
 (intro G;simp only [regsT,zAG,zBZ,ini,List.nil_append,List.cons_append])
 generalize deC (((Option Addr × Nat) × List Sli) × Option Addr × Nat) _=z2
 obtain ⟨⟨⟨A16,c16⟩,L1⟩,A17,c17⟩:=z2
 refine zMG zRT fun hL1=>?_
 simp only at hL1
 simp only
 (repeat' (first|((with_reducible refine zG ?_);first|refine zE rfl rfl rfl rfl rfl ?_|refine zC rfl rfl rfl rfl rfl ?_|(refine zK rfl rfl rfl rfl rfl ?_;refine ⟨_,rfl,?_⟩)|refine zAg rfl rfl rfl rfl rfl rfl ?_|(refine zQ rfl rfl rfl rfl rfl rfl rfl (fun h=>?_) (fun h=>?_)<;>(dsimp only [cmpP] at h;(try (exfalso;omega))))|(refine zAV rfl rfl rfl rfl rfl rfl (fun _ _ q=>hTh _ q.below _ _ (zBd q.own zRT)) ?_;rintro ⟨A8,c8⟩ -;dsimp only [List.cons_append,List.nil_append])|refine zV rfl rfl rfl rfl rfl rfl (fun _ _ q=>hSa _ q.below _ _ (zBd q.own zRT)) ?_|refine zV rfl rfl rfl rfl rfl rfl (fun _ _ q=>hSm _ _ _ _ _ (zA5 q.own (Below.refl _ _)) (zA5 q.own (Below.refl _ _))) ?_|refine zAb rfl rfl rfl (zOI rfl rfl rfl) ?_|refine zj rfl rfl rfl rfl rfl rfl ?_|refine zAf rfl rfl rfl rfl rfl ?_|refine zp rfl rfl rfl rfl rfl ?_)|(with_reducible first|refine zI ?_|refine zB ?_|refine zD ?_|refine zA ?_|refine zP ?_|refine zN ?_)|((with_reducible refine zF ?_ ?_);(· exact rfl))))
 all_goals
  have hLl:L.length=c.hours.length+1:=by rw [← hz0,← hL,List.length_map]
  have hLl1:L1.length=c.hours.length+1:=by rw [← hz1,← hL1,List.length_map]
  refine zq (ι:=Nat) [2,5,6,7,9,80] rfl (fun y=>y≤c.hours.length+1) (fun y=>[(81,.int .i64 (y:Int))]) (fun _=>[.zEO pg pn P yss,.sl zAA 1 A6 L,.rows L,.sl zAA 1 A16 L1,.rows L1,.blk b [.slice A c.t.length ca,.slice B c.beds.length cb,.slice C c.hours.length cc,.int .i64 c.wear.lo,.int .i64 c.wear.hi,.int .i64 c.layer.lo,.int .i64 c.layer.hi,.int .i64 c.rate,.int .i64 c.limit,.int .i64 c.base]]) (fun y=>c.hours.length+1 - y) 0 (Nat.zero_le _) zRS zRQ ?_
  rintro y hy
  simp only [zAn,List.cons_append,List.nil_append]
  by_cases hyl:y<c.hours.length+1
  ·obtain ⟨s,hs1⟩:∃ s,L[y]?=some s:=⟨_,List.getElem?_eq_getElem zRU⟩
   obtain ⟨s1,hs2⟩:∃ s,L1[y]?=some s:=⟨_,List.getElem?_eq_getElem zRU⟩
   have hsx:s.xs=gA0 y:=by
    have h1:=(hA0 y 0 zRU hb0).1
    rw [← hL,List.getElem?_map,hs1] at h1
    exact Option.some.inj h1
   have hsx1:s1.xs=gA1 y:=by
    have h1:=(hA1 y 0 zRU hb0).1
    rw [← hL1,List.getElem?_map,hs2] at h1
    exact Option.some.inj h1
   have hsl:s.xs.length=c.beds.length:=by rw [hsx];exact hl0 y
   have hsl1:s1.xs.length=c.beds.length:=by rw [hsx1];exact hl1 y
   have hsm:=List.mem_of_getElem? hs1
   have hsm1:=List.mem_of_getElem? hs2
   have:zAP L y s:=⟨hs1⟩
   have:zAP L1 y s1:=⟨hs2⟩
   refine zE1 (enc:=zAA) (A:=A6) (xs:=L) zRT zRU ?_
   rintro ba oa rfl
   refine zE1 (enc:=zAA) (A:=A16) (xs:=L1) zRT zRU ?_
   rintro bz oz rfl
   refine zME (L:=L) (s:=s) zRT hsm zRU ?_
   rintro bs os hA
   have hRI:RowIs L bs os s.xs:=⟨s,hsm,hA,rfl⟩
   refine zME (L:=L1) (s:=s1) zRT hsm1 zRU ?_
   rintro bt ot hA2
   have hRI2:RowIs L1 bt ot s1.xs:=⟨s1,hsm1,hA2,rfl⟩
   obtain ⟨sA,sx,sc⟩:=s
   simp only at hA hsx hsl hRI
   subst hA
   obtain ⟨sA1,sx1,sc1⟩:=s1
   simp only at hA2 hsx1 hsl1 hRI2
   subst hA2
   (repeat' (first|((with_reducible refine zG ?_);first|refine zE rfl rfl rfl rfl rfl ?_|refine zC rfl rfl rfl rfl rfl ?_|(refine zK rfl rfl rfl rfl rfl ?_;refine ⟨_,rfl,?_⟩)|refine zd rfl rfl rfl rfl rfl ?_|(refine zQ rfl rfl rfl rfl rfl rfl rfl (fun h=>?_) (fun h=>?_)<;>(dsimp only [cmpP] at h;(try (exfalso;omega))))|refine zp rfl rfl rfl rfl rfl ?_)|(with_reducible first|refine zI ?_|refine zB ?_|refine zD ?_|refine zA ?_|refine zP ?_|refine zN ?_)|((with_reducible refine zJ ?_ ?_);(· exact rfl))))
   refine zq (ι:=Nat) [2,5,6,7,9,15,80,81,86] rfl (fun i=>i≤c.beds.length) (fun i=>[(87,.int .i64 (i:Int))]) (fun _=>[.zEO pg pn P yss,.sl zAA 1 (some ⟨ba,oa,none⟩) L,.rows L,.sl zAA 1 (some ⟨bz,oz,none⟩) L1,.rows L1,.blk b [.slice A c.t.length ca,.slice B c.beds.length cb,.slice C c.hours.length cc,.int .i64 c.wear.lo,.int .i64 c.wear.hi,.int .i64 c.layer.lo,.int .i64 c.layer.hi,.int .i64 c.rate,.int .i64 c.limit,.int .i64 c.base]]) (fun i=>c.beds.length - i) 0 (Nat.zero_le _) zRS zRQ ?_
   rintro i hi
   simp only [zAn,List.cons_append,List.nil_append]
   by_cases hil:i<c.beds.length
   ·have hx:=(hA0 y i zRU hil).2
    have hx1:=(hA1 y i zRU hil).2
    rw [← hsx] at hx
    rw [← hsx1] at hx1
    have hTki:=fun W hW P cp hp=>hTk W hW P cp hp i y hil zRU
    generalize thickN c (zAC yss) (c.beds.getD i default) (i:Int) y=tk at *
    obtain ⟨tl,th⟩:=tk
    simp only at hx hx1 hTki
    have:zAP sx i tl:=⟨hx⟩
    have:zAP sx1 i th:=⟨hx1⟩
    by_cases hyn:y<c.hours.length
    ·obtain ⟨z,hz⟩:∃ z,c.beds[i]?=some z:=⟨_,List.getElem?_eq_getElem hil⟩
     obtain ⟨u,hu⟩:∃ u,c.hours[y]?=some u:=⟨_,List.getElem?_eq_getElem hyn⟩
     have hLoi:=fun W hW=>hLo W hW i y hil hyn
     rw [zAS hz,zAS hu] at hLoi
     simp only [zBB] at hLoi
     obtain ⟨bb,ob,rfl,_,_⟩:=hb.at_ hil
     have:InS w bb ob zAX 3 c.beds:=⟨hb⟩
     have:zAP c.beds i z:=⟨hz⟩
     obtain ⟨bh,oh,rfl,_,_⟩:=hh.at_ hyn
     have:InS w bh oh zw 5 c.hours:=⟨hh⟩
     have:zAP c.hours y u:=⟨hu⟩
     have hoz:=hf.bed z (List.mem_of_getElem? hz)
     have hou:=hf.hour u (List.mem_of_getElem? hu)
     have hfw:=hf.wear
     simp only [zCm,zBR,Bool.and_eq_true,zAE,zx] at hoz hou hfw
     have p1:=Int.mul_le_mul (show z.sun≤9 by omega) (show u.melt.lo≤50 by omega) (show 0≤u.melt.lo by omega) zRU
     have p2:=Int.mul_nonneg (show 0≤z.sun by omega) (show 0≤u.melt.lo by omega)
     have p3:=Int.mul_le_mul (show z.sun≤9 by omega) (show u.melt.hi≤50 by omega) (show 0≤u.melt.hi by omega) zRU
     have p4:=Int.mul_le_mul_of_nonneg_left (show u.melt.lo≤u.melt.hi by omega) (show 0≤z.sun by omega)
     have p5:=Int.mul_le_mul (show u.runs≤60 by omega) (show c.wear.lo≤20 by omega) (show 0≤c.wear.lo by omega) zRU
     have p6:=Int.mul_nonneg (show 0≤u.runs by omega) (show 0≤c.wear.lo by omega)
     have p7:=Int.mul_le_mul (show u.runs≤60 by omega) (show c.wear.hi≤20 by omega) (show 0≤c.wear.hi by omega) zRU
     have p8:=Int.mul_le_mul_of_nonneg_left (show c.wear.lo≤c.wear.hi by omega) (show 0≤u.runs by omega)
     (repeat' (first|((with_reducible refine zG ?_);first|refine zE rfl rfl rfl rfl rfl ?_|refine zC rfl rfl rfl rfl rfl ?_|(refine zK rfl rfl rfl rfl rfl ?_;refine ⟨_,rfl,?_⟩)|(refine zQ rfl rfl rfl rfl rfl rfl rfl (fun h=>?_) (fun h=>?_)<;>(dsimp only [cmpP] at h;(try (exfalso;omega))))|refine zV rfl rfl rfl rfl rfl rfl (fun _ _ q=>hTki _ q.below _ _ (zBd q.own zRT)) ?_|refine zj rfl rfl rfl rfl rfl rfl ?_|(refine zf rfl rfl rfl rfl rfl ?_;refine And.intro rfl (And.intro zRY ⟨_,rfl,?_⟩))|(refine zr rfl rfl rfl rfl (fun b=>?_)))|(with_reducible first|refine zI ?_|refine zB ?_|refine zD ?_|refine zA ?_|refine zP ?_|refine zN ?_)|((with_reducible refine zJ ?_ ?_);(· exact rfl))))
     (refine zAr zRW zRW zRW ?_)
     (repeat' (first|((with_reducible refine zBD ?_);first|refine zW (zAM rfl rfl) rfl rfl rfl ?_|refine zW (zy rfl rfl zRe) rfl rfl rfl ?_|refine zW (zCA rfl rfl rfl) rfl rfl rfl ?_|(refine zCu rfl rfl rfl rfl rfl rfl rfl (fun h=>?_) (fun h=>?_)<;>(dsimp only [cmpP] at h;(try (exfalso;omega))))|refine zW (zAO (I:=y) rfl rfl rfl zRU zRj) rfl rfl rfl ?_|refine zW (zAO (I:=i) rfl rfl rfl zRU zRj) rfl rfl rfl ?_|refine zDM rfl rfl rfl rfl rfl rfl (fun _ _ q=>zDf _ _ _) ?_|refine zW (e_neSp rfl rfl rfl) rfl rfl rfl ?_)|(with_reducible refine zBw ?_)))
     (repeat' (first|((with_reducible refine zG ?_);first|refine zE rfl rfl rfl rfl rfl ?_|refine zC rfl rfl rfl rfl rfl ?_|(refine zK rfl rfl rfl rfl rfl ?_;refine ⟨_,rfl,?_⟩)|refine zd rfl rfl rfl rfl rfl ?_|(refine zQ rfl rfl rfl rfl rfl rfl rfl (fun h=>?_) (fun h=>?_)<;>(dsimp only [cmpP] at h;(try (exfalso;omega))))|refine zV rfl rfl rfl rfl rfl rfl (fun _ _ q=>hLoi _ q.below) ?_|refine zj rfl rfl rfl rfl rfl rfl ?_|refine zp rfl rfl rfl rfl rfl ?_|(refine zf rfl rfl rfl rfl rfl ?_;refine And.intro rfl (And.intro zRY ⟨_,rfl,?_⟩))|(refine zr rfl rfl rfl rfl (fun b=>?_)))|(with_reducible first|refine zI ?_|refine zB ?_|refine zD ?_|refine zA ?_|refine zP ?_)|((with_reducible refine zF ?_ ?_);(· exact rfl))))
     dsimp only [List.append]
     (refine zAr zRW zRW zRW ?_)
     (repeat' (first|((with_reducible refine zBD ?_);first|refine zW (zAM rfl rfl) rfl rfl rfl ?_|refine zW (zy rfl rfl zRe) rfl rfl rfl ?_|refine zW (zAJ rfl rfl) rfl rfl rfl ?_|refine zW (zCA rfl rfl rfl) rfl rfl rfl ?_|(refine zCu rfl rfl rfl rfl rfl rfl rfl (fun h=>?_) (fun h=>?_)<;>(dsimp only [cmpP] at h;(try (exfalso;omega))))|refine zW (zAO (I:=y) rfl rfl rfl zRU zRj) rfl rfl rfl ?_|refine zW (zAO (I:=i) rfl rfl rfl zRU zRj) rfl rfl rfl ?_|refine zW (zDS rfl rfl rfl (IntWalk.i64_in _ zRU)) rfl rfl rfl ?_|refine zW (zGM rfl rfl rfl (IntWalk.i64_in _ zRU)) rfl rfl rfl ?_)|(with_reducible refine zBw ?_)))
     (repeat' (first|((with_reducible refine zG ?_);first|refine zE rfl rfl rfl rfl rfl ?_|refine zg rfl rfl rfl rfl rfl rfl zRU ?_)|(with_reducible first|refine zB ?_|refine zD ?_|refine zA ?_|refine zP ?_|refine zi ?_)|((with_reducible refine zF ?_ ?_);(· exact rfl))))
     exact zc (ι:=Nat) (i+1) zRU zRU zRS zRQ
    ·obtain rfl:y=c.hours.length:=by omega
     (repeat' (first|((with_reducible refine zG ?_);first|refine zE rfl rfl rfl rfl rfl ?_|refine zC rfl rfl rfl rfl rfl ?_|(refine zK rfl rfl rfl rfl rfl ?_;refine ⟨_,rfl,?_⟩)|(refine zQ rfl rfl rfl rfl rfl rfl rfl (fun h=>?_) (fun h=>?_)<;>(dsimp only [cmpP] at h;(try (exfalso;omega))))|refine zV rfl rfl rfl rfl rfl rfl (fun _ _ q=>hTki _ q.below _ _ (zBd q.own zRT)) ?_|refine zj rfl rfl rfl rfl rfl rfl ?_|(refine zf rfl rfl rfl rfl rfl ?_;refine And.intro rfl (And.intro zRY ⟨_,rfl,?_⟩))|(refine zr rfl rfl rfl rfl (fun b=>?_)))|(with_reducible first|refine zI ?_|refine zB ?_|refine zD ?_|refine zA ?_|refine zP ?_|refine zN ?_)|((with_reducible refine zJ ?_ ?_);(· exact rfl))))
     (refine zAr zRW zRW zRW ?_)
     (repeat' (first|((with_reducible refine zBD ?_);first|refine zW (zAM rfl rfl) rfl rfl rfl ?_|refine zW (zy rfl rfl zRe) rfl rfl rfl ?_|refine zW (zCA rfl rfl rfl) rfl rfl rfl ?_|(refine zCu rfl rfl rfl rfl rfl rfl rfl (fun h=>?_) (fun h=>?_)<;>(dsimp only [cmpP] at h;(try (exfalso;omega))))|refine zW (zAO (I:=(c.hours.length)) rfl rfl rfl zRU zRj) rfl rfl rfl ?_|refine zW (zAO (I:=i) rfl rfl rfl zRU zRj) rfl rfl rfl ?_|refine zDM rfl rfl rfl rfl rfl rfl (fun _ _ q=>zDf _ _ _) ?_|refine zW (e_neSp rfl rfl rfl) rfl rfl rfl ?_)|(with_reducible refine zBw ?_)))
     (repeat' (first|((with_reducible refine zG ?_);first|refine zE rfl rfl rfl rfl rfl ?_|(refine zK rfl rfl rfl rfl rfl ?_;refine ⟨_,rfl,?_⟩)|refine zd rfl rfl rfl rfl rfl ?_|(refine zQ rfl rfl rfl rfl rfl rfl rfl (fun h=>?_) (fun h=>?_)<;>(dsimp only [cmpP] at h;(try (exfalso;omega))))|refine zg rfl rfl rfl rfl rfl rfl zRU ?_|refine zp rfl rfl rfl rfl rfl ?_)|(with_reducible first|refine zI ?_|refine zB ?_|refine zD ?_|refine zA ?_|refine zP ?_|refine zk ?_|refine zR ?_|refine zY ?_)|((with_reducible refine zJ ?_ ?_);(· exact rfl))|((with_reducible refine zF ?_ ?_);(· exact rfl))))
     exact zc (ι:=Nat) (i+1) zRU zRU zRS zRQ
   ·obtain rfl:i=c.beds.length:=by omega
    (repeat' (first|((with_reducible refine zG ?_);first|refine zE rfl rfl rfl rfl rfl ?_|(refine zQ rfl rfl rfl rfl rfl rfl rfl (fun h=>?_) (fun h=>?_)<;>(dsimp only [cmpP] at h;(try (exfalso;omega))))|refine zg rfl rfl rfl rfl rfl rfl zRU ?_)|(with_reducible first|refine zI ?_|refine zB ?_|refine zD ?_|refine zA ?_|refine zk ?_|refine zi ?_|refine zR ?_|refine zY ?_)|((with_reducible refine zF ?_ ?_);(· exact rfl))))
    exact zc (ι:=Nat) (y+1) zRU zRU zRS zRQ
  ·obtain rfl:y=c.hours.length+1:=by omega
   (repeat' (first|((with_reducible refine zG ?_);first|refine zE rfl rfl rfl rfl rfl ?_|refine zC rfl rfl rfl rfl rfl ?_|(refine zQ rfl rfl rfl rfl rfl rfl rfl (fun h=>?_) (fun h=>?_)<;>(dsimp only [cmpP] at h;(try (exfalso;omega)))))|(with_reducible first|refine zI ?_|refine zB ?_|refine zD ?_|refine zA ?_|refine za ?_|refine zk ?_|refine zR ?_|refine zY ?_)|((with_reducible refine zF ?_ ?_);(· exact rfl))))
   exact zU zRZ () trivial rfl (fun _ _=>Own.nil _ _)
end Go.Proofs.YtdigopgncfhiaaaGreatDoor.Two
