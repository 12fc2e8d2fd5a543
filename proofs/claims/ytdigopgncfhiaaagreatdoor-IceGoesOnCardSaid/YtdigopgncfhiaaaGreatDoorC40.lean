/- C40 -/
import Derived.Test.YtdigopgncfhiaaaGreatDoorC36
import Derived.Test.YtdigopgncfhiaaaGreatDoorC32
import Derived.Test.YtdigopgncfhiaaaGreatDoorC30
import Derived.Test.YtdigopgncfhiaaaGreatDoorC11
import Derived.Test.YtdigopgncfhiaaaGreatDoorC31
import Derived.Test.YtdigopgncfhiaaaGreatDoorC25
import Derived.Test.YtdigopgncfhiaaaGreatDoorC33
set_option linter.unusedSimpArgs false
set_option linter.unusedVariables false
namespace Go.Proofs.YtdigopgncfhiaaaGreatDoor
open Go.RowKit
theorem zMP {α:Type} {l:List α} {k i:Nat} {d:α}:(l.drop k).getD i d=l.getD (k+i) d:=by simp [List.getD_eq_getElem?_getD]
theorem zRt {α:Type} {l:List α} {k i:Nat} {d:α} (h:i<k):(l.take k).getD i d=l.getD i d:=by simp [List.getD_eq_getElem?_getD,List.getElem?_take_of_lt h]
def zDw (c:Cov) (pl:List Sli) (k i:Nat) (z:Bed):Bed:={ z with thick:=thickN c pl z i k }
def zAs (c:Cov) (pl:List Sli) (k:Nat):Cov:={ c with beds:=zEH (zDw c pl k) c.beds c.beds.length,hours:=c.hours.drop k }
section
variable {c : Cov} {pl:List Sli} {k:Nat}
theorem zKc {i:Nat} {z:Bed} {u:Hour}:zBF (zAs c pl k) (zDw c pl k i z) u=zBF c z u:=rfl
theorem zKd {h:Nat}:(zAs c pl k).hours.getD h default=c.hours.getD (k+h) default:=zMP
theorem zGa {i:Nat} {z:Bed}:∀ d,thickN (zAs c pl k) (pl.drop k) (zDw c pl k i z) i d=thickN c pl z i (k+d)
 | 0=>rfl
 | d+1=>by
  have ih:=zGa (i:=i) (z:=z) d
  rw [← Nat.add_assoc]
  simp only [thickN,ih,zKc,zKd,zMP]
  rfl
theorem zPh {en:Sp→Sp→Int} {i h:Nat} {z:Bed}:zA6 (zAs c pl k) (pl.drop k) en (zDw c pl k i z) i h=zA6 c pl en z i (k+h):=by
 unfold zA6
 rw [zGa,zKc,zKd]
 rfl
theorem zME {i:Nat} (hi:i<c.beds.length):(zAs c pl k).beds.getD i default=zDw c pl k i (c.beds.getD i default):=zIY hi
theorem zPi (hk:k≤c.hours.length) (h:zAz c pl=true):zAz (zAs c pl k) (pl.drop k)=true:=by
 obtain ⟨h1,h2⟩:=zAc.1 h
 refine zAc.2 ⟨by simp [zAs,h1],fun i u s hu hs=>?_⟩
 have e1:c.hours[k+i]?=some u:=by rw [← hu];simp [zAs]
 have e2:pl[k+i]?=some s:=by rw [← hs];simp
 have hr:=h2 (k+i) u s e1 e2
 unfold zDR at hr ⊢
 rw [show (zAs c pl k).beds.length=c.beds.length from zBv]
 exact hr
theorem zPB (hk:k≤c.hours.length) (h:zAz c pl=true):zAz (zBd c k) (pl.take k)=true:=by
 obtain ⟨h1,h2⟩:=zAc.1 h
 refine zAc.2 ⟨by simp [zBd,h1],fun i u s hu hs=>?_⟩
 have hi:i<k:=by have:=(List.getElem?_eq_some_iff.1 hu).1;simp [zBd] at this;omega
 have e1:c.hours[i]?=some u:=by rw [← hu];simp [zBd,List.getElem?_take_of_lt hi]
 have e2:pl[i]?=some s:=by rw [← hs];simp [List.getElem?_take_of_lt hi]
 exact h2 i u s e1 e2
theorem zJC {i:Nat} {z:Bed}:∀ j,j≤k→thickN (zBd c k) (pl.take k) z i j=thickN c pl z i j
 | 0,_=>rfl
 | j+1,hj=>by
  have ih:=zJC (i:=i) (z:=z) j (by omega)
  simp only [thickN,ih,zQx (c:=c) (show j<k by omega),zRt (show j<k by omega)]
  rfl
theorem zOU (hs:Small c):Small (zAs c pl k):=⟨hs.fit,hs.t,by simp only [zAs,zBv];exact hs.b,by have:=hs.h;simp [zAs];omega⟩
theorem zPj {en:Sp→Sp→Int} (hk:k≤c.hours.length):(zAg c pl en).filter (fun p=>decide ((k:Int)≤p.1))=(zAg (zAs c pl k) (pl.drop k) en).map fun p:Int × Int=>(p.1+(k:Int),p.2):=by
 have e1:(zAs c pl k).hours.length=c.hours.length - k:=by simp [zAs]
 have e2:(zAs c pl k).beds.length=c.beds.length:=zBv
 unfold zAg
 rw [e1,e2,List.map_flatMap,List.filter_flatMap]
 obtain ⟨m,hm⟩:∃ m,c.hours.length=k+m:=⟨c.hours.length - k,by omega⟩
 rw [hm,Nat.add_sub_cancel_left,List.range_add,List.flatMap_append,List.flatMap_map]
 have a:(List.range k).flatMap (fun h=>(((List.range c.beds.length).filter fun i=>zA6 c pl en (c.beds.getD i default) i h).map fun (i:Nat)=>((h:Int),(i:Int))).filter fun p=>decide ((k:Int)≤p.1))=[]:=by
  rw [List.flatMap_eq_nil_iff]
  intro h hh
  rw [List.filter_eq_nil_iff]
  intro p hp
  obtain ⟨i,_,rfl⟩:=List.mem_map.1 hp
  have:=List.mem_range.1 hh
  simp only [decide_eq_true_eq];omega
 rw [a,List.nil_append]
 simp only [List.flatMap_def]
 congr 1
 refine List.map_congr_left fun h hh=>?_
 rw [List.map_map,List.filter_eq_self.2 (fun p hp=>by obtain ⟨i,_,rfl⟩:=List.mem_map.1 hp;simp only [decide_eq_true_eq];omega)]
 have b:((List.range c.beds.length).filter fun i=>zA6 (zAs c pl k) (pl.drop k) en ((zAs c pl k).beds.getD i default) i h)=(List.range c.beds.length).filter fun i=>zA6 c pl en (c.beds.getD i default) i (k+h):=List.filter_congr fun i hi=>by
  rw [zME (List.mem_range.1 hi),zPh]
 rw [b]
 refine List.map_congr_left fun i _=>?_
 simp only [Function.comp_apply,Prod.mk.injEq,and_true]
 omega
end
def zKy {α:Type} (q:α→Bool) (l:List α) (j:Nat):Nat:=((l.take j).filter q).length
theorem zRy {α:Type} {q:α→Bool} {l:List α} {j:Nat} {x:α} (hx:l[j]?=some x):zKy q l (j+1)=zKy q l j+(if q x then 1 else 0):=by
 unfold zKy
 rw [List.take_add_one,hx,Option.toList_some,List.filter_append,List.length_append]
 congr 1
 cases e:q x<;>simp [e]
theorem filN_at {α:Type} {q:α→Bool} {l:List α} {j:Nat} {x:α} (hx:l[j]?=some x) (hq:q x=true):(l.filter q)[zKy q l j]?=some x:=by
 have hj:=(List.getElem?_eq_some_iff.1 hx).1
 have e:l=l.take j++x::l.drop (j+1):=by
  have h1:=List.take_append_drop j l
  rw [List.drop_eq_getElem_cons hj,(List.getElem?_eq_some_iff.1 hx).2] at h1
  exact h1.symm
 unfold zKy
 have h2:l.filter q=(l.take j).filter q++x::(l.drop (j+1)).filter q:=by
  conv=>lhs;rw [e]
  rw [List.filter_append,List.filter_cons,if_pos hq]
 rw [h2,List.getElem?_append_right (Nat.le_refl _),Nat.sub_self];rfl
theorem filN_end {α:Type} {q:α→Bool} {l:List α}:zKy q l l.length=(l.filter q).length:=by unfold zKy;rw [List.take_length]
end Go.Proofs.YtdigopgncfhiaaaGreatDoor
namespace Go.Proofs.YtdigopgncfhiaaaGreatDoor
open Go.RowKit
open Flow (lackF sumL)
set_option maxRecDepth 20000
theorem zPk (c:Cov) (A:Option Addr) (ca:Nat) (B:Option Addr) (cb:Nat) (C:Option Addr) (cc k:Nat) (hk:k≤c.hours.length) (hcc:c.hours.length≤cc) (w:World) :
  Ret Tryz.prog 33 [zAI c A ca B cb C cc,.int .i64 (k:Int)] w (fun z:Option Addr=>zAI (zBd c k) A ca B cb z cc) (fun _=>[]) (fun z=>∀ W,zAB zp 5 W C c.hours→zAB zp 5 W z (c.hours.take k)):=by
 have e1:zAI c A ca B cb C cc = .agg (zH c A ca B cb C cc).toArray:=rfl
 rw [e1]
 unfold zH
 have hl:(c.hours.take k).length=k:=by rw [List.length_take];omega
 (refine zM (n:=11) Tryz.func33 rfl rfl rfl ?_)
 (repeat' (first|((with_reducible refine zG ?_);first|refine zE rfl rfl rfl rfl rfl ?_|(refine zK rfl rfl rfl rfl rfl ?_;refine ⟨_,rfl,?_⟩)|refine ze rfl rfl rfl rfl rfl ?_|(refine u_slice 0 k rfl rfl rfl rfl rfl rfl rfl (by exact rfl) (by exact rfl) (by omega) (by omega) (fun A' hA1 hA2=>?_))|(refine zf rfl rfl rfl rfl rfl ?_;refine And.intro rfl (And.intro (by first|decide|exact Nat.le_of_ble_eq_true rfl|(simp;omega)) ⟨_,rfl,?_⟩))|(refine zo rfl rfl rfl rfl (fun b=>?_))|(refine zAM rfl rfl rfl rfl rfl rfl (fun b=>?_)))|(with_reducible first|refine zI ?_|refine zB ?_|refine zD ?_|refine zA ?_|refine zb ?_)))
 exact zT (by (exact zO.cons (by exact res1c rfl (by exact rfl)) zO.nil)) A' (fun W hW=>by simpa using hA1 Hour zp c.hours W hW) (by simp only [zAI,zH,zBd,hl];rfl) (fun _ h=>h.sub (by (repeat (first|exact oK1 _|(refine oK2 (by (repeat (first|exact tK1 _ _|apply tK2))) ?_)))))
end Go.Proofs.YtdigopgncfhiaaaGreatDoor
namespace Go.Proofs.YtdigopgncfhiaaaGreatDoor
variable {ro : Option Nat}
open Go.RowKit
set_option maxRecDepth 20000
theorem zId {xss:List (List Int)} {k:Nat}:zm (xss.drop k)=(zm xss).drop k:=by simp [zm,List.map_drop]
theorem zLm {xss:List (List Int)} {k:Nat}:zm (xss.take k)=(zm xss).take k:=by simp [zm,List.map_take]
theorem zOY (c:Cov) (A:Option Addr) (ca:Nat) (B:Option Addr) (cb:Nat) (C:Option Addr) (cc:Nat) (ch:List Int) (D:Option Addr) (cd f:Nat) (w:World) (hc:zAU w c A B C) (hs:Small c) (hD:zAB zHE 1 w D ch) (hf:zJB ch) (hff:f≤1000) :
  Ret Tryz.prog 17 [zAI c A ca B cb C cc,.slice D ch.length cd,.int .i64 (f:Int)] w (fun p:Nat × List Sli=>.slice (some ⟨p.1,0,none⟩) c.hours.length c.hours.length) (fun p=>[.sl zAC 1 (some ⟨p.1,0,none⟩) p.2,.rows p.2]) (fun p=>p.2.map Sli.xs=zZ c ch f):=by
 refine (zHf c A ca B cb C cc ch D cd f w hc hs hD hf hff).conv fun p hp=>⟨(p.1,p.2.map zAN.sli),by simp only;rw [zKA];exact hp,rfl,fun w'=>zGR⟩
theorem zLz {w:World} {A:Option Addr} {pl:List Sli} {xss:List (List Int)} {k c:Nat} (hx:pl.map Sli.xs=xss) (h:zAu w A pl) (h1:k≤pl.length) (h2:pl.length≤c):∃ pl':List Sli,pl'.map Sli.xs=(zm (xss.drop k)).map Sli.xs∧zAu w (Two.zJI A c k 1) pl':=by
 refine ⟨pl.drop k,by rw [zCi,← hx,List.map_drop],⟨?_,fun s hs=>h.rows s (List.mem_of_mem_drop hs)⟩⟩
 have:=Two.zJg (s':=1) (c:=c) h.p h1 h2
 rwa [List.take_length] at this
theorem zRM {w:World} {A:Option Addr} {pl:List Sli} {xss:List (List Int)} {k:Nat} (hx:pl.map Sli.xs=xss) (h:zAu w A pl):∃ pl':List Sli,pl'.map Sli.xs=(zm (xss.take k)).map Sli.xs∧zAu w A pl' :=
 ⟨pl.take k,by rw [zCi,← hx,List.map_take],⟨h.p.take k,fun s hs=>h.rows s (List.mem_of_mem_take hs)⟩⟩
end Go.Proofs.YtdigopgncfhiaaaGreatDoor
namespace Go.Proofs.YtdigopgncfhiaaaGreatDoor.Two
variable {ro : Option Nat}
open Go.RowKit
set_option maxRecDepth 20000
set_option maxHeartbeats 16000000 in
theorem zLW (c:Cov) (A:Option Addr) (ca:Nat) (B:Option Addr) (cb:Nat) (C:Option Addr) (cc:Nat) (ch:List Int) (D:Option Addr) (cd:Nat) (a:Int) (w:World) (hc:zAU w c A B C) (hfit:zE0 c.t) (hcc:c.hours.length≤cc) (hD:zAB zHE 1 w D ch) (hfu:zJB ch) (ha:0≤a∧a≤255) (hG:InC w 0 0 zB7) :
  Gv Tryz.prog 8 [zAI c A ca B cb C cc,.slice D ch.length cd,.int .u8 a] w (.bool true):=by
 have hAl:=fun W (hW:Below w.heap.size w W)=>zCu W (hG.below hW)
 have hR:=fun W (hW:Below w.heap.size w W)=>zCt c A ca B cb C cc W (hc.below hW) hfit
 cases hr:zDK c
 ·rw [hr] at hR
  unfold zAI zH at hR ⊢
  unfold Gv
  (refine zM (n:=220) Tryz.func8 rfl rfl rfl ?_)
  (repeat' (first|((with_reducible refine zG ?_);first|refine zE rfl rfl rfl rfl rfl ?_|refine zC rfl rfl rfl rfl rfl ?_|(refine zK rfl rfl rfl rfl rfl ?_;refine ⟨_,rfl,?_⟩)|refine zS rfl rfl rfl rfl rfl rfl (fun _ _ q=>hAl _ q.below) ?_|refine zS rfl rfl rfl rfl rfl rfl (fun _ _ q=>hR _ q.below) ?_|refine zAh rfl rfl rfl rfl rfl ?_|(refine zAM rfl rfl rfl rfl rfl rfl (fun b=>?_)))|(with_reducible first|refine zI ?_|refine zB ?_|refine zD ?_|refine zA ?_|refine zb ?_|refine zP ?_|refine zd ?_)|((with_reducible refine zJ ?_ ?_);(· exact rfl))|((with_reducible refine zF ?_ ?_);(· exact rfl))))
  all_goals exact zT (by (exact zO.cons (by exact zq.tmp rfl) zO.nil)) () trivial rfl (fun _ _=>Own.nil _ _)
 rw [hr] at hR
 have hs:=zCU hr hfit
 have h0:=(zCV.1 hr).2
 have hf:=zA1 h0
 have h4:=hs.b;have h5:=hs.h;have h6:=hs.t
 have hb:=hc.b;have hh:=hc.h
 have hh1:=hf.hours
 rw [zAA] at hh1
 have hb0:=zFu h0
 have hyo:=zGh (ch:=ch) (f:=0) hf
 have hyl:(zZ c ch 0).length=c.hours.length:=zBQ
 have hyr:∀ r∈zZ c ch 0,r.length≤20:=fun r hr=>Nat.le_trans (zEv r hr) h4
 have hDr:=fun W (hW:Below w.heap.size w W)=>zOY c A ca B cb C cc ch D cd 0 W (hc.below hW) hs (hD.below hW) hfu (by omega)
 have hek:=zC7 h0 hyo
 obtain ⟨k,hk⟩:∃ k:Nat,a % (c.hours.length:Int)=(k:Int):=⟨(a % (c.hours.length:Int)).toNat,by have:=Int.emod_nonneg a (b:=(c.hours.length:Int)) (by omega);omega⟩
 have hkl:k<c.hours.length:=by have:=Int.emod_lt_of_pos a (b:=(c.hours.length:Int)) (by omega);omega
 have hT:=fun W (hW:Below w.heap.size w W)=>zLf c A ca B cb C cc W (hc.below hW) (by omega) (by omega) (by omega)
 have hTk:=fun W (hW:Below w.heap.size w W) P cp hp (i k:Nat) (hi:i<c.beds.length) (hk:k≤c.hours.length)=>by
  have:=zD5 c A ca B cb C cc (zZ c ch 0) P cp W (hc.below hW) hs hp (by omega) hyr (i:Int) (k:Int)
  rw [zFQ hek hi hk] at this
  exact this
 have hTh:=fun W (hW:Below w.heap.size w W) P cp hp=>zIy c A ca B cb C cc (zZ c ch 0) P cp W (hc.below hW) hs hp (by omega) hyr (hG.below hW)
 have hth:zDl c (zm (zZ c ch 0))=zAg c (zm (zZ c ch 0)) zAZ:=by unfold zDl;rw [if_pos hek]
 rw [hek,hth] at hTh
 rw [hyl] at hTk hTh
 unfold vSp at hTk
 unfold zAI zH at hR hDr hT hTk hTh
 unfold Gv zAI zH
 (refine zM (n:=220) Tryz.func8 rfl rfl rfl ?_)
 (repeat' (first|((with_reducible refine zG ?_);first|refine zE rfl rfl rfl rfl rfl ?_|refine zC rfl rfl rfl rfl rfl ?_|(refine zK rfl rfl rfl rfl rfl ?_;refine ⟨_,rfl,?_⟩)|refine ze rfl rfl rfl rfl rfl ?_|refine zS rfl rfl rfl rfl rfl rfl (fun _ _ q=>hAl _ q.below) ?_|refine zS rfl rfl rfl rfl rfl rfl (fun _ _ q=>hR _ q.below) ?_|(refine zAG rfl rfl rfl rfl rfl rfl (fun _ _ q=>hDr _ q.below) ?_;rintro ⟨pg,pl⟩ hpx;dsimp only [List.cons_append,List.nil_append])|refine zAh rfl rfl rfl rfl rfl ?_|refine zr rfl rfl rfl rfl rfl ?_|(refine zAM rfl rfl rfl rfl rfl rfl (fun b=>?_))|refine zIZ rfl rfl rfl rfl rfl (IntWalk.i64_in _ (by omega)) ?_|refine zNh rfl rfl rfl rfl rfl rfl (by omega) (by omega) ?_)|(with_reducible first|refine zI ?_|refine zB ?_|refine zD ?_|refine zA ?_|refine zP ?_)|((with_reducible refine zF ?_ ?_);(· exact rfl))))
 simp only at hpx
 rw [hk]
 have hpl:pl.length=c.hours.length:=by have:=congrArg List.length hpx;rw [List.length_map,hyl] at this;exact this
 have hpp:∀ W,zAu W (some ⟨pg,0,none⟩) pl→∃ pl':List Sli,pl'.map Sli.xs=(zm (zZ c ch 0)).map Sli.xs∧zAu W (some ⟨pg,0,none⟩) pl':=fun W h=>⟨pl,by rw [zCi];exact hpx,h⟩
 obtain ⟨b3,hb3⟩:∃ x,x=b:=⟨_,rfl⟩
 subst hb3
 (repeat' (first|((with_reducible refine zG ?_);first|refine zE rfl rfl rfl rfl rfl ?_|(refine zK rfl rfl rfl rfl rfl ?_;refine ⟨_,rfl,?_⟩)|refine ze rfl rfl rfl rfl rfl ?_|(refine zAG rfl rfl rfl rfl rfl rfl (fun _ _ q=>hT _ q.below) ?_;rintro ⟨⟨A3,m3⟩,⟨A6,m6⟩,A9,m9⟩ -;dsimp only [List.cons_append,List.nil_append])|refine zAe rfl rfl rfl (zHA k c.hours.length rfl rfl rfl rfl rfl rfl (by omega) (by omega)) ?_|refine zr rfl rfl rfl rfl rfl ?_|(refine zf rfl rfl rfl rfl rfl ?_;refine And.intro rfl (And.intro (by first|decide|exact Nat.le_of_ble_eq_true rfl|(simp;omega)) ⟨_,rfl,?_⟩))|(refine zo rfl rfl rfl rfl (fun b=>?_)))|(with_reducible first|refine zI ?_|refine zB ?_|refine zD ?_|refine zA ?_|refine zN ?_)))
 obtain ⟨b10,hb10⟩:∃ x,x=b:=⟨_,rfl⟩
 subst hb10
 obtain ⟨CK,hCK⟩:∃ x,x=zJI C cc k 5:=⟨_,rfl⟩
 have hCKs:∀ W,Below w.heap.size w W→zAB zp 5 W CK (c.hours.drop k):=fun W hW=>by
  have:=zJg (s':=5) (c:=cc) (hc.below hW).h (show k≤c.hours.length by omega) hcc
  rw [List.take_length,← hCK] at this
  exact this
 rw [← hCK]
 refine zER (enc:=zAJ) (xs:=c.beds) (by (repeat (first|exact tK1 _ _|apply tK2))) (by omega) ?_
 rintro gb rfl
 refine u_blk (b:=b10) (cs':=[.slice A3 c.t.length m3,.slice (some ⟨gb,0,none⟩) c.beds.length m6,.slice CK (c.hours.length - k) (cc - k),.int .i64 c.wear.lo,.int .i64 c.wear.hi,.int .i64 c.layer.lo,.int .i64 c.layer.hi,.int .i64 c.rate,.int .i64 c.limit,.int .i64 c.base]) (by (repeat (first|exact tK1 _ _|apply tK2))) rfl ?_
 have hup:=fun i (z:Bed) (hz:c.beds[i]?=some z)=>zJw (f:=zDw c (zm (zZ c ch 0)) k) hz
 have huz:=zIX (f:=zDw c (zm (zZ c ch 0)) k) (l:=c.beds)
 have hug:=fun i (z:Bed) (hz:c.beds[i]?=some z)=>zJx (f:=zDw c (zm (zZ c ch 0)) k) hz
 have hul:=fun i=>zBv (f:=zDw c (zm (zZ c ch 0)) k) (l:=c.beds) (k:=i)
 refine zu (ι:=Nat) [3,7,8,9,10,56] rfl (fun i=>i≤c.beds.length) (fun i=>[(57,.int .i64 (i:Int))]) (fun i=>[.arr zAJ 3 gb (zEH (zDw c (zm (zZ c ch 0)) k) c.beds i),.sl zAt 9 A3 c.t,.sl zAC 1 (some ⟨pg,0,none⟩) pl,.rows pl,.blk b10 [.slice A3 c.t.length m3,.slice (some ⟨gb,0,none⟩) c.beds.length m6,.slice CK (c.hours.length - k) (cc - k),.int .i64 c.wear.lo,.int .i64 c.wear.hi,.int .i64 c.layer.lo,.int .i64 c.layer.hi,.int .i64 c.rate,.int .i64 c.limit,.int .i64 c.base],.blk b3 (zH c A ca B cb C cc)]) (fun i=>c.beds.length - i) 0 (Nat.zero_le _) (by (first|exact lK1|(repeat (first|exact lK1|(refine zL rfl ?_))))) (by rw [huz];(repeat (first|exact oK1 _|(refine oK2 (by (repeat (first|exact tK1 _ _|apply tK2))) ?_)))) ?_
 rintro i hi
 simp only [zAq,zH,List.cons_append,List.nil_append]
 by_cases hil:i<c.beds.length
 ·obtain ⟨z,hz⟩:∃ z,c.beds[i]?=some z:=⟨_,List.getElem?_eq_getElem hil⟩
  have hu1:=hug i z hz
  have hu2:=hup i z hz
  have hu3:=hul i
  have hTki:=fun W hW P cp hp=>hTk W hW P cp hp i k hil (by omega)
  rw [zAW hz] at hTki
  rw [show zDw c (zm (zZ c ch 0)) k i z=⟨thickN c (zm (zZ c ch 0)) z (i:Int) k,z.sun⟩ from rfl] at hu2
  generalize zEH (zDw c (zm (zZ c ch 0)) k) c.beds i=L at *
  generalize thickN c (zm (zZ c ch 0)) z (i:Int) k=tk at *
  have:zAR L i z:=⟨hu1⟩
  obtain ⟨⟨zl,zh⟩,zs⟩:=z
  obtain ⟨tl,th⟩:=tk
  simp only at hTki hu2
  (repeat' (first|((with_reducible refine zG ?_);first|refine zE rfl rfl rfl rfl rfl ?_|refine zC rfl rfl rfl rfl rfl ?_|(refine zK rfl rfl rfl rfl rfl ?_;refine ⟨_,rfl,?_⟩)|refine ze rfl rfl rfl rfl rfl ?_|(refine zQ rfl rfl rfl rfl rfl rfl rfl (fun h=>?_) (fun h=>?_)<;>(dsimp only [cmpP] at h;(try (exfalso;omega))))|refine zS rfl rfl rfl rfl rfl rfl (fun _ _ q=>hTki _ q.below _ _ (hpp _ (zCK q.own (by (repeat (first|exact tK1 _ _|apply tK2))) (by (repeat (first|exact tK1 _ _|apply tK2)))))) ?_|refine zi (I:=i) rfl rfl rfl rfl rfl rfl rfl (by omega) ?_|refine zBw (enc:=zAJ) (k:=3) (i:=i) (j:=0) (z:=⟨⟨zl,zh⟩,zs⟩) ⟨⟨tl,th⟩,zs⟩ rfl rfl rfl rfl rfl rfl rfl rfl (by decide) ?_|refine zg rfl rfl rfl rfl rfl rfl ?_|refine zj rfl rfl rfl rfl rfl rfl (by omega) ?_|(refine zf rfl rfl rfl rfl rfl ?_;refine And.intro rfl (And.intro (by first|decide|exact Nat.le_of_ble_eq_true rfl|(simp;omega)) ⟨_,rfl,?_⟩))|(refine zo rfl rfl rfl rfl (fun b=>?_)))|(with_reducible first|refine zI ?_|refine zB ?_|refine zD ?_|refine zA ?_|refine zP ?_|refine zN ?_|refine zk ?_)|((with_reducible refine zJ ?_ ?_);(· exact rfl))|((with_reducible refine zF ?_ ?_);(· exact rfl))))
  rw [hu2]
  exact zc (ι:=Nat) (i+1) (by omega) (by omega) (by (first|exact lK1|(repeat (first|exact lK1|(refine zL rfl ?_))))) (by (repeat (first|exact oK1 _|(refine oK2 (by (repeat (first|exact tK1 _ _|apply tK2))) ?_))))
 obtain rfl:i=c.beds.length:=by omega
 clear hup huz hug hul
 have ebs:zEH (zDw c (zm (zZ c ch 0)) k) c.beds c.beds.length=(zAs c (zm (zZ c ch 0)) k).beds:=rfl
 have lbs:(zAs c (zm (zZ c ch 0)) k).beds.length=c.beds.length:=zBv
 have lhs:(zAs c (zm (zZ c ch 0)) k).hours.length=c.hours.length - k:=by simp [zAs]
 have dhs:(zAs c (zm (zZ c ch 0)) k).hours=c.hours.drop k:=rfl
 have dt:(zAs c (zm (zZ c ch 0)) k).t=c.t:=rfl
 have dw:(zAs c (zm (zZ c ch 0)) k).wear=c.wear:=rfl
 have dl:(zAs c (zm (zZ c ch 0)) k).layer=c.layer:=rfl
 have dr:(zAs c (zm (zZ c ch 0)) k).rate=c.rate:=rfl
 have dm:(zAs c (zm (zZ c ch 0)) k).limit=c.limit:=rfl
 have db:(zAs c (zm (zZ c ch 0)) k).base=c.base:=rfl
 rw [ebs]
 have hds:=zOU (c:=c) (pl:=zm (zZ c ch 0)) (k:=k) hs
 have hRd:=fun W hC=>zCt (zAs c (zm (zZ c ch 0)) k) A3 m3 (some ⟨gb,0,none⟩) m6 CK (cc - k) W hC (by rw [dt];exact hfit)
 simp only [zAI,zH,lbs,lhs,dt,dw,dl,dr,dm,db] at hRd
 cases hr2:zDK (zAs c (zm (zZ c ch 0)) k)
 ·rw [hr2] at hRd
  (repeat' (first|((with_reducible refine zG ?_);first|refine zE rfl rfl rfl rfl rfl ?_|refine zC rfl rfl rfl rfl rfl ?_|(refine zK rfl rfl rfl rfl rfl ?_;refine ⟨_,rfl,?_⟩)|(refine zQ rfl rfl rfl rfl rfl rfl rfl (fun h=>?_) (fun h=>?_)<;>(dsimp only [cmpP] at h;(try (exfalso;omega))))|refine zS rfl rfl rfl rfl rfl rfl (fun _ _ q=>hRd _ ⟨(zAL q.own (Below.refl _ _)),zEK (q.own.here (.arr zAJ 3 gb (zAs c (zm (zZ c ch 0)) k).beds) (Take.mem (by (repeat (first|exact tK1 _ _|apply tK2))))),hCKs _ q.below⟩) ?_|refine zAh rfl rfl rfl rfl rfl ?_)|(with_reducible first|refine zI ?_|refine zB ?_|refine zD ?_|refine zA ?_|refine zb ?_|refine zd ?_|refine zn ?_|refine zR ?_|refine zY ?_)|((with_reducible refine zJ ?_ ?_);(· exact rfl))|((with_reducible refine zF ?_ ?_);(· exact rfl))))
  exact zT (by (exact zO.cons (by exact zq.tmp rfl) zO.nil)) () trivial rfl (fun _ _=>Own.nil _ _)
 rw [hr2] at hRd
 have hd0:=(zCV.1 hr2).2
 have hek2:=zC7 hd0 (zPi (pl:=zm (zZ c ch 0)) (k:=k) (by omega) hyo)
 rw [← zId] at hek2
 have hTd:=fun W P cp hC hp (i y:Nat) (hi:i<c.beds.length) (hy:k≤y) (hy2:y≤c.hours.length)=>by
  have:=zD5 (zAs c (zm (zZ c ch 0)) k) A3 m3 (some ⟨gb,0,none⟩) m6 CK (cc - k) ((zZ c ch 0).drop k) P cp W hC hds hp (by rw [List.length_drop];omega) (fun r hr=>hyr r (List.mem_of_mem_drop hr)) (i:Int) ((y - k:Nat):Int)
  rw [zFQ hek2 (by rw [lbs];exact hi) (by rw [lhs];omega),zME hi,zId,zGa,show k+(y - k)=y by omega,show ((y - k:Nat):Int)=(y:Int) - (k:Int) by omega] at this
  exact this
 have hTe:=fun W P cp hC hp (hG2:InC W 0 0 zB7)=>zIy (zAs c (zm (zZ c ch 0)) k) A3 m3 (some ⟨gb,0,none⟩) m6 CK (cc - k) ((zZ c ch 0).drop k) P cp W hC hds hp (by rw [List.length_drop];omega) (fun r hr=>hyr r (List.mem_of_mem_drop hr)) hG2
 have hth2:zDl (zAs c (zm (zZ c ch 0)) k) (zm ((zZ c ch 0).drop k))=zAg (zAs c (zm (zZ c ch 0)) k) ((zm (zZ c ch 0)).drop k) zAZ:=by unfold zDl;rw [if_pos hek2,zId]
 rw [hek2,hth2] at hTe
 have hll:=zPj (c:=c) (pl:=zm (zZ c ch 0)) (k:=k) (en:=zAZ) (by omega)
 simp only [zAI,zH,vSp,lbs,lhs,dt,dw,dl,dr,dm,db,List.length_drop,hyl] at hTd hTe
 (repeat' (first|((with_reducible refine zG ?_);first|refine zE rfl rfl rfl rfl rfl ?_|(refine zK rfl rfl rfl rfl rfl ?_;refine ⟨_,rfl,?_⟩)|refine ze rfl rfl rfl rfl rfl ?_|(refine zQ rfl rfl rfl rfl rfl rfl rfl (fun h=>?_) (fun h=>?_)<;>(dsimp only [cmpP] at h;(try (exfalso;omega))))|refine zS rfl rfl rfl rfl rfl rfl (fun _ _ q=>hRd _ ⟨(zAL q.own (Below.refl _ _)),zEK (q.own.here (.arr zAJ 3 gb (zAs c (zm (zZ c ch 0)) k).beds) (Take.mem (by (repeat (first|exact tK1 _ _|apply tK2))))),hCKs _ q.below⟩) ?_|refine zAh rfl rfl rfl rfl rfl ?_|refine zr rfl rfl rfl rfl rfl ?_)|(with_reducible first|refine zI ?_|refine zB ?_|refine zD ?_|refine zA ?_|refine zP ?_|refine zN ?_|refine zn ?_|refine zR ?_|refine zY ?_)|((with_reducible refine zF ?_ ?_);(· exact rfl))))
 have hTu:k≠0→∀ (W:World) (Z:Option Addr) P cp,zAU W (zBd c k) A B Z→(∃ pl':List Sli,pl'.map Sli.xs=(zm ((zZ c ch 0).take k)).map Sli.xs∧zAu W P pl')→∀ i:Nat,i<c.beds.length→Gv Tryz.prog 23 [zAI (zBd c k) A ca B cb Z cc,.slice P k cp,.int .i64 (i:Int),.int .i64 (k:Int)] W (.tuple #[vSp (thickN c (zm (zZ c ch 0)) (c.beds.getD i default) i k),.int .i64 0]):=fun hk0 W Z P cp hC hp i hi=>by
  have hu0:=zC7 (zPC h0 (show 1≤k by omega) (show k≤c.hours.length by omega)) (zPB (pl:=zm (zZ c ch 0)) (k:=k) (by omega) hyo)
  rw [← zLm] at hu0
  have:=zD5 (zBd c k) A ca B cb Z cc ((zZ c ch 0).take k) P cp W hC (zMo hs) hp (by rw [List.length_take];omega) (fun r hr=>hyr r (List.mem_of_mem_take hr)) (i:Int) (k:Int)
  rw [zFQ hu0 (show i<(zBd c k).beds.length from hi) (by rw [zHU (by omega)];exact Nat.le_refl _),zLm,zJC k (Nat.le_refl _),List.length_take,hyl,Nat.min_eq_left (by omega)] at this
  exact this
 have hZ:∀ (Z:Option Addr) W,Below w.heap.size w W→(∀ W,zAB zp 5 W C c.hours→zAB zp 5 W Z (c.hours.take k))→zAU W (zBd c k) A B Z:=fun Z W hW h=>⟨(hc.below hW).t,(hc.below hW).b,h W (hc.below hW).h⟩
 have hU:=fun W=>zPk c A ca B cb C cc k (by omega) hcc W
 have ulen:=zHU (c:=c) (k:=k) (by omega)
 have ut:(zBd c k).t=c.t:=rfl
 have ub:(zBd c k).beds=c.beds:=rfl
 have uw:(zBd c k).wear=c.wear:=rfl
 have ul:(zBd c k).layer=c.layer:=rfl
 have ur:(zBd c k).rate=c.rate:=rfl
 have um:(zBd c k).limit=c.limit:=rfl
 have ubs:(zBd c k).base=c.base:=rfl
 simp only [zAI,zH,vSp,ulen,ut,ub,uw,ul,ur,um,ubs] at hTu hU
 have hpb0:∀ p∈zAg c (zm (zZ c ch 0)) zAZ,0≤p.1∧p.1≤12:=fun p hp=>by
  obtain ⟨i,h,_,hh,_,rfl⟩:=zEU.1 hp
  simp only;omega
 have htl:=zGt (c:=c) (pl:=zm (zZ c ch 0)) (en:=zAZ) (by exact h4) (by exact h5)
 clear hRd hDr hT hAl hR
 generalize zAg (zAs c (zm (zZ c ch 0)) k) ((zm (zZ c ch 0)).drop k) zAZ=mS at *
 generalize zAg c (zm (zZ c ch 0)) zAZ=tS at *
 refine zu (ι:=Nat) [3,7,8,9,10,83] rfl (fun i=>i≤c.beds.length) (fun i=>[(84,.int .i64 (i:Int))]) (fun _=>[.arr zAJ 3 gb (zAs c (zm (zZ c ch 0)) k).beds,.sl zAt 9 A3 c.t,.sl zAC 1 (some ⟨pg,0,none⟩) pl,.rows pl,.blk b10 [.slice A3 c.t.length m3,.slice (some ⟨gb,0,none⟩) c.beds.length m6,.slice CK (c.hours.length - k) (cc - k),.int .i64 c.wear.lo,.int .i64 c.wear.hi,.int .i64 c.layer.lo,.int .i64 c.layer.hi,.int .i64 c.rate,.int .i64 c.limit,.int .i64 c.base],.blk b3 [.slice A c.t.length ca,.slice B c.beds.length cb,.slice C c.hours.length cc,.int .i64 c.wear.lo,.int .i64 c.wear.hi,.int .i64 c.layer.lo,.int .i64 c.layer.hi,.int .i64 c.rate,.int .i64 c.limit,.int .i64 c.base]]) (fun i=>c.beds.length - i) 0 (Nat.zero_le _) (by (first|exact lK1|(repeat (first|exact lK1|(refine zL rfl ?_))))) (by (repeat (first|exact oK1 _|(refine oK2 (by (repeat (first|exact tK1 _ _|apply tK2))) ?_)))) ?_
 rintro i hi
 simp only [zAq,List.cons_append,List.nil_append]
 by_cases hil:i<c.beds.length
 ·(repeat' (first|((with_reducible refine zG ?_);first|refine zE rfl rfl rfl rfl rfl ?_|refine zC rfl rfl rfl rfl rfl ?_|(refine zQ rfl rfl rfl rfl rfl rfl rfl (fun h=>?_) (fun h=>?_)<;>(dsimp only [cmpP] at h;(try (exfalso;omega)))))|(with_reducible first|refine zI ?_|refine zB ?_|refine zD ?_|refine zA ?_|refine zP ?_|refine zN ?_)|((with_reducible refine zJ ?_ ?_);(· exact rfl))))
  refine zu (ι:=Nat) [3,7,8,9,10,83,84,14] rfl (fun y=>k≤y∧y≤c.hours.length+1) (fun y=>[(15,.int .i64 (y:Int))]) (fun _=>[.arr zAJ 3 gb (zAs c (zm (zZ c ch 0)) k).beds,.sl zAt 9 A3 c.t,.sl zAC 1 (some ⟨pg,0,none⟩) pl,.rows pl,.blk b10 [.slice A3 c.t.length m3,.slice (some ⟨gb,0,none⟩) c.beds.length m6,.slice CK (c.hours.length - k) (cc - k),.int .i64 c.wear.lo,.int .i64 c.wear.hi,.int .i64 c.layer.lo,.int .i64 c.layer.hi,.int .i64 c.rate,.int .i64 c.limit,.int .i64 c.base],.blk b3 [.slice A c.t.length ca,.slice B c.beds.length cb,.slice C c.hours.length cc,.int .i64 c.wear.lo,.int .i64 c.wear.hi,.int .i64 c.layer.lo,.int .i64 c.layer.hi,.int .i64 c.rate,.int .i64 c.limit,.int .i64 c.base]]) (fun y=>c.hours.length+1 - y) k (by exact ⟨Nat.le_refl _,by omega⟩) (by (first|exact lK1|(repeat (first|exact lK1|(refine zL rfl ?_))))) (by (repeat (first|exact oK1 _|(refine oK2 (by (repeat (first|exact tK1 _ _|apply tK2))) ?_)))) ?_
  rintro y ⟨hy1,hy2⟩
  simp only [zAq,List.cons_append,List.nil_append]
  by_cases hyl2:y≤c.hours.length
  ·have q1:=fun W hW P cp hp=>hTk W hW P cp hp i y hil hyl2
   have q2:=fun W P cp hC hp=>hTd W P cp hC hp i y hil hy1 hyl2
   generalize thickN c (zm (zZ c ch 0)) (c.beds.getD i default) (i:Int) y=tk at *
   obtain ⟨tl,th⟩:=tk
   simp only at q1 q2
   (repeat' (first|((with_reducible refine zG ?_);first|refine zE rfl rfl rfl rfl rfl ?_|refine zC rfl rfl rfl rfl rfl ?_|(refine zK rfl rfl rfl rfl rfl ?_;refine ⟨_,rfl,?_⟩)|refine ze rfl rfl rfl rfl rfl ?_|(refine zQ rfl rfl rfl rfl rfl rfl rfl (fun h=>?_) (fun h=>?_)<;>(dsimp only [cmpP] at h;(try (exfalso;omega))))|refine zS rfl rfl rfl rfl rfl rfl (fun _ _ q=>q1 _ q.below _ _ (hpp _ (zCK q.own (by (repeat (first|exact tK1 _ _|apply tK2))) (by (repeat (first|exact tK1 _ _|apply tK2)))))) ?_|refine zg rfl rfl rfl rfl rfl rfl ?_|refine zr rfl rfl rfl rfl rfl ?_|(refine zf rfl rfl rfl rfl rfl ?_;refine And.intro rfl (And.intro (by first|decide|exact Nat.le_of_ble_eq_true rfl|(simp;omega)) ⟨_,rfl,?_⟩))|(refine zo rfl rfl rfl rfl (fun b=>?_)))|(with_reducible first|refine zI ?_|refine zB ?_|refine zD ?_|refine zA ?_|refine zP ?_|refine zN ?_)|((with_reducible refine zJ ?_ ?_);(· exact rfl))))
   (refine zAd [(12,13)] [] [] rfl (by decide) (fun _ h=>h) (by kernel_rfl) [[],[Y],[Y,Y],[Z,Z,Y],[Y,Y,Y,Y],[Y,Y,Y,Y,Y],[Y,Y,Y,Y,Y,Y],[Z,Z,Y,Y,Y,Y,Y],[Z,Z,Z,Z,Z,Z,Z,Z],[Z,Z,Z,Z,Z,Z,Z,Z,Z],[Z,Z,Z,Z,Z,Z,Z,Z,Z,Z],[Y,Z,Z,Z,Z,Z,Z,Z,Z,Z,Z],[Y,Y,Y,Y,Y,Y,Y,Y,Y,Y,Y,Y],[Z,Y,Z,Z,Z,Z,Z,Z,Z,Z,Z,Z,Z],[Z,Z,Z,Z,Z,Z,Z,Z,Z,Z,Z,Z,Z,Z]] (by kernel_rfl) (by kernel_rfl) (by kernel_rfl) (by kernel_rfl) (by kernel_rfl) ?_)
   (repeat' (first|(((with_reducible refine zCJ ?_ ?_);(· exact rfl);refine ⟨_,fun G=>(by (try simp (decide:=true) only [vis,see,fltT,zAD,Nat.reduceAdd,Nat.reduceSub,if_true,if_false,List.set_cons_zero,List.set_cons_succ,List.set_nil,List.nil_append,List.cons_append]);rfl),?_⟩);first|refine zX _ (fun _=>zAK rfl rfl) (fun _=>rfl) rfl (by first|exact fun _ _ _=>rfl|(intro G G' h;simp (decide:=true) only [h])) ?_|refine zX _ (fun _=>zy rfl rfl (by exact rfl)) (fun _=>rfl) rfl (by first|exact fun _ _ _=>rfl|(intro G G' h;simp (decide:=true) only [h])) ?_|refine zX _ (fun _=>zBK rfl rfl) (fun _=>rfl) rfl (by first|exact fun _ _ _=>rfl|(intro G G' h;simp (decide:=true) only [h])) ?_|refine zX _ (fun _=>zHA k c.hours.length rfl rfl rfl rfl rfl rfl (by omega) (by omega)) (fun _=>rfl) rfl (by exact fun _ _ _=>rfl) ?_|refine zBI _ rfl (fun _=>rfl) rfl (fun _=>rfl) (fun _=>rfl) (fun _ _ _ q=>q2 _ _ _ ⟨(zAL q.own (Below.refl _ _)),zEK (q.own.here (.arr zAJ 3 gb (zAs c (zm (zZ c ch 0)) k).beds) (Take.mem (by (repeat (first|exact tK1 _ _|apply tK2))))),hCKs _ q.below⟩ (zLz hpx (zCK q.own (by (repeat (first|exact tK1 _ _|apply tK2))) (by (repeat (first|exact tK1 _ _|apply tK2)))) (by omega) (by omega))) (by first|exact fun _ _ _=>rfl|(intro G G' h;simp (decide:=true) only [h])) ?_|refine zX _ (fun _=>zCR rfl rfl rfl) (fun _=>rfl) rfl (by first|exact fun _ _ _=>rfl|(intro G G' h;simp (decide:=true) only [h])) ?_|refine zX _ (fun _=>zEt rfl rfl rfl (IntWalk.i64_in _ (by omega))) (fun _=>rfl) rfl (by first|exact fun _ _ _=>rfl|(intro G G' h;simp (decide:=true) only [h])) ?_|refine zGC rfl (fun _=>rfl) rfl ?_)|(refine zO2 (gx:=fun G=>(G 12).g) (cs:=fun _=>[.int .i64 0,.int .i64 0]) (cs':=fun _=>[.int .i64 tl,.int .i64 th]) 12 (by decide) rfl rfl (fun _=>rfl) rfl (fun _=>rfl) (fun _=>rfl) (fun _=>rfl) (fun _=>rfl) (fun _=>rfl) (fun _=>rfl) (fun _=>rfl) (by intro G G' h;simp (decide:=true) only [h]) (by exact fun _ _ _=>rfl) ?_)|(with_reducible refine zFr ?_)))
   intro G
   simp only [regsT,ini,List.nil_append,List.cons_append]
   refine zB5 (H':=[.blk (G 12).g [.int .i64 tl,.int .i64 th],.blk b [.int .i64 tl,.int .i64 th],.arr zAJ 3 gb (zAs c (zm (zZ c ch 0)) k).beds,.sl zAt 9 A3 c.t,.sl zAC 1 (some ⟨pg,0,none⟩) pl,.rows pl,.blk b10 [.slice A3 c.t.length m3,.slice (some ⟨gb,0,none⟩) c.beds.length m6,.slice CK (c.hours.length - k) (cc - k),.int .i64 c.wear.lo,.int .i64 c.wear.hi,.int .i64 c.layer.lo,.int .i64 c.layer.hi,.int .i64 c.rate,.int .i64 c.limit,.int .i64 c.base],.blk b3 [.slice A c.t.length ca,.slice B c.beds.length cb,.slice C c.hours.length cc,.int .i64 c.wear.lo,.int .i64 c.wear.hi,.int .i64 c.layer.lo,.int .i64 c.layer.hi,.int .i64 c.rate,.int .i64 c.limit,.int .i64 c.base]]) (fun _ h=>h) ?_
   (repeat' (first|((with_reducible refine zG ?_);first|refine zE rfl rfl rfl rfl rfl ?_|refine zC rfl rfl rfl rfl rfl ?_|(refine zK rfl rfl rfl rfl rfl ?_;refine ⟨_,rfl,?_⟩)|refine zAf rfl rfl rfl rfl rfl rfl ?_|(refine zQ rfl rfl rfl rfl rfl rfl rfl (fun h=>?_) (fun h=>?_)<;>(dsimp only [cmpP] at h;(try (exfalso;omega))))|refine zAe rfl rfl rfl (zK4 rfl rfl rfl) ?_|refine zj rfl rfl rfl rfl rfl rfl (by omega) ?_)|(with_reducible first|refine zI ?_|refine zB ?_|refine zD ?_|refine zA ?_|refine zP ?_|refine zk ?_)|((with_reducible refine zF ?_ ?_);(· exact rfl))))
   exact zc (ι:=Nat) (y+1) (by exact ⟨by omega,by omega⟩) (by omega) (by (first|exact lK1|(repeat (first|exact lK1|(refine zL rfl ?_))))) (by (repeat (first|exact oK1 _|(refine oK2 (by (repeat (first|exact tK1 _ _|apply tK2))) ?_))))
  ·obtain rfl:y=c.hours.length+1:=by omega
   have q1:=fun W hW P cp hp=>hTk W hW P cp hp i k hil (by omega)
   have q2:=fun hk0 W Z P cp hC hp=>hTu hk0 W Z P cp hC hp i hil
   generalize thickN c (zm (zZ c ch 0)) (c.beds.getD i default) (i:Int) k=tk at *
   obtain ⟨tl,th⟩:=tk
   simp only at q1 q2
   by_cases hk0:k=0
   ·subst hk0
    (repeat' (first|((with_reducible refine zG ?_);first|refine zE rfl rfl rfl rfl rfl ?_|(refine zK rfl rfl rfl rfl rfl ?_;refine ⟨_,rfl,?_⟩)|refine ze rfl rfl rfl rfl rfl ?_|(refine zQ rfl rfl rfl rfl rfl rfl rfl (fun h=>?_) (fun h=>?_)<;>(dsimp only [cmpP] at h;(try (exfalso;omega))))|refine zj rfl rfl rfl rfl rfl rfl (by omega) ?_|refine zr rfl rfl rfl rfl rfl ?_)|(with_reducible first|refine zI ?_|refine zB ?_|refine zD ?_|refine zA ?_|refine zn ?_|refine zR ?_|refine zY ?_)|((with_reducible refine zJ ?_ ?_);(· exact rfl))|((with_reducible refine zF ?_ ?_);(· exact rfl))))
    exact zc (ι:=Nat) (i+1) (by omega) (by omega) (by (first|exact lK1|(repeat (first|exact lK1|(refine zL rfl ?_))))) (by (repeat (first|exact oK1 _|(refine oK2 (by (repeat (first|exact tK1 _ _|apply tK2))) ?_))))
   ·have q3:=q2 hk0
    (repeat' (first|((with_reducible refine zG ?_);first|refine zE rfl rfl rfl rfl rfl ?_|refine zC rfl rfl rfl rfl rfl ?_|(refine zK rfl rfl rfl rfl rfl ?_;refine ⟨_,rfl,?_⟩)|refine ze rfl rfl rfl rfl rfl ?_|(refine zQ rfl rfl rfl rfl rfl rfl rfl (fun h=>?_) (fun h=>?_)<;>(dsimp only [cmpP] at h;(try (exfalso;omega))))|refine zS rfl rfl rfl rfl rfl rfl (fun _ _ q=>q1 _ q.below _ _ (hpp _ (zCK q.own (by (repeat (first|exact tK1 _ _|apply tK2))) (by (repeat (first|exact tK1 _ _|apply tK2)))))) ?_|refine zg rfl rfl rfl rfl rfl rfl ?_|refine zr rfl rfl rfl rfl rfl ?_|(refine zf rfl rfl rfl rfl rfl ?_;refine And.intro rfl (And.intro (by first|decide|exact Nat.le_of_ble_eq_true rfl|(simp;omega)) ⟨_,rfl,?_⟩))|(refine zo rfl rfl rfl rfl (fun b=>?_)))|(with_reducible first|refine zI ?_|refine zB ?_|refine zD ?_|refine zA ?_|refine zP ?_|refine zn ?_|refine zR ?_|refine zY ?_)|((with_reducible refine zF ?_ ?_);(· exact rfl))))
    (refine zAd [(12,13)] [] [] rfl (by decide) (fun _ h=>h) (by kernel_rfl) [[],[Y],[Z,Z],[Y,Y,Y],[Y,Y,Y,Y],[Z,Z,Y,Y,Y],[Y,Y,Y,Y,Y,Y],[Y,Y,Y,Y,Y,Y,Y],[Z,Z,Z,Z,Z,Z,Z,Z],[Z,Z,Z,Z,Z,Z,Z,Z,Z],[Z,Z,Z,Z,Z,Z,Z,Z,Z,Z],[Y,Z,Z,Z,Z,Z,Z,Z,Z,Z,Z],[Y,Y,Y,Y,Y,Y,Y,Y,Y,Y,Y,Y],[Z,Y,Z,Z,Z,Z,Z,Z,Z,Z,Z,Z,Z],[Z,Z,Z,Z,Z,Z,Z,Z,Z,Z,Z,Z,Z,Z]] (by kernel_rfl) (by kernel_rfl) (by kernel_rfl) (by kernel_rfl) (by kernel_rfl) ?_)
    (repeat' (first|(((with_reducible refine zCJ ?_ ?_);(· exact rfl);refine ⟨_,fun G=>(by (try simp (decide:=true) only [vis,see,fltT,zAD,Nat.reduceAdd,Nat.reduceSub,if_true,if_false,List.set_cons_zero,List.set_cons_succ,List.set_nil,List.nil_append,List.cons_append]);rfl),?_⟩);first|refine zX _ (fun _=>zAK rfl rfl) (fun _=>rfl) rfl (by first|exact fun _ _ _=>rfl|(intro G G' h;simp (decide:=true) only [h])) ?_|refine zX _ (fun _=>zy rfl rfl (by exact rfl)) (fun _=>rfl) rfl (by first|exact fun _ _ _=>rfl|(intro G G' h;simp (decide:=true) only [h])) ?_|refine zX _ (fun _=>zBK rfl rfl) (fun _=>rfl) rfl (by first|exact fun _ _ _=>rfl|(intro G G' h;simp (decide:=true) only [h])) ?_|refine zX _ (fun _=>zOu k rfl rfl rfl rfl (by omega)) (fun _=>rfl) rfl (by exact fun _ _ _=>rfl) ?_|(refine zGk (α:=Option Addr) rfl (fun _=>rfl) rfl (fun _=>rfl) (fun _=>rfl) (fun _ _ _ q=>hU _) ?_)|refine zBI _ rfl (fun _=>rfl) rfl (fun _=>rfl) (fun _=>rfl) (fun _ _ _ q=>q3 _ _ _ _ (hZ _ _ q.below (fact_use q.own (by (repeat (first|exact tK1 _ _|apply tK2))))) (zRM hpx (zCK q.own (by (repeat (first|exact tK1 _ _|apply tK2))) (by (repeat (first|exact tK1 _ _|apply tK2)))))) (by first|exact fun _ _ _=>rfl|(intro G G' h;simp (decide:=true) only [h])) ?_|refine zX _ (fun _=>zCR rfl rfl rfl) (fun _=>rfl) rfl (by first|exact fun _ _ _=>rfl|(intro G G' h;simp (decide:=true) only [h])) ?_|refine zGC rfl (fun _=>rfl) rfl ?_)|(refine zO2 (gx:=fun G=>(G 12).g) (cs:=fun _=>[.int .i64 0,.int .i64 0]) (cs':=fun _=>[.int .i64 tl,.int .i64 th]) 12 (by decide) rfl rfl (fun _=>rfl) rfl (fun _=>rfl) (fun _=>rfl) (fun _=>rfl) (fun _=>rfl) (fun _=>rfl) (fun _=>rfl) (fun _=>rfl) (by intro G G' h;simp (decide:=true) only [h]) (by exact fun _ _ _=>rfl) ?_)|(with_reducible refine zFr ?_)))
    intro G
    simp only [regsT,ini,List.nil_append,List.cons_append]
    refine zB5 (H':=[.blk (G 12).g [.int .i64 tl,.int .i64 th],.fact (∀ W,zAB zp 5 W C c.hours→zAB zp 5 W (deC (Option Addr) (G 2).g) (c.hours.take k)),.blk b [.int .i64 tl,.int .i64 th],.arr zAJ 3 gb (zAs c (zm (zZ c ch 0)) k).beds,.sl zAt 9 A3 c.t,.sl zAC 1 (some ⟨pg,0,none⟩) pl,.rows pl,.blk b10 [.slice A3 c.t.length m3,.slice (some ⟨gb,0,none⟩) c.beds.length m6,.slice CK (c.hours.length - k) (cc - k),.int .i64 c.wear.lo,.int .i64 c.wear.hi,.int .i64 c.layer.lo,.int .i64 c.layer.hi,.int .i64 c.rate,.int .i64 c.limit,.int .i64 c.base],.blk b3 [.slice A c.t.length ca,.slice B c.beds.length cb,.slice C c.hours.length cc,.int .i64 c.wear.lo,.int .i64 c.wear.hi,.int .i64 c.layer.lo,.int .i64 c.layer.hi,.int .i64 c.rate,.int .i64 c.limit,.int .i64 c.base]]) (fun _ h=>h) ?_
    (repeat' (first|((with_reducible refine zG ?_);first|refine zE rfl rfl rfl rfl rfl ?_|(refine zK rfl rfl rfl rfl rfl ?_;refine ⟨_,rfl,?_⟩)|refine zAf rfl rfl rfl rfl rfl rfl ?_|(refine zQ rfl rfl rfl rfl rfl rfl rfl (fun h=>?_) (fun h=>?_)<;>(dsimp only [cmpP] at h;(try (exfalso;omega))))|refine zAe rfl rfl rfl (zK4 rfl rfl rfl) ?_|refine zj rfl rfl rfl rfl rfl rfl (by omega) ?_)|(with_reducible first|refine zI ?_|refine zB ?_|refine zD ?_|refine zA ?_|refine zP ?_|refine zk ?_)|((with_reducible refine zF ?_ ?_);(· exact rfl))))
    exact zc (ι:=Nat) (i+1) (by omega) (by omega) (by (first|exact lK1|(repeat (first|exact lK1|(refine zL rfl ?_))))) (by (repeat (first|exact oK1 _|(refine oK2 (by (repeat (first|exact tK1 _ _|apply tK2))) ?_))))
 obtain rfl:i=c.beds.length:=by omega
 (repeat' (first|((with_reducible refine zG ?_);first|refine zE rfl rfl rfl rfl rfl ?_|refine zC rfl rfl rfl rfl rfl ?_|(refine zK rfl rfl rfl rfl rfl ?_;refine ⟨_,rfl,?_⟩)|(refine zQ rfl rfl rfl rfl rfl rfl rfl (fun h=>?_) (fun h=>?_)<;>(dsimp only [cmpP] at h;(try (exfalso;omega))))|(refine zAG rfl rfl rfl rfl rfl rfl (fun _ _ q=>hTh _ q.below _ _ (hpp _ (zCK q.own (by (repeat (first|exact tK1 _ _|apply tK2))) (by (repeat (first|exact tK1 _ _|apply tK2)))))) ?_;rintro ⟨S1,sc1⟩ -;dsimp only [List.cons_append,List.nil_append])|refine zg rfl rfl rfl rfl rfl rfl ?_)|(with_reducible first|refine zI ?_|refine zB ?_|refine zD ?_|refine zA ?_|refine zn ?_|refine zR ?_|refine zY ?_)|((with_reducible refine zF ?_ ?_);(· exact rfl))))
 (refine zAd [] [] [] rfl (show ([]:List Nat).Nodup by decide) (fun _ h=>h) (by kernel_rfl) [[],[Y],[Y,Y],[Z,Z,Y],[Z,Z,Z,Z],[Z,Z,Z,Z,Z],[Z,Z,Z,Z,Z,Z],[Y,Z,Z,Z,Z,Z,Z],[Y,Z,Z,Z,Z,Z,Z,Z],[Z,Z,Z,Z,Z,Z,Z,Z,Z]] (by kernel_rfl) (by kernel_rfl) (by kernel_rfl) (by kernel_rfl) (by kernel_rfl) ?_)
 (repeat' (first|(((with_reducible refine zCJ ?_ ?_);(· exact rfl);refine ⟨_,fun G=>(by (try simp (decide:=true) only [vis,see,fltT,zAD,Nat.reduceAdd,Nat.reduceSub,if_true,if_false,List.set_cons_zero,List.set_cons_succ,List.set_nil,List.nil_append,List.cons_append]);rfl),?_⟩);first|refine zX _ (fun _=>zAK rfl rfl) (fun _=>rfl) rfl (by first|exact fun _ _ _=>rfl|(intro G G' h;simp (decide:=true) only [h])) ?_|refine zX _ (fun _=>zy rfl rfl (by exact rfl)) (fun _=>rfl) rfl (by first|exact fun _ _ _=>rfl|(intro G G' h;simp (decide:=true) only [h])) ?_|refine zX _ (fun _=>zBK rfl rfl) (fun _=>rfl) rfl (by first|exact fun _ _ _=>rfl|(intro G G' h;simp (decide:=true) only [h])) ?_|refine zX _ (fun _=>zHA k c.hours.length rfl rfl rfl rfl rfl rfl (by omega) (by omega)) (fun _=>rfl) rfl (by exact fun _ _ _=>rfl) ?_|(refine zGk (α:=Option Addr × Nat) rfl (fun _=>rfl) rfl (fun _=>rfl) (fun _=>rfl) (fun _ _ _ q=>hTe _ _ _ ⟨(zAL q.own (Below.refl _ _)),zEK (q.own.here (.arr zAJ 3 gb (zAs c (zm (zZ c ch 0)) k).beds) (Take.mem (by (repeat (first|exact tK1 _ _|apply tK2))))),hCKs _ q.below⟩ (zLz hpx (zCK q.own (by (repeat (first|exact tK1 _ _|apply tK2))) (by (repeat (first|exact tK1 _ _|apply tK2)))) (by omega) (by omega)) (hG.below q.below)) ?_)|refine zX _ (fun _=>zCR rfl rfl rfl) (fun _=>rfl) rfl (by first|exact fun _ _ _=>rfl|(intro G G' h;simp (decide:=true) only [h])) ?_)|(with_reducible refine zFr ?_)))
 (intro G;simp only [regsT,zAD,zBU,ini,List.nil_append,List.cons_append])
 generalize deC (Option Addr × Nat) _=z2
 obtain ⟨S2,sc2⟩:=z2
 (repeat' (first|((with_reducible refine zG ?_);first|refine zE rfl rfl rfl rfl rfl ?_|refine zC rfl rfl rfl rfl rfl ?_|refine zr rfl rfl rfl rfl rfl ?_)|(with_reducible first|refine zI ?_|refine zB ?_|refine zD ?_|refine zA ?_|refine zN ?_)))
 have hql:∀ j,j≤tS.length→zKy (fun p:Int × Int=>decide ((k:Int)≤p.1)) tS j≤240:=fun j hj=>by
  unfold zKy
  have h1:=List.length_filter_le (fun p:Int × Int=>decide ((k:Int)≤p.1)) (tS.take j)
  rw [List.length_take] at h1
  omega
 have hqs:=fun j (p:Int × Int) (hp:tS[j]?=some p)=>zRy (q:=fun p:Int × Int=>decide ((k:Int)≤p.1)) hp
 have hqa:=fun j (p:Int × Int) (hp:tS[j]?=some p) (hq:decide ((k:Int)≤p.1)=true)=>filN_at (q:=fun p:Int × Int=>decide ((k:Int)≤p.1)) hp hq
 have hqe:=filN_end (q:=fun p:Int × Int=>decide ((k:Int)≤p.1)) (l:=tS)
 have hql2:=hql tS.length (Nat.le_refl _)
 rw [hll] at hqa hqe
 rw [List.length_map] at hqe
 have hz0:zKy (fun p:Int × Int=>decide ((k:Int)≤p.1)) tS 0=0:=rfl
 generalize zKy (fun p:Int × Int=>decide ((k:Int)≤p.1)) tS=N at *
 have hpb:∀ p∈tS,0≤p.1∧p.1≤12:=hpb0
 refine zu (ι:=Nat) [7,9,25,26,27,174,175] rfl (fun j=>j≤tS.length) (fun j=>[(176,.int .i64 (j:Int)),(28,.int .i64 (N j:Int))]) (fun _=>[.sl zAX 2 S1 tS,.sl zAX 2 S2 mS]) (fun j=>tS.length - j) 0 (Nat.zero_le _) (by simp only [hz0];(first|exact lK1|(repeat (first|exact lK1|(refine zL rfl ?_))))) (by (repeat (first|exact oK1 _|(refine oK2 (by (repeat (first|exact tK1 _ _|apply tK2))) ?_)))) ?_
 rintro j hj
 simp only [zAq,List.cons_append,List.nil_append]
 by_cases hjl:j<tS.length
 ·obtain ⟨p,hp⟩:∃ p,tS[j]?=some p:=⟨_,List.getElem?_eq_getElem hjl⟩
  have h1:=hqs j p hp
  have h2:=hqa j p hp
  have h3:=hql j hj
  have h4:=hpb p (List.mem_of_getElem? hp)
  obtain ⟨p0,p1⟩:=p
  simp only at h1 h2 h4
  refine zEb (enc:=zAX) (A:=S1) (xs:=tS) (by (repeat (first|exact tK1 _ _|apply tK2))) (by omega) ?_
  rintro b8 o8 rfl
  have:zAR tS j (p0,p1):=⟨hp⟩
  by_cases hkp:(k:Int)≤p0
  ·have hm:=h2 (decide_eq_true hkp)
   rw [List.getElem?_map] at hm
   obtain ⟨⟨m0,m1⟩,hmj,hme⟩:=Option.map_eq_some_iff.1 hm
   simp only [Prod.mk.injEq] at hme
   have hml:=(List.getElem?_eq_some_iff.1 hmj).1
   rw [if_pos (decide_eq_true hkp)] at h1
   have hmj2:mS[N j]?=some (p0 - k,p1):=by rw [hmj,← hme.2,show m0=p0 - k by omega]
   have:zAR mS (N j) (p0 - k,p1):=⟨hmj2⟩
   refine zEb (enc:=zAX) (A:=S2) (xs:=mS) (by (repeat (first|exact tK1 _ _|apply tK2))) (by omega) ?_
   rintro b9 o9 rfl
   (repeat' (first|((with_reducible refine zG ?_);first|refine zE rfl rfl rfl rfl rfl ?_|(refine zK rfl rfl rfl rfl rfl ?_;refine ⟨_,rfl,?_⟩)|(refine zQ rfl rfl rfl rfl rfl rfl rfl (fun h=>?_) (fun h=>?_)<;>(dsimp only [cmpP] at h;(try (exfalso;omega))))|refine zBx (I:=0) rfl rfl rfl rfl rfl rfl rfl (by decide) ?_|refine zi rfl rfl rfl rfl rfl rfl rfl (by omega) ?_|(refine zf rfl rfl rfl rfl rfl ?_;refine And.intro rfl (And.intro (by first|decide|exact Nat.le_of_ble_eq_true rfl|(simp;omega)) ⟨_,rfl,?_⟩))|(refine zo rfl rfl rfl rfl (fun b=>?_)))|(with_reducible first|refine zI ?_|refine zB ?_|refine zD ?_|refine zA ?_|refine zP ?_|refine zN ?_)|((with_reducible refine zJ ?_ ?_);(· exact rfl))|((with_reducible refine zF ?_ ?_);(· exact rfl))))
   (refine zAv (by kernel_rfl) (by kernel_rfl) (by kernel_rfl) ?_)
   (repeat' (first|((with_reducible refine zBH ?_);first|refine zW (zAK rfl rfl) rfl rfl rfl ?_|refine zW (zy rfl rfl (by exact rfl)) rfl rfl rfl ?_|refine zW (zB8 rfl rfl rfl) rfl rfl rfl ?_|(refine zCj rfl rfl rfl rfl rfl rfl rfl (fun h=>?_) (fun h=>?_)<;>(dsimp only [cmpP] at h;(try (exfalso;omega))))|refine zW (zAS (I:=(N j)) rfl rfl rfl (by omega) (by first|omega|(dsimp only;omega))) rfl rfl rfl ?_|refine zW (zK5 (I:=0) rfl rfl rfl rfl (by decide)) rfl rfl rfl ?_|refine zW (zK5 (I:=1) rfl rfl rfl rfl (by decide)) rfl rfl rfl ?_|refine zW (zMW rfl rfl (by exact rfl)) rfl rfl rfl ?_|refine zW (e_nePr rfl rfl rfl) rfl rfl rfl ?_|refine zW (zEt rfl rfl rfl (IntWalk.i64_in _ (by omega))) rfl rfl rfl ?_|refine zW (zDT rfl rfl) rfl rfl rfl ?_)|(with_reducible refine zBs ?_)))
   (repeat' (first|((with_reducible refine zG ?_);first|refine zE rfl rfl rfl rfl rfl ?_|refine zC rfl rfl rfl rfl rfl ?_|refine zj rfl rfl rfl rfl rfl rfl (by omega) ?_)|(with_reducible first|refine zB ?_|refine zD ?_|refine zA ?_|refine zP ?_|refine zk ?_)|((with_reducible refine zF ?_ ?_);(· exact rfl))))
   exact zc (ι:=Nat) (j+1) (by omega) (by omega) (by simp only [h1];(first|exact lK1|(repeat (first|exact lK1|(refine zL rfl ?_))))) (by (repeat (first|exact oK1 _|(refine oK2 (by (repeat (first|exact tK1 _ _|apply tK2))) ?_))))
  ·rw [if_neg (by simpa using hkp)] at h1
   (repeat' (first|((with_reducible refine zG ?_);first|refine zE rfl rfl rfl rfl rfl ?_|(refine zK rfl rfl rfl rfl rfl ?_;refine ⟨_,rfl,?_⟩)|(refine zQ rfl rfl rfl rfl rfl rfl rfl (fun h=>?_) (fun h=>?_)<;>(dsimp only [cmpP] at h;(try (exfalso;omega))))|refine zBx (I:=0) rfl rfl rfl rfl rfl rfl rfl (by decide) ?_|refine zj rfl rfl rfl rfl rfl rfl (by omega) ?_|refine zi rfl rfl rfl rfl rfl rfl rfl (by omega) ?_|(refine zf rfl rfl rfl rfl rfl ?_;refine And.intro rfl (And.intro (by first|decide|exact Nat.le_of_ble_eq_true rfl|(simp;omega)) ⟨_,rfl,?_⟩))|(refine zo rfl rfl rfl rfl (fun b=>?_)))|(with_reducible first|refine zI ?_|refine zB ?_|refine zD ?_|refine zA ?_|refine zP ?_|refine zN ?_|refine zn ?_|refine zR ?_|refine zY ?_)|((with_reducible refine zJ ?_ ?_);(· exact rfl))))
   exact zc (ι:=Nat) (j+1) (by omega) (by omega) (by simp only [h1];(first|exact lK1|(repeat (first|exact lK1|(refine zL rfl ?_))))) (by (repeat (first|exact oK1 _|(refine oK2 (by (repeat (first|exact tK1 _ _|apply tK2))) ?_))))
 ·obtain rfl:j=tS.length:=by omega
  rw [hqe]
  (repeat' (first|((with_reducible refine zG ?_);first|refine zE rfl rfl rfl rfl rfl ?_|refine zC rfl rfl rfl rfl rfl ?_|refine zAf rfl rfl rfl rfl rfl rfl ?_|(refine zQ rfl rfl rfl rfl rfl rfl rfl (fun h=>?_) (fun h=>?_)<;>(dsimp only [cmpP] at h;(try (exfalso;omega))))|refine zr rfl rfl rfl rfl rfl ?_)|(with_reducible first|refine zI ?_|refine zB ?_|refine zD ?_|refine zA ?_|refine zb ?_|refine zn ?_|refine zR ?_|refine zY ?_)|((with_reducible refine zF ?_ ?_);(· exact rfl))))
  exact zT (by (exact zO.cons (by exact zq.tmp rfl) zO.nil)) () trivial rfl (fun _ _=>Own.nil _ _)
end Go.Proofs.YtdigopgncfhiaaaGreatDoor.Two
