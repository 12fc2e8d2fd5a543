/- C10 -/
import Derived.Test.YtdigopgncfhiaaaGreatDoorC9
import Derived.Test.YtdigopgncfhiaaaGreatDoorC6
import Derived.Deep.Quiet
import Derived.Test.YtdigopgncfhiaaaGreatDoorC5
set_option linter.unusedSimpArgs false
set_option linter.unusedVariables false
namespace Go.Proofs.YtdigopgncfhiaaaGreatDoor
open Go.RowKit
set_option maxRecDepth 20000
structure Sli where
 A:Option Addr
 xs:List Int
 c:Nat
instance : Inhabited Sli:=⟨⟨none,[],0⟩⟩
def zAC (s:Sli):List Value:=[.slice s.A s.xs.length s.c]
instance : zCc zAC 1:=⟨fun _=>rfl,fun s v hv=>by simp [zAC] at hv;subst hv;rfl⟩
structure zAu (w:World) (P:Option Addr) (pl:List Sli):Prop where
 p:zAB zAC 1 w P pl
 rows:∀ s∈pl,zAB encI 1 w s.A s.xs
theorem zAu.below {w W:World} {P:Option Addr} {pl:List Sli} (h:zAu w P pl) (hb:Below w.heap.size w W):zAu W P pl:=⟨h.p.below hb,fun s hs=>(h.rows s hs).below hb⟩
def zD4 (l:List Int):Bool:=(List.range (l.length - 1)).all fun k=>decide (l.getD k 0<l.getD (k+1) 0)
def zDR (c:Cov) (u:Hour) (s:Sli):Bool:=decide ((s.xs.length:Int)≤u.crew) && (decide (s.xs.length=0) || u.cold) && s.xs.all (inB 0 (c.beds.length - 1)) && zD4 s.xs
def zAz (c:Cov) (pl:List Sli):Bool:=decide (pl.length=c.hours.length) && (List.range pl.length).all fun i=>zDR c (c.hours.getD i default) (pl.getD i default)
theorem zCq {l:List Int}:zD4 l=true↔∀ k,k+1<l.length→l.getD k 0<l.getD (k+1) 0:=by
 unfold zD4
 rw [List.all_eq_true]
 constructor
 ·intro h k hk;simpa using h k (List.mem_range.2 (by omega))
 ·intro h k hk;simpa using h k (by have:=List.mem_range.1 hk;omega)
theorem zLu {l:List Int} {k:Nat} (hk:k+1<l.length) (h:¬ l.getD k 0<l.getD (k+1) 0):zD4 l=false:=by
 cases hr:zD4 l with
 | false=>rfl
 | true=>exact absurd (zCq.1 hr k hk) h
theorem zAc {c:Cov} {pl:List Sli}:zAz c pl=true↔pl.length=c.hours.length∧∀ (i:Nat) (u:Hour) (s:Sli),c.hours[i]?=some u→pl[i]?=some s→zDR c u s=true:=by
 unfold zAz
 rw [Bool.and_eq_true,decide_eq_true_eq,List.all_eq_true]
 constructor
 ·rintro ⟨h1,h2⟩
  refine ⟨h1,fun i u s hu hs=>?_⟩
  have:=h2 i (List.mem_range.2 (List.getElem?_eq_some_iff.1 hs).1)
  simpa [List.getD_eq_getElem?_getD,hu,hs] using this
 ·rintro ⟨h1,h2⟩
  refine ⟨h1,fun i hi=>?_⟩
  have hi:=List.mem_range.1 hi
  refine h2 i _ _ ?_ ?_
  ·rw [List.getD_eq_getElem?_getD,List.getElem?_eq_getElem (show i<c.hours.length by omega)];rfl
  ·rw [List.getD_eq_getElem?_getD,List.getElem?_eq_getElem hi];rfl
theorem zL1 {c:Cov} {pl:List Sli} {i:Nat} {u:Hour} {s:Sli} (hu:c.hours[i]?=some u) (hs:pl[i]?=some s) (h:zDR c u s=false):zAz c pl=false:=by
 cases hp:zAz c pl with
 | false=>rfl
 | true=>have:=(zAc.1 hp).2 i u s hu hs;rw [h] at this;cases this
theorem zAW {α:Type} {l:List α} {i:Nat} {d x:α} (h:l[i]?=some x):l.getD i d=x:=by rw [List.getD_eq_getElem?_getD,h];rfl
set_option maxHeartbeats 4000000 in
theorem zIG (c:Cov) (A:Option Addr) (ca:Nat) (B:Option Addr) (cb:Nat) (C:Option Addr) (cc g:Nat) (pl:List Sli) (P:Option Addr) (cp:Nat) (w:World) (hr:InC w g 0 (zH c A ca B cb C cc)) (h0:zAU w c A B C) (hp:zAu w P pl) (hs:Small c) (hl:pl.length≤12) (hrl:∀ s∈pl,s.xs.length≤20) :
  Gv Tryz.prog 98 [.pointer (some ⟨g,0,none⟩),.slice P pl.length cp] w (.bool (zAz c pl)):=by
 have h3:=hs.t;have h4:=hs.b;have h5:=hs.h
 have hh:=h0.h;have hpp:=hp.p
 unfold zH at hr
 unfold Gv
 (refine zM (n:=83) Tryz.func98 rfl rfl rfl ?_)
 (repeat' (first|((with_reducible refine zG ?_);first|refine zE rfl rfl rfl rfl rfl ?_|refine zC rfl rfl rfl rfl rfl ?_|(refine zK rfl rfl rfl rfl rfl ?_;refine ⟨_,rfl,?_⟩)|refine ze rfl rfl rfl rfl rfl ?_|(refine zQ rfl rfl rfl rfl rfl rfl rfl (fun h=>?_) (fun h=>?_)<;>(dsimp only [cmpP] at h;(try (exfalso;omega))))|refine zr rfl rfl rfl rfl rfl ?_|refine zBP rfl rfl rfl rfl rfl ?_)|(with_reducible first|refine zI ?_|refine zB ?_|refine zD ?_|refine zA ?_|refine zb ?_|refine zP ?_|refine zd ?_|refine zN ?_)|((with_reducible refine zJ ?_ ?_);(· exact rfl))|((with_reducible refine zF ?_ ?_);(· exact rfl))))
 ·exact zT (by (exact zO.cons (by exact zq.tmp rfl) zO.nil)) () trivial (by rw [show zAz c pl=false from by unfold zAz;simp;omega];rfl) (fun _ h=>h.sub (by (repeat (first|exact oK1 _|(refine oK2 (by (repeat (first|exact tK1 _ _|apply tK2))) ?_)))))
 have hlen:pl.length=c.hours.length:=by omega
 refine zu (ι:=Nat) [0,17,18] rfl (fun i=>i≤pl.length∧∀ (j:Nat) (u:Hour) (s:Sli),j<i→c.hours[j]?=some u→pl[j]?=some s→zDR c u s=true) (fun i=>[(19,.int .i64 (i:Int))]) (fun _=>[]) (fun i=>pl.length - i) 0 ⟨Nat.zero_le _,fun j u s h=>by omega⟩ (by (first|exact lK1|(repeat (first|exact lK1|(refine zL rfl ?_))))) (by (repeat (first|exact oK1 _|(refine oK2 (by (repeat (first|exact tK1 _ _|apply tK2))) ?_)))) ?_
 rintro i ⟨hi,hall⟩
 simp only [zAq,List.cons_append,List.nil_append]
 by_cases hlt:i<pl.length
 ·obtain ⟨s,hsi⟩:∃ s,pl[i]?=some s:=⟨_,List.getElem?_eq_getElem hlt⟩
  obtain ⟨u,hui⟩:∃ u,c.hours[i]?=some u:=⟨_,List.getElem?_eq_getElem (by omega)⟩
  have hsm:=List.mem_of_getElem? hsi
  have hrow:=hp.rows s hsm
  have hsl:=hrl s hsm
  obtain ⟨bb,o,rfl,hblt,hc⟩:=hpp.at_ hlt
  have:InS w bb o zAC 1 pl:=⟨hpp⟩
  have:zAR pl i s:=⟨hsi⟩
  obtain ⟨bc,oc,rfl,hblt2,hc2⟩:=hh.at_ (show i<c.hours.length by omega)
  have:InS w bc oc zp 5 c.hours:=⟨hh⟩
  have:zAR c.hours i u:=⟨hui⟩
  have hin:=fun W (hW:Below w.heap.size w W)=>zND 0 ((c.beds.length:Int) - 1) s.xs s.A s.c W (hrow.below hW) (by omega)
  have hno:=fun h=>zL1 hui hsi h
  have hyes:=fun (h:zDR c u s=true) (j:Nat) u' s' (hj:j<i+1) (h1:c.hours[j]?=some u') (h2:pl[j]?=some s')=>(show zDR c u' s'=true from by
   by_cases e:j=i
   ·subst e;rw [hui] at h1;rw [hsi] at h2;cases h1;cases h2;exact h
   ·exact hall j u' s' (by omega) h1 h2)
  obtain ⟨melt,runs,crew,cold⟩:=u
  have hro:zDR c ⟨melt,runs,crew,cold⟩ s=(decide ((s.xs.length:Int)≤crew) && (decide (s.xs.length=0) || cold) && s.xs.all (inB 0 (c.beds.length - 1)) && zD4 s.xs):=rfl
  generalize hall1:s.xs.all (inB 0 ((c.beds.length:Int) - 1))=al at *
  cases cold
  all_goals
   (repeat' (first|((with_reducible refine zG ?_);first|refine zE rfl rfl rfl rfl rfl ?_|refine zC rfl rfl rfl rfl rfl ?_|(refine zK rfl rfl rfl rfl rfl ?_;refine ⟨_,rfl,?_⟩)|refine ze rfl rfl rfl rfl rfl ?_|refine zAf rfl rfl rfl rfl rfl rfl ?_|refine zAT rfl rfl rfl ?_|(refine zQ rfl rfl rfl rfl rfl rfl rfl (fun h=>?_) (fun h=>?_)<;>(dsimp only [cmpP] at h;(try (exfalso;omega))))|(refine zAm rfl rfl rfl rfl rfl rfl (fun _ _ q=>hin _ q.below) (fun h=>?_) (fun h=>?_)<;>(try (exfalso;omega)))|refine zAh rfl rfl rfl rfl rfl ?_|refine zCn rfl rfl rfl rfl rfl rfl (IntWalk.i64_in _ (by omega)) ?_|refine zi rfl rfl rfl rfl rfl rfl rfl (by omega) ?_|refine zr rfl rfl rfl rfl rfl ?_|refine zBP rfl rfl rfl rfl rfl ?_)|(with_reducible first|refine zI ?_|refine zB ?_|refine zD ?_|refine zA ?_|refine zb ?_|refine zP ?_|refine zd ?_|refine zN ?_|refine zA3 ?_)|((with_reducible refine zJ ?_ ?_);(· exact rfl))|((with_reducible refine zF ?_ ?_);(· exact rfl))))
   all_goals first|(refine zT (by (exact zO.cons (by exact zq.tmp rfl) zO.nil)) () trivial ?_ (fun _ h=>h.sub (by (repeat (first|exact oK1 _|(refine oK2 (by (repeat (first|exact tK1 _ _|apply tK2))) ?_)))));refine congrArg Value.bool (hno ?_);rw [hro];refine Bool.eq_false_iff.2 (fun h9=>?_);simp only [Bool.and_eq_true,Bool.or_eq_true,decide_eq_true_eq,Bool.false_eq_true,or_false] at h9;first|omega|(simp_all;done))|skip
   all_goals
    refine zu (ι:=Nat) [0,6,17,18,19,67] rfl (fun k=>k≤s.xs.length∧∀ k',k'<k→k'+1<s.xs.length→s.xs.getD k' 0<s.xs.getD (k'+1) 0) (fun k=>[(68,.int .i64 (k:Int))]) (fun _=>[]) (fun k=>s.xs.length - k) 0 ⟨Nat.zero_le _,fun k h=>by omega⟩ (by (first|exact lK1|(repeat (first|exact lK1|(refine zL rfl ?_))))) (by (repeat (first|exact oK1 _|(refine oK2 (by (repeat (first|exact tK1 _ _|apply tK2))) ?_)))) ?_
    rintro k ⟨hk,hris⟩
    simp only [zAq,List.cons_append,List.nil_append]
    by_cases hk1:k+1<s.xs.length
    ·obtain ⟨x,hx⟩:∃ x,s.xs[k]?=some x:=⟨_,List.getElem?_eq_getElem (by omega)⟩
     obtain ⟨y,hy⟩:∃ y,s.xs[k+1]?=some y:=⟨_,List.getElem?_eq_getElem hk1⟩
     have e1:=zAW (d:=0) hx
     have e2:=zAW (d:=0) hy
     obtain ⟨br,orr,hA,hbr,hcr⟩:=hrow.at_ hk1
     have:InS w br orr encI 1 s.xs:=⟨hA ▸ hrow⟩
     rw [hA]
     have:zAR s.xs k x:=⟨hx⟩
     have:zAR s.xs (k+1) y:=⟨hy⟩
     (repeat' (first|((with_reducible refine zG ?_);first|refine zE rfl rfl rfl rfl rfl ?_|refine zC rfl rfl rfl rfl rfl ?_|(refine zQ rfl rfl rfl rfl rfl rfl rfl (fun h=>?_) (fun h=>?_)<;>(dsimp only [cmpP] at h;(try (exfalso;omega)))))|(with_reducible first|refine zI ?_|refine zB ?_|refine zD ?_|refine zA ?_|refine zP ?_|refine zN ?_)|((with_reducible refine zJ ?_ ?_);(· exact rfl))))
     all_goals (refine Two.zAd [] [] [] rfl (show ([]:List Nat).Nodup by decide) (fun _ h=>h) (by kernel_rfl) [[],[Y],[Z,Z],[Z,Z,Z],[Y,Y,Y,Y],[Y,Y,Y,Y,Y],[Z,Y,Y,Y,Y,Y],[Z,Z,Z,Y,Y,Y,Y],[Z,Z,Z,Z,Y,Y,Y,Y],[Z,Z,Z,Z,Z,Z,Z,Z,Z]] (by kernel_rfl) (by kernel_rfl) (by kernel_rfl) (by kernel_rfl) (by kernel_rfl) ?_)
     all_goals (repeat' (first|(((with_reducible refine Two.zCJ ?_ ?_);(· exact rfl);refine ⟨_,fun G=>(by (try simp (decide:=true) only [Two.vis,Two.see,fltT,zAD,Nat.reduceAdd,Nat.reduceSub,if_true,if_false,List.set_cons_zero,List.set_cons_succ,List.set_nil,List.nil_append,List.cons_append]);rfl),?_⟩);first|refine Two.zX _ (fun _=>zAK rfl rfl) (fun _=>rfl) rfl (by first|exact fun _ _ _=>rfl|(intro G G' h;simp (decide:=true) only [h])) ?_|refine Two.zX _ (fun _=>zy rfl rfl (by exact rfl)) (fun _=>rfl) rfl (by first|exact fun _ _ _=>rfl|(intro G G' h;simp (decide:=true) only [h])) ?_|(refine Two.c_cmp rfl rfl (fun _=>rfl) rfl (fun _=>rfl) (fun _=>rfl) (fun h=>?_) (fun h=>?_)<;>(dsimp only [cmpP] at h;(try (exfalso;omega))))|refine Two.zX _ (fun _=>zAS (I:=k) rfl rfl rfl rfl (by omega)) (fun _=>rfl) rfl (by exact fun _ _ _=>rfl) ?_|refine Two.zX _ (fun _=>zAS (I:=k+1) rfl rfl rfl rfl (by omega)) (fun _=>rfl) rfl (by exact fun _ _ _=>rfl) ?_|refine Two.zX _ (fun _=>zI6 rfl rfl rfl (by omega)) (fun _=>rfl) rfl (by first|exact fun _ _ _=>rfl|(intro G G' h;simp (decide:=true) only [h])) ?_)|(with_reducible refine Two.zFr ?_)))
     all_goals ((intro G;simp only [regsT,zAD,Two.zBU,Two.ini,List.nil_append,List.cons_append]);(repeat' (first|((with_reducible refine zG ?_);first|refine zE rfl rfl rfl rfl rfl ?_|refine zC rfl rfl rfl rfl rfl ?_|refine zj rfl rfl rfl rfl rfl rfl (by omega) ?_)|(with_reducible first|refine zI ?_|refine zB ?_|refine zD ?_|refine zA ?_|refine zb ?_|refine zP ?_|refine zd ?_|refine zk ?_|refine zA3 ?_)|((with_reducible refine zJ ?_ ?_);(· exact rfl))|((with_reducible refine zF ?_ ?_);(· exact rfl)))))
     all_goals first|(refine zT (by (exact zO.cons (by exact zq.tmp rfl) zO.nil)) () trivial ?_ (fun _ h=>h.sub (by (repeat (first|exact oK1 _|(refine oK2 (by (repeat (first|exact tK1 _ _|apply tK2))) ?_)))));refine congrArg Value.bool (hno ?_);rw [hro,zLu hk1 (by rw [e1,e2];omega),Bool.and_false])|skip
     all_goals exact zc (k+1) ⟨by omega,fun k' h1 h2=>by
       by_cases e:k'=k
       ·subst e;rw [e1,e2];omega
       ·exact hris k' (by omega) h2⟩ (by omega) (by (first|exact lK1|(repeat (first|exact lK1|(refine zL rfl ?_))))) (by (repeat (first|exact oK1 _|(refine oK2 (by (repeat (first|exact tK1 _ _|apply tK2))) ?_))))
    ·(repeat' (first|((with_reducible refine zG ?_);first|refine zE rfl rfl rfl rfl rfl ?_|(refine zQ rfl rfl rfl rfl rfl rfl rfl (fun h=>?_) (fun h=>?_)<;>(dsimp only [cmpP] at h;(try (exfalso;omega))))|refine zj rfl rfl rfl rfl rfl rfl (by omega) ?_)|(with_reducible first|refine zI ?_|refine zB ?_|refine zD ?_|refine zA ?_|refine zn ?_|refine zk ?_|refine zR ?_|refine zY ?_)|((with_reducible refine zF ?_ ?_);(· exact rfl))))
     have hr9:zD4 s.xs=true:=zCq.2 (fun k' h=>hris k' (by omega) h)
     exact zc (i+1) ⟨by omega,hyes (by rw [hro,hr9];simp_all)⟩ (by omega) (by (first|exact lK1|(repeat (first|exact lK1|(refine zL rfl ?_))))) (by (repeat (first|exact oK1 _|(refine oK2 (by (repeat (first|exact tK1 _ _|apply tK2))) ?_))))
 ·obtain rfl:i=pl.length:=by omega
  (repeat' (first|((with_reducible refine zG ?_);first|refine zC rfl rfl rfl rfl rfl ?_|(refine zQ rfl rfl rfl rfl rfl rfl rfl (fun h=>?_) (fun h=>?_)<;>(dsimp only [cmpP] at h;(try (exfalso;omega)))))|(with_reducible first|refine zI ?_|refine zB ?_|refine zD ?_|refine zA ?_|refine zb ?_|refine zn ?_|refine zR ?_|refine zY ?_)|((with_reducible refine zF ?_ ?_);(· exact rfl))))
  exact zT (by (exact zO.cons (by exact zq.tmp rfl) zO.nil)) () trivial (by rw [zAc.2 ⟨hlen,fun j u s h1 h2=>hall j u s (List.getElem?_eq_some_iff.1 h2).1 h1 h2⟩];rfl) (fun _ h=>h.sub (by (repeat (first|exact oK1 _|(refine oK2 (by (repeat (first|exact tK1 _ _|apply tK2))) ?_)))))
end Go.Proofs.YtdigopgncfhiaaaGreatDoor
namespace Go.Proofs.YtdigopgncfhiaaaGreatDoor
variable {ro : Option Nat}
open Go.RowKit
def ClsH (w0:World) (H:List Ent) (w:World):Prop:=Below w0.heap.size w0 w∧Own w0.heap.size w H
def UQ (P:Program) (w0:World) (n:Nat) (d:List Deferred) (R:List (Nat × Value)) (H:List Ent) (ops:Array Oper) (K:Act→Prop) (rest:List Oper):Prop :=
 ∀ a:Act,a.tmps.size=n→a.defers=d→(∀ t v,lk R t=some v→a.tmps.getD t undef=v)→wpQuiet P ops (ClsH w0 H) K rest a
section
variable {P : Program} {w0:World} {n:Nat} {d:List Deferred} {R:List (Nat × Value)} {H H':List Ent} {Q:Exit→Act→World→Prop} {K:Act→Prop} {ops:Array Oper} {rest:List Oper} {o:Oper} {t:Tmp} {x y:Operand} {v:Value} {C:World→Prop}
theorem zLL {i:Nat} {a:Act} {K:Act→Prop} {K':Act→World→Prop} {Q':Exit→Act→World→Prop} {w:World} (hdf:∀ o∈ops.toList,zHO o=false) (hC:C w) (h:∀ a w',C w'→K a→K' a w') (hh:qOp P ops C i K a):wpOpIn (FW ro) 9 P ops Q' i K' a w:=by
 unfold qOp at hh
 unfold wpOpIn
 split
 ·rename_i ho;simp only [ho] at hh;exact h _ _ hC hh
 ·rename_i o ho
  simp only [ho] at hh
  split
  ·rename_i hw;simp only [hw,if_true] at hh;exact opIn (hdf o (by have:=Array.mem_of_getElem? ho;simpa using this)) (Oper.wp_of_quiet hC h hh)
  ·rename_i hw;simp only [hw] at hh;exact ⟨fun _ _=>trivial,h _ _ hC hh⟩
theorem zFN {Q:Act→Prop} {Q':Exit→Act→World→Prop} (hdf:∀ o∈ops.toList,zHO o=false) (hQ:∀ a w,C w→Q a→Q' .normal a w):∀ (fuel:Nat) (listed:Array Bool) (a:Act) (w:World),C w →
  wpAnyQ P .any ops C Q fuel listed a→wpAnyIn (FW ro) 9 P .any ops Q' fuel listed a w
 | 0,_,_,_,hw,h=>⟨h.1,hQ _ _ hw h.2⟩
 | fuel+1,_,_,_,hw,h=>⟨fun h0=>hQ _ _ hw (h.1 h0),fun i hi=>zLL hdf hw (fun a' w' hw'=>zFN hdf hQ fuel _ a' w' hw') (h.2 i hi)⟩
theorem zAv {id:Nat} {l:List Oper} (hm:P.follows .mixedOrders=true) (hB:Region.lexB .any l.toArray=true) (hDf:(l.all fun o=>!zHO o)=true) (h:UQ P w0 n d R H l.toArray (fun a'=>∀ w',ClsH w0 H w'→Q .normal a' w') l):U w0 n d R H ((Code.region id l.toArray true).wpI ro P Q):=fun a w q=>by
 have h1:=h a q.size q.defers q.regs
 simp only [Region.lexB,Bool.and_eq_true] at hB
 have hC:ClsH w0 H { w with drawn:=w.drawn+1 }:=⟨⟨q.below.os,q.below.tape,q.below.output,q.below.size,q.below.block⟩,q.own.past (Nat.le_refl _) (fun _ _ _ _=>rfl)⟩
 refine wpIn_region_any hm (zFN (C:=ClsH w0 H) (Q:=fun a'=>∀ w',ClsH w0 H w'→Q .normal a' w') (fun o ho=>by have:=List.all_eq_true.1 hDf o (by simpa using ho);simpa using this) (fun _ w' hw' h=>h w' hw') _ _ _ _ hC ?_)
 have:=wpAnyQ_lex (C:=ClsH w0 H) (md:=.any) hB.1 l 0 (Array.replicate l.toArray.size false) a (by simp) (by simpa using hB.2) h1
 simpa using this
theorem zBs (h:U w0 n d R H (Q .normal)):UQ P w0 n d R H ops (fun a'=>∀ w',ClsH w0 H w'→Q .normal a' w') []:=fun a h1 h2 h3=>wpQuiet_nil (fun w' hw=>h a w' ⟨h1,h2,h3,hw.1,hw.2⟩)
theorem zKL {a:Act} (h1:a.tmps.size=n) (h3:∀ t v,lk R t=some v→a.tmps.getD t undef=v) (ht:Nat.blt t n=true):∀ u x,lk ((t,v)::R) u=some x→(a.put (some t) v).tmps.getD u undef=x:=fun u x hx=>by
 have hlt:t<a.tmps.size:=by rw [h1];exact Nat.le_of_ble_eq_true ht
 by_cases hu:t=u
 ·subst hu
  rw [zCs] at hx
  cases hx
  simp [Act.put,hlt]
 ·rw [zCr hu] at hx
  have:=h3 u x hx
  simp only [Act.put,Array.getD_eq_getD_getElem?] at this ⊢
  rw [Array.getElem?_setIfInBounds_ne hu]
  exact this
theorem zJu {a:Act} {b:Bool} (h3:∀ t v,lk R t=some v→a.tmps.getD t undef=v) (hw:want R ops o=some b):Region.wanted o (yielded ops a.tmps)=b :=
 zBr (R:=R) (H:=[]) (n:=a.tmps.size) (d:=a.defers) (w0:=(default:World)) (w:=default) ⟨rfl,rfl,h3,Below.refl _ _,Own.nil _ _⟩ hw
theorem zW (he:Ev P w0 n d R H o v) (hw:want R ops o=some true) (hd:o.dst=some t) (ht:Nat.blt t n=true) (h:UQ P w0 n d ((t,v)::R) H ops K rest):UQ P w0 n d R H ops K (o::rest):=fun a h1 h2 h3 =>
 wpQuiet_step fun K' hK=>by
  rw [zJu h3 hw,if_pos rfl]
  refine ⟨v,fun w hC=>?_,?_⟩
  ·unfold Oper.quietAt
   rw [he a w ⟨h1,h2,h3,hC.1,hC.2⟩]
   exact ⟨rfl,rfl⟩
  ·rw [hd]
   exact hK _ (h _ (by simp [Act.put,h1]) h2 (zKL h1 h3 ht))
theorem zBG (hw:want R ops o=some false) (hd:o.dst=some t) (ht:Nat.blt t n=true) (h:UQ P w0 n d ((t,undef)::R) H ops K rest):UQ P w0 n d R H ops K (o::rest):=fun a h1 h2 h3 =>
 wpQuiet_step fun K' hK=>by
  rw [zJu h3 hw,hd]
  simp only [Bool.false_eq_true,if_false]
  exact hK _ (h _ (by simp [Act.put,h1]) h2 (zKL h1 h3 ht))
theorem zCj {T1 T2:TypeId} {c:BinOp} {k:IntKind} {i j:Int} (hop:o.op = .binOp c T1 x y T2) (hc:zKi c=true) (hw:want R ops o=some true) (hd:o.dst=some t) (ht:Nat.blt t n=true) (hx:evR R x=some (.int k i)) (hy:evR R y=some (.int k j))
  (h1:cmpP c i j→UQ P w0 n d ((t,.bool true)::R) H ops K rest) (h2:¬ cmpP c i j→UQ P w0 n d ((t,.bool false)::R) H ops K rest):UQ P w0 n d R H ops K (o::rest):=by
 by_cases hp:cmpP c i j
 ·exact zW (fun a w q=>zIi hc hop (q.ev hx) (q.ev hy) hp) hw hd ht (h1 hp)
 ·exact zW (fun a w q=>zIj hc hop (q.ev hx) (q.ev hy) hp) hw hd ht (h2 hp)
theorem zC4 {f:FuncId} {fx:Operand} {xs:Array Operand} {ts:Array TypeId} {vs:List Value} {cap:Array Value} (hop:o.op = .call ⟨.value fx,xs,ts⟩) (hw:want R ops o=some true) (hd:o.dst=some t) (ht:Nat.blt t n=true) (hf:evR R fx=some (.func (.func f) #[] cap)) (hx:evs R xs.toList=some vs) [ci:za P f]
  (hc:∀ a w,Kn w0 n d R H a w→Gv P f (vs++cap.toList) w v) (h:UQ P w0 n d ((t,v)::R) H ops K rest):UQ P w0 n d R H ops K (o::rest):=fun a h1 h2 h3 =>
 wpQuiet_step fun K' hK=>by
  rw [zJu h3 hw,if_pos rfl]
  refine ⟨v,fun w hC=>?_,?_⟩
  ·have q:Kn w0 n d R H a w:=⟨h1,h2,h3,hC.1,hC.2⟩
   unfold Oper.quietAt execOp;rw [hop]
   have e1:xs.map a.eval=vs.toArray:=by apply Array.ext';simpa using q.evs hx
   have e2:vs.toArray++cap=(vs++cap.toList).toArray:=by apply Array.ext';simp
   simp only [resolve,q.ev hf,e1,Deferred.ofValue,Sem.run_bind,Sem.run_pure,Result.andThen_ok,invoke,Array.empty_append,e2,ci.ent]
   refine ⟨rfl,Calls.mono (hc a w q).ret.calls ?_⟩
   rintro e w' ⟨_,_,rfl,hb,_⟩
   exact ⟨rfl,q.below.trans (hb.mono q.base),q.own.below hb⟩
  ·rw [hd]
   exact hK _ (h _ (by simp [Act.put,h1]) h2 (zKL h1 h3 ht))
theorem zH1 {b:Bool} {f:FuncId} {fx:Operand} {xs:Array Operand} {ts:Array TypeId} {vs:List Value} {cap:Array Value} (hop:o.op = .call ⟨.value fx,xs,ts⟩) (hw:want R ops o=some true) (hd:o.dst=some t) (ht:Nat.blt t n=true) (hf:evR R fx=some (.func (.func f) #[] cap)) (hx:evs R xs.toList=some vs) [ci:za P f]
  (hc:∀ a w,Kn w0 n d R H a w→Gv P f (vs++cap.toList) w (.bool b)) (h1:b=true→UQ P w0 n d ((t,.bool true)::R) H ops K rest) (h2:b=false→UQ P w0 n d ((t,.bool false)::R) H ops K rest):UQ P w0 n d R H ops K (o::rest):=by
 cases b
 ·exact zC4 hop hw hd ht hf hx hc (h2 rfl)
 ·exact zC4 hop hw hd ht hf hx hc (h1 rfl)
theorem zBH (h:UQ P w0 n d R H ops K (o::rest)):UQ P w0 n d R H ops K (o::rest):=h
end
end Go.Proofs.YtdigopgncfhiaaaGreatDoor
namespace Go.Proofs.YtdigopgncfhiaaaGreatDoor
open Go.RowKit
set_option maxRecDepth 20000
theorem and_no {a b c:Bool} (h:b=false∨c=false):(a && b && c)=false:=by
 rcases h with h|h<;>simp [h]
theorem all_no {p:Int→Bool} {l:List Int} {k:Nat} {x:Int} (h:l[k]?=some x) (hp:p x=false):l.all p=false:=by
 rw [List.all_eq_false]
 exact ⟨x,List.mem_of_getElem? h,by simp [hp]⟩
set_option maxHeartbeats 4000000 in
theorem zNw (c:Cov) (A:Option Addr) (ca:Nat) (B:Option Addr) (cb:Nat) (C:Option Addr) (cc:Nat) (pl:List Sli) (P:Option Addr) (cp:Nat) (w:World) (h0:zAU w c A B C) (hp:zAu w P pl) (hs:Small c) (hl:pl.length≤12) (hrl:∀ s∈pl,s.xs.length≤20) :
  Gv Tryz.prog 26 [zAI c A ca B cb C cc,.slice P pl.length cp] w (.bool (zAz c pl)):=by
 have h3:=hs.t;have h4:=hs.b;have h5:=hs.h
 have hh:=h0.h;have hpp:=hp.p
 unfold Gv zAI zH
 (refine zM (n:=92) Tryz.func26 rfl rfl rfl ?_)
 (repeat' (first|((with_reducible refine zG ?_);first|refine zE rfl rfl rfl rfl rfl ?_|refine zC rfl rfl rfl rfl rfl ?_|(refine zK rfl rfl rfl rfl rfl ?_;refine ⟨_,rfl,?_⟩)|refine ze rfl rfl rfl rfl rfl ?_|(refine zQ rfl rfl rfl rfl rfl rfl rfl (fun h=>?_) (fun h=>?_)<;>(dsimp only [cmpP] at h;(try (exfalso;omega))))|refine zr rfl rfl rfl rfl rfl ?_|(refine zAM rfl rfl rfl rfl rfl rfl (fun b=>?_)))|(with_reducible first|refine zI ?_|refine zB ?_|refine zD ?_|refine zA ?_|refine zb ?_|refine zP ?_|refine zd ?_|refine zN ?_)|((with_reducible refine zJ ?_ ?_);(· exact rfl))|((with_reducible refine zF ?_ ?_);(· exact rfl))))
 ·exact zT (by (exact zO.cons (by exact zq.tmp rfl) zO.nil)) () trivial (by rw [show zAz c pl=false from by unfold zAz;simp;omega];rfl) (fun _ h=>h.sub (by (repeat (first|exact oK1 _|(refine oK2 (by (repeat (first|exact tK1 _ _|apply tK2))) ?_)))))
 have hlen:pl.length=c.hours.length:=by omega
 refine zu (ι:=Nat) [1,2] rfl (fun i=>i≤pl.length∧∀ (j:Nat) (u:Hour) (s:Sli),j<i→c.hours[j]?=some u→pl[j]?=some s→zDR c u s=true) (fun i=>[(5,.int .i64 (i:Int))]) (fun _=>[.blk b (zH c A ca B cb C cc)]) (fun i=>pl.length - i) 0 ⟨Nat.zero_le _,fun j u s h=>by omega⟩ (by (first|exact lK1|(repeat (first|exact lK1|(refine zL rfl ?_))))) (by (repeat (first|exact oK1 _|(refine oK2 (by (repeat (first|exact tK1 _ _|apply tK2))) ?_)))) ?_
 rintro i ⟨hi,hall⟩
 simp only [zAq,List.cons_append,List.nil_append]
 unfold zH
 by_cases hlt:i<pl.length
 ·obtain ⟨s,hsi⟩:∃ s,pl[i]?=some s:=⟨_,List.getElem?_eq_getElem hlt⟩
  obtain ⟨u,hui⟩:∃ u,c.hours[i]?=some u:=⟨_,List.getElem?_eq_getElem (by omega)⟩
  have hsm:=List.mem_of_getElem? hsi
  have hrow:=hp.rows s hsm
  have hsl:=hrl s hsm
  obtain ⟨sA,xs,sc⟩:=s
  simp only at hrow hsl
  obtain ⟨bb,o,rfl,hblt,hc⟩:=hpp.at_ hlt
  have:InS w bb o zAC 1 pl:=⟨hpp⟩
  have:zAR pl i ⟨sA,xs,sc⟩:=⟨hsi⟩
  obtain ⟨bc,oc,rfl,hblt2,hc2⟩:=hh.at_ (show i<c.hours.length by omega)
  have:InS w bc oc zp 5 c.hours:=⟨hh⟩
  have:zAR c.hours i u:=⟨hui⟩
  have hno:=fun h=>zL1 hui hsi h
  have hyes:=fun (h:zDR c u ⟨sA,xs,sc⟩=true) (j:Nat) u' s' (hj:j<i+1) (h1:c.hours[j]?=some u') (h2:pl[j]?=some s')=>(show zDR c u' s'=true from by
   by_cases e:j=i
   ·subst e;rw [hui] at h1;rw [hsi] at h2;cases h1;cases h2;exact h
   ·exact hall j u' s' (by omega) h1 h2)
  obtain ⟨melt,runs,crew,cold⟩:=u
  have hro:zDR c ⟨melt,runs,crew,cold⟩ ⟨sA,xs,sc⟩=(decide ((xs.length:Int)≤crew) && (decide (xs.length=0) || cold) && xs.all (inB 0 (c.beds.length - 1)) && zD4 xs):=rfl
  cases cold
  · (repeat' (first|((with_reducible refine zG ?_);first|refine zE rfl rfl rfl rfl rfl ?_|(refine zQ rfl rfl rfl rfl rfl rfl rfl (fun h=>?_) (fun h=>?_)<;>(dsimp only [cmpP] at h;(try (exfalso;omega))))|refine zr rfl rfl rfl rfl rfl ?_)|(with_reducible first|refine zI ?_|refine zB ?_|refine zD ?_|refine zA ?_|refine zP ?_|refine zN ?_)|((with_reducible refine zJ ?_ ?_);(· exact rfl))))
    (refine zAv (by kernel_rfl) (by kernel_rfl) (by kernel_rfl) ?_)
    (repeat' (first|((with_reducible refine zBH ?_);first|refine zW (zAK rfl rfl) rfl rfl rfl ?_|refine zW (zy rfl rfl (by exact rfl)) rfl rfl rfl ?_|refine zW (zAO rfl rfl) rfl rfl rfl ?_|refine zW (zB8 rfl rfl rfl) rfl rfl rfl ?_|refine zBG rfl rfl rfl ?_|(refine zCj rfl rfl rfl rfl rfl rfl rfl (fun h=>?_) (fun h=>?_)<;>(dsimp only [cmpP] at h;(try (exfalso;omega))))|refine zW (zAS (I:=i) rfl rfl rfl (by omega) (by first|omega|(dsimp only;omega))) rfl rfl rfl ?_|refine zW (zK3 rfl rfl) rfl rfl rfl ?_|refine zW (zDT rfl rfl) rfl rfl rfl ?_)|(with_reducible refine zBs ?_)))
    all_goals (repeat' (first|((with_reducible refine zG ?_);first|refine zC rfl rfl rfl rfl rfl ?_)|(with_reducible first|refine zI ?_|refine zB ?_|refine zD ?_|refine zA ?_|refine zb ?_|refine zP ?_|refine zd ?_|refine zN ?_|refine zA3 ?_)|((with_reducible refine zJ ?_ ?_);(· exact rfl))|((with_reducible refine zF ?_ ?_);(· exact rfl))))
    all_goals first|(refine zT (by (exact zO.cons (by exact zq.tmp rfl) zO.nil)) () trivial ?_ (fun _ h=>h.sub (by (repeat (first|exact oK1 _|(refine oK2 (by (repeat (first|exact tK1 _ _|apply tK2))) ?_)))));refine congrArg Value.bool (hno ?_);rw [hro];refine Bool.eq_false_iff.2 (fun h9=>?_);simp only [Bool.and_eq_true,Bool.or_eq_true,decide_eq_true_eq,Bool.false_eq_true,or_false] at h9;first|omega|(simp_all;done))|skip
    refine zu (ι:=Nat) [1,2,5] rfl (fun k=>k≤xs.length∧∀ k',k'<k→inB 0 ((c.beds.length:Int) - 1) (xs.getD k' 0)=true∧(k'=0∨xs.getD (k' - 1) 0<xs.getD k' 0)) (fun k=>[(6,.int .i64 (k:Int))]) (fun _=>[.blk b (zH c A ca B cb (some ⟨bc,oc,none⟩) cc)]) (fun k=>xs.length - k) 0 ⟨Nat.zero_le _,fun k h=>by omega⟩ (by (first|exact lK1|(repeat (first|exact lK1|(refine zL rfl ?_))))) (by (repeat (first|exact oK1 _|(refine oK2 (by (repeat (first|exact tK1 _ _|apply tK2))) ?_)))) ?_
    rintro k ⟨hk,hris⟩
    simp only [zAq,List.cons_append,List.nil_append]
    unfold zH
    by_cases hk1:k<xs.length
    ·omega
    ·(repeat' (first|((with_reducible refine zG ?_);first|refine zE rfl rfl rfl rfl rfl ?_|refine zC rfl rfl rfl rfl rfl ?_|(refine zK rfl rfl rfl rfl rfl ?_;refine ⟨_,rfl,?_⟩)|(refine zQ rfl rfl rfl rfl rfl rfl rfl (fun h=>?_) (fun h=>?_)<;>(dsimp only [cmpP] at h;(try (exfalso;omega))))|refine zj rfl rfl rfl rfl rfl rfl (by omega) ?_|refine zi rfl rfl rfl rfl rfl rfl rfl (by omega) ?_|refine zr rfl rfl rfl rfl rfl ?_)|(with_reducible first|refine zI ?_|refine zB ?_|refine zD ?_|refine zA ?_|refine zn ?_|refine zk ?_|refine zR ?_|refine zY ?_)|((with_reducible refine zF ?_ ?_);(· exact rfl))))
     have ha9:xs.all (inB 0 ((c.beds.length:Int) - 1))=true:=zGE (fun j z hj hz=>by have:=(hris j (by omega)).1;rwa [zAW hz] at this)
     have hr9:zD4 xs=true:=zCq.2 (fun k' h=>by
      rcases (hris (k'+1) (by omega)).2 with h9|h9
      ·omega
      ·simpa using h9)
     exact zc (i+1) ⟨by omega,hyes (by rw [hro,hr9,ha9];simp_all)⟩ (by omega) (by (first|exact lK1|(repeat (first|exact lK1|(refine zL rfl ?_))))) (by (repeat (first|exact oK1 _|(refine oK2 (by (repeat (first|exact tK1 _ _|apply tK2))) ?_))))
  · (repeat' (first|((with_reducible refine zG ?_);first|refine zE rfl rfl rfl rfl rfl ?_|(refine zQ rfl rfl rfl rfl rfl rfl rfl (fun h=>?_) (fun h=>?_)<;>(dsimp only [cmpP] at h;(try (exfalso;omega))))|refine zr rfl rfl rfl rfl rfl ?_)|(with_reducible first|refine zI ?_|refine zB ?_|refine zD ?_|refine zA ?_|refine zP ?_|refine zN ?_)|((with_reducible refine zJ ?_ ?_);(· exact rfl))))
    (refine zAv (by kernel_rfl) (by kernel_rfl) (by kernel_rfl) ?_)
    (repeat' (first|((with_reducible refine zBH ?_);first|refine zW (zAK rfl rfl) rfl rfl rfl ?_|refine zW (zy rfl rfl (by exact rfl)) rfl rfl rfl ?_|refine zW (zAO rfl rfl) rfl rfl rfl ?_|refine zW (zB8 rfl rfl rfl) rfl rfl rfl ?_|refine zBG rfl rfl rfl ?_|(refine zCj rfl rfl rfl rfl rfl rfl rfl (fun h=>?_) (fun h=>?_)<;>(dsimp only [cmpP] at h;(try (exfalso;omega))))|refine zW (zAS (I:=i) rfl rfl rfl (by omega) (by first|omega|(dsimp only;omega))) rfl rfl rfl ?_|refine zW (zK3 rfl rfl) rfl rfl rfl ?_|refine zW (zDT rfl rfl) rfl rfl rfl ?_)|(with_reducible refine zBs ?_)))
    all_goals (repeat' (first|((with_reducible refine zG ?_);first|refine zC rfl rfl rfl rfl rfl ?_)|(with_reducible first|refine zI ?_|refine zB ?_|refine zD ?_|refine zA ?_|refine zb ?_|refine zP ?_|refine zd ?_|refine zN ?_|refine zA3 ?_)|((with_reducible refine zJ ?_ ?_);(· exact rfl))|((with_reducible refine zF ?_ ?_);(· exact rfl))))
    all_goals first|(refine zT (by (exact zO.cons (by exact zq.tmp rfl) zO.nil)) () trivial ?_ (fun _ h=>h.sub (by (repeat (first|exact oK1 _|(refine oK2 (by (repeat (first|exact tK1 _ _|apply tK2))) ?_)))));refine congrArg Value.bool (hno ?_);rw [hro];refine Bool.eq_false_iff.2 (fun h9=>?_);simp only [Bool.and_eq_true,Bool.or_eq_true,decide_eq_true_eq,Bool.false_eq_true,or_false] at h9;first|omega|(simp_all;done))|skip
    all_goals
     refine zu (ι:=Nat) [1,2,5] rfl (fun k=>k≤xs.length∧∀ k',k'<k→inB 0 ((c.beds.length:Int) - 1) (xs.getD k' 0)=true∧(k'=0∨xs.getD (k' - 1) 0<xs.getD k' 0)) (fun k=>[(6,.int .i64 (k:Int))]) (fun _=>[.blk b (zH c A ca B cb (some ⟨bc,oc,none⟩) cc)]) (fun k=>xs.length - k) 0 ⟨Nat.zero_le _,fun k h=>by omega⟩ (by (first|exact lK1|(repeat (first|exact lK1|(refine zL rfl ?_))))) (by (repeat (first|exact oK1 _|(refine oK2 (by (repeat (first|exact tK1 _ _|apply tK2))) ?_)))) ?_
     rintro k ⟨hk,hris⟩
     simp only [zAq,List.cons_append,List.nil_append]
     unfold zH
     by_cases hk1:k<xs.length
     ·obtain ⟨x,hx⟩:∃ x,xs[k]?=some x:=⟨_,List.getElem?_eq_getElem (by omega)⟩
      have e1:=zAW (d:=0) hx
      obtain ⟨br,orr,rfl,hbr,hcr⟩:=hrow.at_ hk1
      have:InS w br orr encI 1 xs:=⟨hrow⟩
      have:zAR xs k x:=⟨hx⟩
      by_cases hk0:0<k
      ·obtain ⟨y,hy⟩:∃ y,xs[k - 1]?=some y:=⟨_,List.getElem?_eq_getElem (by omega)⟩
       have e2:=zAW (d:=0) hy
       have:zAR xs (k - 1) y:=⟨hy⟩
       (repeat' (first|((with_reducible refine zG ?_);first|refine zE rfl rfl rfl rfl rfl ?_|(refine zK rfl rfl rfl rfl rfl ?_;refine ⟨_,rfl,?_⟩)|(refine zQ rfl rfl rfl rfl rfl rfl rfl (fun h=>?_) (fun h=>?_)<;>(dsimp only [cmpP] at h;(try (exfalso;omega))))|refine zi rfl rfl rfl rfl rfl rfl rfl (by omega) ?_|refine zr rfl rfl rfl rfl rfl ?_)|(with_reducible first|refine zI ?_|refine zB ?_|refine zD ?_|refine zA ?_|refine zP ?_|refine zN ?_)|((with_reducible refine zJ ?_ ?_);(· exact rfl))))
       all_goals (refine zAv (by kernel_rfl) (by kernel_rfl) (by kernel_rfl) ?_)
       all_goals (repeat' (first|((with_reducible refine zBH ?_);first|refine zW (zAK rfl rfl) rfl rfl rfl ?_|refine zW (zy rfl rfl (by exact rfl)) rfl rfl rfl ?_|refine zW (zAO rfl rfl) rfl rfl rfl ?_|refine zW (zB8 rfl rfl rfl) rfl rfl rfl ?_|refine zBG rfl rfl rfl ?_|(refine zCj rfl rfl rfl rfl rfl rfl rfl (fun h=>?_) (fun h=>?_)<;>(dsimp only [cmpP] at h;(try (exfalso;omega))))|refine zW (zAS (I:=i) rfl rfl rfl (by omega) (by first|omega|(dsimp only;omega))) rfl rfl rfl ?_|refine zW (zAS (I:=k) rfl rfl rfl (by omega) (by first|omega|(dsimp only;omega))) rfl rfl rfl ?_|refine zW (zAS (I:=(k - 1)) rfl rfl rfl (by omega) (by first|omega|(dsimp only;omega))) rfl rfl rfl ?_|(refine zH1 rfl rfl rfl rfl rfl rfl (fun _ _ q=>zDb _ _ _ _) (fun h=>?_) (fun h=>?_)<;>(try (exfalso;omega)))|refine zW (zK3 rfl rfl) rfl rfl rfl ?_|refine zW (zEt rfl rfl rfl (IntWalk.i64_in _ (by omega))) rfl rfl rfl ?_|refine zW (zDT rfl rfl) rfl rfl rfl ?_)|(with_reducible refine zBs ?_)))
       all_goals (repeat' (first|((with_reducible refine zG ?_);first|refine zE rfl rfl rfl rfl rfl ?_|refine zC rfl rfl rfl rfl rfl ?_|refine zj rfl rfl rfl rfl rfl rfl (by omega) ?_)|(with_reducible first|refine zI ?_|refine zB ?_|refine zD ?_|refine zA ?_|refine zb ?_|refine zP ?_|refine zd ?_|refine zk ?_|refine zA3 ?_)|((with_reducible refine zJ ?_ ?_);(· exact rfl))|((with_reducible refine zF ?_ ?_);(· exact rfl))))
       all_goals first|(refine zT (by (exact zO.cons (by exact zq.tmp rfl) zO.nil)) () trivial ?_ (fun _ h=>h.sub (by (repeat (first|exact oK1 _|(refine oK2 (by (repeat (first|exact tK1 _ _|apply tK2))) ?_)))));refine congrArg Value.bool (hno ?_);rw [hro];refine and_no ?_;first|(refine .inl (all_no hx ?_);assumption)|(refine .inr (zLu (k:=k - 1) (by omega) ?_);rw [show k - 1+1=k by omega,e1,e2];omega))|skip
       all_goals exact zc (k+1) ⟨by omega,fun k' h1=>by
        by_cases e:k'=k
        ·subst e;rw [e1,e2];exact ⟨by first|assumption|(rw [zAA];omega),.inr (by omega)⟩
        ·exact hris k' (by omega)⟩ (by omega) (by (first|exact lK1|(repeat (first|exact lK1|(refine zL rfl ?_))))) (by (repeat (first|exact oK1 _|(refine oK2 (by (repeat (first|exact tK1 _ _|apply tK2))) ?_))))
      ·obtain rfl:k=0:=by omega
       (repeat' (first|((with_reducible refine zG ?_);first|refine zE rfl rfl rfl rfl rfl ?_|(refine zK rfl rfl rfl rfl rfl ?_;refine ⟨_,rfl,?_⟩)|(refine zQ rfl rfl rfl rfl rfl rfl rfl (fun h=>?_) (fun h=>?_)<;>(dsimp only [cmpP] at h;(try (exfalso;omega))))|refine zi rfl rfl rfl rfl rfl rfl rfl (by omega) ?_|refine zr rfl rfl rfl rfl rfl ?_)|(with_reducible first|refine zI ?_|refine zB ?_|refine zD ?_|refine zA ?_|refine zP ?_|refine zN ?_)|((with_reducible refine zJ ?_ ?_);(· exact rfl))))
       all_goals (refine zAv (by kernel_rfl) (by kernel_rfl) (by kernel_rfl) ?_)
       all_goals (repeat' (first|((with_reducible refine zBH ?_);first|refine zW (zAK rfl rfl) rfl rfl rfl ?_|refine zW (zy rfl rfl (by exact rfl)) rfl rfl rfl ?_|refine zW (zAO rfl rfl) rfl rfl rfl ?_|refine zW (zB8 rfl rfl rfl) rfl rfl rfl ?_|refine zBG rfl rfl rfl ?_|(refine zCj rfl rfl rfl rfl rfl rfl rfl (fun h=>?_) (fun h=>?_)<;>(dsimp only [cmpP] at h;(try (exfalso;omega))))|refine zW (zAS (I:=i) rfl rfl rfl (by omega) (by first|omega|(dsimp only;omega))) rfl rfl rfl ?_|refine zW (zAS (I:=0) rfl rfl rfl (by omega) (by first|omega|(dsimp only;omega))) rfl rfl rfl ?_|(refine zH1 rfl rfl rfl rfl rfl rfl (fun _ _ q=>zDb _ _ _ _) (fun h=>?_) (fun h=>?_)<;>(try (exfalso;omega)))|refine zW (zK3 rfl rfl) rfl rfl rfl ?_|refine zW (zEt rfl rfl rfl (IntWalk.i64_in _ (by omega))) rfl rfl rfl ?_|refine zW (zDT rfl rfl) rfl rfl rfl ?_)|(with_reducible refine zBs ?_)))
       all_goals (repeat' (first|((with_reducible refine zG ?_);first|refine zE rfl rfl rfl rfl rfl ?_|refine zC rfl rfl rfl rfl rfl ?_|refine zj rfl rfl rfl rfl rfl rfl (by omega) ?_)|(with_reducible first|refine zI ?_|refine zB ?_|refine zD ?_|refine zA ?_|refine zb ?_|refine zP ?_|refine zd ?_|refine zk ?_|refine zA3 ?_)|((with_reducible refine zJ ?_ ?_);(· exact rfl))|((with_reducible refine zF ?_ ?_);(· exact rfl))))
       all_goals first|(refine zT (by (exact zO.cons (by exact zq.tmp rfl) zO.nil)) () trivial ?_ (fun _ h=>h.sub (by (repeat (first|exact oK1 _|(refine oK2 (by (repeat (first|exact tK1 _ _|apply tK2))) ?_)))));refine congrArg Value.bool (hno ?_);rw [hro];refine and_no ?_;refine .inl (all_no hx ?_);assumption)|skip
       all_goals exact zc (0+1) ⟨by omega,fun k' h1=>by
        obtain rfl:k'=0:=by omega
        rw [e1];exact ⟨by first|assumption|(rw [zAA];omega),.inl rfl⟩⟩ (by omega) (by (first|exact lK1|(repeat (first|exact lK1|(refine zL rfl ?_))))) (by (repeat (first|exact oK1 _|(refine oK2 (by (repeat (first|exact tK1 _ _|apply tK2))) ?_))))
     ·(repeat' (first|((with_reducible refine zG ?_);first|refine zE rfl rfl rfl rfl rfl ?_|refine zC rfl rfl rfl rfl rfl ?_|(refine zK rfl rfl rfl rfl rfl ?_;refine ⟨_,rfl,?_⟩)|(refine zQ rfl rfl rfl rfl rfl rfl rfl (fun h=>?_) (fun h=>?_)<;>(dsimp only [cmpP] at h;(try (exfalso;omega))))|refine zj rfl rfl rfl rfl rfl rfl (by omega) ?_|refine zi rfl rfl rfl rfl rfl rfl rfl (by omega) ?_|refine zr rfl rfl rfl rfl rfl ?_)|(with_reducible first|refine zI ?_|refine zB ?_|refine zD ?_|refine zA ?_|refine zn ?_|refine zk ?_|refine zR ?_|refine zY ?_)|((with_reducible refine zF ?_ ?_);(· exact rfl))))
      have ha9:xs.all (inB 0 ((c.beds.length:Int) - 1))=true:=zGE (fun j z hj hz=>by have:=(hris j (by omega)).1;rwa [zAW hz] at this)
      have hr9:zD4 xs=true:=zCq.2 (fun k' h=>by
       rcases (hris (k'+1) (by omega)).2 with h9|h9
       ·omega
       ·simpa using h9)
      exact zc (i+1) ⟨by omega,hyes (by rw [hro,hr9,ha9];simp_all)⟩ (by omega) (by (first|exact lK1|(repeat (first|exact lK1|(refine zL rfl ?_))))) (by (repeat (first|exact oK1 _|(refine oK2 (by (repeat (first|exact tK1 _ _|apply tK2))) ?_))))
 ·obtain rfl:i=pl.length:=by omega
  (repeat' (first|((with_reducible refine zG ?_);first|refine zE rfl rfl rfl rfl rfl ?_|refine zC rfl rfl rfl rfl rfl ?_|(refine zQ rfl rfl rfl rfl rfl rfl rfl (fun h=>?_) (fun h=>?_)<;>(dsimp only [cmpP] at h;(try (exfalso;omega))))|refine zr rfl rfl rfl rfl rfl ?_)|(with_reducible first|refine zI ?_|refine zB ?_|refine zD ?_|refine zA ?_|refine zb ?_|refine zn ?_|refine zR ?_|refine zY ?_)|((with_reducible refine zF ?_ ?_);(· exact rfl))))
  exact zT (by (exact zO.cons (by exact zq.tmp rfl) zO.nil)) () trivial (by rw [zAc.2 ⟨hlen,fun j u s h1 h2=>hall j u s (List.getElem?_eq_some_iff.1 h2).1 h1 h2⟩];rfl) (fun _ h=>h.sub (by (repeat (first|exact oK1 _|(refine oK2 (by (repeat (first|exact tK1 _ _|apply tK2))) ?_)))))
end Go.Proofs.YtdigopgncfhiaaaGreatDoor
namespace Go.Proofs.YtdigopgncfhiaaaGreatDoor.Two
variable {ro : Option Nat}
open Go.RowKit
set_option maxRecDepth 20000
section
variable {S : List (Nat × Nat)} {I:List (Nat × Nat × Nat × List Ent)} {P:Program} {w0:World} {n:Nat} {d:List Deferred} {R R0:List (Nat × Value)} {H H' H0:List Ent} {Q:Exit→Act→World→Prop} {ops:Array Oper} {bs:List (List Bool)} {b:List Bool} {k:Nat} {o:Oper} {rest:List Oper} {T:List Rw} {t:Tmp} {Hk:zBN→List Ent} {x y:Operand} {v:Value}
theorem zEI {α:Type} {enc:α→List Value} {kk e base m c:Nat} {A:Option Addr} {xs:List α} {H H':List Ent} {w:World} (ho:Own base w H) (ht:Take H (.row enc kk e (.slice A m c) xs) H') [ei:zCc enc kk]:zAB enc kk w A xs:=(ho.zCT ht).here (.sl enc kk A xs) (by simp)
theorem zQB {f:zBN→Value × List Ent} (j:Nat) (hjk:(j,k)∈S) (hkI:keyI I k=false) (hl:Loc b k f) (ht:zO5 S I P w0 n d ops R0 H0 b k o T f (zAD (only j T))) (h:zBm ro S I P w0 n d ops R0 H0 Q bs (k+1) rest (⟨k,o.dst,f⟩::T)):zBm ro S I P w0 n d ops R0 H0 Q (b::bs) k (o::rest) T :=
 .inl ⟨f,hl,.inr (.inl ⟨hkI,j,hjk,ht⟩),h⟩
theorem zQq {f:zBN→Value × List Ent} {E0:List Ent} {lo hi:Nat} (hkE:(k,lo,hi,E0)∈I) (hfree:takes S k=false) (hl:Loc b k f) (ht:zO5 S I P w0 n d ops R0 H0 b k o T f (fun _=>E0)) (h:zBm ro S I P w0 n d ops R0 H0 Q bs (k+1) rest (⟨k,o.dst,f⟩::T)):zBm ro S I P w0 n d ops R0 H0 Q (b::bs) k (o::rest) T :=
 .inl ⟨f,hl,.inr (.inr ⟨hfree,lo,hi,E0,hkE,ht⟩),h⟩
theorem zQC {α:Type} (enc:α→List Value) {kk T1 e s s':Nat} {g g':Bool} {td:TypeDesc} (hop:o.op = .buildSlice T1 0 #[]) [i1:TyI P T1 (.slice e) s g] [i2:TyI P e td s' g'] [ei:zCc enc kk] (hw:∀ G,want (Rk R0 ops b o T G) ops o=some true) (hd:o.dst=some t)
  (h:zBm ro S I P w0 n d ops R0 H0 Q bs (k+1) rest (⟨k,some t,fun G=>(.slice (some ⟨(G k).g,0,none⟩) 0 0,[.row enc kk e (.slice (some ⟨(G k).g,0,none⟩) 0 0) ([]:List α)])⟩::T)):CAt ro S I P w0 n d ops R0 H0 Q b bs k o rest T Hk:=by
 refine zGJ (f:=fun G=>(.slice (some ⟨(G k).g,0,none⟩) 0 0,[.row enc kk e (.slice (some ⟨(G k).g,0,none⟩) 0 0) ([]:List α)])) (fun G G' hG=>by simp only [hG k (.inl rfl)]) (fun G a w q K hK=>?_) (by rw [hd];exact h)
 rw [zBr q (hw G),if_pos rfl]
 have e3:=run_underlying i1.und w
 have e4:=i2.siz w
 have e8:∀ f:Nat→Value,(Array.range 0).map f=#[]:=fun f=>by simp
 have hrun:(Instr.buildSlice T1 0 #[]).run P w = .ok (.slice (some ⟨w.heap.size,0,none⟩) 0 0) (w.alloc (.cells #[] e)):=by
  unfold Instr.buildSlice
  simp only [Sem.run_bind,e3,Result.andThen_ok,e4,Sem.run_ite,show ¬ 0 * s' > 2 ^ 24 by omega,if_false,Sem.run_pure,Nat.zero_mul,if_true,e8,Instr.fill,newRow,run_newObj]
  rfl
 unfold Oper.wp execOp;rw [hop]
 have e9:∀ f:Nat × Operand→Nat × Value,(#[]:Array (Nat × Operand)).map f=#[]:=fun f=>by simp
 simp only [e9,Sem.run_bind,hrun,Result.andThen_ok,Sem.run_pure,Oper.upon_value]
 refine hK _ [.row enc kk e (.slice (some ⟨w.heap.size,0,none⟩) 0 0) ([]:List α)] _ ⟨⟨w.heap.size,none,0⟩,by simp [upW]⟩ (zAQ w (.cells #[] e)) ⟨fun f hf=>?_,fun f hf b hb=>?_,by simp⟩
 ·simp only [List.mem_singleton] at hf
  subst hf
  exact zHy (heap_alloc_new w _)
 ·simp only [List.mem_singleton] at hf
  subst hf
  cases hb
  simp
theorem zHs {α:Type} {enc:α→List Value} {kk e T1 bytes m:Nat} [el:ElI P T1 e kk bytes] [ei:zCc enc kk] {xs:List α} (ys:List α) {A:zBN→Option Addr} {c:zBN→Nat} {vx:zBN→Value} (E0:zBN→List Ent) (hop:o.op = .call { callee:=.builtin .append,args:=#[x,y],argTypes:=#[T1,T1] }) (hw:∀ G,want (Rk R0 ops b o T G) ops o=some true) (hd:o.dst=some t)
  (hx:∀ G,evR (Rk R0 ops b o T G) x=some (vx G)) (hrow:∀ G,E0 G=[.row enc kk e (vx G) xs]) (hy:∀ G,evR (Rk R0 ops b o T G) y=some (.slice (A G) m (c G))) (hm:m=ys.length) (hH:∀ G,see I k++(zAD (fltT (vis S k b) T) G++H0)=Hk G) (hs:∀ G w,Below w0.heap.size w0 w→Own w0.heap.size w (Hk G)→zAB enc kk w (A G) ys) (hl:xs.length+ys.length≤1000000∧bytes≤1000000) :
  zO5 S I P w0 n d ops R0 H0 b k o T (fun G=>(.slice (G k).A (xs++ys).length (G k).m,[.row enc kk e (.slice (G k).A (xs++ys).length (G k).m) (xs++ys)])) E0:=by
 subst hm
 intro G L a w q ho K hK
 rw [zBr q (hw G),if_pos rfl]
 rw [hrow G] at ho
 obtain ⟨z,hE⟩:=el.el
 obtain ⟨i,i1,i2,i3,i4⟩:=hE.info
 have hrow:Row enc kk e 0 w (vx G) xs:=ho.here (.row enc kk e (vx G) xs) (by simp)
 have hsl:=hs G w q.below (by rw [← hH G];exact q.own)
 have hlen:(ys.flatMap enc).length=ys.length * kk:=by
  simp [List.length_flatMap,ei.len,List.map_const',List.sum_replicate_nat]
 have hmul:(xs.length+ys.length) * bytes≤140737488355328:=by
  have:=Nat.mul_le_mul hl.1 hl.2;omega
 have hxv:=q.ev (hx G)
 have hyv:=q.ev (hy G)
 generalize vx G=v at *
 generalize A G=A at *
 generalize c G=c at *
 have key:∃ v' w',(Builtin.append_ #[T1,T1] o.type #[v,.slice A ys.length c]).run P w = .ok v' w'∧Row enc kk e 0 w' v' (xs++ys)∧w.grownBy w' v.ownBlock∧(v'.ownBlock=v.ownBlock∨v'.ownBlock=some w.heap.size):=by
  cases hA:A with
  | none =>
   have hys:ys=[]:=by
    cases ys with
    | nil=>rfl
    | cons y r =>
     obtain ⟨b,o,hb,_⟩:=hsl 0 y (by simp)
     rw [hA] at hb;cases hb
   subst hys hA
   refine ⟨v,w,?_,by simpa using hrow,World.grownBy.refl w _,.inl rfl⟩
   rcases hrow.2 with ⟨rfl,_⟩ | ⟨g,cap,cur,rfl,_,_,hnc,_⟩
   ·simp [Builtin.append_,run_underlying hE.under,sizeOf,typeInfo,i1,Builtin.lenOf,Builtin.firstCells]
   ·simp [Builtin.append_,run_underlying hE.under,sizeOf,typeInfo,i1,Builtin.lenOf,Builtin.firstCells,hnc,storeCells]
  | some ad =>
   subst hA
   obtain ⟨v',w',r1,r2,r3,_,r5⟩:=run_append_own_at (P:=P) w 0 T1 o.type e i z kk bytes hE.under i1 i2 i3 i4 hE.zs hE.pos v xs.length (xs.flatMap enc) hrow ad ys.length c (ys.flatMap enc) hlen
    (fun j u hu=>by
     obtain ⟨i,y,l,hi,hl,rfl⟩:=zKx ei.len ys j u hu
     obtain ⟨b,o,hb,hlt,hc⟩:=hsl i y hi
     cases hb
     have e1:(⟨b,o,none⟩:Addr).add (i * kk+l)=⟨b,o+i * kk+l,none⟩:=by rw [zC1];congr 1;omega
     rw [e1];exact hc l u hl)
    (fun u hu=>by
     obtain ⟨y,_,hy'⟩:=List.mem_flatMap.1 hu
     exact ei.one y u hy') (by unfold maxLen;omega) hmul (Nat.zero_le _)
   exact ⟨v',w',r1,by unfold Row;simpa using r2,r3,r5⟩
 obtain ⟨v',w',k1,k2,k3,k4⟩:=key
 obtain ⟨A',c',rfl⟩:=k2.form
 unfold Oper.wp execOp
 simp only [hop,resolve,invoke,builtin,Sem.run_bind,Sem.run_pure,Result.andThen_ok,List.map_toArray,List.map_cons,List.map_nil,hxv,hyv,k1,Oper.upon_value]
 have hfoot:∀ b,v.ownBlock=some b→w0.heap.size≤b∧b<w.heap.size:=fun b hb=>ho.foot (.row enc kk e v xs) (by simp) b hb
 refine hK (.slice A' (xs++ys).length c') [.row enc kk e (.slice A' (xs++ys).length c') (xs++ys)] _ ⟨⟨0,A',c'⟩,by simp only [upW,if_true]⟩ ?_ ?_
 ·exact q.below.trans ⟨k3.os,k3.tape,k3.output,k3.size,fun b hb=>k3.block b (by have:=q.base;omega) (fun e=>by have:=(hfoot b e.symm).1;omega)⟩
 ·refine ho.turn k3.size (fun b hb hn=>k3.block b hb (fun e=>hn e.symm)) q.base k2 (fun b hb=>?_)
  have hb':(Value.slice A' (xs++ys).length c').ownBlock=some b:=hb
  have hlt:=k2.lt b hb'
  rcases k4 with h4|h4
  ·exact ⟨.inl (h4.symm.trans hb'),hlt.2⟩
  ·rw [h4] at hb';cases hb';exact ⟨.inr (Nat.le_refl _),hlt.2⟩
theorem zMg {α:Type} {enc:α→List Value} {kk e T1 bytes m:Nat} [el:ElI P T1 e kk bytes] [ei:zCc enc kk] {xs:List α} (ys:List α) {A:zBN→Option Addr} {c:zBN→Nat} {vx:zBN→Value} (j:Nat) (hjk:(j,k)∈S) (hkI:keyI I k=false) (hop:o.op = .call { callee:=.builtin .append,args:=#[x,y],argTypes:=#[T1,T1] }) (hw:∀ G,want (Rk R0 ops b o T G) ops o=some true) (hd:o.dst=some t)
  (hx:∀ G,evR (Rk R0 ops b o T G) x=some (vx G)) (hrow:∀ G,zAD (only j T) G=[.row enc kk e (vx G) xs]) (hy:∀ G,evR (Rk R0 ops b o T G) y=some (.slice (A G) m (c G))) (hm:m=ys.length) (hH:∀ G,see I k++(zAD (fltT (vis S k b) T) G++H0)=Hk G) (hs:∀ G w,Below w0.heap.size w0 w→Own w0.heap.size w (Hk G)→zAB enc kk w (A G) ys) (hl:xs.length+ys.length≤1000000∧bytes≤1000000)
  (h:zBm ro S I P w0 n d ops R0 H0 Q bs (k+1) rest (⟨k,some t,fun G=>(.slice (G k).A (xs++ys).length (G k).m,[.row enc kk e (.slice (G k).A (xs++ys).length (G k).m) (xs++ys)])⟩::T)):zBm ro S I P w0 n d ops R0 H0 Q (b::bs) k (o::rest) T :=
 zQB (f:=fun G=>(.slice (G k).A (xs++ys).length (G k).m,[.row enc kk e (.slice (G k).A (xs++ys).length (G k).m) (xs++ys)])) j hjk hkI (fun G G' hG=>by simp only [hG k (.inl rfl)]) (zHs ys (zAD (only j T)) hop hw hd hx hrow hy hm hH hs hl) (by rw [hd];exact h)
theorem zD1 {α:Type} {enc:α→List Value} {kk e T1 bytes m:Nat} [el:ElI P T1 e kk bytes] [ei:zCc enc kk] {xs:List α} (ys:List α) {A:zBN→Option Addr} {c:zBN→Nat} {vx:Value} {lo hi:Nat} (hkE:(k,lo,hi,[Ent.row enc kk e vx xs])∈I) (hfree:takes S k=false) (hop:o.op = .call { callee:=.builtin .append,args:=#[x,y],argTypes:=#[T1,T1] }) (hw:∀ G,want (Rk R0 ops b o T G) ops o=some true) (hd:o.dst=some t)
  (hx:∀ G,evR (Rk R0 ops b o T G) x=some vx) (hy:∀ G,evR (Rk R0 ops b o T G) y=some (.slice (A G) m (c G))) (hm:m=ys.length) (hH:∀ G,see I k++(zAD (fltT (vis S k b) T) G++H0)=Hk G) (hs:∀ G w,Below w0.heap.size w0 w→Own w0.heap.size w (Hk G)→zAB enc kk w (A G) ys) (hl:xs.length+ys.length≤1000000∧bytes≤1000000)
  (h:zBm ro S I P w0 n d ops R0 H0 Q bs (k+1) rest (⟨k,some t,fun G=>(.slice (G k).A (xs++ys).length (G k).m,[.row enc kk e (.slice (G k).A (xs++ys).length (G k).m) (xs++ys)])⟩::T)):zBm ro S I P w0 n d ops R0 H0 Q (b::bs) k (o::rest) T :=
 zQq (f:=fun G=>(.slice (G k).A (xs++ys).length (G k).m,[.row enc kk e (.slice (G k).A (xs++ys).length (G k).m) (xs++ys)])) hkE hfree (fun G G' hG=>by simp only [hG k (.inl rfl)]) (zHs (vx:=fun _=>vx) ys (fun _=>[Ent.row enc kk e vx xs]) hop hw hd hx (fun _=>rfl) hy hm hH hs hl) (by rw [hd];exact h)
theorem zO2 {T1:TypeId} {td:TypeDesc} {s off:Nat} {g:Bool} {gx:zBN→Nat} {vy:zBN→Value} {cs:zBN→List Value} {cs':zBN→List Value} (j:Nat) (hjk:(j,k)∈S) (hkI:keyI I k=false) (hop:o.op = .store T1 x y) [i1:TyI P T1 td s g] (hw:∀ G,want (Rk R0 ops b o T G) ops o=some true) (hd:o.dst=none) (hx:∀ G,evR (Rk R0 ops b o T G) x=some (.pointer (some ⟨gx G,off,none⟩))) (hy:∀ G,evR (Rk R0 ops b o T G) y=some (vy G)) (hent:∀ G,zAD (only j T) G=[.blk (gx G) (cs G)])
  (hv:∀ G,Nat.beq (vy G).cells.toList.length s=true) (hv1:∀ G,(vy G).cells.toList.all Value.oneCell'=true) (hl:∀ G,Nat.ble (off+s) (cs G).length=true) (hc:∀ G,put1 (cs G) off (vy G).cells.toList=cs' G) (hg:LocB b k gx) (hcs:LocB b k cs')
  (h:zBm ro S I P w0 n d ops R0 H0 Q bs (k+1) rest (⟨k,none,fun G=>(undef,[.blk (gx G) (cs' G)])⟩::T)):zBm ro S I P w0 n d ops R0 H0 Q (b::bs) k (o::rest) T:=by
 refine zQB (f:=fun G=>(undef,[.blk (gx G) (cs' G)])) j hjk hkI (fun G G' hG=>by simp only [hg.loc G G' hG,hcs.loc G G' hG]) (fun G L a w q ho K hK=>?_) (by rw [hd];exact h)
 rw [hent G] at ho
 refine zRD hop (hw G) hd (hx G) (hy G) (hv G) (hv1 G) (hl G) (hc G) q ho (fun w' hB hO=>?_)
 have:=hK undef [.blk (gx G) (cs' G)] w' ⟨⟨0,none,0⟩,by simp only [hg.up,hcs.up]⟩ hB hO
 rw [hd] at this
 exact this
def zJI (A:Option Addr) (c L s:Nat):Option Addr:=if c=L then A else A.map (·.add (L * s))
theorem zJg {α:Type} {enc:α→List Value} {s' c L M:Nat} {w:World} {A:Option Addr} {xs:List α} (hs:zAB enc s' w A xs) (h1:L≤M) (h2:M≤c):zAB enc s' w (zJI A c L s') ((xs.take M).drop L):=by
 unfold zJI
 by_cases hc:c=L
 ·rw [if_pos hc]
  have hlm:L=M:=by omega
  subst hlm
  rw [List.drop_eq_nil_of_le (by simp;omega)]
  exact zAB.nil
 ·rw [if_neg hc]
  exact hs.part L M
theorem zHA {T1 e:TypeId} {td:TypeDesc} {s s' m c:Nat} {g g':Bool} {A:Option Addr} {lo hi:Option Operand} {l u:Int} (L M:Nat) (hop:o.op = .slice T1 x lo hi none) [i1:TyI P T1 (.slice e) s g] [i2:TyI P e td s' g'] (hx:evR R x=some (.slice A m c))
  (hl:bnd R lo 0=some l) (hu:bnd R hi m=some u) (hL:l=(L:Int)) (hM:u=(M:Int)) (h1:L≤M) (h2:M≤c):Ev P w0 n d R H o (.slice (zJI A c L s') (M - L) (c - L)):=fun a w q=>by
 subst hL hM
 unfold execOp;rw [hop]
 have e1:=run_underlying i1.und w
 have e2:=i2.siz w
 have b1:∀ (r:Nat) (code:BoundsCode) (z:Nat),z≤r→∀ k,(Instr.sliceBound (.int k (z:Int)) r code).run P w = .ok z w:=fun r code z hz k=>by
  simp [Instr.sliceBound,asIntOf,hz]
 have hlo:(∃ k,lo.map a.eval=some (.int k (L:Int)))∨(lo=none∧L=0):=by
  cases lo with
  | none=>simp only [bnd,Option.some.injEq] at hl;exact .inr ⟨rfl,by omega⟩
  | some y =>
   simp only [bnd] at hl
   cases hy:evR R y with
   | none=>rw [hy] at hl;simp at hl
   | some v =>
    rw [hy] at hl
    cases v<;>simp at hl
    rename_i k i
    subst hl
    exact .inl ⟨k,by simp [q.ev hy]⟩
 have hhi:(∃ k,hi.map a.eval=some (.int k (M:Int)))∨(hi=none∧M=m):=by
  cases hi with
  | none=>simp only [bnd,Option.some.injEq] at hu;exact .inr ⟨rfl,by omega⟩
  | some y =>
   simp only [bnd] at hu
   cases hy:evR R y with
   | none=>rw [hy] at hu;simp at hu
   | some v =>
    rw [hy] at hu
    cases v<;>simp at hu
    rename_i k i
    subst hu
    exact .inl ⟨k,by simp [q.ev hy]⟩
 unfold zJI
 rcases hlo with ⟨k1,hlo⟩ | ⟨hlo,rfl⟩<;>rcases hhi with ⟨k2,hhi⟩ | ⟨hhi,rfl⟩ <;>
  simp [Instr.sliceAt,Instr.slice,e1,e2,q.ev hx,Instr.sliceBounds,hlo,hhi,b1,h1,h2]
end
end Go.Proofs.YtdigopgncfhiaaaGreatDoor.Two
