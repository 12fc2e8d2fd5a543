/- H11 -/
import Derived.Test.YtdigopgncfhiaaaGreatDoorH10
import Derived.Test.YtdigopgncfhiaaaGreatDoorH8
import Derived.Test.YtdigopgncfhiaaaGreatDoorH9
import Derived.Test.YtdigopgncfhiaaaGreatDoorH6
import Derived.Scope
set_option linter.unusedSimpArgs false
set_option linter.unusedVariables false
namespace Go.Proofs.YtdigopgncfhiaaaGreatDoor
open Go.RowKit Go.Lib Go.Sort Go.Shelf
set_option maxRecDepth 20000
def cf2 (a b c d:Int):Int:=if Lib.compareInt a c≠0 then Lib.compareInt a c else Lib.compareInt b d
set_option maxHeartbeats 2000000 in
theorem zMO (b1 b2:Nat) (a b c d:Int) (W:World) (h1:W.cell? ⟨b1,0,none⟩=some (.int .i64 a)) (h2:W.cell? ⟨b1,1,none⟩=some (.int .i64 b)) (h3:W.cell? ⟨b2,0,none⟩=some (.int .i64 c)) (h4:W.cell? ⟨b2,1,none⟩=some (.int .i64 d)) :
  Calls Tryz.prog 74 #[.slice (some ⟨b1,0,none⟩) 2 2,.slice (some ⟨b2,0,none⟩) 2 2] W fun e w'=>e = .returned (.int .i64 (cf2 a b c d))∧w'=W:=by
 have hcon:=fun x y W'=>AnyG.cmp_Compare_int cmpInt x y W'
 change ∀ x y W',Calls Tryz.prog 115 _ _ _ at hcon
 unfold cf2
 generalize hr1:Lib.compareInt a c=r1
 have k1:=hcon a c W
 have k2:=hcon b d W
 rw [hr1] at k1
 generalize Lib.compareInt b d=r2 at *
 clear hcon hr1
 go_enter Tryz.func74,Tryz.ntmps74
 go_wp2
 go_loopw [11] (fun v wr=>∃ i:Nat,i≤2∧v = .int .i64 i∧wr=W∧Hid (0<i→r1=0)∧Hid (1<i→r2=0)) (fun v _=>2 - (intOf v).toNat)
 case atStart=>exact ⟨0,Nat.zero_le _,rfl,rfl,fun h=>absurd h (by omega),fun h=>absurd h (by omega)⟩
 case round =>
  obtain ⟨i,hi,rfl,rfl,hF,hF2⟩:=hrel
  by_cases h0:i=0
  ·subst h0
   by_cases hr:r1=0
   ·have HR:=Lib.hid hr
    subst hr
    go_wp2_with (go_at_call 115;refine k1.mono ?_;rintro e w' ⟨rfl,rfl⟩)
    exact ⟨⟨1,by omega,rfl,trivial,fun _=>trivial,fun h=>absurd h (by omega)⟩,by simp [intOf]⟩
   ·have HR:=Lib.hid hr
    go_wp2_with (go_at_call 115;refine k1.mono ?_;rintro e w' ⟨rfl,rfl⟩)
    go_ret
    exact ⟨by simp [HR.out],rfl⟩
  ·by_cases h1:i=1
   ·subst h1
    have hr1:=hF.out (by omega)
    subst hr1
    by_cases hr:r2=0
    ·have HR:=Lib.hid hr
     subst hr
     go_wp2_with (go_at_call 115;refine k2.mono ?_;rintro e w' ⟨rfl,rfl⟩)
     exact ⟨⟨2,by omega,rfl,trivial,fun _=>trivial,fun _=>trivial⟩,by simp [intOf]⟩
    ·have HR:=Lib.hid hr
     go_wp2_with (go_at_call 115;refine k2.mono ?_;rintro e w' ⟨rfl,rfl⟩)
     go_ret
     exact ⟨by simp,rfl⟩
   ·obtain rfl:i=2:=by omega
    have hr1:=hF.out (by omega)
    have hr2:=hF2.out (by omega)
    subst hr1 hr2
    go_wp2
    go_ret
    exact ⟨by simp,rfl⟩
theorem zIK (d:Nat) (a b c e:Int) (w:World):(Op.equalIn (d+2) 75 (.agg #[.int .i64 a,.int .i64 b]) (.agg #[.int .i64 c,.int .i64 e])).run Tryz.prog w = .ok (decide (a=c) && decide (b=e)) w:=by
 have hs:∀ w,(Go.sizeOf 3).run Tryz.prog w = .ok 1 w:=Tryz.sizeOf3
 have ha:∀ w,(Go.isAgg 3).run Tryz.prog w = .ok false w:=Tryz.isAgg3
 have e2:∀ (x y:Int) w,(Op.equalIn (d+1) 3 (.int .i64 x) (.int .i64 y)).run Tryz.prog w = .ok (x == y) w:=fun x y w=>run_equalIn_int w d _ .i64 .i64 _ _ Tryz.underlying3
 rw [Op.equalIn]
 simp only [Sem.run_bind,run_underlying Tryz.underlying75,Result.andThen_ok,hs,Std.Legacy.Range.forIn_eq_forIn_range',Std.Legacy.Range.size,Nat.sub_zero,Nat.add_sub_cancel,Nat.div_one]
 simp only [List.range',List.forIn_cons,List.forIn_nil,Sem.run_bind,part,ha,Result.andThen_ok]
 by_cases h1:a=c<;>by_cases h2:b=e<;>simp [go_sem,h1,h2,e2]
def zH9 (p q:Int × Int):Int:=if p=q then 0 else cf2 p.1 p.2 q.1 q.2
set_option maxHeartbeats 2000000 in
theorem zP7 (p q:Int × Int) (W:World):Calls Tryz.prog 101 #[.agg #[.int .i64 p.1,.int .i64 p.2],.agg #[.int .i64 q.1,.int .i64 q.2]] W fun e w'=>e = .returned (.int .i64 (zH9 p q))∧∃ n os',w'=grow (W.drewN n) os':=by
 obtain ⟨a,b⟩:=p
 obtain ⟨c,d⟩:=q
 have hcon:=fun b1 b2 W h1 h2 h3 h4=>zMO b1 b2 a b c d W h1 h2 h3 h4
 have heq:=fun w=>zIK 9998 a b c d w
 unfold zH9
 generalize hcf:cf2 a b c d=cf at *
 by_cases he:(a,b)=(c,d)
 ·rw [if_pos he]
  rw [show (decide (a=c) && decide (b=d))=true from by cases he;simp] at heq
  clear he hcon
  dsimp only
  go_enter Tryz.func101,Tryz.ntmps101
  go_wp2
  go_ret
  exact ⟨rfl,0,_,by rw [alloc_eq_grow,alloc_eq_grow,grow_grow];rfl⟩
 ·rw [if_neg he]
  rw [show (decide (a=c) && decide (b=d))=false from by simp only [Prod.mk.injEq] at he;simp;omega] at heq
  clear he
  dsimp only
  go_enter Tryz.func101,Tryz.ntmps101
  go_wp2_with fail
  go_quiet (first|(go_at_call 74;exact Calls.quiet_of_same (hcon _ _ _ (by simp [go_sem]) (by simp [go_sem]) (by simp [go_sem]) (by simp [go_sem]))))
  go_wp2
  go_ret
  exact ⟨rfl,nq,_,by rw [alloc_eq_grow,alloc_eq_grow,grow_grow];rfl⟩
theorem zNL (p q:Int × Int):ltOf zH9 p q=true↔(p.1<q.1∨(p.1=q.1∧p.2<q.2)):=by
 obtain ⟨a,b⟩:=p
 obtain ⟨c,d⟩:=q
 unfold ltOf zH9 cf2 Lib.compareInt
 simp only [decide_eq_true_eq,Prod.mk.injEq]
 (repeat' split)<;>omega
theorem zGF (p q:Int × Int):ltOf zH9 p q=false↔¬ (p.1<q.1∨(p.1=q.1∧p.2<q.2)):=by
 rw [← zNL,Bool.not_eq_true]
theorem swoPr : SWO (ltOf zH9) where
 irrefl x:=by rw [zGF];omega
 trans x y z h1 h2:=by rw [zNL] at *;omega
 ntrans x y z h1 h2:=by rw [zGF] at *;omega
theorem totPr (x y:Int × Int) (h1:ltOf zH9 x y=false) (h2:ltOf zH9 y x=false):x=y:=by
 rw [zGF] at h1 h2
 obtain ⟨a,b⟩:=x
 obtain ⟨c,d⟩:=y
 simp only at h1 h2
 simp only [Prod.mk.injEq];omega
def zAc (p:Int × Int):List Value:=[.int .i64 p.1,.int .i64 p.2]
instance : zB8 zAc 2:=⟨fun _=>rfl,fun p v hv=>by simp [zAc] at hv;rcases hv with rfl|rfl<;>rfl⟩
def zEb (l:List (Int × Int)):List (Int × Int):=l.mergeSort fun x y=>!(ltOf zH9) y x
theorem zHn (l:List (Int × Int)):(zEb l).length=l.length:=by simp [zEb]
theorem cmpPr (g off size:Nat) (w:World):CmpLays Tryz.prog 101 #[] zAc 2 zH9 g off size w:=fun _ _ _ _ x y=>zP7 x y _
theorem zIi {n g b:Nat} {d:Array (Int × Int)} {os:Array Obj} {w:World} (hb:b<w.heap.size) (hne:b≠g):(sortWorldK zAc 2 w g 0 n d os).heap[b]?=w.heap[b]?:=by
 unfold sortWorldK grow putRowK putRow mapBlock Sort.ahead
 simp only
 rw [Array.getElem?_append_left (by simpa using hb),Array.getElem?_modify,if_neg (fun h=>hne h.symm)]
theorem zJJ {n g:Nat} {d:Array (Int × Int)} {os:Array Obj} {w:World}:w.heap.size≤(sortWorldK zAc 2 w g 0 n d os).heap.size:=by
 unfold sortWorldK grow putRowK putRow mapBlock Sort.ahead
 simp
theorem zQm {w:World} {g:Nat} {xs:List (Int × Int)} {tl:List Value} (hB:Blk w g (xs.flatMap zAc++tl).toArray):HoldsK zAc 2 w g 0 xs.toArray:=by
 intro j hj
 have hj2:j<xs.length * 2:=by simpa using hj
 have hq:j / 2<xs.length:=by omega
 obtain ⟨z,hz⟩:∃ z,xs[j / 2]?=some z:=⟨_,List.getElem?_eq_getElem hq⟩
 refine ⟨?_,hB.frozen _⟩
 rw [hB.cell,get_flatK _ _ _ _ (by simpa using hj2)]
 have e1:(xs.toArray[j / 2]!)=z:=by
  rw [getElem!_pos _ _ (by simpa using hq)]
  simpa [List.getElem?_eq_getElem hq] using hz
 rw [e1]
 have hm:j % 2<(zAc z).length:=by show j % 2<2;omega
 have h1:=zGP (k:=2) (enc:=zAc) (fun _=>rfl) xs (j / 2) z hz (j % 2) _ (List.getElem?_eq_getElem hm)
 rw [show j / 2 * 2+j % 2=j by omega] at h1
 rw [getElem!_pos (zAc z) (j % 2) hm]
 simp only [Nat.zero_add,List.getElem?_toArray]
 rw [List.getElem?_append_left (List.getElem?_eq_some_iff.1 h1).1]
 exact h1
theorem zLs {w:World} {g:Nat} {ys:List (Int × Int)} (hg:g<w.heap.size) (h:HoldsK zAc 2 w g 0 ys.toArray):zp zAc 2 w (some ⟨g,0,none⟩) ys:=by
 intro i x hx
 have hi:=(List.getElem?_eq_some_iff.1 hx).1
 refine ⟨g,0,rfl,hg,fun j v hv=>?_⟩
 have hj:j<2:=(List.getElem?_eq_some_iff.1 hv).1
 have h1:=(h (i * 2+j) (by simp;omega)).1
 rw [get_flatK _ _ _ _ (by simp;omega),show (i * 2+j) / 2=i by omega,show (i * 2+j) % 2=j by omega] at h1
 have e1:(ys.toArray[i]!)=x:=by
  rw [getElem!_pos _ _ (by simpa using hi)]
  simpa [List.getElem?_eq_getElem hi] using hx
 rw [e1,getElem!_pos (zAc x) j (show j<(zAc x).length from hj)] at h1
 rw [show 0+i * 2+j=0+(i * 2+j) by omega,h1,← hv,List.getElem?_eq_getElem (show j<(zAc x).length from hj)]
 rfl
set_option maxHeartbeats 1000000 in
theorem zQb (xs:List (Int × Int)) (v:Value) (e:TypeId) (base:Nat) (w:World) (hl:xs.length≤1000000) (ho:Own base w [.row zAc 2 e v xs]) :
  zFU Tryz.prog 100 [v,.func (.func 101) #[] #[]] w [.row zAc 2 e v xs] (fun _:Option Addr × Nat=>.tuple #[]) (fun p=>[.sl zAc 2 p.1 (zEb xs)]) (fun p=>v = .slice p.1 xs.length p.2):=by
 obtain ⟨h1,h2⟩:=(ho.here (.row zAc 2 e v xs) (by simp):Row zAc 2 e 0 w v xs)
 have hf:=ho.foot (.row zAc 2 e v xs) (by simp)
 have hf:=fun b hb=>(hf b hb).2
 by_cases hx:xs.length=0
 ·obtain ⟨A,c,rfl,hA⟩:∃ A c,v = .slice A 0 c∧(∀ g,A=some ⟨g,0,none⟩→g<w.heap.size):=by
   rcases h2 with ⟨rfl,_⟩ | ⟨g,cap,cur,rfl,_,hg,_⟩
   ·exact ⟨none,0,rfl,fun g h=>by cases h⟩
   ·rw [hx];exact ⟨_,_,rfl,fun g' h=>by cases h;exact (Array.getElem?_eq_some_iff.1 hg).1⟩
  have hxs:xs=[]:=List.length_eq_zero_iff.1 hx
  subst hxs
  refine zFU.of ((AnyF.slices_SortFunc_none sortPr A c (.func (.func 101) #[] #[]) w).mono ?_)
  rintro e' w' ⟨rfl,rfl⟩
  refine ⟨(A,c),rfl,rfl,⟨rfl,rfl,rfl,Nat.le_refl _⟩,fun b _ _=>rfl,⟨fun f hf'=>?_,fun f hf' b hb=>?_,by simp⟩,fun b hb=>?_⟩
  ·simp only [List.mem_singleton] at hf';subst hf'
   intro i x hx';simp [zEb] at hx'
  ·simp only [List.mem_singleton] at hf';subst hf'
   obtain ⟨o,hb⟩:=hb
   exact ⟨Nat.zero_le _,by
    rcases h2 with ⟨h,_⟩ | ⟨g,cap,cur,h,_,hg,_⟩
    ·cases h;cases hb
    ·cases h;cases hb;exact (Array.getElem?_eq_some_iff.1 hg).1⟩
  ·obtain ⟨f,hf',hb⟩:=hb
   simp only [List.mem_singleton] at hf';subst hf'
   obtain ⟨o,hb⟩:=hb
   refine .inl ⟨_,List.mem_singleton.2 rfl,?_⟩
   rcases h2 with ⟨h,_⟩ | ⟨g,cap,cur,h,_,hg,_⟩
   ·cases h;cases hb
   ·cases h;cases hb;rfl
 ·rcases h2 with ⟨_,h⟩ | ⟨g,cap,cur,rfl,_,hg,hle,hcap,hsz,htk⟩
  ·exact absurd h hx
  ·have hB:Blk w g (xs.flatMap zAc++cur.toList.drop (xs.length * 2)).toArray:=by
    unfold Blk
    refine ⟨e,?_⟩
    rw [hg,← htk,List.take_append_drop]
   have hH:=zQm hB
   have hlt:=hB.lt
   have hcon:=AnyQ.slices_SortFunc_total sortPr 2 Tryz.isAgg75 Tryz.sizeOf75 zAc (fun _=>rfl) (fun x v hv=>by simp [zAc] at hv;rcases hv with rfl|rfl<;>rfl) zH9 swoPr 101 #[] g 0 cap xs.toArray w (enters_of Tryz.func101 (by kernel_rfl) rfl) (cmpPr g 0 _ w) hH hlt (by simp;omega) totPr
   refine zFU.of (Calls.mono hcon ?_)
   rintro e' w' ⟨rfl,n,os,rfl⟩
   have hE:(xs.toArray.toList.mergeSort fun x y=>!(ltOf zH9) y x)=zEb xs:=rfl
   rw [hE]
   have hk:HoldsK zAc 2 (sortWorldK zAc 2 w g 0 n (zEb xs).toArray os) g 0 (zEb xs).toArray:=by
    unfold sortWorldK
    have h9:=holdsK_putRowK zAc 2 (Sort.ahead w n) g 0 xs.toArray (zEb xs).toArray (holdsK_ahead zAc 2 w n g 0 _ hH) (by simp [zHn])
    exact holdsK_grow zAc 2 _ os g 0 _ (by unfold putRowK putRow mapBlock Sort.ahead;simpa using hlt) h9
   have hsz2:=zJJ (n:=n) (g:=g) (d:=(zEb xs).toArray) (os:=os) (w:=w)
   refine ⟨(some ⟨g,0,none⟩,cap),rfl,rfl,⟨rfl,rfl,rfl,hsz2⟩,fun b hb hne=>zIi hb (fun h=>hne ?_),⟨fun f hf'=>?_,fun f hf' b hb=>?_,by simp⟩,fun b hb=>?_⟩
   ·exact ⟨_,List.mem_singleton.2 rfl,by subst h;rfl⟩
   ·simp only [List.mem_singleton] at hf';subst hf'
    exact zLs (by omega) hk
   ·simp only [List.mem_singleton] at hf';subst hf'
    obtain ⟨o,hb⟩:=hb
    cases hb
    exact ⟨Nat.zero_le _,by omega⟩
   ·obtain ⟨f,hf',hb⟩:=hb
    simp only [List.mem_singleton] at hf';subst hf'
    obtain ⟨o,hb⟩:=hb
    cases hb
    exact .inl ⟨_,List.mem_singleton.2 rfl,rfl⟩
end Go.Proofs.YtdigopgncfhiaaaGreatDoor
namespace Go.Proofs.YtdigopgncfhiaaaGreatDoor
open Go.RowKit Go.Sort
def zDZ (c:Cov) (u:Hour):Int:=if 0<u.runs then c.limit else c.base
def zC5 (t l:Sp):Int:=t.lo - l.hi
def zNx (t l:Sp):Int:=t.hi - l.lo
def Mild (t l:Sp):Prop:=(0≤t.lo∧t.lo≤4000∧0≤t.hi∧t.hi≤4000)∧0≤l.lo∧l.lo≤1650∧0≤l.hi∧l.hi≤1650
def zCb (c:Cov) (pl:List Sli) (en:Sp→Sp→Int) (z:Bed) (i h:Nat):Bool:=decide (en (thickN c pl z i h) (zBs c z (c.hours.getD h default))<zDZ c (c.hours.getD h default))
def zFM (c:Cov) (pl:List Sli) (en:Sp→Sp→Int) (z:Bed) (i k:Nat):List (Int × Int):=((List.range k).filter (zCb c pl en z i)).map fun (h:Nat)=>((h:Int),(i:Int))
theorem zN8 {c:Cov} {pl:List Sli} {en:Sp→Sp→Int} {z:Bed} {i k:Nat}:zFM c pl en z i (k+1)=zFM c pl en z i k++(if zCb c pl en z i k then [((k:Int),(i:Int))] else []):=by
 unfold zFM
 rw [List.range_succ,List.filter_append,List.map_append]
 congr 1
 by_cases h:zCb c pl en z i k=true
 ·simp [h]
 ·simp [h]
theorem zKn {c:Cov} {pl:List Sli} {en:Sp→Sp→Int} {z:Bed} {i k:Nat}:(zFM c pl en z i k).length≤k:=by
 unfold zFM
 rw [List.length_map]
 exact Nat.le_trans (List.length_filter_le _ _) (by simp)
def zCt (c:Cov) (pl:List Sli) (en:Sp→Sp→Int) (m:Nat):List (Int × Int):=(List.range m).flatMap fun i=>zFM c pl en (c.beds.getD i default) i c.hours.length
theorem zJA {c:Cov} {pl:List Sli} {en:Sp→Sp→Int} {m:Nat} {z:Bed} (hz:c.beds[m]?=some z):zCt c pl en (m+1)=zCt c pl en m++zFM c pl en z m c.hours.length:=by
 unfold zCt
 rw [List.range_succ,List.flatMap_append]
 simp only [List.flatMap_cons,List.flatMap_nil,List.append_nil,zBD hz]
theorem zF3 {c:Cov} {pl:List Sli} {en:Sp→Sp→Int}:∀ {m:Nat},m≤c.beds.length→(zCt c pl en m).length≤m * c.hours.length
 | 0,_=>by simp [zCt]
 | m+1,h=>by
  obtain ⟨z,hz⟩:∃ z,c.beds[m]?=some z:=⟨_,List.getElem?_eq_getElem (by omega)⟩
  rw [zJA hz,List.length_append,Nat.succ_mul]
  have:=zF3 (c:=c) (pl:=pl) (en:=en) (m:=m) (by omega)
  have:=zKn (c:=c) (pl:=pl) (en:=en) (z:=z) (i:=m) (k:=c.hours.length)
  omega
def zCj (c:Cov) (pl:List Sli) (en:Sp→Sp→Int):List (Int × Int):=(List.range c.hours.length).flatMap fun h=>((List.range c.beds.length).filter fun i=>zCb c pl en (c.beds.getD i default) i h).map fun (i:Nat)=>((h:Int),(i:Int))
def PrLt (p q:Int × Int):Prop:=p.1<q.1∨(p.1=q.1∧p.2<q.2)
theorem zKp : ∀ {l m:List (Int × Int)},l.Pairwise PrLt→m.Pairwise PrLt→(∀ x,x∈l↔x∈m)→l=m
 | [],[],_,_,_=>rfl
 | [],b::m,_,_,h=>by have:=(h b).2 (by simp);simp at this
 | a::l,[],_,_,h=>by have:=(h a).1 (by simp);simp at this
 | a::l,b::m,h1,h2,h=>by
  obtain ⟨a1,a2⟩:=List.pairwise_cons.1 h1
  obtain ⟨b1,b2⟩:=List.pairwise_cons.1 h2
  have e:a=b:=by
   rcases List.mem_cons.1 ((h a).1 (by simp)) with e|e
   ·exact e
   ·rcases List.mem_cons.1 ((h b).2 (by simp)) with f|f
    ·exact f.symm
    ·have k1:=b1 a e;have k2:=a1 b f
     simp only [PrLt] at k1 k2;omega
  subst e
  rw [zKp a2 b2 (fun x=>?_)]
  constructor
  ·intro hx
   rcases List.mem_cons.1 ((h x).1 (List.mem_cons_of_mem _ hx)) with e|e
   ·subst e;have:=a1 x hx;simp only [PrLt] at this;omega
   ·exact e
  ·intro hx
   rcases List.mem_cons.1 ((h x).2 (List.mem_cons_of_mem _ hx)) with e|e
   ·subst e;have:=b1 x hx;simp only [PrLt] at this;omega
   ·exact e
section
variable {c : Cov} {pl:List Sli} {en:Sp→Sp→Int}
theorem zH1 {z:Bed} {i k:Nat} {p:Int × Int}:p∈zFM c pl en z i k↔∃ h,h<k∧zCb c pl en z i h=true∧p=((h:Int),(i:Int)):=by
 simp only [zFM,List.mem_map,List.mem_filter,List.mem_range]
 constructor
 ·rintro ⟨h,⟨h1,h2⟩,rfl⟩;exact ⟨h,h1,h2,rfl⟩
 ·rintro ⟨h,h1,h2,rfl⟩;exact ⟨h,⟨h1,h2⟩,rfl⟩
theorem zQT {m:Nat} {p:Int × Int}:p∈zCt c pl en m↔∃ i h,i<m∧h<c.hours.length∧zCb c pl en (c.beds.getD i default) i h=true∧p=((h:Int),(i:Int)):=by
 simp only [zCt,List.mem_flatMap,List.mem_range,zH1]
 constructor
 ·rintro ⟨i,h1,h,h2,h3,h4⟩;exact ⟨i,h,h1,h2,h3,h4⟩
 ·rintro ⟨i,h,h1,h2,h3,h4⟩;exact ⟨i,h1,h,h2,h3,h4⟩
theorem zQS {p:Int × Int}:p∈zCj c pl en↔∃ i h,i<c.beds.length∧h<c.hours.length∧zCb c pl en (c.beds.getD i default) i h=true∧p=((h:Int),(i:Int)):=by
 simp only [zCj,List.mem_flatMap,List.mem_range,List.mem_map,List.mem_filter]
 constructor
 ·rintro ⟨h,h1,i,⟨h2,h3⟩,rfl⟩;exact ⟨i,h,h2,h1,h3,rfl⟩
 ·rintro ⟨i,h,h1,h2,h3,rfl⟩;exact ⟨h,h2,i,⟨h1,h3⟩,rfl⟩
theorem zFO (q:Nat→Bool) (k:Nat):((List.range k).filter q).Pairwise (· < ·):=List.Pairwise.filter _ List.pairwise_lt_range
theorem zLm : (zCj c pl en).Pairwise PrLt:=by
 unfold zCj
 rw [List.pairwise_flatMap]
 refine ⟨fun h _=>?_,?_⟩
 ·rw [List.pairwise_map]
  exact (zFO _ _).imp (fun {a b} hab=>.inr ⟨rfl,by simp only;omega⟩)
 ·refine List.pairwise_lt_range.imp (fun {a b} hab=>?_)
  intro x hx y hy
  simp only [List.mem_map] at hx hy
  obtain ⟨i,_,rfl⟩:=hx
  obtain ⟨j,_,rfl⟩:=hy
  exact .inl (by simp only;omega)
theorem zMb {m:Nat}:(zCt c pl en m).Nodup:=by
 unfold zCt List.Nodup
 rw [List.pairwise_flatMap]
 refine ⟨fun i _=>?_,?_⟩
 ·unfold zFM
  rw [List.pairwise_map]
  exact (zFO _ _).imp (fun {a b} hab=>by simp only [ne_eq,Prod.mk.injEq];omega)
 ·refine List.pairwise_lt_range.imp (fun {a b} hab=>?_)
  intro x hx y hy
  obtain ⟨h,_,_,rfl⟩:=zH1.1 hx
  obtain ⟨h',_,_,rfl⟩:=zH1.1 hy
  simp only [ne_eq,Prod.mk.injEq];omega
theorem zHm : zEb (zCt c pl en c.beds.length)=zCj c pl en:=by
 have hp:(zEb (zCt c pl en c.beds.length)).Perm (zCt c pl en c.beds.length):=List.mergeSort_perm _ _
 have hnd:(zEb (zCt c pl en c.beds.length)).Nodup:=hp.nodup_iff.2 zMb
 have hle:(zEb (zCt c pl en c.beds.length)).Pairwise (fun x y=>(!(ltOf zH9) y x)=true):=List.pairwise_mergeSort (fun a b d h1 h2=>by
  simp only [Bool.not_eq_true',zGF] at h1 h2 ⊢;omega) (fun a b=>by
  rw [Bool.or_eq_true]
  simp only [Bool.not_eq_true',zGF];omega) _
 refine zKp ?_ zLm (fun x=>?_)
 ·refine (hle.and hnd).imp (fun {a b} h=>?_)
  obtain ⟨h1,h2⟩:=h
  simp only [Bool.not_eq_true',zGF] at h1
  obtain ⟨a1,a2⟩:=a
  obtain ⟨b1,b2⟩:=b
  simp only [ne_eq,Prod.mk.injEq] at h1 h2
  simp only [PrLt];omega
 ·rw [hp.mem_iff,zQT,zQS]
theorem zP6 (h4:c.beds.length≤20) (h5:c.hours.length≤12):(zCj c pl en).length≤240:=by
 rw [← zHm,zHn]
 have h9:=zF3 (c:=c) (pl:=pl) (en:=en) (m:=c.beds.length) (Nat.le_refl _)
 have h11:c.beds.length * c.hours.length≤20 * 12:=Nat.mul_le_mul (by omega) (by omega)
 omega
end
end Go.Proofs.YtdigopgncfhiaaaGreatDoor
namespace Go.Proofs.YtdigopgncfhiaaaGreatDoor
variable {ro : Option Nat}
open Go.RowKit
set_option maxRecDepth 20000
section
variable {P : Program} {w0:World} {n:Nat} {d:List Deferred} {R:List (Nat × Value)} {H:List Ent} {o:Oper} {x y:Operand} {v u:Value} {T T':TypeId} {k:IntKind} {i j:Int}
theorem zKs {s off:Nat} {g:Bool} {td:TypeDesc} {vs:List Value} (i1:TyI P T td s g) (hv:rdv g (vs.drop off) s=some v) (w:World):(Go.part T vs.toArray off).run P w = .ok v w:=by
 unfold Go.part
 simp only [Sem.run_bind,i1.agg,Result.andThen_ok]
 cases g
 ·simp only [rdv,List.getElem?_drop,Nat.add_zero] at hv
  simp [hv]
 ·unfold rdv at hv
  simp only at hv
  cases hb:Nat.ble s (vs.drop off).length with
  | false=>rw [hb] at hv;cases hv
  | true =>
   rw [hb] at hv
   simp only [cond_true,Option.some.injEq] at hv
   simp only [if_true,Sem.run_bind,i1.siz,Result.andThen_ok,Sem.run_pure,← hv]
   congr 2
   rw [List.extract_toArray]
   simp [List.extract_eq_take_drop]
theorem zNm {e:TypeId} {s s' m I:Nat} {g g':Bool} {td:TypeDesc} {vs:List Value} (hop:o.op = .index T x y) [i1:TyI P T (.array m e) s g] [i2:TyI P e td s' g'] (hx:evR R x=some (.agg vs.toArray)) (hy:evR R y=some (.int k i)) (hI:i=(I:Int)) (hi:I<m) (hv:rdv g' (vs.drop (I * s')) s'=some v):Ev P w0 n d R H o v :=
 (fun a w q=>by
  subst hI
  unfold execOp;rw [hop]
  have e1:=run_underlying i1.und w
  have e2:=i2.siz w
  have e3:=zKs i2 hv w
  have h0:(0:Int)≤I:=by omega
  have h1:(I:Int)<m:=by omega
  simp [q.ev hx,q.ev hy,Instr.index,asIntOf,e1,e2,hi,e3])
theorem e_fieldV {s s' m:Nat} {fs:Array Field} {f:Field} {g g':Bool} {td:TypeDesc} {vs:List Value} (hop:o.op = .field T x m) [i1:TyI P T (.struct fs) s g] (hx:evR R x=some (.agg vs.toArray)) (hf:fs[m]?=some f) (i2:TyI P f.type td s' g') (hv:rdv g' (vs.drop f.offset) s'=some v):Ev P w0 n d R H o v :=
 (fun a w q=>by
  unfold execOp;rw [hop]
  have e1:=run_underlying i1.und w
  have e3:=zKs i2 hv w
  simp [q.ev hx,Instr.field,asAgg,e1,hf,e3])
end
def zCz : List Value:=[.func (.func 180) #[] #[],.func (.func 181) #[] #[],.func (.func 182) #[] #[],.func (.func 183) #[] #[]]
theorem lim1_any (u:Hour) (w:World):Gv Tryz.prog 180 [zEa u] w (.bool true):=by
 unfold Gv zEa
 (refine zJ (n:=3) Tryz.func180 rfl rfl rfl ?_)
 (repeat' (first|((with_reducible refine zF ?_);first|refine zC rfl rfl rfl ?_|(refine zy rfl rfl rfl rfl (fun b=>?_)))|(with_reducible first|refine zH ?_|refine zB ?_|refine zD ?_|refine zA ?_|refine zW ?_)))
 all_goals exact zR (by exact rTm rfl) () trivial rfl (fun _ h=>h.sub (by (repeat constructor)))
theorem lim3_any (u:Hour) (w:World):Gv Tryz.prog 182 [zEa u] w (.bool (decide (0<u.runs))):=by
 unfold Gv zEa
 (refine zJ (n:=6) Tryz.func182 rfl rfl rfl ?_)
 (repeat' (first|((with_reducible refine zF ?_);first|refine zC rfl rfl rfl ?_|(refine zL rfl rfl rfl ?_;refine ⟨_,rfl,?_⟩)|refine zb rfl rfl rfl ?_|(refine zQ rfl rfl rfl rfl rfl (fun h=>?_) (fun h=>?_)<;>(dsimp only [cmpP] at h;(try (exfalso;omega))))|(refine zy rfl rfl rfl rfl (fun b=>?_)))|(with_reducible first|refine zH ?_|refine zB ?_|refine zD ?_|refine zA ?_|refine zW ?_)))
 all_goals exact zR (by exact rTm rfl) () trivial (by simp [resV];omega) (fun _ h=>h.sub (by (repeat constructor)))
theorem lim2_any (c:Cov) (A:Option Addr) (ca:Nat) (B:Option Addr) (cb:Nat) (C:Option Addr) (cc:Nat) (w:World):Gv Tryz.prog 181 [zAS c A ca B cb C cc] w (.int .i64 c.base):=by
 unfold Gv zAS zN
 (refine zJ (n:=5) Tryz.func181 rfl rfl rfl ?_)
 (repeat' (first|((with_reducible refine zF ?_);first|refine zC rfl rfl rfl ?_|(refine zL rfl rfl rfl ?_;refine ⟨_,rfl,?_⟩)|refine zb rfl rfl rfl ?_|(refine zy rfl rfl rfl rfl (fun b=>?_)))|(with_reducible first|refine zH ?_|refine zB ?_|refine zD ?_|refine zA ?_|refine zW ?_)))
 all_goals exact zR (by exact rTm rfl) () trivial rfl (fun _ h=>h.sub (by (repeat constructor)))
theorem lim4_any (c:Cov) (A:Option Addr) (ca:Nat) (B:Option Addr) (cb:Nat) (C:Option Addr) (cc:Nat) (w:World):Gv Tryz.prog 183 [zAS c A ca B cb C cc] w (.int .i64 c.limit):=by
 unfold Gv zAS zN
 (refine zJ (n:=5) Tryz.func183 rfl rfl rfl ?_)
 (repeat' (first|((with_reducible refine zF ?_);first|refine zC rfl rfl rfl ?_|(refine zL rfl rfl rfl ?_;refine ⟨_,rfl,?_⟩)|refine zb rfl rfl rfl ?_|(refine zy rfl rfl rfl rfl (fun b=>?_)))|(with_reducible first|refine zH ?_|refine zB ?_|refine zD ?_|refine zA ?_|refine zW ?_)))
 all_goals exact zR (by exact rTm rfl) () trivial rfl (fun _ h=>h.sub (by (repeat constructor)))
set_option maxHeartbeats 1000000 in
theorem zKd (a b:Int) (A:Option Addr) (c:Nat) (w:World) (h:zp encI 1 w A [b]):Gv Tryz.prog 130 [.int .i64 a,.slice A 1 c] w (.int .i64 (max a b)):=by
 obtain ⟨bb,o,rfl,hblt,hc⟩:=h.at_ (i:=0) (by simp)
 have:InS w bb o encI 1 [b]:=⟨h⟩
 have:zAQ [b] 0 b:=⟨rfl⟩
 unfold Gv
 (refine zJ (n:=18) Tryz.func130 rfl rfl rfl ?_)
 (repeat' (first|((with_reducible refine zF ?_);first|refine zE rfl rfl rfl ?_|refine zC rfl rfl rfl ?_|refine zq rfl rfl rfl ?_)|(with_reducible first|refine zH ?_|refine zB ?_|refine zD ?_|refine zA ?_|refine zP ?_)))
 refine zw (ι:=Nat) [7,8] rfl (fun i=>i≤1) (fun i=>[(9,.int .i64 (i:Int)),(0,.int .i64 (if i=0 then a else max a b))]) (fun _=>[]) (fun i=>1 - i) 0 (by omega) (by (repeat first|exact lK1|refine zI rfl ?_)) (by (repeat constructor)) ?_
 rintro i hi
 simp only [zA1,List.cons_append,List.nil_append]
 by_cases h0:i=0
 ·subst h0
  simp only [if_true]
  (repeat' (first|((with_reducible refine zF ?_);first|refine zE rfl rfl rfl ?_|refine zC rfl rfl rfl ?_|(refine zL rfl rfl rfl ?_;refine ⟨_,rfl,?_⟩)|(refine zQ rfl rfl rfl rfl rfl (fun h=>?_) (fun h=>?_)<;>(dsimp only [cmpP] at h;(try (exfalso;omega))))|refine zi rfl rfl rfl rfl (by omega) ?_|refine zk rfl rfl rfl rfl rfl (by omega) ?_|refine zKl rfl rfl rfl rfl ?_)|(with_reducible first|refine zH ?_|refine zB ?_|refine zD ?_|refine zA ?_|refine zS ?_|refine zP ?_|refine zg ?_)|((with_reducible refine zK ?_ ?_);(· exact rfl))))
  exact zZ 1 (by omega) (by omega) (by (repeat first|exact lK1|refine zI rfl ?_)) (by (repeat constructor))
 ·obtain rfl:i=1:=by omega
  simp only [Nat.one_ne_zero,if_false]
  (repeat' (first|((with_reducible refine zF ?_);first|refine zE rfl rfl rfl ?_|refine zC rfl rfl rfl ?_|(refine zQ rfl rfl rfl rfl rfl (fun h=>?_) (fun h=>?_)<;>(dsimp only [cmpP] at h;(try (exfalso;omega)))))|(with_reducible first|refine zH ?_|refine zB ?_|refine zD ?_|refine zA ?_|refine zW ?_|refine zl ?_|refine zV ?_|refine zX ?_)|((with_reducible refine zG ?_ ?_);(· exact rfl))))
  exact zR (by exact rTm rfl) () trivial rfl (fun _ h=>h.sub (by (repeat constructor)))
def asksN (c:Cov) (u:Hour):Nat→Int
 | 0=>0
 | 1=>max 0 c.base
 | _=>if 0<u.runs then max (max 0 c.base) c.limit else max 0 c.base
theorem asks_eq {c:Cov} {u:Hour} (hf:zD5 c):asksN c u 2=zDZ c u:=by
 have h1:=hf.limit;have h2:=hf.base
 simp only [zAB] at h1 h2
 simp only [asksN,zDZ];split<;>omega
set_option maxHeartbeats 2000000 in
theorem zLK (c:Cov) (A:Option Addr) (ca:Nat) (B:Option Addr) (cb:Nat) (C:Option Addr) (cc g:Nat) (u:Hour) (w:World) (hr:InC w g 0 (zN c A ca B cb C cc)) (hG:InC w 0 0 zCz) (hf:zD5 c) :
  Gv Tryz.prog 99 [.pointer (some ⟨g,0,none⟩),zEa u] w (.int .i64 (zDZ c u)):=by
 have k1:=fun W=>lim1_any u W
 have k3:=fun W=>lim3_any u W
 have k2:=fun W=>lim2_any c A ca B cb C cc W
 have k4:=fun W=>lim4_any c A ca B cb C cc W
 have hmax:=fun (a b:Int) (A:Option Addr) (c:Nat) (w:World) (h:zp encI 1 w A [b])=>zKd a b A c w h
 rw [← asks_eq hf]
 unfold zEa at k1 k3
 unfold zAS at k2 k4
 unfold zN at hr k2 k4
 unfold zCz at hG
 unfold Gv zEa
 (refine zJ (n:=28) Tryz.func99 rfl rfl rfl ?_)
 (repeat' (first|((with_reducible refine zF ?_);first|refine zE rfl rfl rfl ?_|refine zC rfl rfl rfl ?_|(refine zL rfl rfl rfl ?_;refine ⟨_,rfl,?_⟩)|(refine zy rfl rfl rfl rfl (fun b=>?_)))|(with_reducible first|refine zH ?_|refine zB ?_|refine zD ?_|refine zA ?_|refine zP ?_)))
 refine zw (ι:=Nat) [0,3,8] rfl (fun i=>i≤2) (fun i=>[(9,.int .i64 (i:Int)),(5,.int .i64 (asksN c u i))]) (fun _=>[.blk b (zAD u)]) (fun i=>2 - i) 0 (by omega) (by (repeat first|exact lK1|refine zI rfl ?_)) (by (repeat constructor)) ?_
 rintro i hi
 simp only [zA1,List.cons_append,List.nil_append]
 unfold zAD
 by_cases h0:i=0
 ·subst h0
  (repeat' (first|((with_reducible refine zF ?_);first|(refine zL rfl rfl rfl ?_;refine ⟨_,rfl,?_⟩)|refine zb rfl rfl rfl ?_|(refine zQ rfl rfl rfl rfl rfl (fun h=>?_) (fun h=>?_)<;>(dsimp only [cmpP] at h;(try (exfalso;omega))))|refine zAN rfl (zNm (I:=0) rfl rfl rfl rfl (by decide) rfl) ?_|refine zY rfl rfl rfl rfl (fun _ _ q=>k1 _) ?_|(refine za rfl rfl rfl rfl rfl ?_;refine ⟨rfl,by first|decide|exact Nat.le_of_ble_eq_true rfl|(simp;omega),_,rfl,?_⟩)|(refine zh rfl rfl (fun b=>?_)))|(with_reducible first|refine zH ?_|refine zB ?_|refine zD ?_|refine zA ?_|refine zS ?_|refine zP ?_)|((with_reducible refine zK ?_ ?_);(· exact rfl))))
  (refine Two.zAV [] [] [] rfl (show ([]:List Nat).Nodup by decide) (fun _ h=>h) (by kernel_rfl) [[],[Y],[Z,Y],[Y,Y,Y],[Z,Y,Y,Y],[Z,Z,Y,Y,Y],[Z,Z,Z,Y,Y,Y],[Z,Z,Z,Z,Z,Z,Y],[Z,Z,Z,Z,Z,Z,Z,Y],[Z,Z,Z,Z,Z,Z,Z,Z,Z],[Z,Z,Z,Z,Z,Z,Z,Z,Z,Z]] (by kernel_rfl) (by kernel_rfl) (by kernel_rfl) (by kernel_rfl) (by kernel_rfl) ?_)
  (repeat' (first|(((with_reducible refine Two.zCC ?_ ?_);(· exact rfl);refine ⟨_,fun G=>(by (try simp (decide:=true) only [Two.vis,Two.see,fltT,zm,Nat.reduceAdd,Nat.reduceSub,if_true,if_false,List.set_cons_zero,List.set_cons_succ,List.set_nil,List.nil_append,List.cons_append]);rfl),?_⟩);first|refine Two.zU _ (fun _=>zAO rfl rfl) (fun _=>rfl) rfl (by intro G G' h;simp (decide:=true) only [h]) ?_|refine Two.zU _ (fun _=>zu rfl rfl (by exact rfl)) (fun _=>rfl) rfl (by intro G G' h;simp (decide:=true) only [h]) ?_|(refine Two.zAC rfl ?_;refine Two.zU _ (fun _=>zAE rfl rfl) (fun _=>rfl) rfl (by intro G G' h;simp (decide:=true) only [h]) ?_)|refine Two.zU _ (fun _=>zBr rfl rfl) (fun _=>rfl) rfl (by intro G G' h;simp (decide:=true) only [h]) ?_|refine Two.zB1 _ rfl (fun _=>rfl) rfl (fun _=>rfl) (fun _=>rfl) (fun _ _ _ q=>k2 _) (by intro G G' h;simp (decide:=true) only [h]) ?_|refine Two.zB1 _ rfl (fun _=>rfl) rfl (fun _=>rfl) (fun _=>rfl) (fun _ _ _ q=>hmax _ _ _ _ _ (zAg (enc:=encI) (by exact rfl) _ q.below q.own)) (by intro G G' h;simp (decide:=true) only [h]) ?_|refine Two.zU _ (fun _=>zAJ rfl rfl) (fun _=>rfl) rfl (by intro G G' h;simp (decide:=true) only [h]) ?_|refine Two.zB2 rfl (fun _=>rfl) rfl (fun _=>rfl) (by exact rfl) (by exact fun _=>rfl) (by intro G G' h;simp (decide:=true) only [h]) ?_)|(with_reducible refine Two.zKH ?_)))
  (intro G;simp only [regsT,zm,Two.zAq,Two.ini,List.nil_append,List.cons_append])
  (repeat' (first|((with_reducible refine zF ?_);first|refine zE rfl rfl rfl ?_|refine zi rfl rfl rfl rfl (by omega) ?_)|(with_reducible first|refine zB ?_|refine zD ?_|refine zA ?_|refine zg ?_)))
  exact zZ 1 (by omega) (by omega) (by (repeat first|exact lK1|refine zI rfl ?_)) (by (repeat constructor))
 ·by_cases h1:i=1
  ·subst h1
   (repeat' (first|((with_reducible refine zF ?_);first|refine zE rfl rfl rfl ?_|(refine zL rfl rfl rfl ?_;refine ⟨_,rfl,?_⟩)|refine zb rfl rfl rfl ?_|(refine zQ rfl rfl rfl rfl rfl (fun h=>?_) (fun h=>?_)<;>(dsimp only [cmpP] at h;(try (exfalso;omega))))|refine zAN rfl (zNm (I:=1) rfl rfl rfl rfl (by decide) rfl) ?_|(refine zAG rfl rfl rfl rfl (fun _ _ q=>k3 _) (fun h=>?_) (fun h=>?_))|refine zi rfl rfl rfl rfl (by omega) ?_|(refine za rfl rfl rfl rfl rfl ?_;refine ⟨rfl,by first|decide|exact Nat.le_of_ble_eq_true rfl|(simp;omega),_,rfl,?_⟩)|(refine zh rfl rfl (fun b=>?_)))|(with_reducible first|refine zH ?_|refine zB ?_|refine zD ?_|refine zA ?_|refine zS ?_|refine zP ?_|refine zg ?_)|((with_reducible refine zK ?_ ?_);(· exact rfl))|((with_reducible refine zG ?_ ?_);(· exact rfl))))
   ·(refine Two.zAV [] [] [] rfl (show ([]:List Nat).Nodup by decide) (fun _ h=>h) (by kernel_rfl) [[],[Y],[Z,Y],[Y,Y,Y],[Z,Y,Y,Y],[Z,Z,Y,Y,Y],[Z,Z,Z,Y,Y,Y],[Z,Z,Z,Z,Z,Z,Y],[Z,Z,Z,Z,Z,Z,Z,Y],[Z,Z,Z,Z,Z,Z,Z,Z,Z],[Z,Z,Z,Z,Z,Z,Z,Z,Z,Z]] (by kernel_rfl) (by kernel_rfl) (by kernel_rfl) (by kernel_rfl) (by kernel_rfl) ?_)
    (repeat' (first|(((with_reducible refine Two.zCC ?_ ?_);(· exact rfl);refine ⟨_,fun G=>(by (try simp (decide:=true) only [Two.vis,Two.see,fltT,zm,Nat.reduceAdd,Nat.reduceSub,if_true,if_false,List.set_cons_zero,List.set_cons_succ,List.set_nil,List.nil_append,List.cons_append]);rfl),?_⟩);first|refine Two.zU _ (fun _=>zAO rfl rfl) (fun _=>rfl) rfl (by intro G G' h;simp (decide:=true) only [h]) ?_|refine Two.zU _ (fun _=>zu rfl rfl (by exact rfl)) (fun _=>rfl) rfl (by intro G G' h;simp (decide:=true) only [h]) ?_|(refine Two.zAC rfl ?_;refine Two.zU _ (fun _=>zAE rfl rfl) (fun _=>rfl) rfl (by intro G G' h;simp (decide:=true) only [h]) ?_)|refine Two.zU _ (fun _=>zBr rfl rfl) (fun _=>rfl) rfl (by intro G G' h;simp (decide:=true) only [h]) ?_|refine Two.zB1 _ rfl (fun _=>rfl) rfl (fun _=>rfl) (fun _=>rfl) (fun _ _ _ q=>k4 _) (by intro G G' h;simp (decide:=true) only [h]) ?_|refine Two.zB1 _ rfl (fun _=>rfl) rfl (fun _=>rfl) (fun _=>rfl) (fun _ _ _ q=>hmax _ _ _ _ _ (zAg (enc:=encI) (by exact rfl) _ q.below q.own)) (by intro G G' h;simp (decide:=true) only [h]) ?_|refine Two.zU _ (fun _=>zAJ rfl rfl) (fun _=>rfl) rfl (by intro G G' h;simp (decide:=true) only [h]) ?_|refine Two.zB2 rfl (fun _=>rfl) rfl (fun _=>rfl) (by exact rfl) (by exact fun _=>rfl) (by intro G G' h;simp (decide:=true) only [h]) ?_)|(with_reducible refine Two.zKH ?_)))
    (intro G;simp only [regsT,zm,Two.zAq,Two.ini,List.nil_append,List.cons_append])
    (repeat' (first|((with_reducible refine zF ?_);first|refine zE rfl rfl rfl ?_|refine zi rfl rfl rfl rfl (by omega) ?_)|(with_reducible first|refine zB ?_|refine zD ?_|refine zA ?_|refine zg ?_)))
    have e:asksN c u 2=max (asksN c u 1) c.limit:=by simp only [decide_eq_true_eq] at h;simp only [asksN,if_pos h]
    exact zZ 2 (by omega) (by omega) (by rw [e];(repeat first|exact lK1|refine zI rfl ?_)) (by (repeat constructor))
   ·have e:asksN c u 2=asksN c u 1:=by simp only [decide_eq_false_iff_not] at h;simp only [asksN,if_neg h]
    exact zZ 2 (by omega) (by omega) (by rw [e];(repeat first|exact lK1|refine zI rfl ?_)) (by (repeat constructor))
  ·obtain rfl:i=2:=by omega
   (repeat' (first|((with_reducible refine zF ?_);first|refine zE rfl rfl rfl ?_|refine zC rfl rfl rfl ?_|(refine zQ rfl rfl rfl rfl rfl (fun h=>?_) (fun h=>?_)<;>(dsimp only [cmpP] at h;(try (exfalso;omega)))))|(with_reducible first|refine zH ?_|refine zB ?_|refine zD ?_|refine zA ?_|refine zW ?_|refine zl ?_|refine zV ?_|refine zX ?_)|((with_reducible refine zG ?_ ?_);(· exact rfl))))
   exact zR (by exact rTm rfl) () trivial rfl (fun _ h=>h.sub (by (repeat constructor)))
end Go.Proofs.YtdigopgncfhiaaaGreatDoor
namespace Go.Proofs.YtdigopgncfhiaaaGreatDoor
variable {ro : Option Nat}
open Go.RowKit
theorem zCk {P:Program} {b:Frame} {a:Act} {k:List Item} {cs:List Frame} {w:World} {c:Code}:step P (lone (b.atR a (.code (.scope c)::k)) cs w) = .next (lone (b.atR a (.code c :: .inScope c::k)) cs w) :=
 step_lone_go (by simp [stepG,stepG.exec,Frame.atR])
theorem zKW {P:Program} {b:Frame} {a:Act} {k:List Item} {cs:List Frame} {w:World} {c:Code}:step P (lone (b.atR a (.inScope c::k)) cs w) = .next (lone (b.atR a k) cs w) :=
 step_lone_go (by simp [stepG,stepG.exec,Frame.atR])
theorem zN4 {F:Fence} {n:Nat} {P:Program} {Q:Exit→Act→World→Prop} {a:Act} {w:World} {c:Code} (h:c.wpIn F n P (Exit.noGoto Q) a w):(Code.scope c).wpIn F n P Q a w:=by
 intro b k cs hro hb hr
 have h0:(lone (b.atR a (.code (.scope c)::k)) cs w).fenced P F:=fenced_calm hb hr rfl
 obtain ⟨e,a₁,w₁,hq,harr⟩:=h b (.inScope c::k) cs hro hb hr
 cases e with
 | normal=>exact ⟨.normal,a₁,w₁,hq,.head h0 zCk (StepsIn.trans harr (.one (fenced_calm hb hr rfl) zKW))⟩
 | exit id =>
  have hx:exitTo id (.inScope c::k)=exitTo id k:=by simp [exitTo]
  exact ⟨.exit id,a₁,w₁,hq,fun k' hk=>.head h0 zCk (harr.1 k' (by rw [hx];exact hk)),
   fun hr' hk=>let ⟨k₁,h1,h2⟩:=harr.2 hr' (by rw [hx];exact hk);⟨k₁,h1,.head h0 zCk h2⟩⟩
 | goto l=>exact hq.elim
 | ret=>exact ⟨_,a₁,w₁,hq,.of_steps (.one h0 zCk) harr⟩
 | panic ch=>exact ⟨_,a₁,w₁,hq,.of_steps (.one h0 zCk) harr⟩
 | outgrown=>exact ⟨_,a₁,w₁,hq,.of_steps (.one h0 zCk) harr⟩
section
variable {P : Program} {w0:World} {n:Nat} {d:List Deferred} {R:List (Nat × Value)} {H:List Ent} {Q:Exit→Act→World→Prop}
theorem u_scope {c:Code} (h:U w0 n d R H (c.wpI ro P (Exit.noGoto Q))):U w0 n d R H ((Code.scope c).wpI ro P Q):=fun a w k=>zN4 (h a w k)
theorem zPw (h:U w0 n d R H (Q .normal)):U w0 n d R H (Exit.noGoto Q .normal):=h
end
section
variable {P : Program} {w0:World} {n:Nat} {d:List Deferred} {R:List (Nat × Value)} {H H':List Ent} {Q:Exit→Act→World→Prop} {ops:Array Oper} {rest:List Oper} {o:Oper} {t:Tmp} {x y:Operand}
theorem zBo {T1:TypeId} {ps:Array (Nat × Operand)} {s:Nat} {z:List Value} {qs:List (Nat × Value)} (hop:o.op = .build T1 ps) [i1:TyBA P T1 s z] (hrd:rdy R ops n o=some t) (hp:evp R ps.toList=some qs)
  (h:∃ cs,fillL (fun i=>some (i * s,s)) z qs=some cs∧U w0 n d ((t,.agg cs.toArray)::R) H (wpL ro P ops Q rest)):U w0 n d R H (wpL ro P ops Q (o::rest)):=by
 obtain ⟨cs,hf,h⟩:=h
 exact zAN hrd (fun a w q=>by
  unfold execOp;rw [hop]
  have e1:(ps.map fun (i,x)=>(i,a.eval x)).toList=qs:=by rw [Array.toList_map];exact q.evp hp
  have e2:P.built T1 (ps.map fun (i,x)=>(i,a.eval x)).toList=some cs.toArray:=by
   rw [i1.bui,e1]
   exact fill_eq _ qs z cs hf
  simp only [Sem.run_bind,run_build w T1 _ _ e2,Result.andThen_ok,Sem.run_pure]) h
end
theorem zHq {P:Program} (w:World) {t e:TypeId} (a:Addr) (n c:Nat) (ht:P.underlying t=some (.slice e)):(binOp .eql t (.slice (some a) n c) (.slice none 0 0)).run P w = .ok (.bool false) w:=by
 have:=Lib.run_eql_slice_nil (P:=P) w t e (some a) n c 0 0 ht
 simpa using this
section
variable {P : Program} {w0:World} {n:Nat} {d:List Deferred} {R:List (Nat × Value)} {H H':List Ent} {Q:Exit→Act→World→Prop} {ops:Array Oper} {rest:List Oper} {o:Oper} {t:Tmp} {x y:Operand}
theorem zG4 {T1 T2 e:TypeId} {s m c:Nat} {g:Bool} {A:Addr} (hop:o.op = .binOp .eql T1 x y T2) [i1:TyI P T1 (.slice e) s g] (hrd:rdy R ops n o=some t) (hx:evR R x=some (.slice (some A) m c)) (hy:evR R y=some (.slice none 0 0))
  (h:U w0 n d ((t,.bool false)::R) H (wpL ro P ops Q rest)):U w0 n d R H (wpL ro P ops Q (o::rest)) :=
 u_eql (b:=false) hop hrd hx hy (fun w=>by simp [eqGuard]) (fun w=>zHq w A m c i1.und) (fun h=>by cases h) (fun _=>h)
end
end Go.Proofs.YtdigopgncfhiaaaGreatDoor
namespace Go.Proofs.YtdigopgncfhiaaaGreatDoor
variable {ro : Option Nat}
open Go.RowKit
set_option maxRecDepth 20000
theorem elem_pr : zKS Tryz.prog 36 75 2 16 (.agg #[.int .i64 0,.int .i64 0]) :=
 ⟨by rfl,by exact ⟨_,rfl,rfl,rfl,rfl⟩,by decide,by decide⟩
instance elI_pr : ElI Tryz.prog 36 75 2 16:=⟨⟨_,elem_pr⟩⟩
theorem zHg (t l:Sp) (w:World) (h:Mild t l):Gv Tryz.prog 58 [vSp t,vSp l] w (.int .i64 (zC5 t l)):=by
 obtain ⟨⟨h1,h2,h3,h4⟩,h5,h6,h7,h8⟩:=h
 unfold Gv vSp zC5
 (refine zJ (n:=10) Tryz.func58 rfl rfl rfl ?_)
 (repeat' (first|((with_reducible refine zF ?_);first|refine zC rfl rfl rfl ?_|(refine zL rfl rfl rfl ?_;refine ⟨_,rfl,?_⟩)|refine zb rfl rfl rfl ?_|refine zCi rfl rfl rfl rfl (IntWalk.i64_in _ (by omega)) ?_|(refine zy rfl rfl rfl rfl (fun b=>?_)))|(with_reducible first|refine zH ?_|refine zB ?_|refine zD ?_|refine zA ?_|refine zW ?_)))
 all_goals exact zR (by exact rTm rfl) () trivial rfl (fun _ h=>h.sub (by (repeat constructor)))
theorem best_any (t l:Sp) (w:World) (h:Mild t l):Gv Tryz.prog 59 [vSp t,vSp l] w (.int .i64 (zNx t l)):=by
 obtain ⟨⟨h1,h2,h3,h4⟩,h5,h6,h7,h8⟩:=h
 unfold Gv vSp zNx
 (refine zJ (n:=10) Tryz.func59 rfl rfl rfl ?_)
 (repeat' (first|((with_reducible refine zF ?_);first|refine zC rfl rfl rfl ?_|(refine zL rfl rfl rfl ?_;refine ⟨_,rfl,?_⟩)|refine zb rfl rfl rfl ?_|refine zCi rfl rfl rfl rfl (IntWalk.i64_in _ (by omega)) ?_|(refine zy rfl rfl rfl rfl (fun b=>?_)))|(with_reducible first|refine zH ?_|refine zB ?_|refine zD ?_|refine zA ?_|refine zW ?_)))
 all_goals exact zR (by exact rTm rfl) () trivial rfl (fun _ h=>h.sub (by (repeat constructor)))
section
variable {en : Sp→Sp→Int} {enF:FuncId} [zT Tryz.prog enF]
set_option maxHeartbeats 4000000 in
theorem zGK (hEn:∀ t l W,Mild t l→Gv Tryz.prog enF [vSp t,vSp l] W (.int .i64 (en t l))) (c:Cov) (A:Option Addr) (ca:Nat) (B:Option Addr) (cb:Nat) (C:Option Addr) (cc g:Nat) (pl:List Sli) (P:Option Addr) (cp:Nat) (w:World) (hr:InC w g 0 (zN c A ca B cb C cc)) (hG:InC w 0 0 zCz) (h:zAp w c A B C) (hs:Small c) (hf:zD5 c) (hp:zBJ w P pl) (hrl:∀ s∈pl,s.xs.length≤20) (hpl:pl.length=c.hours.length) :
  Ret Tryz.prog 57 [.pointer (some ⟨g,0,none⟩),.slice P pl.length cp,.func (.func enF) #[] #[]] w (fun p:Option Addr × Nat=>.slice p.1 (zCj c pl en).length p.2) (fun p=>[.sl zAc 2 p.1 (zCj c pl en)]) (fun _=>True):=by
 have h4:=hs.b;have h5:=hs.h
 have hh:=h.h
 have hseq:=fun g1 g2 g3 i z (hz:c.beds[i]?=some z)=>zQ3 c A ca B cb C cc pl P cp i g1 g2 g3 g z w hr h hs hf hp hrl hpl hz
 have hL:=fun W (hW:Below w.heap.size w W) i z j u (hz:c.beds[i]?=some z) (hu:c.hours[j]?=some u)=>zGL c A ca B cb C cc g i j z u W (hr.below hW) (h.below hW) hs hf hz hu
 have hK:=fun W (hW:Below w.heap.size w W) u=>zLK c A ca B cb C cc g u W (hr.below hW) (hG.below hW) hf
 have:=hf.hours
 rw [zAB] at this
 unfold vSp at hL hEn
 unfold zEa at hK
 obtain ⟨bc,oc,rfl,hblt2,hc2⟩:=hh.at_ (show 0<c.hours.length by omega)
 have:InS w bc oc zAD 5 c.hours:=⟨hh⟩
 unfold zN at hr
 (refine zJ (n:=64) Tryz.func57 rfl rfl rfl ?_)
 refine u_dfr0 ?_
 (repeat' (first|((with_reducible refine zF ?_);first|refine zE rfl rfl rfl ?_|refine zC rfl rfl rfl ?_|(refine zL rfl rfl rfl ?_;refine ⟨_,rfl,?_⟩)|refine zb rfl rfl rfl ?_|refine zq rfl rfl rfl ?_|(refine zh rfl rfl (fun b=>?_))|(refine zy rfl rfl rfl rfl (fun b=>?_))|refine zAu rfl rfl rfl ?_)|(with_reducible first|refine zH ?_|refine zB ?_|refine zD ?_|refine zA ?_|refine zP ?_)))
 rename_i b3 b5
 refine zDf zAc 2 75 ?_
 refine u_loopD (ι:=Nat × Value × List Nat) [1,3,5,7,16] rfl (fun q=>q.1≤c.beds.length) (fun q=>dL q.2.2) (fun q=>[(17,.int .i64 (q.1:Int))]) (fun q=>[.row zAc 2 75 q.2.1 (zCt c pl en q.1),.blk b [q.2.1],.blk b5 [.func (.func enF) #[] #[]],.blk b3 [.pointer (some ⟨g,0,none⟩)],.dfr q.2.2]) (fun q=>c.beds.length - q.1) (0,.slice none 0 0,[]) (Nat.zero_le _) rfl (by (repeat first|exact lK1|refine zI rfl ?_)) (by (repeat constructor)) ?_
 rintro ⟨i,v,bs⟩ hi
 simp only at hi
 simp only [zA1,List.cons_append,List.nil_append]
 by_cases hlt:i<c.beds.length
 ·obtain ⟨z,hz⟩:∃ z,c.beds[i]?=some z:=⟨_,List.getElem?_eq_getElem hlt⟩
  (repeat' (first|((with_reducible refine zF ?_);first|refine zE rfl rfl rfl ?_|(refine zQ rfl rfl rfl rfl rfl (fun h=>?_) (fun h=>?_)<;>(dsimp only [cmpP] at h;(try (exfalso;omega))))|(refine za rfl rfl rfl rfl rfl ?_;refine ⟨rfl,by first|decide|exact Nat.le_of_ble_eq_true rfl|(simp;omega),_,rfl,?_⟩)|(refine zh rfl rfl (fun b=>?_)))|(with_reducible first|refine zH ?_|refine zB ?_|refine zD ?_|refine zA ?_|refine zS ?_|refine zP ?_)|((with_reducible refine zK ?_ ?_);(· exact rfl))))
  rename_i b7
  rename Nat=>bi
  refine u_scope ?_
  (repeat' (first|((with_reducible refine zF ?_);first|refine zE rfl rfl rfl ?_|(refine zL rfl rfl rfl ?_;refine ⟨_,rfl,?_⟩)|(refine zAW rfl rfl rfl rfl (fun _ _ q=>zLJ _ i pl P cp _) ?_;rintro ⟨g1,g2,g3⟩ -;dsimp only [List.cons_append,List.nil_append]))|(with_reducible first|refine zH ?_|refine zB ?_|refine zD ?_|refine zA ?_|refine zP ?_|refine u_label ?_)))
  refine zPA (ι:=Value × List (Int × Int)) (α:=Nat × Sp) (gf:=104) (lb:=[.pointer (some ⟨g1,0,none⟩),.pointer (some ⟨g2,0,none⟩),.pointer (some ⟨g3,0,none⟩)]) (bs:=bs) (zCW c A ca B cb (some ⟨bc,oc,none⟩) cc pl P cp g1 g2 g3 g (i:Int)) zFr (zIe c pl z i) (c.hours.length+1) (fun k s=>s.2=zCt c pl en i++zFM c pl en z i (min k c.hours.length)) (fun s=>[.row zAc 2 75 s.1 s.2,.blk bi [.int .i64 (i:Int)],.blk b7 [s.1],.blk b5 [.func (.func enF) #[] #[]],.blk b3 [.pointer (some ⟨g,0,none⟩)]]) (fun _=>true) .ret (v,zCt c pl en i) rfl (by unfold zCW;simp only [List.cons_append,List.nil_append];(repeat constructor)) (by simp [zFM]) (by rw [zEv];omega) (fun k hk=>rfl) (.inl (by rw [zEv])) (fun x=>rfl) (by decide) (.inl rfl) (hseq g1 g2 g3 i z hz) ?_ ?_ ?_
  ·rintro l k x s ⟨⟩ W hk hx hI hrr hrp hW
   simp only at hrr hrp
   subst hrr hrp
   rw [zHU (by omega)] at hx
   cases hx
   obtain ⟨v,xs⟩:=s
   simp only at hI
   simp only [zFr,parR,zCW,vSp,List.cons_append,List.nil_append,if_true]
   (repeat' (first|((with_reducible refine zF ?_);first|refine zC rfl rfl rfl ?_|(refine za rfl rfl rfl rfl rfl ?_;refine ⟨rfl,by first|decide|exact Nat.le_of_ble_eq_true rfl|(simp;omega),_,rfl,?_⟩)|(refine zh rfl rfl (fun b=>?_)))|(with_reducible first|refine zH ?_|refine zB ?_|refine zD ?_|refine zA ?_)))
   refine zLl (by (repeat constructor)) rfl ?_
   (repeat' (first|(with_reducible first|refine zH ?_|refine zP ?_)))
   by_cases hkN:k<c.hours.length
   ·obtain ⟨u,hu⟩:∃ u,c.hours[k]?=some u:=⟨_,List.getElem?_eq_getElem hkN⟩
    have:zAQ c.hours k u:=⟨hu⟩
    have hin:=zG7 (pl:=pl) (i:=i) hf (List.mem_of_getElem? hz) k (by omega)
    have hlin:=zEf hf (List.mem_of_getElem? hz) (List.mem_of_getElem? hu)
    have hE:=fun W=>hEn (thickN c pl z i k) (zBs c z u) W ⟨by omega,by omega⟩
    rw [Nat.min_eq_left (by omega)] at hI
    have hI1:min (k+1) c.hours.length=k+1:=Nat.min_eq_left (by omega)
    have hT:zCb c pl en z i k=decide (en (thickN c pl z i k) (zBs c z u)<zDZ c u):=by unfold zCb;rw [zBD hu]
    have hS:=zN8 (c:=c) (pl:=pl) (en:=en) (z:=z) (i:=i) (k:=k)
    rw [hT] at hS
    have hlen:xs.length≤300:=by
     have h9:=zF3 (c:=c) (pl:=pl) (en:=en) (m:=i) (by omega)
     have h10:=zKn (c:=c) (pl:=pl) (en:=en) (z:=z) (i:=i) (k:=k)
     have h11:i * c.hours.length≤20 * 12:=Nat.mul_le_mul (by omega) (by omega)
     rw [hI,List.length_append];omega
    generalize en (thickN c pl z i k) (zBs c z u)=ev at *
    unfold zAD at *
    (refine zBW (by kernel_rfl) (by kernel_rfl) (by kernel_rfl) ?_)
    (repeat' (first|((with_reducible refine zBy ?_);first|refine zj (zAO rfl rfl) rfl ?_|refine zj (zu rfl rfl (by exact rfl)) rfl ?_|refine zj (zAE rfl rfl) rfl ?_|refine zj (zDw rfl rfl rfl) rfl ?_|(refine zGY rfl rfl rfl rfl rfl (fun h=>?_) (fun h=>?_)<;>(dsimp only [cmpP] at h;(try (exfalso;omega))))|refine zj (zAl (I:=k) rfl rfl rfl (by omega) (by first|omega|(dsimp only;omega))) rfl ?_|refine zFA rfl rfl rfl rfl (fun _ _ q=>hL _ q.below i z k u hz hu) ?_|refine zFA rfl rfl rfl rfl (fun _ _ q=>hE _) ?_|refine zFA rfl rfl rfl rfl (fun _ _ q=>hK _ q.below u) ?_|refine zj (zEu rfl rfl) rfl ?_|refine zj (zAJ rfl rfl) rfl ?_)|(with_reducible refine zCx ?_)))
    ·(repeat' (first|(with_reducible first|refine zA ?_|refine zl ?_|refine zV ?_|refine zX ?_)|((with_reducible refine zK ?_ ?_);(· exact rfl))))
     exact zFX none (.inl ⟨rfl,rfl⟩) rfl (by (repeat constructor)) (v,xs) (by simp only [hI1,hS];rw [if_neg (by simp;omega),List.append_nil];exact hI) hW (fun _ h=>h.sub (by (repeat constructor)))
    ·(repeat' (first|((with_reducible refine zF ?_);first|refine zE rfl rfl rfl ?_|(refine zL rfl rfl rfl ?_;refine ⟨_,rfl,?_⟩)|(refine zA4 (enc:=zAc) [((k:Int),(i:Int))] rfl rfl rfl (by (repeat constructor)) rfl rfl (zAg (by exact rfl)) (by refine ⟨?_,by decide⟩;(try simp only [List.length_append,List.length_cons,List.length_nil]);omega) (fun A' c'=>?_))|(refine zBo rfl rfl rfl ?_;refine ⟨_,rfl,?_⟩)|(refine za rfl rfl rfl rfl rfl ?_;refine ⟨rfl,by first|decide|exact Nat.le_of_ble_eq_true rfl|(simp;omega),_,rfl,?_⟩)|(refine zt rfl rfl rfl ?_;refine ⟨rfl,_,rfl,fun b=>?_⟩))|(with_reducible first|refine zB ?_|refine zD ?_|refine zA ?_|refine zS ?_|refine zg ?_)|((with_reducible refine zG ?_ ?_);(· exact rfl))))
     exact zFX none (.inl ⟨rfl,rfl⟩) rfl (by (repeat constructor)) (Value.slice A' (xs++[((k:Int),(i:Int))]).length c',xs++[((k:Int),(i:Int))]) (by simp only [hI1,hS];rw [if_pos (by simp;omega),← List.append_assoc,← hI]) hW (fun _ h=>h.sub (by (repeat constructor)))
   ·obtain rfl:k=c.hours.length:=by omega
    rw [Nat.min_eq_left (by omega)] at hI
    (refine zBW (by kernel_rfl) (by kernel_rfl) (by kernel_rfl) ?_)
    (repeat' (first|((with_reducible refine zBy ?_);first|refine zj (zAO rfl rfl) rfl ?_|refine zj (zu rfl rfl (by exact rfl)) rfl ?_|refine zj (zAE rfl rfl) rfl ?_|refine zj (zDw rfl rfl rfl) rfl ?_|refine zBv rfl rfl rfl ?_|(refine zGY rfl rfl rfl rfl rfl (fun h=>?_) (fun h=>?_)<;>(dsimp only [cmpP] at h;(try (exfalso;omega))))|refine zj (zEu rfl rfl) rfl ?_|refine zj (zAJ rfl rfl) rfl ?_)|(with_reducible refine zCx ?_)))
    (repeat' (first|(with_reducible first|refine zA ?_|refine zl ?_|refine zV ?_|refine zX ?_)|((with_reducible refine zK ?_ ?_);(· exact rfl))))
    exact zFX none (.inl ⟨rfl,rfl⟩) rfl (by (repeat constructor)) (v,xs) (by simp only [Nat.min_eq_right (Nat.le_succ _)];exact hI) hW (fun _ h=>h.sub (by (repeat constructor)))
  ·intro _ bd s hI
   obtain ⟨v,xs⟩:=s
   simp only [Nat.min_eq_right (Nat.le_succ _),← zJA hz] at hI
   simp only [zCW,List.cons_append,List.nil_append]
   subst hI
   (repeat' (first|(with_reducible first|refine zg ?_)))
   refine zPw ?_
   (repeat' (first|((with_reducible refine zF ?_);first|refine zE rfl rfl rfl ?_|refine zi rfl rfl rfl rfl (by omega) ?_)|(with_reducible first|refine zB ?_|refine zD ?_|refine zA ?_|refine zg ?_)))
   exact u_againD (i+1,v,bd::bs) (by simp only;omega) (by simp only;omega) rfl (by (repeat first|exact lK1|refine zI rfl ?_)) (by (repeat constructor))
  ·intro _ h9;cases h9
 ·obtain rfl:i=c.beds.length:=by omega
  (repeat' (first|((with_reducible refine zF ?_);first|(refine zL rfl rfl rfl ?_;refine ⟨_,rfl,?_⟩)|(refine zQ rfl rfl rfl rfl rfl (fun h=>?_) (fun h=>?_)<;>(dsimp only [cmpP] at h;(try (exfalso;omega)))))|(with_reducible first|refine zH ?_|refine zB ?_|refine zD ?_|refine zA ?_|refine zl ?_|refine zV ?_|refine zX ?_)|((with_reducible refine zG ?_ ?_);(· exact rfl))))
  have hlen:(zCt c pl en c.beds.length).length≤1000000:=by
   have h9:=zF3 (c:=c) (pl:=pl) (en:=en) (m:=c.beds.length) (Nat.le_refl _)
   have h11:c.beds.length * c.hours.length≤20 * 12:=Nat.mul_le_mul (by omega) (by omega)
   omega
  refine zEA [.row zAc 2 75 v (zCt c pl en c.beds.length)] [.blk b [v],.dfr bs] rfl rfl rfl rfl (by (repeat constructor)) (fun _ _ q=>zQb _ v _ _ _ hlen (Own.append.1 q.own).1) ?_
  rintro ⟨A',c'⟩ hv
  simp only at hv
  subst hv
  rw [zHm,List.cons_append,List.nil_append]
  (repeat' (first|((with_reducible refine zF ?_);first|refine zC rfl rfl rfl ?_|(refine zL rfl rfl rfl ?_;refine ⟨_,rfl,?_⟩))|(with_reducible first|refine zH ?_|refine zB ?_|refine zD ?_|refine zA ?_|refine zW ?_)))
  exact zPD (by (repeat constructor)) (by exact rTm rfl) (A',c') trivial (by rw [← zHm (c:=c) (pl:=pl) (en:=en),zHn];rfl) (fun _ h=>h.sub (by (repeat constructor)))
end
end Go.Proofs.YtdigopgncfhiaaaGreatDoor
