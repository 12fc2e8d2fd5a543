/- E27 -/
import Derived.Test.YtdigopgncfhiaaaGreatDoorE23
import Derived.Test.YtdigopgncfhiaaaGreatDoorE22
import Derived.RegionIn
import Derived.Test.YtdigopgncfhiaaaGreatDoorE8
import Derived.Test.YtdigopgncfhiaaaGreatDoorE13
set_option linter.unusedSimpArgs false
set_option linter.unusedVariables false
namespace Go.Proofs.YtdigopgncfhiaaaGreatDoor
open Go.RowKit
set_option linter.unnecessarySimpa false
set_option maxRecDepth 20000
attribute [local go_sem] Oper.semAt_some
set_option maxHeartbeats 4000000 in
theorem zOe (t:List St) (A:Option Addr) (cap i j:Nat) (w:World) (ht:zx zA5 9 w A t) (ho:∀ s∈t,Okay s) (hij:i≤j) (hj:j≤t.length) (hl:t.length≤100) :
  zAp 94 #[vT A t.length cap,.int .i64 i,.int .i64 j] w (.tuple #[vSp (zk t i j),vSp (zAS t i j)]):=by
 unfold zAp vT
 have HT:=Lib.hid ht
 clear ht
 refine (callsIn_wide (n:=10)).1 ?_
 refine callsIn_of_wp_marks Tryz.func94 rfl trivial ?_ rfl
 refine wpIn_wide.2 ?_
 simp only [Tryz.ntmps94,List.size_toArray,List.length_cons,List.length_nil,Nat.reduceAdd,Nat.reduceSub,Array.replicate_succ,Array.replicate_zero,List.push_toArray,List.append_toArray,List.nil_append,List.cons_append]
 go_wp2_with (go_at_call 117;refine (zIU _ _ _ _ _).mono ?_;rintro e w2 ⟨rfl,rfl⟩)
 generalize hW:(((((((w.alloc (.cells #[.slice A t.length cap] 149)).alloc (.cells #[.int .i64 i] 3)).alloc (.cells #[.int .i64 j] 3)).alloc (.cells #[.int .i64 0,.int .i64 0] 28)).alloc (.cells #[.int .i64 0,.int .i64 0] 28)).alloc (.cells #[.slice A t.length cap] 149)).alloc (.cells #[.int .i64 i] 3))=W
 have z1:Blk W (w.heap.size+1) #[.int .i64 i]:=by rw [← hW];(refine zBb ?_;repeat (first|(with_reducible refine zP.zBZ (by first|(simp;done)|(simp;omega)|omega) ?_;(first|rfl|(simp;done)))|(with_reducible refine zP.alloc ?_ _)|(with_reducible refine zP.far ?_ _ (by first|(simp;done)|(simp;omega)|omega))|(with_reducible refine zP.zBA ?_ (by first|(simp;done)|(simp;omega)|omega))|(with_reducible refine zP.drew ?_)|(with_reducible refine zP.drewN ?_ _)|(refine zP.leaf (by assumption) ?_;(first|rfl|(simp;done)))))
 have z2:Blk W (w.heap.size+2) #[.int .i64 j]:=by rw [← hW];(refine zBb ?_;repeat (first|(with_reducible refine zP.zBZ (by first|(simp;done)|(simp;omega)|omega) ?_;(first|rfl|(simp;done)))|(with_reducible refine zP.alloc ?_ _)|(with_reducible refine zP.far ?_ _ (by first|(simp;done)|(simp;omega)|omega))|(with_reducible refine zP.zBA ?_ (by first|(simp;done)|(simp;omega)|omega))|(with_reducible refine zP.drew ?_)|(with_reducible refine zP.drewN ?_ _)|(refine zP.leaf (by assumption) ?_;(first|rfl|(simp;done)))))
 have z3:Blk W (w.heap.size+3) #[.int .i64 0,.int .i64 0]:=by rw [← hW];(refine zBb ?_;repeat (first|(with_reducible refine zP.zBZ (by first|(simp;done)|(simp;omega)|omega) ?_;(first|rfl|(simp;done)))|(with_reducible refine zP.alloc ?_ _)|(with_reducible refine zP.far ?_ _ (by first|(simp;done)|(simp;omega)|omega))|(with_reducible refine zP.zBA ?_ (by first|(simp;done)|(simp;omega)|omega))|(with_reducible refine zP.drew ?_)|(with_reducible refine zP.drewN ?_ _)|(refine zP.leaf (by assumption) ?_;(first|rfl|(simp;done)))))
 have z4:Blk W (w.heap.size+4) #[.int .i64 0,.int .i64 0]:=by rw [← hW];(refine zBb ?_;repeat (first|(with_reducible refine zP.zBZ (by first|(simp;done)|(simp;omega)|omega) ?_;(first|rfl|(simp;done)))|(with_reducible refine zP.alloc ?_ _)|(with_reducible refine zP.far ?_ _ (by first|(simp;done)|(simp;omega)|omega))|(with_reducible refine zP.zBA ?_ (by first|(simp;done)|(simp;omega)|omega))|(with_reducible refine zP.drew ?_)|(with_reducible refine zP.drewN ?_ _)|(refine zP.leaf (by assumption) ?_;(first|rfl|(simp;done)))))
 have z5:Blk W (w.heap.size+5) #[.slice A t.length cap]:=by rw [← hW];(refine zBb ?_;repeat (first|(with_reducible refine zP.zBZ (by first|(simp;done)|(simp;omega)|omega) ?_;(first|rfl|(simp;done)))|(with_reducible refine zP.alloc ?_ _)|(with_reducible refine zP.far ?_ _ (by first|(simp;done)|(simp;omega)|omega))|(with_reducible refine zP.zBA ?_ (by first|(simp;done)|(simp;omega)|omega))|(with_reducible refine zP.drew ?_)|(with_reducible refine zP.drewN ?_ _)|(refine zP.leaf (by assumption) ?_;(first|rfl|(simp;done)))))
 have z6:Blk W (w.heap.size+6) #[.int .i64 i]:=by rw [← hW];(refine zBb ?_;repeat (first|(with_reducible refine zP.zBZ (by first|(simp;done)|(simp;omega)|omega) ?_;(first|rfl|(simp;done)))|(with_reducible refine zP.alloc ?_ _)|(with_reducible refine zP.far ?_ _ (by first|(simp;done)|(simp;omega)|omega))|(with_reducible refine zP.zBA ?_ (by first|(simp;done)|(simp;omega)|omega))|(with_reducible refine zP.drew ?_)|(with_reducible refine zP.drewN ?_ _)|(refine zP.leaf (by assumption) ?_;(first|rfl|(simp;done)))))
 have hB:Below w.heap.size w W:=by rw [← hW];(repeat (first|(with_reducible refine zAZ ?_ _)|(with_reducible refine zAf ?_ (by first|(simp;done)|(simp;omega)|omega))|(with_reducible refine zA4 ?_)|(with_reducible refine below_drewN ?_ _)|(with_reducible assumption)|(with_reducible exact Below.refl _ _)))
 have hs:W.heap.size=w.heap.size+7:=by rw [← hW];simp
 simp only [Nat.add_assoc,Nat.reduceAdd]
 refine (wpIn_wide (n:=10)).1 ?_
 refine zKI (gf:=139) (lb:=#[.pointer (some ⟨w.heap.size+6,0,none⟩),.pointer (some ⟨w.heap.size+5,0,none⟩)]) rfl (enters Tryz.func139 rfl rfl) (zH3 t A cap i _ _ ho (by omega) hl) (fun _=>rfl)
   (fun k W'=>i+k≤j∧Blk W' (w.heap.size+1) #[.int .i64 (i+k:Nat)]∧Blk W' (w.heap.size+2) #[.int .i64 j]∧(∃ x y,Blk W' (w.heap.size+3) #[.int .i64 x,.int .i64 y])∧(∃ x y,Blk W' (w.heap.size+4) #[.int .i64 x,.int .i64 y])∧Blk W' (w.heap.size+5) #[.slice A t.length cap]∧Blk W' (w.heap.size+6) #[.int .i64 i]∧Below w.heap.size w W')
   (fun c k W'=>c = .exit 0∧Blk W' (w.heap.size+3) #[.int .i64 (zk t i j).lo,.int .i64 (zk t i j).hi]∧Blk W' (w.heap.size+4) #[.int .i64 (zAS t i j).lo,.int .i64 (zAS t i j).hi]∧Below w.heap.size w W') ?_ ?_ ?_ ?_ ?_ ?_ ?_
 ·rintro k W1 W2 ⟨hk,h1,h2,⟨x,y,h3⟩,⟨x',y',h4⟩,h5,h6,h7⟩ ho
  exact ⟨hk,h1.off ho (by omega),h2.off ho (by omega),⟨x,y,h3.off ho (by omega)⟩,⟨x',y',h4.off ho (by omega)⟩,h5.off ho (by omega),h6.off ho (by omega),zCh h7 ho hB.size h7.size⟩
 ·rintro c k W1 W2 ⟨rfl,h3,h4,h7⟩ ho
  exact ⟨rfl,h3.off ho (by omega),h4.off ho (by omega),zCh h7 ho hB.size h7.size⟩
 ·rintro k W' ⟨hk,h1,h2,h3,h4,h5,h6,h7⟩
  exact ⟨h6,h5,HT.out.below h7⟩
 ·exact ⟨by omega,z1,z2,⟨0,0,z3⟩,⟨0,0,z4⟩,z5,z6,hB⟩
 ·intro l k W' hk ⟨hkj,h1,h2,⟨x,y,h3⟩,⟨x',y',h4⟩,h5,h6,h7⟩ hsz K hK
  clear hW z1 z2 z3 z4 z5 z6 hB
  unfold vSp
  gi_wp2
  generalize hp:zk t i (i+k)=p
  generalize hq:zAS t i (i+k)=q
  refine hK _ _ ((zGt _ _ hsz).trans (zGt _ _ (by simp;omega))) (fun W2 ho2=>?_)
  clear hK
  have hsz2:=ho2.size
  generalize hX:(W'.alloc (.cells #[.int .i64 p.lo,.int .i64 p.hi] 28)).alloc (.cells #[.int .i64 q.lo,.int .i64 q.hi] 28)=X at ho2 hsz2
  have y8:Blk W2 W'.heap.size #[.int .i64 p.lo,.int .i64 p.hi]:=Blk.off' (by rw [← hX];(refine zBb ?_;repeat (first|(with_reducible refine zP.zBZ (by first|(simp;done)|(simp;omega)|omega) ?_;(first|rfl|(simp;done)))|(with_reducible refine zP.alloc ?_ _)|(with_reducible refine zP.far ?_ _ (by first|(simp;done)|(simp;omega)|omega))|(with_reducible refine zP.zBA ?_ (by first|(simp;done)|(simp;omega)|omega))|(with_reducible refine zP.drew ?_)|(with_reducible refine zP.drewN ?_ _)|(refine zP.leaf (by assumption) ?_;(first|rfl|(simp;done)))))) ho2 (by omega)
  have y9:Blk W2 (W'.heap.size+1) #[.int .i64 q.lo,.int .i64 q.hi]:=Blk.off' (by rw [← hX];(refine zBb ?_;repeat (first|(with_reducible refine zP.zBZ (by first|(simp;done)|(simp;omega)|omega) ?_;(first|rfl|(simp;done)))|(with_reducible refine zP.alloc ?_ _)|(with_reducible refine zP.far ?_ _ (by first|(simp;done)|(simp;omega)|omega))|(with_reducible refine zP.zBA ?_ (by first|(simp;done)|(simp;omega)|omega))|(with_reducible refine zP.drew ?_)|(with_reducible refine zP.drewN ?_ _)|(refine zP.leaf (by assumption) ?_;(first|rfl|(simp;done)))))) ho2 (by omega)
  have y1:Blk W2 (w.heap.size+1) #[.int .i64 (i+k:Nat)]:=Blk.off (by rw [← hX];(refine zBb ?_;repeat (first|(with_reducible refine zP.zBZ (by first|(simp;done)|(simp;omega)|omega) ?_;(first|rfl|(simp;done)))|(with_reducible refine zP.alloc ?_ _)|(with_reducible refine zP.far ?_ _ (by first|(simp;done)|(simp;omega)|omega))|(with_reducible refine zP.zBA ?_ (by first|(simp;done)|(simp;omega)|omega))|(with_reducible refine zP.drew ?_)|(with_reducible refine zP.drewN ?_ _)|(refine zP.leaf (by assumption) ?_;(first|rfl|(simp;done)))))) ho2 (by omega)
  have y2:Blk W2 (w.heap.size+2) #[.int .i64 j]:=Blk.off (by rw [← hX];(refine zBb ?_;repeat (first|(with_reducible refine zP.zBZ (by first|(simp;done)|(simp;omega)|omega) ?_;(first|rfl|(simp;done)))|(with_reducible refine zP.alloc ?_ _)|(with_reducible refine zP.far ?_ _ (by first|(simp;done)|(simp;omega)|omega))|(with_reducible refine zP.zBA ?_ (by first|(simp;done)|(simp;omega)|omega))|(with_reducible refine zP.drew ?_)|(with_reducible refine zP.drewN ?_ _)|(refine zP.leaf (by assumption) ?_;(first|rfl|(simp;done)))))) ho2 (by omega)
  have y3:Blk W2 (w.heap.size+3) #[.int .i64 x,.int .i64 y]:=Blk.off (by rw [← hX];(refine zBb ?_;repeat (first|(with_reducible refine zP.zBZ (by first|(simp;done)|(simp;omega)|omega) ?_;(first|rfl|(simp;done)))|(with_reducible refine zP.alloc ?_ _)|(with_reducible refine zP.far ?_ _ (by first|(simp;done)|(simp;omega)|omega))|(with_reducible refine zP.zBA ?_ (by first|(simp;done)|(simp;omega)|omega))|(with_reducible refine zP.drew ?_)|(with_reducible refine zP.drewN ?_ _)|(refine zP.leaf (by assumption) ?_;(first|rfl|(simp;done)))))) ho2 (by omega)
  have y4:Blk W2 (w.heap.size+4) #[.int .i64 x',.int .i64 y']:=Blk.off (by rw [← hX];(refine zBb ?_;repeat (first|(with_reducible refine zP.zBZ (by first|(simp;done)|(simp;omega)|omega) ?_;(first|rfl|(simp;done)))|(with_reducible refine zP.alloc ?_ _)|(with_reducible refine zP.far ?_ _ (by first|(simp;done)|(simp;omega)|omega))|(with_reducible refine zP.zBA ?_ (by first|(simp;done)|(simp;omega)|omega))|(with_reducible refine zP.drew ?_)|(with_reducible refine zP.drewN ?_ _)|(refine zP.leaf (by assumption) ?_;(first|rfl|(simp;done)))))) ho2 (by omega)
  have y5:Blk W2 (w.heap.size+5) #[.slice A t.length cap]:=Blk.off (by rw [← hX];(refine zBb ?_;repeat (first|(with_reducible refine zP.zBZ (by first|(simp;done)|(simp;omega)|omega) ?_;(first|rfl|(simp;done)))|(with_reducible refine zP.alloc ?_ _)|(with_reducible refine zP.far ?_ _ (by first|(simp;done)|(simp;omega)|omega))|(with_reducible refine zP.zBA ?_ (by first|(simp;done)|(simp;omega)|omega))|(with_reducible refine zP.drew ?_)|(with_reducible refine zP.drewN ?_ _)|(refine zP.leaf (by assumption) ?_;(first|rfl|(simp;done)))))) ho2 (by omega)
  have y6:Blk W2 (w.heap.size+6) #[.int .i64 i]:=Blk.off (by rw [← hX];(refine zBb ?_;repeat (first|(with_reducible refine zP.zBZ (by first|(simp;done)|(simp;omega)|omega) ?_;(first|rfl|(simp;done)))|(with_reducible refine zP.alloc ?_ _)|(with_reducible refine zP.far ?_ _ (by first|(simp;done)|(simp;omega)|omega))|(with_reducible refine zP.zBA ?_ (by first|(simp;done)|(simp;omega)|omega))|(with_reducible refine zP.drew ?_)|(with_reducible refine zP.drewN ?_ _)|(refine zP.leaf (by assumption) ?_;(first|rfl|(simp;done)))))) ho2 (by omega)
  have y7:Below w.heap.size w W2:=zCh (by rw [← hX];(repeat (first|(with_reducible refine zAZ ?_ _)|(with_reducible refine zAf ?_ (by first|(simp;done)|(simp;omega)|omega))|(with_reducible refine zA4 ?_)|(with_reducible refine below_drewN ?_ _)|(with_reducible assumption)|(with_reducible exact Below.refl _ _)))) ho2 (by omega) (by rw [← hX];simp;omega)
  have hXs:X.heap.size=W'.heap.size+2:=by rw [← hX];simp
  clear hX ho2 h1 h2 h3 h4 h5 h6 h7
  obtain ⟨c1,f1,l1⟩:=y1.facts
  obtain ⟨c2,f2,l2⟩:=y2.facts
  obtain ⟨c3,f3,l3⟩:=y3.facts
  obtain ⟨c4,f4,l4⟩:=y4.facts
  obtain ⟨c8,f8,l8⟩:=y8.facts
  obtain ⟨c9,f9,l9⟩:=y9.facts
  have g83:W'.heap.size≠w.heap.size+3:=by omega
  have g84:W'.heap.size≠w.heap.size+4:=by omega
  have g93:W'.heap.size+1≠w.heap.size+3:=by omega
  have g94:W'.heap.size+1≠w.heap.size+4:=by omega
  have hon:On W.heap.size (W.heap.size+2+2) W2 ((((W2.setCell ⟨w.heap.size+3,0,none⟩ (.int .i64 p.lo)).setCell ⟨w.heap.size+3,1,none⟩ (.int .i64 p.hi)).setCell ⟨w.heap.size+4,0,none⟩ (.int .i64 q.lo)).setCell ⟨w.heap.size+4,1,none⟩ (.int .i64 q.hi)) :=
   (((zDp _ _ (by simp;omega)).trans (zDp _ _ (by simp;omega))).trans (zDp _ _ (by simp;omega))).trans (zDp _ _ (by simp;omega))
  by_cases hkj2:i+k=j
  ·have hkj3:(i:Int)+k=j:=by omega
   gi_wp2
   gi_region
   all_goals
    gi_wp2
    refine ⟨⟨hon.os,hon.tape,hon.output,hon.size,hon.block⟩,rfl,?_,?_,?_⟩
    ·rw [← hkj2,hp];(refine zBb ?_;repeat (first|(with_reducible refine zP.zBZ (by first|(simp;done)|(simp;omega)|omega) ?_;(first|rfl|(simp;done)))|(with_reducible refine zP.alloc ?_ _)|(with_reducible refine zP.far ?_ _ (by first|(simp;done)|(simp;omega)|omega))|(with_reducible refine zP.zBA ?_ (by first|(simp;done)|(simp;omega)|omega))|(with_reducible refine zP.drew ?_)|(with_reducible refine zP.drewN ?_ _)|(refine zP.leaf (by assumption) ?_;(first|rfl|(simp;done)))))
    ·rw [← hkj2,hq];(refine zBb ?_;repeat (first|(with_reducible refine zP.zBZ (by first|(simp;done)|(simp;omega)|omega) ?_;(first|rfl|(simp;done)))|(with_reducible refine zP.alloc ?_ _)|(with_reducible refine zP.far ?_ _ (by first|(simp;done)|(simp;omega)|omega))|(with_reducible refine zP.zBA ?_ (by first|(simp;done)|(simp;omega)|omega))|(with_reducible refine zP.drew ?_)|(with_reducible refine zP.drewN ?_ _)|(refine zP.leaf (by assumption) ?_;(first|rfl|(simp;done)))))
    ·(repeat (first|(with_reducible refine zAZ ?_ _)|(with_reducible refine zAf ?_ (by first|(simp;done)|(simp;omega)|omega))|(with_reducible refine zA4 ?_)|(with_reducible refine below_drewN ?_ _)|(with_reducible assumption)|(with_reducible exact Below.refl _ _)))
  ·have hkj3:¬ (i:Int)+k=j:=by omega
   have hl9:j≤100:=by omega
   gi_wp2
   gi_region
   all_goals
    gi_wp2
    refine ⟨⟨hon.os,hon.tape,hon.output,?_,?_⟩,by omega,?_,?_,⟨p.lo,p.hi,?_⟩,⟨q.lo,q.hi,?_⟩,?_,?_,?_⟩
    ·have:=hon.size;simpa using this
    ·intro g h1 h2;exact (Below.heap_setCell _ _ _ _ (by simp;omega)).trans (hon.block g h1 h2)
    ·(refine zBb ?_;repeat (first|(with_reducible refine zP.zBZ (by first|(simp;done)|(simp;omega)|omega) ?_;(first|rfl|(simp [Int.natCast_add,Int.add_assoc];done)))|(with_reducible refine zP.alloc ?_ _)|(with_reducible refine zP.far ?_ _ (by first|(simp;done)|(simp;omega)|omega))|(with_reducible refine zP.zBA ?_ (by first|(simp;done)|(simp;omega)|omega))|(with_reducible refine zP.drew ?_)|(with_reducible refine zP.drewN ?_ _)|(refine zP.leaf (by assumption) ?_;(first|rfl|(simp [Int.natCast_add,Int.add_assoc];done)))))
    ·(refine zBb ?_;repeat (first|(with_reducible refine zP.zBZ (by first|(simp;done)|(simp;omega)|omega) ?_;(first|rfl|(simp;done)))|(with_reducible refine zP.alloc ?_ _)|(with_reducible refine zP.far ?_ _ (by first|(simp;done)|(simp;omega)|omega))|(with_reducible refine zP.zBA ?_ (by first|(simp;done)|(simp;omega)|omega))|(with_reducible refine zP.drew ?_)|(with_reducible refine zP.drewN ?_ _)|(refine zP.leaf (by assumption) ?_;(first|rfl|(simp;done)))))
    ·(refine zBb ?_;repeat (first|(with_reducible refine zP.zBZ (by first|(simp;done)|(simp;omega)|omega) ?_;(first|rfl|(simp;done)))|(with_reducible refine zP.alloc ?_ _)|(with_reducible refine zP.far ?_ _ (by first|(simp;done)|(simp;omega)|omega))|(with_reducible refine zP.zBA ?_ (by first|(simp;done)|(simp;omega)|omega))|(with_reducible refine zP.drew ?_)|(with_reducible refine zP.drewN ?_ _)|(refine zP.leaf (by assumption) ?_;(first|rfl|(simp;done)))))
    ·(refine zBb ?_;repeat (first|(with_reducible refine zP.zBZ (by first|(simp;done)|(simp;omega)|omega) ?_;(first|rfl|(simp;done)))|(with_reducible refine zP.alloc ?_ _)|(with_reducible refine zP.far ?_ _ (by first|(simp;done)|(simp;omega)|omega))|(with_reducible refine zP.zBA ?_ (by first|(simp;done)|(simp;omega)|omega))|(with_reducible refine zP.drew ?_)|(with_reducible refine zP.drewN ?_ _)|(refine zP.leaf (by assumption) ?_;(first|rfl|(simp;done)))))
    ·(refine zBb ?_;repeat (first|(with_reducible refine zP.zBZ (by first|(simp;done)|(simp;omega)|omega) ?_;(first|rfl|(simp;done)))|(with_reducible refine zP.alloc ?_ _)|(with_reducible refine zP.far ?_ _ (by first|(simp;done)|(simp;omega)|omega))|(with_reducible refine zP.zBA ?_ (by first|(simp;done)|(simp;omega)|omega))|(with_reducible refine zP.drew ?_)|(with_reducible refine zP.drewN ?_ _)|(refine zP.leaf (by assumption) ?_;(first|rfl|(simp;done)))))
    ·(refine zBb ?_;repeat (first|(with_reducible refine zP.zBZ (by first|(simp;done)|(simp;omega)|omega) ?_;(first|rfl|(simp;done)))|(with_reducible refine zP.alloc ?_ _)|(with_reducible refine zP.far ?_ _ (by first|(simp;done)|(simp;omega)|omega))|(with_reducible refine zP.zBA ?_ (by first|(simp;done)|(simp;omega)|omega))|(with_reducible refine zP.drew ?_)|(with_reducible refine zP.drewN ?_ _)|(refine zP.leaf (by assumption) ?_;(first|rfl|(simp;done)))))
    ·(repeat (first|(with_reducible refine zAZ ?_ _)|(with_reducible refine zAf ?_ (by first|(simp;done)|(simp;omega)|omega))|(with_reducible refine zA4 ?_)|(with_reducible refine below_drewN ?_ _)|(with_reducible assumption)|(with_reducible exact Below.refl _ _)))
 ·rintro W' ⟨hk,_⟩
  omega
 ·rintro c k W' hk ⟨rfl,h3,h4,h7⟩ hD hsz
  obtain ⟨c3,f3,l3⟩:=h3.facts
  obtain ⟨c4,f4,l4⟩:=h4.facts
  refine wpIn_wide.2 ?_
  go_wp2
  go_region
  all_goals
   go_wp2
   generalize hV:World.drew _=V
   have v3:Blk V (w.heap.size+3) #[.int .i64 (zk t i j).lo,.int .i64 (zk t i j).hi]:=by rw [← hV];(refine zBb ?_;repeat (first|(with_reducible refine zP.zBZ (by first|(simp;done)|(simp;omega)|omega) ?_;(first|rfl|(simp;done)))|(with_reducible refine zP.alloc ?_ _)|(with_reducible refine zP.far ?_ _ (by first|(simp;done)|(simp;omega)|omega))|(with_reducible refine zP.zBA ?_ (by first|(simp;done)|(simp;omega)|omega))|(with_reducible refine zP.drew ?_)|(with_reducible refine zP.drewN ?_ _)|(refine zP.leaf (by assumption) ?_;(first|rfl|(simp;done)))))
   have v4:Blk V (w.heap.size+4) #[.int .i64 (zAS t i j).lo,.int .i64 (zAS t i j).hi]:=by rw [← hV];(refine zBb ?_;repeat (first|(with_reducible refine zP.zBZ (by first|(simp;done)|(simp;omega)|omega) ?_;(first|rfl|(simp;done)))|(with_reducible refine zP.alloc ?_ _)|(with_reducible refine zP.far ?_ _ (by first|(simp;done)|(simp;omega)|omega))|(with_reducible refine zP.zBA ?_ (by first|(simp;done)|(simp;omega)|omega))|(with_reducible refine zP.drew ?_)|(with_reducible refine zP.drewN ?_ _)|(refine zP.leaf (by assumption) ?_;(first|rfl|(simp;done)))))
   have v7:Below w.heap.size w V:=by rw [← hV];(repeat (first|(with_reducible refine zAZ ?_ _)|(with_reducible refine zAf ?_ (by first|(simp;done)|(simp;omega)|omega))|(with_reducible refine zA4 ?_)|(with_reducible refine below_drewN ?_ _)|(with_reducible assumption)|(with_reducible exact Below.refl _ _)))
   have vD:V.heap[W.heap.size]?=some (.deferred (some [])):=by
    rw [← hV]
    exact (Below.heap_setCell _ _ _ _ (by simp;omega)).trans ((Below.heap_setCell _ _ _ _ (by simp;omega)).trans ((Below.heap_setCell _ _ _ _ (by simp;omega)).trans ((Below.heap_setCell _ _ _ _ (by simp;omega)).trans hD)))
   have hvs:W.heap.size<V.heap.size:=(Array.getElem?_eq_some_iff.1 vD).1
   have ho:=zCA V (.deferred none) (lo:=W.heap.size) (hi:=W.heap.size+1) (Nat.le_refl _) (by omega)
   exact zGz vD (zLx rfl rfl (v3.off ho (by omega)) rfl (v4.off ho (by omega))) ⟨rfl,zCh v7 ho hB.size v7.size⟩
end Go.Proofs.YtdigopgncfhiaaaGreatDoor
namespace Go.Proofs.YtdigopgncfhiaaaGreatDoor
open Go.RowKit
set_option maxRecDepth 20000
def zE4 (t:List St) (i j:Int):Bool:=inB 0 t.length i && inB i t.length j
def zEe (t:List St) (i j:Int):Sp:=if valid t && zE4 t i j then zk t i.toNat j.toNat else ⟨0,0⟩
def zGF (t:List St) (i j:Int):Sp:=if valid t && zE4 t i j then zAS t i.toNat j.toNat else ⟨0,0⟩
def errD (t:List St) (i j:Int):Int:=if valid t then (if zE4 t i j then 0 else 2) else 10
end Go.Proofs.YtdigopgncfhiaaaGreatDoor
namespace Go.Proofs.YtdigopgncfhiaaaGreatDoor
open Go.RowKit
set_option maxRecDepth 20000
set_option maxHeartbeats 4000000 in
theorem drop_any (t:List St) (A:Option Addr) (cap:Nat) (i j:Int) (w:World) (ht:zx zA5 9 w A t) (hf:zFb t) (hl:t.length≤1000000) :
  zAp 51 #[vT A t.length cap,.int .i64 i,.int .i64 j] w (.tuple #[vSp (zEe t i j),vSp (zGF t i j),.int .i64 (errD t i j)]):=by
 unfold zAp vT
 have HT:=Lib.hid ht
 clear ht
 have k0:Blk (((w.alloc (.cells #[.slice A t.length cap] 24)).alloc (.cells #[.int .i64 0,.int .i64 0] 28)).alloc (.cells #[.int .i64 0,.int .i64 0] 28)) w.heap.size #[.slice A t.length cap]:=by (refine zBb ?_;repeat (first|(with_reducible refine zP.zBZ (by first|(simp;done)|(simp;omega)|omega) ?_;(first|rfl|(simp;done)))|(with_reducible refine zP.alloc ?_ _)|(with_reducible refine zP.far ?_ _ (by first|(simp;done)|(simp;omega)|omega))|(with_reducible refine zP.zBA ?_ (by first|(simp;done)|(simp;omega)|omega))|(with_reducible refine zP.drew ?_)|(with_reducible refine zP.drewN ?_ _)|(refine zP.leaf (by assumption) ?_;(first|rfl|(simp;done)))))
 have k1:Blk (((w.alloc (.cells #[.slice A t.length cap] 24)).alloc (.cells #[.int .i64 0,.int .i64 0] 28)).alloc (.cells #[.int .i64 0,.int .i64 0] 28)) (w.heap.size+1) #[.int .i64 0,.int .i64 0]:=by (refine zBb ?_;repeat (first|(with_reducible refine zP.zBZ (by first|(simp;done)|(simp;omega)|omega) ?_;(first|rfl|(simp;done)))|(with_reducible refine zP.alloc ?_ _)|(with_reducible refine zP.far ?_ _ (by first|(simp;done)|(simp;omega)|omega))|(with_reducible refine zP.zBA ?_ (by first|(simp;done)|(simp;omega)|omega))|(with_reducible refine zP.drew ?_)|(with_reducible refine zP.drewN ?_ _)|(refine zP.leaf (by assumption) ?_;(first|rfl|(simp;done)))))
 have k2:Blk (((w.alloc (.cells #[.slice A t.length cap] 24)).alloc (.cells #[.int .i64 0,.int .i64 0] 28)).alloc (.cells #[.int .i64 0,.int .i64 0] 28)) (w.heap.size+2) #[.int .i64 0,.int .i64 0]:=by (refine zBb ?_;repeat (first|(with_reducible refine zP.zBZ (by first|(simp;done)|(simp;omega)|omega) ?_;(first|rfl|(simp;done)))|(with_reducible refine zP.alloc ?_ _)|(with_reducible refine zP.far ?_ _ (by first|(simp;done)|(simp;omega)|omega))|(with_reducible refine zP.zBA ?_ (by first|(simp;done)|(simp;omega)|omega))|(with_reducible refine zP.drew ?_)|(with_reducible refine zP.drewN ?_ _)|(refine zP.leaf (by assumption) ?_;(first|rfl|(simp;done)))))
 have hB0:Below w.heap.size w (((w.alloc (.cells #[.slice A t.length cap] 24)).alloc (.cells #[.int .i64 0,.int .i64 0] 28)).alloc (.cells #[.int .i64 0,.int .i64 0] 28)):=by (repeat (first|(with_reducible refine zAZ ?_ _)|(with_reducible refine zAf ?_ (by first|(simp;done)|(simp;omega)|omega))|(with_reducible refine zA4 ?_)|(with_reducible refine below_drewN ?_ _)|(with_reducible assumption)|(with_reducible exact Below.refl _ _)))
 have hd:=zME t A cap _ (HT.out.below hB0) hf hl
 unfold zAp vT at hd
 go_enter Tryz.func51,Tryz.ntmps51
 cases hv:valid t
 ·have hd1:zEe t i j=⟨0,0⟩:=by simp [zEe,hv]
  have hd2:zGF t i j=⟨0,0⟩:=by simp [zGF,hv]
  have hd3:errD t i j=10:=by simp [errD,hv]
  rw [hd1,hd2,hd3]
  have he:zDv t=10:=by simp [zDv,hv]
  rw [he] at hd
  go_wp2_with (go_at_call 93;refine hd.mono ?_;rintro e w1 ⟨rfl,hb1⟩;have x0:=k0.past hb1;have x1:=k1.past hb1;have x2:=k2.past hb1;have hB1:=zAo hB0 hb1;clear hb1;obtain ⟨c0,f0,l0⟩:=x0.facts;obtain ⟨c1,f1,l1⟩:=x1.facts;obtain ⟨c2,f2,l2⟩:=x2.facts)
  refine bodyPost_ret (zD7 (x:=.int .i64 0) (y:=.int .i64 0) (x':=.int .i64 0) (y':=.int .i64 0) rfl rfl ?_ rfl ?_) rfl ⟨rfl,?_⟩
  ·(refine zBb ?_;repeat (first|(with_reducible refine zP.zBZ (by first|(simp;done)|(simp;omega)|omega) ?_;(first|rfl|(simp;done)))|(with_reducible refine zP.alloc ?_ _)|(with_reducible refine zP.far ?_ _ (by first|(simp;done)|(simp;omega)|omega))|(with_reducible refine zP.zBA ?_ (by first|(simp;done)|(simp;omega)|omega))|(with_reducible refine zP.drew ?_)|(with_reducible refine zP.drewN ?_ _)|(refine zP.leaf (by assumption) ?_;(first|rfl|(simp;done)))))
  ·(refine zBb ?_;repeat (first|(with_reducible refine zP.zBZ (by first|(simp;done)|(simp;omega)|omega) ?_;(first|rfl|(simp;done)))|(with_reducible refine zP.alloc ?_ _)|(with_reducible refine zP.far ?_ _ (by first|(simp;done)|(simp;omega)|omega))|(with_reducible refine zP.zBA ?_ (by first|(simp;done)|(simp;omega)|omega))|(with_reducible refine zP.drew ?_)|(with_reducible refine zP.drewN ?_ _)|(refine zP.leaf (by assumption) ?_;(first|rfl|(simp;done)))))
  ·(repeat (first|(with_reducible refine zAZ ?_ _)|(with_reducible refine zAf ?_ (by first|(simp;done)|(simp;omega)|omega))|(with_reducible refine zA4 ?_)|(with_reducible refine below_drewN ?_ _)|(with_reducible assumption)|(with_reducible exact Below.refl _ _)))
 ·have he:zDv t=0:=by simp [zDv,hv]
  rw [he] at hd
  cases h1:zE4 t i j
  ·have hd1:zEe t i j=⟨0,0⟩:=by simp [zEe,h1]
   have hd2:zGF t i j=⟨0,0⟩:=by simp [zGF,h1]
   have hd3:errD t i j=2:=by simp [errD,hv,h1]
   rw [hd1,hd2,hd3]
   cases h2:inB 0 t.length i && inB 0 t.length j
   ·have h3:=Lib.hid h2
    clear h2 h1
    go_wp2_with (first|(go_at_call 93;refine hd.mono ?_;rintro e w1 ⟨rfl,hb1⟩;have x0:=k0.past hb1;have x1:=k1.past hb1;have x2:=k2.past hb1;have hB1:=zAo hB0 hb1;clear hb1;obtain ⟨c0,f0,l0⟩:=x0.facts;obtain ⟨c1,f1,l1⟩:=x1.facts;obtain ⟨c2,f2,l2⟩:=x2.facts)|(go_at_call 84;refine (zLJ _ _ _ _ _ _ _ _ (by simp)).mono ?_;rintro e w2 ⟨rfl,hb2⟩;rw [h3.out];have y1:Blk _ (w.heap.size+1) _:=(Blk.alloc (Blk.alloc x1 _) _).past hb2;have y2:Blk _ (w.heap.size+2) _:=(Blk.alloc (Blk.alloc x2 _) _).past hb2;have hB2:=zAo (zAZ (zAZ hB1 _) _) hb2;clear c0 f0 c1 f1 c2 f2 l0 l1 l2 hb2;obtain ⟨c1,f1,l1⟩:=y1.facts;obtain ⟨c2,f2,l2⟩:=y2.facts))
    refine bodyPost_ret (zD7 (x:=.int .i64 0) (y:=.int .i64 0) (x':=.int .i64 0) (y':=.int .i64 0) rfl rfl ?_ rfl ?_) rfl ⟨rfl,?_⟩
    ·(refine zBb ?_;repeat (first|(with_reducible refine zP.zBZ (by first|(simp;done)|(simp;omega)|omega) ?_;(first|rfl|(simp;done)))|(with_reducible refine zP.alloc ?_ _)|(with_reducible refine zP.far ?_ _ (by first|(simp;done)|(simp;omega)|omega))|(with_reducible refine zP.zBA ?_ (by first|(simp;done)|(simp;omega)|omega))|(with_reducible refine zP.drew ?_)|(with_reducible refine zP.drewN ?_ _)|(refine zP.leaf (by assumption) ?_;(first|rfl|(simp;done)))))
    ·(refine zBb ?_;repeat (first|(with_reducible refine zP.zBZ (by first|(simp;done)|(simp;omega)|omega) ?_;(first|rfl|(simp;done)))|(with_reducible refine zP.alloc ?_ _)|(with_reducible refine zP.far ?_ _ (by first|(simp;done)|(simp;omega)|omega))|(with_reducible refine zP.zBA ?_ (by first|(simp;done)|(simp;omega)|omega))|(with_reducible refine zP.drew ?_)|(with_reducible refine zP.drewN ?_ _)|(refine zP.leaf (by assumption) ?_;(first|rfl|(simp;done)))))
    ·(repeat (first|(with_reducible refine zAZ ?_ _)|(with_reducible refine zAf ?_ (by first|(simp;done)|(simp;omega)|omega))|(with_reducible refine zA4 ?_)|(with_reducible refine below_drewN ?_ _)|(with_reducible assumption)|(with_reducible exact Below.refl _ _)))
   ·have h3:=Lib.hid h2
    have hij:j<i:=by
     rw [Bool.and_eq_true,zAL,zAL] at h2
     rcases Int.lt_or_le j i with h|h
     ·exact h
     ·exfalso
      have:zE4 t i j=true:=by simp only [zE4,Bool.and_eq_true,zAL];omega
      rw [h1] at this;cases this
    clear h2 h1
    go_wp2_with (first|(go_at_call 93;refine hd.mono ?_;rintro e w1 ⟨rfl,hb1⟩;have x0:=k0.past hb1;have x1:=k1.past hb1;have x2:=k2.past hb1;have hB1:=zAo hB0 hb1;clear hb1;obtain ⟨c0,f0,l0⟩:=x0.facts;obtain ⟨c1,f1,l1⟩:=x1.facts;obtain ⟨c2,f2,l2⟩:=x2.facts)|(go_at_call 84;refine (zLJ _ _ _ _ _ _ _ _ (by simp)).mono ?_;rintro e w2 ⟨rfl,hb2⟩;rw [h3.out];have y1:Blk _ (w.heap.size+1) _:=(Blk.alloc (Blk.alloc x1 _) _).past hb2;have y2:Blk _ (w.heap.size+2) _:=(Blk.alloc (Blk.alloc x2 _) _).past hb2;have hB2:=zAo (zAZ (zAZ hB1 _) _) hb2;clear c0 f0 c1 f1 c2 f2 l0 l1 l2 hb2;obtain ⟨c1,f1,l1⟩:=y1.facts;obtain ⟨c2,f2,l2⟩:=y2.facts))
    refine bodyPost_ret (zD7 (x:=.int .i64 0) (y:=.int .i64 0) (x':=.int .i64 0) (y':=.int .i64 0) rfl rfl ?_ rfl ?_) rfl ⟨rfl,?_⟩
    ·(refine zBb ?_;repeat (first|(with_reducible refine zP.zBZ (by first|(simp;done)|(simp;omega)|omega) ?_;(first|rfl|(simp;done)))|(with_reducible refine zP.alloc ?_ _)|(with_reducible refine zP.far ?_ _ (by first|(simp;done)|(simp;omega)|omega))|(with_reducible refine zP.zBA ?_ (by first|(simp;done)|(simp;omega)|omega))|(with_reducible refine zP.drew ?_)|(with_reducible refine zP.drewN ?_ _)|(refine zP.leaf (by assumption) ?_;(first|rfl|(simp;done)))))
    ·(refine zBb ?_;repeat (first|(with_reducible refine zP.zBZ (by first|(simp;done)|(simp;omega)|omega) ?_;(first|rfl|(simp;done)))|(with_reducible refine zP.alloc ?_ _)|(with_reducible refine zP.far ?_ _ (by first|(simp;done)|(simp;omega)|omega))|(with_reducible refine zP.zBA ?_ (by first|(simp;done)|(simp;omega)|omega))|(with_reducible refine zP.drew ?_)|(with_reducible refine zP.drewN ?_ _)|(refine zP.leaf (by assumption) ?_;(first|rfl|(simp;done)))))
    ·(repeat (first|(with_reducible refine zAZ ?_ _)|(with_reducible refine zAf ?_ (by first|(simp;done)|(simp;omega)|omega))|(with_reducible refine zA4 ?_)|(with_reducible refine below_drewN ?_ _)|(with_reducible assumption)|(with_reducible exact Below.refl _ _)))
  ·obtain ⟨h2,h2'⟩:inB 0 t.length i=true∧inB i t.length j=true:=by simpa [zE4] using h1
   have h5:=zAL.1 h2
   have h6:=zAL.1 h2'
   obtain ⟨I,rfl⟩:=Int.eq_ofNat_of_zero_le h5.1
   obtain ⟨J,rfl⟩:=Int.eq_ofNat_of_zero_le (show 0≤j by omega)
   have hlen:=zEM hv
   have hd1:zEe t I J=zk t I J:=by simp [zEe,hv,h1]
   have hd2:zGF t I J=zAS t I J:=by simp [zGF,hv,h1]
   have hd3:errD t I J=0:=by simp [errD,hv,h1]
   have hm:∀ W:World,Below w.heap.size w W→zAp 94 #[.agg #[.slice A t.length cap],.int .i64 I,.int .i64 J] W (.tuple #[.agg #[.int .i64 (zEe t I J).lo,.int .i64 (zEe t I J).hi],.agg #[.int .i64 (zGF t I J).lo,.int .i64 (zGF t I J).hi]]):=fun W hW=>by
    rw [hd1,hd2];exact zOe t A cap I J W (HT.out.below hW) (zC6 hv) (by omega) (by omega) (by omega)
   unfold zAp at hm
   rw [hd3]
   have HM:=Lib.hid hm
   have h3:(inB 0 t.length I && inB 0 t.length J)=true:=by simp only [Bool.and_eq_true,zAL];omega
   have h3:=Lib.hid h3
   have hij:(I:Int)≤J:=by omega
   clear h2 h2' hm hd1 hd2 hd3 h1
   unfold vSp
   generalize zEe t I J=p at *
   generalize zGF t I J=q at *
   go_wp2_with (first|(go_at_call 93;refine hd.mono ?_;rintro e w1 ⟨rfl,hb1⟩;have x0:=k0.past hb1;have x1:=k1.past hb1;have x2:=k2.past hb1;have hB1:=zAo hB0 hb1;clear hb1;obtain ⟨c0,f0,l0⟩:=x0.facts;obtain ⟨c1,f1,l1⟩:=x1.facts;obtain ⟨c2,f2,l2⟩:=x2.facts)|(go_at_call 84;refine (zLJ _ _ _ _ _ _ _ _ (by simp)).mono ?_;rintro e w2 ⟨rfl,hb2⟩;rw [h3.out];have y1:Blk _ (w.heap.size+1) _:=(Blk.alloc (Blk.alloc x1 _) _).past hb2;have y2:Blk _ (w.heap.size+2) _:=(Blk.alloc (Blk.alloc x2 _) _).past hb2;have y9:Blk _ w1.heap.size _:=(Blk.alloc (Blk.new _ _ _) _).past hb2;have hB2:=zAo (zAZ (zAZ hB1 _) _) hb2;clear c0 f0 c1 f1 c2 f2 l0 l1 l2 hb2;obtain ⟨c1,f1,l1⟩:=y1.facts;obtain ⟨c2,f2,l2⟩:=y2.facts;obtain ⟨c9,f9,l9⟩:=y9.facts)|(go_at_call 94;refine (HM.out _ hB2).mono ?_;rintro e w3 ⟨rfl,hb3⟩;have z1:=y1.past hb3;have z2:=y2.past hb3;have hB3:=zAo hB2 hb3;clear c1 f1 c2 f2 l1 l2 c9 f9 l9 hb3;obtain ⟨c1,f1,l1⟩:=z1.facts;obtain ⟨c2,f2,l2⟩:=z2.facts))
   simp only [Nat.add_assoc,Nat.reduceAdd]
   clear c1 f1 c2 f2
   generalize hX:(((w3.setCell ⟨w.heap.size+1,0,none⟩ (.int .i64 p.lo)).setCell ⟨w.heap.size+1,1,none⟩ (.int .i64 p.hi)).setCell ⟨w.heap.size+2,0,none⟩ (.int .i64 q.lo)).setCell ⟨w.heap.size+2,1,none⟩ (.int .i64 q.hi)=X
   have y1:Blk X (w.heap.size+1) #[.int .i64 p.lo,.int .i64 p.hi]:=by rw [← hX];(refine zBb ?_;repeat (first|(with_reducible refine zP.zBZ (by first|(simp;done)|(simp;omega)|omega) ?_;(first|rfl|(simp;done)))|(with_reducible refine zP.alloc ?_ _)|(with_reducible refine zP.far ?_ _ (by first|(simp;done)|(simp;omega)|omega))|(with_reducible refine zP.zBA ?_ (by first|(simp;done)|(simp;omega)|omega))|(with_reducible refine zP.drew ?_)|(with_reducible refine zP.drewN ?_ _)|(refine zP.leaf (by assumption) ?_;(first|rfl|(simp;done)))))
   have y2:Blk X (w.heap.size+2) #[.int .i64 q.lo,.int .i64 q.hi]:=by rw [← hX];(refine zBb ?_;repeat (first|(with_reducible refine zP.zBZ (by first|(simp;done)|(simp;omega)|omega) ?_;(first|rfl|(simp;done)))|(with_reducible refine zP.alloc ?_ _)|(with_reducible refine zP.far ?_ _ (by first|(simp;done)|(simp;omega)|omega))|(with_reducible refine zP.zBA ?_ (by first|(simp;done)|(simp;omega)|omega))|(with_reducible refine zP.drew ?_)|(with_reducible refine zP.drewN ?_ _)|(refine zP.leaf (by assumption) ?_;(first|rfl|(simp;done)))))
   have hBX:Below w.heap.size w X:=by rw [← hX];(repeat (first|(with_reducible refine zAZ ?_ _)|(with_reducible refine zAf ?_ (by first|(simp;done)|(simp;omega)|omega))|(with_reducible refine zA4 ?_)|(with_reducible refine below_drewN ?_ _)|(with_reducible assumption)|(with_reducible exact Below.refl _ _)))
   clear hX hB1 hB2 hB3 x0 x1 x2 z1 z2
   obtain ⟨c1,f1,l1⟩:=y1.facts
   obtain ⟨c2,f2,l2⟩:=y2.facts
   go_region
   all_goals
    go_wp2
    refine bodyPost_ret (zD7 (x:=.int .i64 p.lo) (y:=.int .i64 p.hi) (x':=.int .i64 q.lo) (y':=.int .i64 q.hi) rfl rfl ?_ rfl ?_) rfl ⟨rfl,?_⟩
    ·(refine zBb ?_;repeat (first|(with_reducible refine zP.zBZ (by first|(simp;done)|(simp;omega)|omega) ?_;(first|rfl|(simp;done)))|(with_reducible refine zP.alloc ?_ _)|(with_reducible refine zP.far ?_ _ (by first|(simp;done)|(simp;omega)|omega))|(with_reducible refine zP.zBA ?_ (by first|(simp;done)|(simp;omega)|omega))|(with_reducible refine zP.drew ?_)|(with_reducible refine zP.drewN ?_ _)|(refine zP.leaf (by assumption) ?_;(first|rfl|(simp;done)))))
    ·(refine zBb ?_;repeat (first|(with_reducible refine zP.zBZ (by first|(simp;done)|(simp;omega)|omega) ?_;(first|rfl|(simp;done)))|(with_reducible refine zP.alloc ?_ _)|(with_reducible refine zP.far ?_ _ (by first|(simp;done)|(simp;omega)|omega))|(with_reducible refine zP.zBA ?_ (by first|(simp;done)|(simp;omega)|omega))|(with_reducible refine zP.drew ?_)|(with_reducible refine zP.drewN ?_ _)|(refine zP.leaf (by assumption) ?_;(first|rfl|(simp;done)))))
    ·(repeat (first|(with_reducible refine zAZ ?_ _)|(with_reducible refine zAf ?_ (by first|(simp;done)|(simp;omega)|omega))|(with_reducible refine zA4 ?_)|(with_reducible refine below_drewN ?_ _)|(with_reducible assumption)|(with_reducible exact Below.refl _ _)))
end Go.Proofs.YtdigopgncfhiaaaGreatDoor
namespace Go.Proofs.YtdigopgncfhiaaaGreatDoor
variable {ro : Option Nat}
open Go.RowKit
set_option maxRecDepth 20000
def Wit.off (x:Wit):Nat:=match x.A with|some a=>a.off|none=>0
def zLQ (s:Spot):List Value:=[.int .i64 s.st,.int .i64 s.off.lo,.int .i64 s.off.hi]
theorem one_spot (x:Spot):∀ u∈zLQ x,u.oneCell'=true:=by simp [zLQ,Value.oneCell']
instance : zCM zLQ 3:=⟨fun _=>rfl,one_spot⟩
end Go.Proofs.YtdigopgncfhiaaaGreatDoor
namespace Go.Proofs.YtdigopgncfhiaaaGreatDoor
variable {ro : Option Nat}
open Go.RowKit
set_option maxRecDepth 20000
theorem zHX {P:Program} {w:World} (t u ty e:TypeId) (i:TypeInfo) (z:Value) (ht:P.underlying t=some (.slice e)) (hu:P.underlying u=some (.int .i64)) (hi:P.info? e=some i) (hz:i.zero=some z)
  (n:Nat) (h0:0<n) (h63:(n:Int)≤1000000) (hb:i.bytes≤1000000) (hs:0<i.size) :
  (Builtin.append_ #[t,u] ty #[.slice none 0 0,.int .i64 n]).run P w =
   .ok (.slice (some ⟨w.heap.size,0,none⟩) n (grownCap w n 0 e)) (w.drew.alloc (.cells (Builtin.zeroCells z.cells n++Builtin.zeroCells z.cells (grownCap w n 0 e - n)) e)):=by
 have hn:n≠0:=by omega
 have hw:IntKind.i64.wrap (n:Int)=n:=IntWalk.i64_in _ (by omega)
 have h63':¬ (9223372036854775807<(n:Int)):=by omega
 have h49:n * i.bytes≤1000000 * 1000000:=Nat.mul_le_mul (by omega) hb
 have h48':¬ (281474976710656<Builtin.nextslicecap n 0 * i.bytes):=by rw [nextslicecap_zero h0];omega
 have h50:¬ ((281474976710656:Int)<(n:Int) * (i.bytes:Int)):=by
  have:((n * i.bytes:Nat):Int)≤((1000000 * 1000000:Nat):Int):=by exact_mod_cast h49
  rw [Int.natCast_mul] at this;omega
 have h51:¬ ((n:Int)<0):=by omega
 have h52:¬ n * i.size=0:=by
  intro h;rcases Nat.mul_eq_zero.1 h with h|h<;>omega
 have h53:¬ i.size=0:=by omega
 simp [Builtin.append_,run_underlying ht,run_underlying hu,sizeOf,typeInfo,zeroValue,hi,hz,Builtin.lenOf,Builtin.firstCells,hn,h63',h48',Question.forced,newRow,grownCap,asInt,asIntOf,hw,h50,h51,h52,h53]
section
variable {P : Program} {w0:World} {n:Nat} {d:List Deferred} {R:List (Nat × Value)} {H:List Ent} {Q:Exit→Act→World→Prop} {ops:Array Oper} {rest:List Oper} {o:Oper} {t:Tmp} {x y:Operand}
theorem zOm {α:Type} (enc:α→List Value) {k e T1 U1 bytes s m:Nat} {g:Bool} [el:ElI P T1 e k bytes] [tu:TyI P U1 (.int .i64) s g] (hop:o.op = .call { callee:=.builtin .append,args:=#[x,y],argTypes:=#[T1,U1] }) (hw:want R ops o=some true) (hd:o.dst=some t) (ht:Nat.blt t n=true)
  (hx:evR R x=some (.slice none 0 0)) (hy:evR R y=some (.int .i64 (m:Int))) (h0:0<m) (hm:m≤1000000∧bytes≤1000000)
  (h:∀ b c',m≤c'→U w0 n d ((t,.slice (some ⟨b,0,none⟩) m c')::R) (.row enc k e (.slice (some ⟨b,0,none⟩) 0 c') ([]:List α)::H) (wpL ro P ops Q rest)):U w0 n d R H (wpL ro P ops Q (o::rest)) :=
 zD2 hw fun a w q K hK=>by
  obtain ⟨z,hE⟩:=el.el
  obtain ⟨i,i1,i2,i3,i4⟩:=hE.info
  have hp:=hE.pos
  have key:=zHX (P:=P) (w:=w) T1 U1 o.type e i z hE.under tu.und i1 i2 m h0 (by omega) (by omega) (by omega)
  unfold Oper.wp execOp
  simp only [hop,resolve,invoke,builtin,Sem.run_bind,Sem.run_pure,Result.andThen_ok,List.map_toArray,List.map_cons,List.map_nil,q.ev hx,q.ev hy,key,Oper.upon_value,hd]
  have hge:=grownCap_ge w m 0 e
  refine hK _ _ (h w.heap.size _ hge _ _ (Kn.put (q.call (E:=[.row enc k e (.slice (some ⟨w.heap.size,0,none⟩) 0 (grownCap w m 0 e)) ([]:List α)]) ?_ ⟨?_,?_,by simp⟩) ht))
  ·exact ⟨rfl,rfl,rfl,by simp,fun k hk=>Below.heap_alloc _ _ _ hk⟩
  ·intro f hf
   simp only [List.mem_singleton] at hf
   subst hf
   refine (?_:World.ownsRow _ 0 e k (.slice (some ⟨w.heap.size,0,none⟩) 0 (grownCap w m 0 e)) 0 [])
   refine ⟨by simp,.inr ⟨w.heap.size,_,_,rfl,Nat.zero_le _,heap_alloc_new w.drew _,Nat.zero_le _,grownCap_le_maxLen w m 0 e (by unfold maxLen;omega),?_,by simp⟩⟩
   simp only [Array.size_append,size_zeroCells,hE.zs,← Nat.add_mul]
   congr 1
   omega
  ·intro f hf b hb
   simp only [List.mem_singleton] at hf
   subst hf
   cases hb
   simp
theorem zOg {T1 e:TypeId} {td:TypeDesc} {s s' m c:Nat} {g g':Bool} {A:Option Addr} {hi:Option Operand} {u:Int} (M:Nat) (hop:o.op = .slice T1 x none hi none) [i1:TyI P T1 (.slice e) s g] [i2:TyI P e td s' g'] (hw:want R ops o=some true) (hd:o.dst=some t) (ht:Nat.blt t n=true) (hx:evR R x=some (.slice A m c))
  (hu:bnd R hi m=some u) (hM:u=(M:Int)) (h2:M≤c) (hA:A.map (·.add 0)=A)
  (h:U w0 n d ((t,.slice A M c)::R) H (wpL ro P ops Q rest)):U w0 n d R H (wpL ro P ops Q (o::rest)):=by
 subst hM
 refine zAa (v:=.slice A M c) hw hd ht (fun a w q=>?_) h
 unfold execOp;rw [hop]
 have e1:=run_underlying i1.und w
 have e2:=i2.siz w
 have b1:∀ (r:Nat) (code:BoundsCode) (z:Nat),z≤r→∀ k,(Instr.sliceBound (.int k (z:Int)) r code).run P w = .ok z w:=fun r code z hz k=>by
  simp [Instr.sliceBound,asIntOf,hz]
 have hhi:(∃ k,hi.map a.eval=some (.int k (M:Int)))∨(hi=none∧M=m):=by
  cases hi with
  | none=>simp only [bnd,Option.some.injEq] at hu;exact .inr ⟨rfl,by omega⟩
  | some y =>
   simp only [bnd] at hu
   cases hy:evR R y with
   | none=>rw [hy] at hu;simp at hu
   | some v =>
    rw [hy] at hu
    cases v<;>simp at hu
    rename_i k i
    subst hu
    exact .inl ⟨k,by simp [q.ev hy]⟩
 have hA':∀ z:Nat,z=0→A.map (·.add z)=A:=fun z hz=>by rw [hz];exact hA
 rcases hhi with ⟨k2,hhi⟩ | ⟨hhi,rfl⟩ <;>
  simp [Instr.sliceAt,Instr.slice,e1,e2,q.ev hx,Instr.sliceBounds,hhi,b1,h2,hA]
end
end Go.Proofs.YtdigopgncfhiaaaGreatDoor
