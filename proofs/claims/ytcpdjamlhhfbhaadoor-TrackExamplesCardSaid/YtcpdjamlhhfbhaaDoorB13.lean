/- B13 -/
import Derived.Test.YtcpdjamlhhfbhaaDoorB9
import Derived.RegionIn
import Derived.Test.YtcpdjamlhhfbhaaDoorB8
set_option linter.unusedSimpArgs false
set_option linter.unusedVariables false
namespace Go.Proofs.YtcpdjamlhhfbhaaDoor
open Go.RowKit
set_option linter.unnecessarySimpa false
set_option maxRecDepth 20000
attribute [local go_sem] Oper.semAt_some
set_option maxHeartbeats 4000000 in
theorem zDD (t:List St) (A:Option Addr) (cap i j:Nat) (w:World) (ht:zS zO 9 w A t) (ho:∀ s∈t,zDB s) (hij:i≤j) (hj:j≤t.length) (hl:t.length≤100) :
  zw 28 #[vT A t.length cap,.int .i64 i,.int .i64 j] w (.tuple #[vSp (zE t i j),vSp (zU t i j)]):=by
 unfold zw vT
 have HT:=Lib.hid ht
 clear ht
 refine (callsIn_wide (n:=10)).1 ?_
 refine callsIn_of_wp_marks Tryd.func28 rfl trivial ?_ rfl
 refine wpIn_wide.2 ?_
 simp only [Tryd.ntmps28,List.size_toArray,List.length_cons,List.length_nil,Nat.reduceAdd,Nat.reduceSub,Array.replicate_succ,Array.replicate_zero,List.push_toArray,List.append_toArray,List.nil_append,List.cons_append]
 go_wp2_with (go_at_call 39;refine (zEq _ _ _ _ _).mono ?_;rintro e w2 ⟨rfl,rfl⟩)
 generalize hW:(((((((w.alloc (.cells #[.slice A t.length cap] 65)).alloc (.cells #[.int .i64 i] 3)).alloc (.cells #[.int .i64 j] 3)).alloc (.cells #[.int .i64 0,.int .i64 0] 23)).alloc (.cells #[.int .i64 0,.int .i64 0] 23)).alloc (.cells #[.slice A t.length cap] 65)).alloc (.cells #[.int .i64 i] 3))=W
 have z1:Blk W (w.heap.size+1) #[.int .i64 i]:=by rw [← hW];(refine zAK ?_;repeat (first|(with_reducible refine zB.zAJ (by first|(simp;done)|(simp;omega)|omega) ?_;(first|rfl|(simp;done)))|(with_reducible refine zB.alloc ?_ _)|(with_reducible refine zB.far ?_ _ (by first|(simp;done)|(simp;omega)|omega))|(with_reducible refine zB.zy ?_ (by first|(simp;done)|(simp;omega)|omega))|(with_reducible refine zB.drew ?_)|(with_reducible refine zB.drewN ?_ _)|(refine zB.leaf (by assumption) ?_;(first|rfl|(simp;done)))))
 have z2:Blk W (w.heap.size+2) #[.int .i64 j]:=by rw [← hW];(refine zAK ?_;repeat (first|(with_reducible refine zB.zAJ (by first|(simp;done)|(simp;omega)|omega) ?_;(first|rfl|(simp;done)))|(with_reducible refine zB.alloc ?_ _)|(with_reducible refine zB.far ?_ _ (by first|(simp;done)|(simp;omega)|omega))|(with_reducible refine zB.zy ?_ (by first|(simp;done)|(simp;omega)|omega))|(with_reducible refine zB.drew ?_)|(with_reducible refine zB.drewN ?_ _)|(refine zB.leaf (by assumption) ?_;(first|rfl|(simp;done)))))
 have z3:Blk W (w.heap.size+3) #[.int .i64 0,.int .i64 0]:=by rw [← hW];(refine zAK ?_;repeat (first|(with_reducible refine zB.zAJ (by first|(simp;done)|(simp;omega)|omega) ?_;(first|rfl|(simp;done)))|(with_reducible refine zB.alloc ?_ _)|(with_reducible refine zB.far ?_ _ (by first|(simp;done)|(simp;omega)|omega))|(with_reducible refine zB.zy ?_ (by first|(simp;done)|(simp;omega)|omega))|(with_reducible refine zB.drew ?_)|(with_reducible refine zB.drewN ?_ _)|(refine zB.leaf (by assumption) ?_;(first|rfl|(simp;done)))))
 have z4:Blk W (w.heap.size+4) #[.int .i64 0,.int .i64 0]:=by rw [← hW];(refine zAK ?_;repeat (first|(with_reducible refine zB.zAJ (by first|(simp;done)|(simp;omega)|omega) ?_;(first|rfl|(simp;done)))|(with_reducible refine zB.alloc ?_ _)|(with_reducible refine zB.far ?_ _ (by first|(simp;done)|(simp;omega)|omega))|(with_reducible refine zB.zy ?_ (by first|(simp;done)|(simp;omega)|omega))|(with_reducible refine zB.drew ?_)|(with_reducible refine zB.drewN ?_ _)|(refine zB.leaf (by assumption) ?_;(first|rfl|(simp;done)))))
 have z5:Blk W (w.heap.size+5) #[.slice A t.length cap]:=by rw [← hW];(refine zAK ?_;repeat (first|(with_reducible refine zB.zAJ (by first|(simp;done)|(simp;omega)|omega) ?_;(first|rfl|(simp;done)))|(with_reducible refine zB.alloc ?_ _)|(with_reducible refine zB.far ?_ _ (by first|(simp;done)|(simp;omega)|omega))|(with_reducible refine zB.zy ?_ (by first|(simp;done)|(simp;omega)|omega))|(with_reducible refine zB.drew ?_)|(with_reducible refine zB.drewN ?_ _)|(refine zB.leaf (by assumption) ?_;(first|rfl|(simp;done)))))
 have z6:Blk W (w.heap.size+6) #[.int .i64 i]:=by rw [← hW];(refine zAK ?_;repeat (first|(with_reducible refine zB.zAJ (by first|(simp;done)|(simp;omega)|omega) ?_;(first|rfl|(simp;done)))|(with_reducible refine zB.alloc ?_ _)|(with_reducible refine zB.far ?_ _ (by first|(simp;done)|(simp;omega)|omega))|(with_reducible refine zB.zy ?_ (by first|(simp;done)|(simp;omega)|omega))|(with_reducible refine zB.drew ?_)|(with_reducible refine zB.drewN ?_ _)|(refine zB.leaf (by assumption) ?_;(first|rfl|(simp;done)))))
 have hB:Below w.heap.size w W:=by rw [← hW];(repeat (first|(with_reducible refine zd ?_ _)|(with_reducible refine za ?_ (by first|(simp;done)|(simp;omega)|omega))|(with_reducible refine zn ?_)|(with_reducible refine below_drewN ?_ _)|(with_reducible assumption)|(with_reducible exact Below.refl _ _)))
 have hs:W.heap.size=w.heap.size+7:=by rw [← hW];simp
 simp only [Nat.add_assoc,Nat.reduceAdd]
 refine (wpIn_wide (n:=10)).1 ?_
 refine zEG (gf:=57) (lb:=#[.pointer (some ⟨w.heap.size+6,0,none⟩),.pointer (some ⟨w.heap.size+5,0,none⟩)]) rfl (enters Tryd.func57 rfl rfl) (zEZ t A cap i _ _ ho (by omega) hl) (fun _=>rfl)
   (fun k W'=>i+k≤j∧Blk W' (w.heap.size+1) #[.int .i64 (i+k:Nat)]∧Blk W' (w.heap.size+2) #[.int .i64 j]∧(∃ x y,Blk W' (w.heap.size+3) #[.int .i64 x,.int .i64 y])∧(∃ x y,Blk W' (w.heap.size+4) #[.int .i64 x,.int .i64 y])∧Blk W' (w.heap.size+5) #[.slice A t.length cap]∧Blk W' (w.heap.size+6) #[.int .i64 i]∧Below w.heap.size w W')
   (fun c k W'=>c = .exit 0∧Blk W' (w.heap.size+3) #[.int .i64 (zE t i j).lo,.int .i64 (zE t i j).hi]∧Blk W' (w.heap.size+4) #[.int .i64 (zU t i j).lo,.int .i64 (zU t i j).hi]∧Below w.heap.size w W') ?_ ?_ ?_ ?_ ?_ ?_ ?_
 ·rintro k W1 W2 ⟨hk,h1,h2,⟨x,y,h3⟩,⟨x',y',h4⟩,h5,h6,h7⟩ ho
  exact ⟨hk,h1.off ho (by omega),h2.off ho (by omega),⟨x,y,h3.off ho (by omega)⟩,⟨x',y',h4.off ho (by omega)⟩,h5.off ho (by omega),h6.off ho (by omega),zBL h7 ho hB.size h7.size⟩
 ·rintro c k W1 W2 ⟨rfl,h3,h4,h7⟩ ho
  exact ⟨rfl,h3.off ho (by omega),h4.off ho (by omega),zBL h7 ho hB.size h7.size⟩
 ·rintro k W' ⟨hk,h1,h2,h3,h4,h5,h6,h7⟩
  exact ⟨h6,h5,HT.out.below h7⟩
 ·exact ⟨by omega,z1,z2,⟨0,0,z3⟩,⟨0,0,z4⟩,z5,z6,hB⟩
 ·intro l k W' hk ⟨hkj,h1,h2,⟨x,y,h3⟩,⟨x',y',h4⟩,h5,h6,h7⟩ hsz K hK
  clear hW z1 z2 z3 z4 z5 z6 hB
  unfold vSp
  gi_wp2
  generalize hp:zE t i (i+k)=p
  generalize hq:zU t i (i+k)=q
  refine hK _ _ ((zC7 _ _ hsz).trans (zC7 _ _ (by simp;omega))) (fun W2 ho2=>?_)
  clear hK
  have hsz2:=ho2.size
  generalize hX:(W'.alloc (.cells #[.int .i64 p.lo,.int .i64 p.hi] 23)).alloc (.cells #[.int .i64 q.lo,.int .i64 q.hi] 23)=X at ho2 hsz2
  have y8:Blk W2 W'.heap.size #[.int .i64 p.lo,.int .i64 p.hi]:=Blk.off' (by rw [← hX];(refine zAK ?_;repeat (first|(with_reducible refine zB.zAJ (by first|(simp;done)|(simp;omega)|omega) ?_;(first|rfl|(simp;done)))|(with_reducible refine zB.alloc ?_ _)|(with_reducible refine zB.far ?_ _ (by first|(simp;done)|(simp;omega)|omega))|(with_reducible refine zB.zy ?_ (by first|(simp;done)|(simp;omega)|omega))|(with_reducible refine zB.drew ?_)|(with_reducible refine zB.drewN ?_ _)|(refine zB.leaf (by assumption) ?_;(first|rfl|(simp;done)))))) ho2 (by omega)
  have y9:Blk W2 (W'.heap.size+1) #[.int .i64 q.lo,.int .i64 q.hi]:=Blk.off' (by rw [← hX];(refine zAK ?_;repeat (first|(with_reducible refine zB.zAJ (by first|(simp;done)|(simp;omega)|omega) ?_;(first|rfl|(simp;done)))|(with_reducible refine zB.alloc ?_ _)|(with_reducible refine zB.far ?_ _ (by first|(simp;done)|(simp;omega)|omega))|(with_reducible refine zB.zy ?_ (by first|(simp;done)|(simp;omega)|omega))|(with_reducible refine zB.drew ?_)|(with_reducible refine zB.drewN ?_ _)|(refine zB.leaf (by assumption) ?_;(first|rfl|(simp;done)))))) ho2 (by omega)
  have y1:Blk W2 (w.heap.size+1) #[.int .i64 (i+k:Nat)]:=Blk.off (by rw [← hX];(refine zAK ?_;repeat (first|(with_reducible refine zB.zAJ (by first|(simp;done)|(simp;omega)|omega) ?_;(first|rfl|(simp;done)))|(with_reducible refine zB.alloc ?_ _)|(with_reducible refine zB.far ?_ _ (by first|(simp;done)|(simp;omega)|omega))|(with_reducible refine zB.zy ?_ (by first|(simp;done)|(simp;omega)|omega))|(with_reducible refine zB.drew ?_)|(with_reducible refine zB.drewN ?_ _)|(refine zB.leaf (by assumption) ?_;(first|rfl|(simp;done)))))) ho2 (by omega)
  have y2:Blk W2 (w.heap.size+2) #[.int .i64 j]:=Blk.off (by rw [← hX];(refine zAK ?_;repeat (first|(with_reducible refine zB.zAJ (by first|(simp;done)|(simp;omega)|omega) ?_;(first|rfl|(simp;done)))|(with_reducible refine zB.alloc ?_ _)|(with_reducible refine zB.far ?_ _ (by first|(simp;done)|(simp;omega)|omega))|(with_reducible refine zB.zy ?_ (by first|(simp;done)|(simp;omega)|omega))|(with_reducible refine zB.drew ?_)|(with_reducible refine zB.drewN ?_ _)|(refine zB.leaf (by assumption) ?_;(first|rfl|(simp;done)))))) ho2 (by omega)
  have y3:Blk W2 (w.heap.size+3) #[.int .i64 x,.int .i64 y]:=Blk.off (by rw [← hX];(refine zAK ?_;repeat (first|(with_reducible refine zB.zAJ (by first|(simp;done)|(simp;omega)|omega) ?_;(first|rfl|(simp;done)))|(with_reducible refine zB.alloc ?_ _)|(with_reducible refine zB.far ?_ _ (by first|(simp;done)|(simp;omega)|omega))|(with_reducible refine zB.zy ?_ (by first|(simp;done)|(simp;omega)|omega))|(with_reducible refine zB.drew ?_)|(with_reducible refine zB.drewN ?_ _)|(refine zB.leaf (by assumption) ?_;(first|rfl|(simp;done)))))) ho2 (by omega)
  have y4:Blk W2 (w.heap.size+4) #[.int .i64 x',.int .i64 y']:=Blk.off (by rw [← hX];(refine zAK ?_;repeat (first|(with_reducible refine zB.zAJ (by first|(simp;done)|(simp;omega)|omega) ?_;(first|rfl|(simp;done)))|(with_reducible refine zB.alloc ?_ _)|(with_reducible refine zB.far ?_ _ (by first|(simp;done)|(simp;omega)|omega))|(with_reducible refine zB.zy ?_ (by first|(simp;done)|(simp;omega)|omega))|(with_reducible refine zB.drew ?_)|(with_reducible refine zB.drewN ?_ _)|(refine zB.leaf (by assumption) ?_;(first|rfl|(simp;done)))))) ho2 (by omega)
  have y5:Blk W2 (w.heap.size+5) #[.slice A t.length cap]:=Blk.off (by rw [← hX];(refine zAK ?_;repeat (first|(with_reducible refine zB.zAJ (by first|(simp;done)|(simp;omega)|omega) ?_;(first|rfl|(simp;done)))|(with_reducible refine zB.alloc ?_ _)|(with_reducible refine zB.far ?_ _ (by first|(simp;done)|(simp;omega)|omega))|(with_reducible refine zB.zy ?_ (by first|(simp;done)|(simp;omega)|omega))|(with_reducible refine zB.drew ?_)|(with_reducible refine zB.drewN ?_ _)|(refine zB.leaf (by assumption) ?_;(first|rfl|(simp;done)))))) ho2 (by omega)
  have y6:Blk W2 (w.heap.size+6) #[.int .i64 i]:=Blk.off (by rw [← hX];(refine zAK ?_;repeat (first|(with_reducible refine zB.zAJ (by first|(simp;done)|(simp;omega)|omega) ?_;(first|rfl|(simp;done)))|(with_reducible refine zB.alloc ?_ _)|(with_reducible refine zB.far ?_ _ (by first|(simp;done)|(simp;omega)|omega))|(with_reducible refine zB.zy ?_ (by first|(simp;done)|(simp;omega)|omega))|(with_reducible refine zB.drew ?_)|(with_reducible refine zB.drewN ?_ _)|(refine zB.leaf (by assumption) ?_;(first|rfl|(simp;done)))))) ho2 (by omega)
  have y7:Below w.heap.size w W2:=zBL (by rw [← hX];(repeat (first|(with_reducible refine zd ?_ _)|(with_reducible refine za ?_ (by first|(simp;done)|(simp;omega)|omega))|(with_reducible refine zn ?_)|(with_reducible refine below_drewN ?_ _)|(with_reducible assumption)|(with_reducible exact Below.refl _ _)))) ho2 (by omega) (by rw [← hX];simp;omega)
  have hXs:X.heap.size=W'.heap.size+2:=by rw [← hX];simp
  clear hX ho2 h1 h2 h3 h4 h5 h6 h7
  obtain ⟨c1,f1,l1⟩:=y1.facts
  obtain ⟨c2,f2,l2⟩:=y2.facts
  obtain ⟨c3,f3,l3⟩:=y3.facts
  obtain ⟨c4,f4,l4⟩:=y4.facts
  obtain ⟨c8,f8,l8⟩:=y8.facts
  obtain ⟨c9,f9,l9⟩:=y9.facts
  have g83:W'.heap.size≠w.heap.size+3:=by omega
  have g84:W'.heap.size≠w.heap.size+4:=by omega
  have g93:W'.heap.size+1≠w.heap.size+3:=by omega
  have g94:W'.heap.size+1≠w.heap.size+4:=by omega
  have hon:On W.heap.size (W.heap.size+2+2) W2 ((((W2.setCell ⟨w.heap.size+3,0,none⟩ (.int .i64 p.lo)).setCell ⟨w.heap.size+3,1,none⟩ (.int .i64 p.hi)).setCell ⟨w.heap.size+4,0,none⟩ (.int .i64 q.lo)).setCell ⟨w.heap.size+4,1,none⟩ (.int .i64 q.hi)) :=
   (((zB2 _ _ (by simp;omega)).trans (zB2 _ _ (by simp;omega))).trans (zB2 _ _ (by simp;omega))).trans (zB2 _ _ (by simp;omega))
  by_cases hkj2:i+k=j
  ·have hkj3:(i:Int)+k=j:=by omega
   gi_wp2
   gi_region
   all_goals
    gi_wp2
    refine ⟨⟨hon.os,hon.tape,hon.output,hon.size,hon.block⟩,rfl,?_,?_,?_⟩
    ·rw [← hkj2,hp];(refine zAK ?_;repeat (first|(with_reducible refine zB.zAJ (by first|(simp;done)|(simp;omega)|omega) ?_;(first|rfl|(simp;done)))|(with_reducible refine zB.alloc ?_ _)|(with_reducible refine zB.far ?_ _ (by first|(simp;done)|(simp;omega)|omega))|(with_reducible refine zB.zy ?_ (by first|(simp;done)|(simp;omega)|omega))|(with_reducible refine zB.drew ?_)|(with_reducible refine zB.drewN ?_ _)|(refine zB.leaf (by assumption) ?_;(first|rfl|(simp;done)))))
    ·rw [← hkj2,hq];(refine zAK ?_;repeat (first|(with_reducible refine zB.zAJ (by first|(simp;done)|(simp;omega)|omega) ?_;(first|rfl|(simp;done)))|(with_reducible refine zB.alloc ?_ _)|(with_reducible refine zB.far ?_ _ (by first|(simp;done)|(simp;omega)|omega))|(with_reducible refine zB.zy ?_ (by first|(simp;done)|(simp;omega)|omega))|(with_reducible refine zB.drew ?_)|(with_reducible refine zB.drewN ?_ _)|(refine zB.leaf (by assumption) ?_;(first|rfl|(simp;done)))))
    ·(repeat (first|(with_reducible refine zd ?_ _)|(with_reducible refine za ?_ (by first|(simp;done)|(simp;omega)|omega))|(with_reducible refine zn ?_)|(with_reducible refine below_drewN ?_ _)|(with_reducible assumption)|(with_reducible exact Below.refl _ _)))
  ·have hkj3:¬ (i:Int)+k=j:=by omega
   have hl9:j≤100:=by omega
   gi_wp2
   gi_region
   all_goals
    gi_wp2
    refine ⟨⟨hon.os,hon.tape,hon.output,?_,?_⟩,by omega,?_,?_,⟨p.lo,p.hi,?_⟩,⟨q.lo,q.hi,?_⟩,?_,?_,?_⟩
    ·have:=hon.size;simpa using this
    ·intro g h1 h2;exact (Below.heap_setCell _ _ _ _ (by simp;omega)).trans (hon.block g h1 h2)
    ·(refine zAK ?_;repeat (first|(with_reducible refine zB.zAJ (by first|(simp;done)|(simp;omega)|omega) ?_;(first|rfl|(simp [Int.natCast_add,Int.add_assoc];done)))|(with_reducible refine zB.alloc ?_ _)|(with_reducible refine zB.far ?_ _ (by first|(simp;done)|(simp;omega)|omega))|(with_reducible refine zB.zy ?_ (by first|(simp;done)|(simp;omega)|omega))|(with_reducible refine zB.drew ?_)|(with_reducible refine zB.drewN ?_ _)|(refine zB.leaf (by assumption) ?_;(first|rfl|(simp [Int.natCast_add,Int.add_assoc];done)))))
    ·(refine zAK ?_;repeat (first|(with_reducible refine zB.zAJ (by first|(simp;done)|(simp;omega)|omega) ?_;(first|rfl|(simp;done)))|(with_reducible refine zB.alloc ?_ _)|(with_reducible refine zB.far ?_ _ (by first|(simp;done)|(simp;omega)|omega))|(with_reducible refine zB.zy ?_ (by first|(simp;done)|(simp;omega)|omega))|(with_reducible refine zB.drew ?_)|(with_reducible refine zB.drewN ?_ _)|(refine zB.leaf (by assumption) ?_;(first|rfl|(simp;done)))))
    ·(refine zAK ?_;repeat (first|(with_reducible refine zB.zAJ (by first|(simp;done)|(simp;omega)|omega) ?_;(first|rfl|(simp;done)))|(with_reducible refine zB.alloc ?_ _)|(with_reducible refine zB.far ?_ _ (by first|(simp;done)|(simp;omega)|omega))|(with_reducible refine zB.zy ?_ (by first|(simp;done)|(simp;omega)|omega))|(with_reducible refine zB.drew ?_)|(with_reducible refine zB.drewN ?_ _)|(refine zB.leaf (by assumption) ?_;(first|rfl|(simp;done)))))
    ·(refine zAK ?_;repeat (first|(with_reducible refine zB.zAJ (by first|(simp;done)|(simp;omega)|omega) ?_;(first|rfl|(simp;done)))|(with_reducible refine zB.alloc ?_ _)|(with_reducible refine zB.far ?_ _ (by first|(simp;done)|(simp;omega)|omega))|(with_reducible refine zB.zy ?_ (by first|(simp;done)|(simp;omega)|omega))|(with_reducible refine zB.drew ?_)|(with_reducible refine zB.drewN ?_ _)|(refine zB.leaf (by assumption) ?_;(first|rfl|(simp;done)))))
    ·(refine zAK ?_;repeat (first|(with_reducible refine zB.zAJ (by first|(simp;done)|(simp;omega)|omega) ?_;(first|rfl|(simp;done)))|(with_reducible refine zB.alloc ?_ _)|(with_reducible refine zB.far ?_ _ (by first|(simp;done)|(simp;omega)|omega))|(with_reducible refine zB.zy ?_ (by first|(simp;done)|(simp;omega)|omega))|(with_reducible refine zB.drew ?_)|(with_reducible refine zB.drewN ?_ _)|(refine zB.leaf (by assumption) ?_;(first|rfl|(simp;done)))))
    ·(refine zAK ?_;repeat (first|(with_reducible refine zB.zAJ (by first|(simp;done)|(simp;omega)|omega) ?_;(first|rfl|(simp;done)))|(with_reducible refine zB.alloc ?_ _)|(with_reducible refine zB.far ?_ _ (by first|(simp;done)|(simp;omega)|omega))|(with_reducible refine zB.zy ?_ (by first|(simp;done)|(simp;omega)|omega))|(with_reducible refine zB.drew ?_)|(with_reducible refine zB.drewN ?_ _)|(refine zB.leaf (by assumption) ?_;(first|rfl|(simp;done)))))
    ·(repeat (first|(with_reducible refine zd ?_ _)|(with_reducible refine za ?_ (by first|(simp;done)|(simp;omega)|omega))|(with_reducible refine zn ?_)|(with_reducible refine below_drewN ?_ _)|(with_reducible assumption)|(with_reducible exact Below.refl _ _)))
 ·rintro W' ⟨hk,_⟩
  omega
 ·rintro c k W' hk ⟨rfl,h3,h4,h7⟩ hD hsz
  obtain ⟨c3,f3,l3⟩:=h3.facts
  obtain ⟨c4,f4,l4⟩:=h4.facts
  refine wpIn_wide.2 ?_
  go_wp2
  go_region
  all_goals
   go_wp2
   generalize hV:World.drew _=V
   have v3:Blk V (w.heap.size+3) #[.int .i64 (zE t i j).lo,.int .i64 (zE t i j).hi]:=by rw [← hV];(refine zAK ?_;repeat (first|(with_reducible refine zB.zAJ (by first|(simp;done)|(simp;omega)|omega) ?_;(first|rfl|(simp;done)))|(with_reducible refine zB.alloc ?_ _)|(with_reducible refine zB.far ?_ _ (by first|(simp;done)|(simp;omega)|omega))|(with_reducible refine zB.zy ?_ (by first|(simp;done)|(simp;omega)|omega))|(with_reducible refine zB.drew ?_)|(with_reducible refine zB.drewN ?_ _)|(refine zB.leaf (by assumption) ?_;(first|rfl|(simp;done)))))
   have v4:Blk V (w.heap.size+4) #[.int .i64 (zU t i j).lo,.int .i64 (zU t i j).hi]:=by rw [← hV];(refine zAK ?_;repeat (first|(with_reducible refine zB.zAJ (by first|(simp;done)|(simp;omega)|omega) ?_;(first|rfl|(simp;done)))|(with_reducible refine zB.alloc ?_ _)|(with_reducible refine zB.far ?_ _ (by first|(simp;done)|(simp;omega)|omega))|(with_reducible refine zB.zy ?_ (by first|(simp;done)|(simp;omega)|omega))|(with_reducible refine zB.drew ?_)|(with_reducible refine zB.drewN ?_ _)|(refine zB.leaf (by assumption) ?_;(first|rfl|(simp;done)))))
   have v7:Below w.heap.size w V:=by rw [← hV];(repeat (first|(with_reducible refine zd ?_ _)|(with_reducible refine za ?_ (by first|(simp;done)|(simp;omega)|omega))|(with_reducible refine zn ?_)|(with_reducible refine below_drewN ?_ _)|(with_reducible assumption)|(with_reducible exact Below.refl _ _)))
   have vD:V.heap[W.heap.size]?=some (.deferred (some [])):=by
    rw [← hV]
    exact (Below.heap_setCell _ _ _ _ (by simp;omega)).trans ((Below.heap_setCell _ _ _ _ (by simp;omega)).trans ((Below.heap_setCell _ _ _ _ (by simp;omega)).trans ((Below.heap_setCell _ _ _ _ (by simp;omega)).trans hD)))
   have hvs:W.heap.size<V.heap.size:=(Array.getElem?_eq_some_iff.1 vD).1
   have ho:=zAj V (.deferred none) (lo:=W.heap.size) (hi:=W.heap.size+1) (Nat.le_refl _) (by omega)
   exact zCk vD (zGV rfl rfl (v3.off ho (by omega)) rfl (v4.off ho (by omega))) ⟨rfl,zBL v7 ho hB.size v7.size⟩
end Go.Proofs.YtcpdjamlhhfbhaaDoor
namespace Go.Proofs.YtcpdjamlhhfbhaaDoor
open Go.RowKit
set_option maxRecDepth 20000
def zDd (t:List St) (i j:Int):Bool:=inB 0 t.length i && inB i t.length j
def zCx (t:List St) (i j:Int):Sp:=if valid t && zDd t i j then zE t i.toNat j.toNat else ⟨0,0⟩
def zCy (t:List St) (i j:Int):Sp:=if valid t && zDd t i j then zU t i.toNat j.toNat else ⟨0,0⟩
def errD (t:List St) (i j:Int):Int:=if valid t then (if zDd t i j then 0 else 2) else 10
end Go.Proofs.YtcpdjamlhhfbhaaDoor
namespace Go.Proofs.YtcpdjamlhhfbhaaDoor
open Go.RowKit
set_option maxRecDepth 20000
set_option maxHeartbeats 4000000 in
theorem zGr (t:List St) (A:Option Addr) (cap:Nat) (i j:Int) (w:World) (ht:zS zO 9 w A t) (hf:zCb t) (hl:t.length≤1000000) :
  zw 10 #[vT A t.length cap,.int .i64 i,.int .i64 j] w (.tuple #[vSp (zCx t i j),vSp (zCy t i j),.int .i64 (errD t i j)]):=by
 unfold zw vT
 have HT:=Lib.hid ht
 clear ht
 have k0:Blk (((w.alloc (.cells #[.slice A t.length cap] 37)).alloc (.cells #[.int .i64 0,.int .i64 0] 23)).alloc (.cells #[.int .i64 0,.int .i64 0] 23)) w.heap.size #[.slice A t.length cap]:=by (refine zAK ?_;repeat (first|(with_reducible refine zB.zAJ (by first|(simp;done)|(simp;omega)|omega) ?_;(first|rfl|(simp;done)))|(with_reducible refine zB.alloc ?_ _)|(with_reducible refine zB.far ?_ _ (by first|(simp;done)|(simp;omega)|omega))|(with_reducible refine zB.zy ?_ (by first|(simp;done)|(simp;omega)|omega))|(with_reducible refine zB.drew ?_)|(with_reducible refine zB.drewN ?_ _)|(refine zB.leaf (by assumption) ?_;(first|rfl|(simp;done)))))
 have k1:Blk (((w.alloc (.cells #[.slice A t.length cap] 37)).alloc (.cells #[.int .i64 0,.int .i64 0] 23)).alloc (.cells #[.int .i64 0,.int .i64 0] 23)) (w.heap.size+1) #[.int .i64 0,.int .i64 0]:=by (refine zAK ?_;repeat (first|(with_reducible refine zB.zAJ (by first|(simp;done)|(simp;omega)|omega) ?_;(first|rfl|(simp;done)))|(with_reducible refine zB.alloc ?_ _)|(with_reducible refine zB.far ?_ _ (by first|(simp;done)|(simp;omega)|omega))|(with_reducible refine zB.zy ?_ (by first|(simp;done)|(simp;omega)|omega))|(with_reducible refine zB.drew ?_)|(with_reducible refine zB.drewN ?_ _)|(refine zB.leaf (by assumption) ?_;(first|rfl|(simp;done)))))
 have k2:Blk (((w.alloc (.cells #[.slice A t.length cap] 37)).alloc (.cells #[.int .i64 0,.int .i64 0] 23)).alloc (.cells #[.int .i64 0,.int .i64 0] 23)) (w.heap.size+2) #[.int .i64 0,.int .i64 0]:=by (refine zAK ?_;repeat (first|(with_reducible refine zB.zAJ (by first|(simp;done)|(simp;omega)|omega) ?_;(first|rfl|(simp;done)))|(with_reducible refine zB.alloc ?_ _)|(with_reducible refine zB.far ?_ _ (by first|(simp;done)|(simp;omega)|omega))|(with_reducible refine zB.zy ?_ (by first|(simp;done)|(simp;omega)|omega))|(with_reducible refine zB.drew ?_)|(with_reducible refine zB.drewN ?_ _)|(refine zB.leaf (by assumption) ?_;(first|rfl|(simp;done)))))
 have hB0:Below w.heap.size w (((w.alloc (.cells #[.slice A t.length cap] 37)).alloc (.cells #[.int .i64 0,.int .i64 0] 23)).alloc (.cells #[.int .i64 0,.int .i64 0] 23)):=by (repeat (first|(with_reducible refine zd ?_ _)|(with_reducible refine za ?_ (by first|(simp;done)|(simp;omega)|omega))|(with_reducible refine zn ?_)|(with_reducible refine below_drewN ?_ _)|(with_reducible assumption)|(with_reducible exact Below.refl _ _)))
 have hd:=zE6 t A cap _ (HT.out.below hB0) hf hl
 unfold zw vT at hd
 go_enter Tryd.func10,Tryd.ntmps10
 cases hv:valid t
 ·have hd1:zCx t i j=⟨0,0⟩:=by simp [zCx,hv]
  have hd2:zCy t i j=⟨0,0⟩:=by simp [zCy,hv]
  have hd3:errD t i j=10:=by simp [errD,hv]
  rw [hd1,hd2,hd3]
  have he:zBY t=10:=by simp [zBY,hv]
  rw [he] at hd
  go_wp2_with (go_at_call 26;refine hd.mono ?_;rintro e w1 ⟨rfl,hb1⟩;have x0:=k0.past hb1;have x1:=k1.past hb1;have x2:=k2.past hb1;have hB1:=zu hB0 hb1;clear hb1;obtain ⟨c0,f0,l0⟩:=x0.facts;obtain ⟨c1,f1,l1⟩:=x1.facts;obtain ⟨c2,f2,l2⟩:=x2.facts)
  refine bodyPost_ret (zCM (x:=.int .i64 0) (y:=.int .i64 0) (x':=.int .i64 0) (y':=.int .i64 0) rfl rfl ?_ rfl ?_) rfl ⟨rfl,?_⟩
  ·(refine zAK ?_;repeat (first|(with_reducible refine zB.zAJ (by first|(simp;done)|(simp;omega)|omega) ?_;(first|rfl|(simp;done)))|(with_reducible refine zB.alloc ?_ _)|(with_reducible refine zB.far ?_ _ (by first|(simp;done)|(simp;omega)|omega))|(with_reducible refine zB.zy ?_ (by first|(simp;done)|(simp;omega)|omega))|(with_reducible refine zB.drew ?_)|(with_reducible refine zB.drewN ?_ _)|(refine zB.leaf (by assumption) ?_;(first|rfl|(simp;done)))))
  ·(refine zAK ?_;repeat (first|(with_reducible refine zB.zAJ (by first|(simp;done)|(simp;omega)|omega) ?_;(first|rfl|(simp;done)))|(with_reducible refine zB.alloc ?_ _)|(with_reducible refine zB.far ?_ _ (by first|(simp;done)|(simp;omega)|omega))|(with_reducible refine zB.zy ?_ (by first|(simp;done)|(simp;omega)|omega))|(with_reducible refine zB.drew ?_)|(with_reducible refine zB.drewN ?_ _)|(refine zB.leaf (by assumption) ?_;(first|rfl|(simp;done)))))
  ·(repeat (first|(with_reducible refine zd ?_ _)|(with_reducible refine za ?_ (by first|(simp;done)|(simp;omega)|omega))|(with_reducible refine zn ?_)|(with_reducible refine below_drewN ?_ _)|(with_reducible assumption)|(with_reducible exact Below.refl _ _)))
 ·have he:zBY t=0:=by simp [zBY,hv]
  rw [he] at hd
  cases h1:zDd t i j
  ·have hd1:zCx t i j=⟨0,0⟩:=by simp [zCx,h1]
   have hd2:zCy t i j=⟨0,0⟩:=by simp [zCy,h1]
   have hd3:errD t i j=2:=by simp [errD,hv,h1]
   rw [hd1,hd2,hd3]
   cases h2:inB 0 t.length i && inB 0 t.length j
   ·have h3:=Lib.hid h2
    clear h2 h1
    go_wp2_with (first|(go_at_call 26;refine hd.mono ?_;rintro e w1 ⟨rfl,hb1⟩;have x0:=k0.past hb1;have x1:=k1.past hb1;have x2:=k2.past hb1;have hB1:=zu hB0 hb1;clear hb1;obtain ⟨c0,f0,l0⟩:=x0.facts;obtain ⟨c1,f1,l1⟩:=x1.facts;obtain ⟨c2,f2,l2⟩:=x2.facts)|(go_at_call 27;refine (zF8 _ _ _ _ _ _ _ _ (by simp)).mono ?_;rintro e w2 ⟨rfl,hb2⟩;rw [h3.out];have y1:Blk _ (w.heap.size+1) _:=(Blk.alloc (Blk.alloc x1 _) _).past hb2;have y2:Blk _ (w.heap.size+2) _:=(Blk.alloc (Blk.alloc x2 _) _).past hb2;have hB2:=zu (zd (zd hB1 _) _) hb2;clear c0 f0 c1 f1 c2 f2 l0 l1 l2 hb2;obtain ⟨c1,f1,l1⟩:=y1.facts;obtain ⟨c2,f2,l2⟩:=y2.facts))
    refine bodyPost_ret (zCM (x:=.int .i64 0) (y:=.int .i64 0) (x':=.int .i64 0) (y':=.int .i64 0) rfl rfl ?_ rfl ?_) rfl ⟨rfl,?_⟩
    ·(refine zAK ?_;repeat (first|(with_reducible refine zB.zAJ (by first|(simp;done)|(simp;omega)|omega) ?_;(first|rfl|(simp;done)))|(with_reducible refine zB.alloc ?_ _)|(with_reducible refine zB.far ?_ _ (by first|(simp;done)|(simp;omega)|omega))|(with_reducible refine zB.zy ?_ (by first|(simp;done)|(simp;omega)|omega))|(with_reducible refine zB.drew ?_)|(with_reducible refine zB.drewN ?_ _)|(refine zB.leaf (by assumption) ?_;(first|rfl|(simp;done)))))
    ·(refine zAK ?_;repeat (first|(with_reducible refine zB.zAJ (by first|(simp;done)|(simp;omega)|omega) ?_;(first|rfl|(simp;done)))|(with_reducible refine zB.alloc ?_ _)|(with_reducible refine zB.far ?_ _ (by first|(simp;done)|(simp;omega)|omega))|(with_reducible refine zB.zy ?_ (by first|(simp;done)|(simp;omega)|omega))|(with_reducible refine zB.drew ?_)|(with_reducible refine zB.drewN ?_ _)|(refine zB.leaf (by assumption) ?_;(first|rfl|(simp;done)))))
    ·(repeat (first|(with_reducible refine zd ?_ _)|(with_reducible refine za ?_ (by first|(simp;done)|(simp;omega)|omega))|(with_reducible refine zn ?_)|(with_reducible refine below_drewN ?_ _)|(with_reducible assumption)|(with_reducible exact Below.refl _ _)))
   ·have h3:=Lib.hid h2
    have hij:j<i:=by
     rw [Bool.and_eq_true,zAS,zAS] at h2
     rcases Int.lt_or_le j i with h|h
     ·exact h
     ·exfalso
      have:zDd t i j=true:=by simp only [zDd,Bool.and_eq_true,zAS];omega
      rw [h1] at this;cases this
    clear h2 h1
    go_wp2_with (first|(go_at_call 26;refine hd.mono ?_;rintro e w1 ⟨rfl,hb1⟩;have x0:=k0.past hb1;have x1:=k1.past hb1;have x2:=k2.past hb1;have hB1:=zu hB0 hb1;clear hb1;obtain ⟨c0,f0,l0⟩:=x0.facts;obtain ⟨c1,f1,l1⟩:=x1.facts;obtain ⟨c2,f2,l2⟩:=x2.facts)|(go_at_call 27;refine (zF8 _ _ _ _ _ _ _ _ (by simp)).mono ?_;rintro e w2 ⟨rfl,hb2⟩;rw [h3.out];have y1:Blk _ (w.heap.size+1) _:=(Blk.alloc (Blk.alloc x1 _) _).past hb2;have y2:Blk _ (w.heap.size+2) _:=(Blk.alloc (Blk.alloc x2 _) _).past hb2;have hB2:=zu (zd (zd hB1 _) _) hb2;clear c0 f0 c1 f1 c2 f2 l0 l1 l2 hb2;obtain ⟨c1,f1,l1⟩:=y1.facts;obtain ⟨c2,f2,l2⟩:=y2.facts))
    refine bodyPost_ret (zCM (x:=.int .i64 0) (y:=.int .i64 0) (x':=.int .i64 0) (y':=.int .i64 0) rfl rfl ?_ rfl ?_) rfl ⟨rfl,?_⟩
    ·(refine zAK ?_;repeat (first|(with_reducible refine zB.zAJ (by first|(simp;done)|(simp;omega)|omega) ?_;(first|rfl|(simp;done)))|(with_reducible refine zB.alloc ?_ _)|(with_reducible refine zB.far ?_ _ (by first|(simp;done)|(simp;omega)|omega))|(with_reducible refine zB.zy ?_ (by first|(simp;done)|(simp;omega)|omega))|(with_reducible refine zB.drew ?_)|(with_reducible refine zB.drewN ?_ _)|(refine zB.leaf (by assumption) ?_;(first|rfl|(simp;done)))))
    ·(refine zAK ?_;repeat (first|(with_reducible refine zB.zAJ (by first|(simp;done)|(simp;omega)|omega) ?_;(first|rfl|(simp;done)))|(with_reducible refine zB.alloc ?_ _)|(with_reducible refine zB.far ?_ _ (by first|(simp;done)|(simp;omega)|omega))|(with_reducible refine zB.zy ?_ (by first|(simp;done)|(simp;omega)|omega))|(with_reducible refine zB.drew ?_)|(with_reducible refine zB.drewN ?_ _)|(refine zB.leaf (by assumption) ?_;(first|rfl|(simp;done)))))
    ·(repeat (first|(with_reducible refine zd ?_ _)|(with_reducible refine za ?_ (by first|(simp;done)|(simp;omega)|omega))|(with_reducible refine zn ?_)|(with_reducible refine below_drewN ?_ _)|(with_reducible assumption)|(with_reducible exact Below.refl _ _)))
  ·obtain ⟨h2,h2'⟩:inB 0 t.length i=true∧inB i t.length j=true:=by simpa [zDd] using h1
   have h5:=zAS.1 h2
   have h6:=zAS.1 h2'
   obtain ⟨I,rfl⟩:=Int.eq_ofNat_of_zero_le h5.1
   obtain ⟨J,rfl⟩:=Int.eq_ofNat_of_zero_le (show 0≤j by omega)
   have hlen:=zAl hv
   have hd1:zCx t I J=zE t I J:=by simp [zCx,hv,h1]
   have hd2:zCy t I J=zU t I J:=by simp [zCy,hv,h1]
   have hd3:errD t I J=0:=by simp [errD,hv,h1]
   have hm:∀ W:World,Below w.heap.size w W→zw 28 #[.agg #[.slice A t.length cap],.int .i64 I,.int .i64 J] W (.tuple #[.agg #[.int .i64 (zCx t I J).lo,.int .i64 (zCx t I J).hi],.agg #[.int .i64 (zCy t I J).lo,.int .i64 (zCy t I J).hi]]):=fun W hW=>by
    rw [hd1,hd2];exact zDD t A cap I J W (HT.out.below hW) (zAi hv) (by omega) (by omega) (by omega)
   unfold zw at hm
   rw [hd3]
   have HM:=Lib.hid hm
   have h3:(inB 0 t.length I && inB 0 t.length J)=true:=by simp only [Bool.and_eq_true,zAS];omega
   have h3:=Lib.hid h3
   have hij:(I:Int)≤J:=by omega
   clear h2 h2' hm hd1 hd2 hd3 h1
   unfold vSp
   generalize zCx t I J=p at *
   generalize zCy t I J=q at *
   go_wp2_with (first|(go_at_call 26;refine hd.mono ?_;rintro e w1 ⟨rfl,hb1⟩;have x0:=k0.past hb1;have x1:=k1.past hb1;have x2:=k2.past hb1;have hB1:=zu hB0 hb1;clear hb1;obtain ⟨c0,f0,l0⟩:=x0.facts;obtain ⟨c1,f1,l1⟩:=x1.facts;obtain ⟨c2,f2,l2⟩:=x2.facts)|(go_at_call 27;refine (zF8 _ _ _ _ _ _ _ _ (by simp)).mono ?_;rintro e w2 ⟨rfl,hb2⟩;rw [h3.out];have y1:Blk _ (w.heap.size+1) _:=(Blk.alloc (Blk.alloc x1 _) _).past hb2;have y2:Blk _ (w.heap.size+2) _:=(Blk.alloc (Blk.alloc x2 _) _).past hb2;have y9:Blk _ w1.heap.size _:=(Blk.alloc (Blk.new _ _ _) _).past hb2;have hB2:=zu (zd (zd hB1 _) _) hb2;clear c0 f0 c1 f1 c2 f2 l0 l1 l2 hb2;obtain ⟨c1,f1,l1⟩:=y1.facts;obtain ⟨c2,f2,l2⟩:=y2.facts;obtain ⟨c9,f9,l9⟩:=y9.facts)|(go_at_call 28;refine (HM.out _ hB2).mono ?_;rintro e w3 ⟨rfl,hb3⟩;have z1:=y1.past hb3;have z2:=y2.past hb3;have hB3:=zu hB2 hb3;clear c1 f1 c2 f2 l1 l2 c9 f9 l9 hb3;obtain ⟨c1,f1,l1⟩:=z1.facts;obtain ⟨c2,f2,l2⟩:=z2.facts))
   simp only [Nat.add_assoc,Nat.reduceAdd]
   clear c1 f1 c2 f2
   generalize hX:(((w3.setCell ⟨w.heap.size+1,0,none⟩ (.int .i64 p.lo)).setCell ⟨w.heap.size+1,1,none⟩ (.int .i64 p.hi)).setCell ⟨w.heap.size+2,0,none⟩ (.int .i64 q.lo)).setCell ⟨w.heap.size+2,1,none⟩ (.int .i64 q.hi)=X
   have y1:Blk X (w.heap.size+1) #[.int .i64 p.lo,.int .i64 p.hi]:=by rw [← hX];(refine zAK ?_;repeat (first|(with_reducible refine zB.zAJ (by first|(simp;done)|(simp;omega)|omega) ?_;(first|rfl|(simp;done)))|(with_reducible refine zB.alloc ?_ _)|(with_reducible refine zB.far ?_ _ (by first|(simp;done)|(simp;omega)|omega))|(with_reducible refine zB.zy ?_ (by first|(simp;done)|(simp;omega)|omega))|(with_reducible refine zB.drew ?_)|(with_reducible refine zB.drewN ?_ _)|(refine zB.leaf (by assumption) ?_;(first|rfl|(simp;done)))))
   have y2:Blk X (w.heap.size+2) #[.int .i64 q.lo,.int .i64 q.hi]:=by rw [← hX];(refine zAK ?_;repeat (first|(with_reducible refine zB.zAJ (by first|(simp;done)|(simp;omega)|omega) ?_;(first|rfl|(simp;done)))|(with_reducible refine zB.alloc ?_ _)|(with_reducible refine zB.far ?_ _ (by first|(simp;done)|(simp;omega)|omega))|(with_reducible refine zB.zy ?_ (by first|(simp;done)|(simp;omega)|omega))|(with_reducible refine zB.drew ?_)|(with_reducible refine zB.drewN ?_ _)|(refine zB.leaf (by assumption) ?_;(first|rfl|(simp;done)))))
   have hBX:Below w.heap.size w X:=by rw [← hX];(repeat (first|(with_reducible refine zd ?_ _)|(with_reducible refine za ?_ (by first|(simp;done)|(simp;omega)|omega))|(with_reducible refine zn ?_)|(with_reducible refine below_drewN ?_ _)|(with_reducible assumption)|(with_reducible exact Below.refl _ _)))
   clear hX hB1 hB2 hB3 x0 x1 x2 z1 z2
   obtain ⟨c1,f1,l1⟩:=y1.facts
   obtain ⟨c2,f2,l2⟩:=y2.facts
   go_region
   all_goals
    go_wp2
    refine bodyPost_ret (zCM (x:=.int .i64 p.lo) (y:=.int .i64 p.hi) (x':=.int .i64 q.lo) (y':=.int .i64 q.hi) rfl rfl ?_ rfl ?_) rfl ⟨rfl,?_⟩
    ·(refine zAK ?_;repeat (first|(with_reducible refine zB.zAJ (by first|(simp;done)|(simp;omega)|omega) ?_;(first|rfl|(simp;done)))|(with_reducible refine zB.alloc ?_ _)|(with_reducible refine zB.far ?_ _ (by first|(simp;done)|(simp;omega)|omega))|(with_reducible refine zB.zy ?_ (by first|(simp;done)|(simp;omega)|omega))|(with_reducible refine zB.drew ?_)|(with_reducible refine zB.drewN ?_ _)|(refine zB.leaf (by assumption) ?_;(first|rfl|(simp;done)))))
    ·(refine zAK ?_;repeat (first|(with_reducible refine zB.zAJ (by first|(simp;done)|(simp;omega)|omega) ?_;(first|rfl|(simp;done)))|(with_reducible refine zB.alloc ?_ _)|(with_reducible refine zB.far ?_ _ (by first|(simp;done)|(simp;omega)|omega))|(with_reducible refine zB.zy ?_ (by first|(simp;done)|(simp;omega)|omega))|(with_reducible refine zB.drew ?_)|(with_reducible refine zB.drewN ?_ _)|(refine zB.leaf (by assumption) ?_;(first|rfl|(simp;done)))))
    ·(repeat (first|(with_reducible refine zd ?_ _)|(with_reducible refine za ?_ (by first|(simp;done)|(simp;omega)|omega))|(with_reducible refine zn ?_)|(with_reducible refine below_drewN ?_ _)|(with_reducible assumption)|(with_reducible exact Below.refl _ _)))
end Go.Proofs.YtcpdjamlhhfbhaaDoor
namespace Go.Proofs.YtcpdjamlhhfbhaaDoor
open Go.RowKit
set_option maxRecDepth 20000
def zEk (s:St):Sp:=⟨s.fall.lo * 1000 / s.long.hi,(s.fall.hi * 1000+s.long.lo - 1) / s.long.lo⟩
def zCf (t:List St) (i:Int):Sp:=if valid t && inB 0 (t.length - 1) i then (match t[i.toNat]? with|some s=>zEk s|none=>⟨0,0⟩) else ⟨0,0⟩
def errS (t:List St) (i:Int):Int:=if valid t then (if inB 0 (t.length - 1) i then 0 else 2) else 10
theorem up_eq {n d:Int} (hn:0≤n) (hd:1≤d):(n+d - 1) / d=if 0<n % d then n / d+1 else n / d:=by
 have h1:=Int.emod_add_mul_ediv n d
 have h2:=Int.emod_nonneg n (show d≠0 by omega)
 have h3:=Int.emod_lt_of_pos n (show 0<d by omega)
 generalize n / d=q at *
 generalize n % d=r at *
 have e:n+d - 1=(r+d - 1)+d * q:=by omega
 rw [e,Int.add_mul_ediv_left _ _ (by omega)]
 split
 ·have:(r+d - 1) / d=1:=by
   rw [show r+d - 1=(r - 1)+d * 1 by omega,Int.add_mul_ediv_left _ _ (by omega),Int.ediv_eq_zero_of_lt (by omega) (by omega)];rfl
  omega
 ·have:(r+d - 1) / d=0:=Int.ediv_eq_zero_of_lt (by omega) (by omega)
  omega
end Go.Proofs.YtcpdjamlhhfbhaaDoor
namespace Go.Proofs.YtcpdjamlhhfbhaaDoor
open Go.RowKit
set_option maxRecDepth 20000
set_option maxHeartbeats 4000000 in
theorem zFb (t:List St) (A:Option Addr) (cap:Nat) (i:Int) (w:World) (ht:zS zO 9 w A t) (hf:zCb t) (hl:t.length≤1000) :
  zw 15 #[vT A t.length cap,.int .i64 i] w (.tuple #[vSp (zCf t i),.int .i64 (errS t i)]):=by
 unfold zw vT
 have HT:=Lib.hid ht
 clear ht
 have k0:Blk ((w.alloc (.cells #[.slice A t.length cap] 37)).alloc (.cells #[.int .i64 0,.int .i64 0] 23)) w.heap.size #[.slice A t.length cap]:=by (refine zAK ?_;repeat (first|(with_reducible refine zB.zAJ (by first|(simp;done)|(simp;omega)|omega) ?_;(first|rfl|(simp;done)))|(with_reducible refine zB.alloc ?_ _)|(with_reducible refine zB.far ?_ _ (by first|(simp;done)|(simp;omega)|omega))|(with_reducible refine zB.zy ?_ (by first|(simp;done)|(simp;omega)|omega))|(with_reducible refine zB.drew ?_)|(with_reducible refine zB.drewN ?_ _)|(refine zB.leaf (by assumption) ?_;(first|rfl|(simp;done)))))
 have k1:Blk ((w.alloc (.cells #[.slice A t.length cap] 37)).alloc (.cells #[.int .i64 0,.int .i64 0] 23)) (w.heap.size+1) #[.int .i64 0,.int .i64 0]:=by (refine zAK ?_;repeat (first|(with_reducible refine zB.zAJ (by first|(simp;done)|(simp;omega)|omega) ?_;(first|rfl|(simp;done)))|(with_reducible refine zB.alloc ?_ _)|(with_reducible refine zB.far ?_ _ (by first|(simp;done)|(simp;omega)|omega))|(with_reducible refine zB.zy ?_ (by first|(simp;done)|(simp;omega)|omega))|(with_reducible refine zB.drew ?_)|(with_reducible refine zB.drewN ?_ _)|(refine zB.leaf (by assumption) ?_;(first|rfl|(simp;done)))))
 have hB0:Below w.heap.size w ((w.alloc (.cells #[.slice A t.length cap] 37)).alloc (.cells #[.int .i64 0,.int .i64 0] 23)):=by (repeat (first|(with_reducible refine zd ?_ _)|(with_reducible refine za ?_ (by first|(simp;done)|(simp;omega)|omega))|(with_reducible refine zn ?_)|(with_reducible refine below_drewN ?_ _)|(with_reducible assumption)|(with_reducible exact Below.refl _ _)))
 have hd:=zEP t A cap _ (HT.out.below hB0) hf (by omega)
 unfold zw vT at hd
 go_enter Tryd.func15,Tryd.ntmps15
 cases hv:valid t
 ·have hd1:zCf t i=⟨0,0⟩:=by simp [zCf,hv]
  have hd3:errS t i=10:=by simp [errS,hv]
  rw [hd1,hd3]
  have he:zBY t=10:=by simp [zBY,hv]
  simp only [hv] at hd
  go_wp2_with (go_at_call 19;refine hd.mono ?_;rintro e w1 ⟨rfl,hb1⟩;have x0:=k0.past hb1;have x1:=k1.past hb1;have hB1:=zu hB0 hb1;clear hb1;obtain ⟨c0,f0,l0⟩:=x0.facts;obtain ⟨c1,f1,l1⟩:=x1.facts)
  refine bodyPost_ret (zCL (x:=.int .i64 0) (y:=.int .i64 0) rfl rfl ?_) rfl ⟨rfl,?_⟩
  ·(refine zAK ?_;repeat (first|(with_reducible refine zB.zAJ (by first|(simp;done)|(simp;omega)|omega) ?_;(first|rfl|(simp;done)))|(with_reducible refine zB.alloc ?_ _)|(with_reducible refine zB.far ?_ _ (by first|(simp;done)|(simp;omega)|omega))|(with_reducible refine zB.zy ?_ (by first|(simp;done)|(simp;omega)|omega))|(with_reducible refine zB.drew ?_)|(with_reducible refine zB.drewN ?_ _)|(refine zB.leaf (by assumption) ?_;(first|rfl|(simp;done)))))
  ·(repeat (first|(with_reducible refine zd ?_ _)|(with_reducible refine za ?_ (by first|(simp;done)|(simp;omega)|omega))|(with_reducible refine zn ?_)|(with_reducible refine below_drewN ?_ _)|(with_reducible assumption)|(with_reducible exact Below.refl _ _)))
 ·have he:zBY t=0:=by simp [zBY,hv]
  simp only [hv] at hd
  cases h1:inB 0 (t.length - 1) i
  ·have hd1:zCf t i=⟨0,0⟩:=by simp [zCf,h1]
   have hd3:errS t i=2:=by simp [errS,hv,h1]
   rw [hd1,hd3]
   have h3:=Lib.hid h1
   clear h1
   go_wp2_with (first|(go_at_call 19;refine hd.mono ?_;rintro e w1 ⟨rfl,hb1⟩;have x0:=k0.past hb1;have x1:=k1.past hb1;have hB1:=zu hB0 hb1;clear hb1;obtain ⟨c0,f0,l0⟩:=x0.facts;obtain ⟨c1,f1,l1⟩:=x1.facts)|(go_at_call 27;refine (zFG _ _ _ _ _ _ _ (by simp)).mono ?_;rintro e w2 ⟨rfl,hb2⟩;rw [h3.out];clear c0 f0 c1 f1 l0 l1;replace x0:=(Blk.alloc x0 _).past hb2;replace x1:=(Blk.alloc x1 _).past hb2;replace hB1:=zu (zd hB1 _) hb2;clear hb2;obtain ⟨c0,f0,l0⟩:=x0.facts;obtain ⟨c1,f1,l1⟩:=x1.facts))
   refine bodyPost_ret (zCL (x:=.int .i64 0) (y:=.int .i64 0) rfl rfl ?_) rfl ⟨rfl,?_⟩
   ·(refine zAK ?_;repeat (first|(with_reducible refine zB.zAJ (by first|(simp;done)|(simp;omega)|omega) ?_;(first|rfl|(simp;done)))|(with_reducible refine zB.alloc ?_ _)|(with_reducible refine zB.far ?_ _ (by first|(simp;done)|(simp;omega)|omega))|(with_reducible refine zB.zy ?_ (by first|(simp;done)|(simp;omega)|omega))|(with_reducible refine zB.drew ?_)|(with_reducible refine zB.drewN ?_ _)|(refine zB.leaf (by assumption) ?_;(first|rfl|(simp;done)))))
   ·(repeat (first|(with_reducible refine zd ?_ _)|(with_reducible refine za ?_ (by first|(simp;done)|(simp;omega)|omega))|(with_reducible refine zn ?_)|(with_reducible refine below_drewN ?_ _)|(with_reducible assumption)|(with_reducible exact Below.refl _ _)))
  ·have h5:=zAS.1 h1
   obtain ⟨I,rfl⟩:=Int.eq_ofNat_of_zero_le h5.1
   have hlt:I<t.length:=by omega
   have hok:=zAi hv t[I] (List.getElem_mem hlt)
   have hd1:zCf t I=zEk t[I]:=by simp [zCf,hv,h1,hlt]
   have hd3:errS t I=0:=by simp [errS,hv,h1]
   rw [hd1,hd3]
   have h3:=Lib.hid h1
   obtain ⟨b,o,rfl,hblt,hc⟩:=HT.out.at_ hlt
   clear h1 hd1 hd3 h5
   generalize t[I]=s at hc hok
   have e0:=hc 0 _ rfl
   have e1:=hc 1 _ rfl
   have e2:=hc 2 _ rfl
   have e3:=hc 3 _ rfl
   have e4:=hc 4 _ rfl
   have e5:=hc 5 _ rfl
   have e6:=hc 6 _ rfl
   have e7:=hc 7 _ rfl
   have e8:=hc 8 _ rfl
   simp only [Nat.add_zero] at e0
   clear hc
   obtain ⟨z1,z2,z3,z4,z5,z6,z7,z8⟩:=hok
   have hi0:(0:Int)≤I:=by omega
   have hi1:(I:Int)<t.length:=by omega
   have hup:=up_eq (n:=s.fall.hi * 1000) (d:=s.long.lo) (by omega) (by omega)
   rw [Int.mul_comm s.fall.hi 1000] at hup
   have hso:zEk s=⟨1000 * s.fall.lo / s.long.hi,if 0<1000 * s.fall.hi % s.long.lo then 1000 * s.fall.hi / s.long.lo+1 else 1000 * s.fall.hi / s.long.lo⟩:=by
    rw [← hup];unfold zEk;rw [Int.mul_comm s.fall.lo 1000,Int.mul_comm s.fall.hi 1000]
   have HSO:=Lib.hid hso
   clear hso hup
   have b1:0≤1000 * s.fall.hi / s.long.lo:=Int.ediv_nonneg (by omega) (by omega)
   have b2:1000 * s.fall.hi / s.long.lo≤1000 * s.fall.hi:=Int.ediv_le_self _ (by omega)
   go_wp2_with (first|(go_at_call 19;refine hd.mono ?_;rintro e w1 ⟨rfl,hb1⟩;have x0:=k0.past hb1;have x1:=k1.past hb1;have hB1:=zu hB0 hb1;clear hb1;obtain ⟨c0,f0,l0⟩:=x0.facts;obtain ⟨c1,f1,l1⟩:=x1.facts)|(go_at_call 27;refine (zFG _ _ _ _ _ _ _ (by simp)).mono ?_;rintro e w2 ⟨rfl,hb2⟩;rw [h3.out];clear c0 f0 c1 f1 l0 l1;replace x0:=(Blk.alloc x0 _).past hb2;replace x1:=(Blk.alloc x1 _).past hb2;replace hB1:=zu (zd hB1 _) hb2;have cB:=(bcell hB1).1;have fB:=(bcell hB1).2;clear hb2;obtain ⟨c0,f0,l0⟩:=x0.facts;obtain ⟨c1,f1,l1⟩:=x1.facts))
   ·rename_i hpos
    refine bodyPost_ret (zCL (x:=.int .i64 (1000 * s.fall.lo / s.long.hi)) (y:=.int .i64 (1000 * s.fall.hi / s.long.lo+1)) rfl rfl ?_) rfl ⟨?_,?_⟩
    ·(refine zAK ?_;repeat (first|(with_reducible refine zB.zAJ (by first|(simp;done)|(simp;omega)|omega) ?_;(first|rfl|(simp;done)))|(with_reducible refine zB.alloc ?_ _)|(with_reducible refine zB.far ?_ _ (by first|(simp;done)|(simp;omega)|omega))|(with_reducible refine zB.zy ?_ (by first|(simp;done)|(simp;omega)|omega))|(with_reducible refine zB.drew ?_)|(with_reducible refine zB.drewN ?_ _)|(refine zB.leaf (by assumption) ?_;(first|rfl|(simp;done)))))
    ·rw [HSO.out,if_pos (by omega)];rfl
    ·(repeat (first|(with_reducible refine zd ?_ _)|(with_reducible refine za ?_ (by first|(simp;done)|(simp;omega)|omega))|(with_reducible refine zn ?_)|(with_reducible refine below_drewN ?_ _)|(with_reducible assumption)|(with_reducible exact Below.refl _ _)))
   ·rename_i hpos
    refine bodyPost_ret (zCL (x:=.int .i64 (1000 * s.fall.lo / s.long.hi)) (y:=.int .i64 (1000 * s.fall.hi / s.long.lo)) rfl rfl ?_) rfl ⟨?_,?_⟩
    ·(refine zAK ?_;repeat (first|(with_reducible refine zB.zAJ (by first|(simp;done)|(simp;omega)|omega) ?_;(first|rfl|(simp;done)))|(with_reducible refine zB.alloc ?_ _)|(with_reducible refine zB.far ?_ _ (by first|(simp;done)|(simp;omega)|omega))|(with_reducible refine zB.zy ?_ (by first|(simp;done)|(simp;omega)|omega))|(with_reducible refine zB.drew ?_)|(with_reducible refine zB.drewN ?_ _)|(refine zB.leaf (by assumption) ?_;(first|rfl|(simp;done)))))
    ·rw [HSO.out,if_neg (by omega)];rfl
    ·(repeat (first|(with_reducible refine zd ?_ _)|(with_reducible refine za ?_ (by first|(simp;done)|(simp;omega)|omega))|(with_reducible refine zn ?_)|(with_reducible refine below_drewN ?_ _)|(with_reducible assumption)|(with_reducible exact Below.refl _ _)))
end Go.Proofs.YtcpdjamlhhfbhaaDoor
