/- F22 -/
import Derived.Test.YtdigopgncfhiaaaGreatDoorF8
import Derived.Test.YtdigopgncfhiaaaGreatDoorF2
import Derived.Test.YtdigopgncfhiaaaGreatDoorF1
import Derived.Test.YtdigopgncfhiaaaGreatDoorF21
import Derived.Test.YtdigopgncfhiaaaGreatDoorF9
set_option linter.unusedSimpArgs false
set_option linter.unusedVariables false
namespace Go.Proofs.YtdigopgncfhiaaaGreatDoor
open Go.RowKit
set_option maxHeartbeats 2000000 in
theorem zKl (a:Sp) (more:List Sp) (A:Option Addr) (c:Nat) (w:World) (hm:zq zAz 2 w A more) (ha:near 1000000000000 a) (hn:∀ x∈more,near 1000000000 x) (hl:more.length≤100) :
  zAb 140 #[vSp a,.slice A more.length c] w (vSp (more.foldl zBa a)):=by
 unfold zAb vSp
 have HM:=Lib.hid hm
 clear hm
 obtain ⟨ha1,ha2,ha3,ha4⟩:=ha
 go_enter Tryz.func140,Tryz.ntmps140
 go_wp2
 go_loopw [9] (fun v wr=>∃ (i:Nat) (s:Sp),i≤more.length∧v = .int .i64 i∧near (1000000000000+1000000000 * i) s∧Blk wr w.heap.size #[.int .i64 s.lo,.int .i64 s.hi]∧Blk wr (w.heap.size+1) #[.int .i64 0,.int .i64 0]∧Below w.heap.size w wr∧Hid (more.foldl zBa a=(more.drop i).foldl zBa s)) (fun v _=>more.length - (intOf v).toNat)
 case atStart=>exact ⟨0,a,Nat.zero_le _,rfl,⟨by omega,by omega,by omega,by omega⟩,(Blk.new _ _ _).alloc _,Blk.new' (by simp),zAO (zy _ _) _,by unfold Hid;simp⟩
 case round =>
  obtain ⟨i,s,hi,rfl,⟨n1,n2,n3,n4⟩,hk,hk4,hB,hF⟩:=hrel
  obtain ⟨kc,kf,kl⟩:=hk.facts
  obtain ⟨qc,qf,ql⟩:=hk4.facts
  by_cases hlt:i<more.length
  ·obtain ⟨b,o,rfl,hblt,hc⟩:=(HM.out.below hB).at_ hlt
   have hF':more.foldl zBa a=(more.drop (i+1)).foldl zBa (zBa s more[i]):=by
    rw [hF.out,List.drop_eq_getElem_cons hlt];rfl
   have HF:=Lib.hid hF'
   clear hF' hF
   obtain ⟨x1,x2,x3,x4⟩:=hn more[i] (List.getElem_mem hlt)
   generalize more[i]=x at hc HF x1 x2 x3 x4
   have c0:=hc 0 _ rfl
   have c1:=hc 1 _ rfl
   simp only [Nat.add_zero] at c0
   clear hc
   have hi0:(0:Int)≤i:=by omega
   have hi1:(i:Int)<more.length:=by omega
   go_wp2
   go_roundw
   case rel =>
    refine ⟨i+1,zBa s x,by omega,by go_num,⟨by simp [zBa];omega,by simp [zBa];omega,by simp [zBa];omega,by simp [zBa];omega⟩,?_,?_,?_,HF.out⟩
    ·exact Blk.cast (((hk.zA7 0 _).zA7 1 _).alloc _) (by simp [zBa])
    ·exact ((hk4.far (p:=⟨_,_,_⟩) (by simp) _).far (p:=⟨_,_,_⟩) (by simp) _).alloc _
    ·exact zAO ((hB.setCell (p:=⟨_,_,_⟩) (by simp) _).setCell (p:=⟨_,_,_⟩) (by simp) _) _
   case measure=>simp [intOf];omega
  ·go_wp2
   refine bodyPost_ret (zLs (x:=.int .i64 s.lo) (y:=.int .i64 s.hi) rfl rfl (Blk.cast ((hk4.zA7 0 _).zA7 1 _) (by simp))) rfl ⟨zBT ?_,?_⟩
   ·rw [hF.out,List.drop_eq_nil_of_le (by omega)];rfl
   ·exact (hB.setCell (p:=⟨_,_,_⟩) (by simp) _).setCell (p:=⟨_,_,_⟩) (by simp) _
end Go.Proofs.YtdigopgncfhiaaaGreatDoor
namespace Go.Proofs.YtdigopgncfhiaaaGreatDoor
open Go.RowKit
set_option maxRecDepth 20000
attribute [local go_sem] Oper.semAt_some
theorem Blk.on {lo hi g:Nat} {W W':World} {cs:Array Value} (h:Blk W g cs) (ho:On lo hi W W') (h1:lo≤g) (h2:g<hi):Blk W' g cs:=by
 unfold Blk at h ⊢
 obtain ⟨t,h⟩:=h
 exact ⟨t,(ho.block g h1 h2).trans h⟩
theorem zKW {w:World} {g:Nat} {x:Sp} (h:Blk w g #[.int .i64 x.lo,.int .i64 x.hi]):zq zAz 2 w (some ⟨g,0,none⟩) [x]:=by
 intro i y hy
 match i,hy with
 | 0,hy =>
  simp at hy;subst hy
  refine ⟨g,0,rfl,h.lt,fun j v hv=>?_⟩
  rw [h.cell]
  simpa [zAz] using hv
 | i+1,hy=>simp at hy
set_option maxHeartbeats 4000000 in
theorem zHC (t:List St) (A:Option Addr) (cap frm fb vb:Nat) (ho:∀ s∈t,Okay s) (hfrm:frm≤t.length) (hl:t.length≤100) :
  Iter Tryz.prog 139 #[.pointer (some ⟨fb,0,none⟩),.pointer (some ⟨vb,0,none⟩)] 2 (t.length+1 - frm) (fun k=>#[vSp (ze t frm (frm+k)),vSp (zAD t frm (frm+k))])
   (fun W=>Blk W fb #[.int .i64 frm]∧Blk W vb #[.slice A t.length cap]∧zq zAS 9 W A t):=by
 intro l J Jx W hJ hJx hD hY h0
 obtain ⟨d1,d2,d3⟩:=hD 0 W h0
 obtain ⟨c1,f1,l1⟩:=d1.facts
 obtain ⟨c2,f2,l2⟩:=d2.facts
 have HS:=Lib.hid d3
 clear d3
 refine callsIn_of_wp Tryz.func139 rfl trivial ?_ rfl
 simp only [Tryz.ntmps139,List.size_toArray,List.length_cons,List.length_nil,Nat.reduceAdd,Nat.reduceSub,Array.replicate_succ,Array.replicate_zero,List.push_toArray,List.append_toArray,List.nil_append,List.cons_append]
 gi_wp2
 gi_loopw [6] (fun v wr=>∃ k:Nat,frm+k≤t.length∧v = .int .i64 (frm+k:Nat)∧J k wr∧Blk wr W.heap.size #[.int .i64 (ze t frm (frm+k)).lo,.int .i64 (ze t frm (frm+k)).hi]∧Blk wr (W.heap.size+1) #[.int .i64 (zAD t frm (frm+k)).lo,.int .i64 (zAD t frm (frm+k)).hi]∧W.heap.size+2≤wr.heap.size) (fun v _=>t.length - (intOf v).toNat)
 case atStart =>
  refine ⟨0,by omega,rfl,hJ _ _ _ h0 ((zE8 _ _ _ _).trans (zE8 _ _ _ _)),?_,?_,by simp⟩
  ·simp only [Nat.add_zero,zCi];(refine zBN ?_;repeat (first|(with_reducible refine zN.zBL (by first|(simp;done)|(simp;omega)|omega) ?_;(first|rfl|(simp;done)))|(with_reducible refine zN.alloc ?_ _)|(with_reducible refine zN.far ?_ _ (by first|(simp;done)|(simp;omega)|omega))|(with_reducible refine zN.zA7 ?_ (by first|(simp;done)|(simp;omega)|omega))|(with_reducible refine zN.drew ?_)|(with_reducible refine zN.drewN ?_ _)|(refine zN.leaf (by assumption) ?_;(first|rfl|(simp;done)))))
  ·simp only [Nat.add_zero,zCl];(refine zBN ?_;repeat (first|(with_reducible refine zN.zBL (by first|(simp;done)|(simp;omega)|omega) ?_;(first|rfl|(simp;done)))|(with_reducible refine zN.alloc ?_ _)|(with_reducible refine zN.far ?_ _ (by first|(simp;done)|(simp;omega)|omega))|(with_reducible refine zN.zA7 ?_ (by first|(simp;done)|(simp;omega)|omega))|(with_reducible refine zN.drew ?_)|(with_reducible refine zN.drewN ?_ _)|(refine zN.leaf (by assumption) ?_;(first|rfl|(simp;done)))))
 case round =>
  obtain ⟨k,hk,rfl,hJk,k4,k5,hsz⟩:=hrel
  obtain ⟨x1,x2,x3⟩:=hD k wr hJk
  obtain ⟨p1,q1,m1⟩:=x1.facts
  obtain ⟨p2,q2,m2⟩:=x2.facts
  obtain ⟨p4,q4,m4⟩:=k4.facts
  obtain ⟨p5,q5,m5⟩:=k5.facts
  have hy:=hY k wr (by omega) hJk hsz
  unfold YieldAt vSp at hy
  obtain ⟨fn,tmps,assign,body,hy,hR⟩:=hy
  gi_wp2
  refine hR.mono ?_
  rintro e W3 (⟨rfl,hJ3,hon⟩ | ⟨rfl,hJx3,hon⟩)
  ·obtain ⟨x1,x2,x3⟩:=hD (k+1) W3 hJ3
   have y4:=k4.on hon (by omega) (by omega)
   have y5:=k5.on hon (by omega) (by omega)
   obtain ⟨r1,s1,n1⟩:=x1.facts
   obtain ⟨r2,s2,n2⟩:=x2.facts
   have hsz3:=hon.size
   have ht0:(0:Int)≤t.length:=by omega
   by_cases hlt:frm+k<t.length
   ·have hi0:(0:Int)≤(frm+k:Nat):=by omega
    have hi1:((frm+k:Nat):Int)<t.length:=by omega
    obtain ⟨b,o,rfl,hblt,hc⟩:=x3.at_ hlt
    have hbW:b<W.heap.size:=by
     obtain ⟨b',o',hb',hlt',_⟩:=HS.out.at_ hlt
     cases hb';exact hlt'
    have bd:=zMe ho (show frm≤frm+k by omega) (show frm+k≤t.length by omega)
    have HL:=Lib.hid (zDw (show frm≤frm+k by omega) hlt)
    have HF:=Lib.hid (zD4 (show frm≤frm+k by omega) hlt)
    have hok:=ho t[frm+k] (List.getElem_mem hlt)
    rw [show frm+k+1=frm+(k+1) by omega] at HL HF
    generalize t[frm+k]=s at hc HL HF hok
    generalize ze t frm (frm+k)=p at *
    generalize zAD t frm (frm+k)=q at *
    have e1:=hc 1 _ rfl
    have e2:=hc 2 _ rfl
    have e3:=hc 3 _ rfl
    have e4:=hc 4 _ rfl
    clear hc p1 q1 p2 q2 p4 q4 p5 q5 k4 k5 hy hR
    gi_wp2
    refine wpIn_wide.2 ?_
    have hbX:b≠W.heap.size:=by omega
    have hbY:b≠W.heap.size+1:=by omega
    have hvX:vb≠W.heap.size:=by omega
    have hvY:vb≠W.heap.size+1:=by omega
    have hj0:(0:Int)≤frm+k:=by omega
    have hj1:(frm+k:Int)<t.length:=by omega
    obtain ⟨z1,z2,z3⟩:=hok
    refine zFO (fun g=>g=W.heap.size∨g=W.heap.size+1) (fun r=>[oA W.heap.size #[.int .i64 p.lo,.int .i64 p.hi],oA (W.heap.size+1) #[.int .i64 q.lo,.int .i64 q.hi],
     voA 22 (vSp p) W.heap.size #[.int .i64 p.lo,.int .i64 p.hi],vA 23 (.pointer (some ⟨vb,0,none⟩)),vA 24 (.pointer (some ⟨vb,0,none⟩)),vA 25 (.slice (some ⟨b,o,none⟩) t.length cap),vA 26 (.int .i64 (frm+k)),vA 27 (.pointer (some ⟨b,o+(frm+k) * 9,none⟩)),vA 28 (.pointer (some ⟨b,o+(frm+k) * 9+1,none⟩)),vA 29 (vSp s.long),slA 30 1 #[.int .i64 s.long.lo,.int .i64 s.long.hi],voA 31 (vSp (zBa p s.long)) W.heap.size #[.int .i64 p.lo,.int .i64 p.hi],
     voA 32 (vSp q) (W.heap.size+1) #[.int .i64 q.lo,.int .i64 q.hi],vA 33 (.pointer (some ⟨vb,0,none⟩)),vA 34 (.pointer (some ⟨vb,0,none⟩)),vA 35 (.slice (some ⟨b,o,none⟩) t.length cap),vA 36 (.int .i64 (frm+k)),vA 37 (.pointer (some ⟨b,o+(frm+k) * 9,none⟩)),vA 38 (.pointer (some ⟨b,o+(frm+k) * 9+3,none⟩)),vA 39 (vSp s.fall),slA 40 1 #[.int .i64 s.fall.lo,.int .i64 s.fall.hi],voA 41 (vSp (zBa q s.fall)) (W.heap.size+1) #[.int .i64 q.lo,.int .i64 q.hi],
     oA W.heap.size #[.int .i64 (zBa p s.long).lo,.int .i64 (zBa p s.long).hi],oA (W.heap.size+1) #[.int .i64 (zBa q s.fall).lo,.int .i64 (zBa q s.fall).hi]].getD r nA)
     [(0,[0]),(9,[2]),(10,[1]),(19,[12]),(20,[11]),(21,[21])] 2 (fun r=>[W.heap.size+r]) 24 (by rfl) (by kernel_rfl) (by kernel_rfl) ?_ ?_ ?_ ?_ ?_ ?_
    ·intro r hr
     match r,hr with
     | 0,_=>exact zJF rfl y4
     | 1,_=>exact zJF rfl y5
    ·intro r hr b hb
     simp at hb
     subst hb
     exact ⟨by omega,by omega⟩
    ·intro r r' hr hr' hne b hb hb'
     simp at hb hb'
     omega
    ·(repeat (first|exact zBv.nil|(refine zBv.cons (zM9 (by rintro _ ⟨⟩<;>exact ⟨by decide,by kernel_rfl⟩)) ?_)))
    ·(refine (zAu.cons ?_ (zAu.cons ?_ (zAu.cons ?_ (zAu.cons ?_ (zAu.cons ?_ (zAu.cons ?_ (zAu.cons ?_ (zAu.cons ?_ (zAu.cons ?_ (zAu.cons ?_ (zAu.cons ?_ (zAu.cons ?_ (zAu.cons ?_ (zAu.cons ?_ (zAu.cons ?_ (zAu.cons ?_ (zAu.cons ?_ (zAu.cons ?_ (zAu.cons ?_ (zAu.cons ?_ (zAu.cons ?_ (zAu.cons ?_ zAu.nil)))))))))))))))))))))))
     all_goals (refine OpOk.of (fun a v S hs hC hr hav K hK=>?_);have cC:=hC.cells.1;have fC:=hC.cells.2;have HS:=Lib.hid hs;have HK:=Lib.hid hC)
     ·have q4:=(hr 4 (by kernel_rfl))
      (have h0:=hav 0 (by kernel_rfl);(try dsimp only at h0);replace h0:=zGl h0;obtain ⟨hS0,hB0⟩:=h0;have k0:=hB0.cell;have f0:=hB0.frozen)
      (clear hr hav hs hC;simp [Array.getD_eq_getD_getElem?,vSp] at q4;go_simp)
      refine hK _ _ (zJB 0 (by kernel_rfl) (zJk (zAX (by rw [HS.out];exact Nat.lt_of_sub_ne_zero (by simp))) hS0 hB0))
     ·(have q2:=(hr 2 (by kernel_rfl));clear hr hav hs hC;simp [Array.getD_eq_getD_getElem?,vSp] at q2;go_simp);(refine hK _ _ (zA4 (zCR (zAX (by rw [HS.out];exact Nat.lt_of_sub_ne_zero (by simp))))))
     ·(have u3:=(hav 3 (by kernel_rfl));(try dsimp only at u3);replace u3:=zAc u3;clear hr hav hs hC;simp [Array.getD_eq_getD_getElem?,vSp] at u3;go_simp);(refine hK _ _ (zA4 (zCR (zAX (by rw [HS.out];exact Nat.lt_of_sub_ne_zero (by simp))))))
     ·(have u4:=(hav 4 (by kernel_rfl));(try dsimp only at u4);replace u4:=zAc u4;clear hr hav hs hC;simp [Array.getD_eq_getD_getElem?,vSp] at u4;go_simp);(refine hK _ _ (zA4 (zCR (zAX (by rw [HS.out];exact Nat.lt_of_sub_ne_zero (by simp))))))
     ·(have q6:=(hr 6 (by kernel_rfl));clear hr hav hs hC;simp [Array.getD_eq_getD_getElem?,vSp] at q6;go_simp);(refine hK _ _ (zA4 (zCR (zAX (by rw [HS.out];exact Nat.lt_of_sub_ne_zero (by simp))))))
     ·(have u5:=(hav 5 (by kernel_rfl));(try dsimp only at u5);replace u5:=zAc u5;have u6:=(hav 6 (by kernel_rfl));(try dsimp only at u6);replace u6:=zAc u6;clear hr hav hs hC;simp [Array.getD_eq_getD_getElem?,vSp] at u5;simp [Array.getD_eq_getD_getElem?,vSp] at u6;go_simp);(refine hK _ _ (zA4 (zCR (zAX (by rw [HS.out];exact Nat.lt_of_sub_ne_zero (by simp))))))
     ·(have u7:=(hav 7 (by kernel_rfl));(try dsimp only at u7);replace u7:=zAc u7;clear hr hav hs hC;simp [Array.getD_eq_getD_getElem?,vSp] at u7;go_simp);(refine hK _ _ (zA4 (zCR (zAX (by rw [HS.out];exact Nat.lt_of_sub_ne_zero (by simp))))))
     ·(have u8:=(hav 8 (by kernel_rfl));(try dsimp only at u8);replace u8:=zAc u8;clear hr hav hs hC;simp [Array.getD_eq_getD_getElem?,vSp] at u8;go_simp);(refine hK _ _ (zA4 (zCR (zAX (by rw [HS.out];exact Nat.lt_of_sub_ne_zero (by simp))))))
     ·(have u9:=(hav 9 (by kernel_rfl));(try dsimp only at u9);replace u9:=zAc u9;clear hr hav hs hC;simp [Array.getD_eq_getD_getElem?,vSp] at u9;go_simp)
      refine hK _ _ (zH4 ?_)
      exact slA_in (zAX (by rw [HS.out];exact Nat.lt_of_sub_ne_zero (by simp))) (Blk.new' rfl)
     ·(have h2:=hav 2 (by kernel_rfl);(try dsimp only at h2);replace h2:=zHN h2;obtain ⟨u2,hS2,hB2⟩:=h2;have k2:=hB2.cell;have f2:=hB2.frozen)
      (have h10:=hav 10 (by kernel_rfl);(try dsimp only at h10);replace h10:=zHP h10;obtain ⟨b10,hS10,u10,hB10⟩:=h10;have k10:=hB10.cell;have f10:=hB10.frozen)
      have hc:=zKl p [s.long] (some ⟨b10,0,none⟩) 1 v (zKW hB10) ⟨by omega,by omega,by omega,by omega⟩ (by simp [near];omega) (by simp)
      unfold zAb vSp at hc
      simp only [List.length_cons,List.length_nil,Nat.zero_add] at hc
      (clear hr hav hs hC;simp [Array.getD_eq_getD_getElem?,vSp] at u2;simp [Array.getD_eq_getD_getElem?,vSp] at u10;go_simp)
      go_at_call 140
      refine hc.mono ?_
      rintro e w1 ⟨rfl,hb1⟩
      refine hK _ _ (zFR 2 (by kernel_rfl) hb1 (zJk (zAX (by rw [HS.out];exact Nat.lt_of_sub_ne_zero (by simp))) hS2 (hB2.past hb1)))
     ·have q5:=(hr 5 (by kernel_rfl))
      (have h1:=hav 1 (by kernel_rfl);(try dsimp only at h1);replace h1:=zGl h1;obtain ⟨hS1,hB1⟩:=h1;have k1:=hB1.cell;have f1:=hB1.frozen)
      (clear hr hav hs hC;simp [Array.getD_eq_getD_getElem?,vSp] at q5;go_simp)
      refine hK _ _ (zJB 1 (by kernel_rfl) (zJk (zAX (by rw [HS.out];exact Nat.lt_of_sub_ne_zero (by simp))) hS1 hB1))
     ·(have q2:=(hr 2 (by kernel_rfl));clear hr hav hs hC;simp [Array.getD_eq_getD_getElem?,vSp] at q2;go_simp);(refine hK _ _ (zA4 (zCR (zAX (by rw [HS.out];exact Nat.lt_of_sub_ne_zero (by simp))))))
     ·(have u13:=(hav 13 (by kernel_rfl));(try dsimp only at u13);replace u13:=zAc u13;clear hr hav hs hC;simp [Array.getD_eq_getD_getElem?,vSp] at u13;go_simp);(refine hK _ _ (zA4 (zCR (zAX (by rw [HS.out];exact Nat.lt_of_sub_ne_zero (by simp))))))
     ·(have u14:=(hav 14 (by kernel_rfl));(try dsimp only at u14);replace u14:=zAc u14;clear hr hav hs hC;simp [Array.getD_eq_getD_getElem?,vSp] at u14;go_simp);(refine hK _ _ (zA4 (zCR (zAX (by rw [HS.out];exact Nat.lt_of_sub_ne_zero (by simp))))))
     ·(have q6:=(hr 6 (by kernel_rfl));clear hr hav hs hC;simp [Array.getD_eq_getD_getElem?,vSp] at q6;go_simp);(refine hK _ _ (zA4 (zCR (zAX (by rw [HS.out];exact Nat.lt_of_sub_ne_zero (by simp))))))
     ·(have u15:=(hav 15 (by kernel_rfl));(try dsimp only at u15);replace u15:=zAc u15;have u16:=(hav 16 (by kernel_rfl));(try dsimp only at u16);replace u16:=zAc u16;clear hr hav hs hC;simp [Array.getD_eq_getD_getElem?,vSp] at u15;simp [Array.getD_eq_getD_getElem?,vSp] at u16;go_simp);(refine hK _ _ (zA4 (zCR (zAX (by rw [HS.out];exact Nat.lt_of_sub_ne_zero (by simp))))))
     ·(have u17:=(hav 17 (by kernel_rfl));(try dsimp only at u17);replace u17:=zAc u17;clear hr hav hs hC;simp [Array.getD_eq_getD_getElem?,vSp] at u17;go_simp);(refine hK _ _ (zA4 (zCR (zAX (by rw [HS.out];exact Nat.lt_of_sub_ne_zero (by simp))))))
     ·(have u18:=(hav 18 (by kernel_rfl));(try dsimp only at u18);replace u18:=zAc u18;clear hr hav hs hC;simp [Array.getD_eq_getD_getElem?,vSp] at u18;go_simp);(refine hK _ _ (zA4 (zCR (zAX (by rw [HS.out];exact Nat.lt_of_sub_ne_zero (by simp))))))
     ·(have u19:=(hav 19 (by kernel_rfl));(try dsimp only at u19);replace u19:=zAc u19;clear hr hav hs hC;simp [Array.getD_eq_getD_getElem?,vSp] at u19;go_simp)
      refine hK _ _ (zH4 ?_)
      exact slA_in (zAX (by rw [HS.out];exact Nat.lt_of_sub_ne_zero (by simp))) (Blk.new' rfl)
     ·(have h12:=hav 12 (by kernel_rfl);(try dsimp only at h12);replace h12:=zHN h12;obtain ⟨u12,hS12,hB12⟩:=h12;have k12:=hB12.cell;have f12:=hB12.frozen)
      (have h20:=hav 20 (by kernel_rfl);(try dsimp only at h20);replace h20:=zHP h20;obtain ⟨b20,hS20,u20,hB20⟩:=h20;have k20:=hB20.cell;have f20:=hB20.frozen)
      have hc:=zKl q [s.fall] (some ⟨b20,0,none⟩) 1 v (zKW hB20) ⟨by omega,by omega,by omega,by omega⟩ (by simp [near];omega) (by simp)
      unfold zAb vSp at hc
      simp only [List.length_cons,List.length_nil,Nat.zero_add] at hc
      (clear hr hav hs hC;simp [Array.getD_eq_getD_getElem?,vSp] at u12;simp [Array.getD_eq_getD_getElem?,vSp] at u20;go_simp)
      go_at_call 140
      refine hc.mono ?_
      rintro e w1 ⟨rfl,hb1⟩
      refine hK _ _ (zFR 12 (by kernel_rfl) hb1 (zJk (zAX (by rw [HS.out];exact Nat.lt_of_sub_ne_zero (by simp))) hS12 (hB12.past hb1)))
     ·have q4:=(hr 4 (by kernel_rfl))
      (have h11:=hav 11 (by kernel_rfl);(try dsimp only at h11);replace h11:=zHN h11;obtain ⟨u11,hS11,hB11⟩:=h11;have k11:=hB11.cell;have f11:=hB11.frozen)
      (clear hr hav hs hC;simp [Array.getD_eq_getD_getElem?,vSp] at q4;simp [Array.getD_eq_getD_getElem?,vSp] at u11;go_simp)
      (refine hK undef _ (zH3 11 (by kernel_rfl) rfl rfl rfl (by simp) (by intro b hb;rw [hS11] at hb;first|exact Below.heap_setCell _ _ _ _ (by simpa using hb)|exact (Below.heap_setCell _ _ _ _ (by simpa using hb)).trans (Below.heap_setCell _ _ _ _ (by simpa using hb))) (zJF hS11 ?_));(refine zBN ?_;repeat (first|(with_reducible refine zN.zBL (by first|(simp;done)|(simp;omega)|omega) ?_;(first|rfl|(simp [zBa];done)))|(with_reducible refine zN.alloc ?_ _)|(with_reducible refine zN.far ?_ _ (by first|(simp;done)|(simp;omega)|omega))|(with_reducible refine zN.zA7 ?_ (by first|(simp;done)|(simp;omega)|omega))|(with_reducible refine zN.drew ?_)|(with_reducible refine zN.drewN ?_ _)|(refine zN.leaf (by assumption) ?_;(first|rfl|(simp [zBa];done))))))
     ·have q5:=(hr 5 (by kernel_rfl))
      (have h21:=hav 21 (by kernel_rfl);(try dsimp only at h21);replace h21:=zHN h21;obtain ⟨u21,hS21,hB21⟩:=h21;have k21:=hB21.cell;have f21:=hB21.frozen)
      (clear hr hav hs hC;simp [Array.getD_eq_getD_getElem?,vSp] at q5;simp [Array.getD_eq_getD_getElem?,vSp] at u21;go_simp)
      (refine hK undef _ (zH3 21 (by kernel_rfl) rfl rfl rfl (by simp) (by intro b hb;rw [hS21] at hb;first|exact Below.heap_setCell _ _ _ _ (by simpa using hb)|exact (Below.heap_setCell _ _ _ _ (by simpa using hb)).trans (Below.heap_setCell _ _ _ _ (by simpa using hb))) (zJF hS21 ?_));(refine zBN ?_;repeat (first|(with_reducible refine zN.zBL (by first|(simp;done)|(simp;omega)|omega) ?_;(first|rfl|(simp [zBa];done)))|(with_reducible refine zN.alloc ?_ _)|(with_reducible refine zN.far ?_ _ (by first|(simp;done)|(simp;omega)|omega))|(with_reducible refine zN.zA7 ?_ (by first|(simp;done)|(simp;omega)|omega))|(with_reducible refine zN.drew ?_)|(with_reducible refine zN.drewN ?_ _)|(refine zN.leaf (by assumption) ?_;(first|rfl|(simp [zBa];done))))))
    ·intro a v S hs hd hrest hC hav
     (have h3:=hav 3 (by kernel_rfl);(try dsimp only at h3);have u3:=zAc h3;have h4:=hav 4 (by kernel_rfl);(try dsimp only at h4);have u4:=zAc h4;have h5:=hav 5 (by kernel_rfl);(try dsimp only at h5);have u5:=zAc h5;have h6:=hav 6 (by kernel_rfl);(try dsimp only at h6);have u6:=zAc h6;have h7:=hav 7 (by kernel_rfl);(try dsimp only at h7);have u7:=zAc h7;have h8:=hav 8 (by kernel_rfl);(try dsimp only at h8);have u8:=zAc h8;have h9:=hav 9 (by kernel_rfl);(try dsimp only at h9);have u9:=zAc h9;have h10:=hav 10 (by kernel_rfl);(try dsimp only at h10);obtain ⟨b10,hS10,u10,hB10⟩:=zHP h10;have h13:=hav 13 (by kernel_rfl);(try dsimp only at h13);have u13:=zAc h13;have h14:=hav 14 (by kernel_rfl);(try dsimp only at h14);have u14:=zAc h14;have h15:=hav 15 (by kernel_rfl);(try dsimp only at h15);have u15:=zAc h15;have h16:=hav 16 (by kernel_rfl);(try dsimp only at h16);have u16:=zAc h16;have h17:=hav 17 (by kernel_rfl);(try dsimp only at h17);have u17:=zAc h17;have h18:=hav 18 (by kernel_rfl);(try dsimp only at h18);have u18:=zAc h18;have h19:=hav 19 (by kernel_rfl);(try dsimp only at h19);have u19:=zAc h19;have h20:=hav 20 (by kernel_rfl);(try dsimp only at h20);obtain ⟨b20,hS20,u20,hB20⟩:=zHP h20;have h22:=hav 22 (by kernel_rfl);(try dsimp only at h22);obtain ⟨hS22,hB22⟩:=zGl h22;have h23:=hav 23 (by kernel_rfl);(try dsimp only at h23);obtain ⟨hS23,hB23⟩:=zGl h23)
     (obtain ⟨x41,ux41⟩:∃ x,a.tmps.getD 41 undef=x:=⟨_,rfl⟩;obtain ⟨x32,ux32⟩:∃ x,a.tmps.getD 32 undef=x:=⟨_,rfl⟩;obtain ⟨x31,ux31⟩:∃ x,a.tmps.getD 31 undef=x:=⟨_,rfl⟩;obtain ⟨x22,ux22⟩:∃ x,a.tmps.getD 22 undef=x:=⟨_,rfl⟩;have hfr:=zNB hs hd hrest _ (by kernel_rfl) (by simp) (zAp ux22 (zAp u3 (zAp u4 (zAp u5 (zAp u6 (zAp u7 (zAp u8 (zAp u9 (zAp u10 (zAp ux31 (zAp ux32 (zAp u13 (zAp u14 (zAp u15 (zAp u16 (zAp u17 (zAp u18 (zAp u19 (zAp u20 (zAp ux41 wr_nil))))))))))))))))))));simp only [List.foldl_cons,List.foldl_nil] at hfr;subst hfr)
     gi_wp2
     go_roundw
     case rel =>
      refine ⟨k+1,by omega,by go_num,hJ _ _ _ hJ3 ⟨hC.os,hC.tape,hC.output,hC.size,fun j hj hn=>hC.block j hj (by rintro (h|h)<;>exact hn (by omega))⟩,?_,?_,by have:=hC.size;omega⟩
      ·rw [HL.out];exact hB22
      ·rw [HF.out];exact hB23
     case measure=>simp [intOf];omega
   ·obtain rfl:k=t.length - frm:=by omega
    gi_wp2
    go_end0
    exact ⟨⟨_,rfl⟩,.inl (by rw [show t.length+1 - frm=t.length - frm+1 by omega];exact hJ3)⟩
  ·gi_wp2
   go_end0
   exact ⟨⟨_,rfl⟩,.inr ⟨k,by omega,hJx3⟩⟩
end Go.Proofs.YtdigopgncfhiaaaGreatDoor
namespace Go.Proofs.YtdigopgncfhiaaaGreatDoor
open Go.RowKit
set_option maxRecDepth 20000
attribute [local go_sem] Oper.semAt_some
def Gets {α:Type} (base:Nat) (enc:α→List Value) (k:Nat) (w:World) (v:Value) (xs:List α):Prop:=∃ A c,v = .slice A xs.length c∧zq enc k w A xs∧∀ b o,A=some ⟨b,o,none⟩→base≤b∧b<w.heap.size
theorem Gets.nil {α:Type} {base:Nat} {enc:α→List Value} {k:Nat} {w:World}:Gets base enc k w (.slice none 0 0) ([]:List α):=⟨none,0,rfl,zq.nil,by simp⟩
theorem Row.gets {α:Type} {enc:α→List Value} {k:Nat} {e:TypeId} {base:Nat} {w:World} {v:Value} {xs:List α} (h:Row enc k e base w v xs) (henc:∀ x,(enc x).length=k) {base':Nat} (hb:base'≤base):Gets base' enc k w v xs:=by
 obtain ⟨A,c,rfl,hs⟩:=h.slAt henc
 refine ⟨A,c,rfl,hs,?_⟩
 rintro b o rfl
 have:=h.lt b rfl
 omega
theorem zHb (A:Option Addr) (n c:Nat) (f:Int) (w:World) :
  Calls Tryz.prog 117 #[.agg #[.slice A n c],.int .i64 f] w fun e w'=>e = .returned (.func (.func 139) #[] #[.pointer (some ⟨w.heap.size+1,0,none⟩),.pointer (some ⟨w.heap.size,0,none⟩)])∧w'=(w.alloc (.cells #[.slice A n c] 149)).alloc (.cells #[.int .i64 f] 3):=by
 go_enter Tryz.func117,Tryz.ntmps117
 go_wp2
 go_ret
 exact ⟨rfl,rfl⟩
def zFm (t:List St):List Sp:=if valid t then marks t else []
set_option maxHeartbeats 4000000 in
theorem zNl (t:List St) (A:Option Addr) (cap:Nat) (w:World) (ht:zq zAS 9 w A t) (hf:zEe t) (hl:t.length≤1000000) :
  Does 83 #[vT A t.length cap] w (fun u w'=>∃ v,u = .tuple #[v,.int .i64 (zDL t)]∧Gets w.heap.size zAz 2 w' v (zFm t)):=by
 unfold Does vT
 have HT:=Lib.hid ht
 clear ht
 refine (callsIn_wide (n:=10)).1 ?_
 refine callsIn_of_wp_marks Tryz.func83 rfl trivial ?_ rfl
 refine wpIn_wide.2 ?_
 simp only [Tryz.ntmps83,List.size_toArray,List.length_cons,List.length_nil,Nat.reduceAdd,Nat.reduceSub,Array.replicate_succ,Array.replicate_zero,List.push_toArray,List.append_toArray,List.nil_append,List.cons_append]
 have ho:=zKw t A cap (w.alloc (.cells #[.slice A t.length cap] 24)) (HT.out.alloc _) hf hl
 unfold zAb vT at ho
 cases hv:valid t
 ·have he:zDL t=10:=by simp [zDL,hv]
  rw [he] at ho ⊢
  go_wp2_with (go_at_call 93;refine ho.mono ?_;rintro e w1 ⟨rfl,hb1⟩)
  refine zK9 (v:=.tuple #[.slice none 0 0,.int .i64 10]) (by simp [results,go_sem]) ⟨_,rfl,zAO (zAV (zy _ _) hb1) _,_,rfl,?_⟩
  simp only [zFm,hv]
  exact Gets.nil
 ·have he:zDL t=0:=by simp [zDL,hv]
  rw [he] at ho ⊢
  go_wp2_with (first|(go_at_call 93;refine ho.mono ?_;rintro e w1 ⟨rfl,hb1⟩)|(go_at_call 117;refine (zHb _ _ _ _ _).mono ?_;rintro e w2 ⟨rfl,rfl⟩))
  have hB0:Below w.heap.size w w1:=zAV (zy _ _) hb1
  have hs1:w.heap.size<w1.heap.size:=by have:=hb1.size;simp at this;omega
  generalize hW:((((w1.alloc (.cells #[.slice A t.length cap] 149)).alloc (.cells #[.slice none 0 0] 139)).alloc (.cells #[.slice A t.length cap] 149)).alloc (.cells #[.int .i64 0] 3))=W
  have z6:Blk W (w1.heap.size+1) #[.slice none 0 0]:=by rw [← hW];(refine zBN ?_;repeat (first|(with_reducible refine zN.zBL (by first|(simp;done)|(simp;omega)|omega) ?_;(first|rfl|(simp;done)))|(with_reducible refine zN.alloc ?_ _)|(with_reducible refine zN.far ?_ _ (by first|(simp;done)|(simp;omega)|omega))|(with_reducible refine zN.zA7 ?_ (by first|(simp;done)|(simp;omega)|omega))|(with_reducible refine zN.drew ?_)|(with_reducible refine zN.drewN ?_ _)|(refine zN.leaf (by assumption) ?_;(first|rfl|(simp;done)))))
  have z7:Blk W (w1.heap.size+2) #[.slice A t.length cap]:=by rw [← hW];(refine zBN ?_;repeat (first|(with_reducible refine zN.zBL (by first|(simp;done)|(simp;omega)|omega) ?_;(first|rfl|(simp;done)))|(with_reducible refine zN.alloc ?_ _)|(with_reducible refine zN.far ?_ _ (by first|(simp;done)|(simp;omega)|omega))|(with_reducible refine zN.zA7 ?_ (by first|(simp;done)|(simp;omega)|omega))|(with_reducible refine zN.drew ?_)|(with_reducible refine zN.drewN ?_ _)|(refine zN.leaf (by assumption) ?_;(first|rfl|(simp;done)))))
  have z8:Blk W (w1.heap.size+3) #[.int .i64 0]:=by rw [← hW];(refine zBN ?_;repeat (first|(with_reducible refine zN.zBL (by first|(simp;done)|(simp;omega)|omega) ?_;(first|rfl|(simp;done)))|(with_reducible refine zN.alloc ?_ _)|(with_reducible refine zN.far ?_ _ (by first|(simp;done)|(simp;omega)|omega))|(with_reducible refine zN.zA7 ?_ (by first|(simp;done)|(simp;omega)|omega))|(with_reducible refine zN.drew ?_)|(with_reducible refine zN.drewN ?_ _)|(refine zN.leaf (by assumption) ?_;(first|rfl|(simp;done)))))
  have hB:Below w.heap.size w W:=by rw [← hW];(repeat (first|(with_reducible refine zAO ?_ _)|(with_reducible refine zAa ?_ (by first|(simp;done)|(simp;omega)|omega))|(with_reducible refine zA8 ?_)|(with_reducible refine below_drewN ?_ _)|(with_reducible assumption)|(with_reducible exact Below.refl _ _)))
  have hs:W.heap.size=w1.heap.size+4:=by rw [← hW];simp
  refine (wpIn_wide (n:=10)).1 ?_
  have hlen:=zCd hv
  refine zI9 (gf:=139) (lb:=#[.pointer (some ⟨w1.heap.size+3,0,none⟩),.pointer (some ⟨w1.heap.size+2,0,none⟩)]) rfl (enters Tryz.func139 rfl rfl) (zHC t A cap 0 _ _ (zFa hv) (Nat.zero_le _) (by omega)) (fun _=>rfl)
   (fun k W'=>∃ v,Row zAz 2 28 (W.heap.size+4) W' v ((List.range k).map (mark t))∧Blk W' (w1.heap.size+1) #[v]∧Blk W' (w1.heap.size+2) #[.slice A t.length cap]∧Blk W' (w1.heap.size+3) #[.int .i64 0]∧Below w.heap.size w W')
   (fun _ _ _=>False) ?_ (fun _ _ _ _ h _=>h) ?_ ?_ ?_ ?_ (fun _ _ _ _ h=>h.elim)
  ·rintro k W1 W2 ⟨v,h1,h2,h3,h4,h5⟩ ho
   exact ⟨v,h1.off ho (by omega),h2.off ho (by omega),h3.off ho (by omega),h4.off ho (by omega),zCI h5 ho (by have:=hB.size;omega) h5.size⟩
  ·rintro k W' ⟨v,h1,h2,h3,h4,h5⟩
   exact ⟨h4,h3,HT.out.below h5⟩
  ·exact ⟨_,Row.nil,z6,z7,z8,hB⟩
  ·intro l k W' hk ⟨v,h1,h2,h3,h4,h5⟩ hsz K hK
   clear hW z6 z7 z8 hB ho hb1
   obtain ⟨c6,f6,l6⟩:=h2.facts
   unfold vSp
   gi_wp2
   refine hK _ _ (zF7 _ _ hsz) (fun W2 ho=>?_)
   clear hK c6 f6 l6
   have hw2:=hB0.size
   have hsz2:=ho.size
   have y7:Blk W2 W'.heap.size #[.int .i64 (ze t 0 k).lo,.int .i64 (ze t 0 k).hi]:=(Blk.new _ _ _).off' ho (by omega)
   have y1:=(h1.alloc (.cells #[.int .i64 (ze t 0 k).lo,.int .i64 (ze t 0 k).hi] 28)).off ho (by omega)
   have y2:=(h2.alloc (.cells #[.int .i64 (ze t 0 k).lo,.int .i64 (ze t 0 k).hi] 28)).off ho (by omega)
   have y3:=(h3.alloc (.cells #[.int .i64 (ze t 0 k).lo,.int .i64 (ze t 0 k).hi] 28)).off ho (by omega)
   have y4:=(h4.alloc (.cells #[.int .i64 (ze t 0 k).lo,.int .i64 (ze t 0 k).hi] 28)).off ho (by omega)
   have y5:=zCI (zAO h5 (.cells #[.int .i64 (ze t 0 k).lo,.int .i64 (ze t 0 k).hi] 28)) ho (by omega) (by simp;omega)
   simp at hsz2
   clear ho h1 h2 h3 h4 h5
   obtain ⟨c6,f6,l6⟩:=y2.facts
   obtain ⟨c7,f7,l7⟩:=y7.facts
   have Y1:=Lib.hid y1
   clear y1
   gi_wp2_with (gi_at_builtin;refine zIn zM3 rfl _ _ rfl (base:=W.heap.size+4) rfl (Y1.out.alloc _) (mark t k) rfl one_sp rfl (Blk.new' rfl) ?c1 ?c2 ?c3 ?_)
   case c1=>unfold maxLen;simp;omega
   case c2=>simp;omega
   case c3=>simp;omega
   intro v' w' r1 r2
   obtain ⟨A',c',rfl⟩:=r1.form
   have x2:=(y2.alloc (.cells #[.int .i64 (ze t 0 k).lo,.int .i64 (ze t 0 k).hi] 28)).grown r2 (Y1.out.zLy (by omega))
   have x3:=(y3.alloc (.cells #[.int .i64 (ze t 0 k).lo,.int .i64 (ze t 0 k).hi] 28)).grown r2 (Y1.out.zLy (by omega))
   have x4:=(y4.alloc (.cells #[.int .i64 (ze t 0 k).lo,.int .i64 (ze t 0 k).hi] 28)).grown r2 (Y1.out.zLy (by omega))
   have x5:=zHK (zAO y5 (.cells #[.int .i64 (ze t 0 k).lo,.int .i64 (ze t 0 k).hi] 28)) r2 (fun g hg=>by have:=(Y1.out.lt g hg).1;omega) (by simp;omega)
   have hon:On W.heap.size (W.heap.size+2+2) W2 w':=(zF7 W2 _ (by omega)).trans (on_grown r2 (by simp;omega) (fun g hg=>by have:=(Y1.out.lt g hg).1;omega))
   obtain ⟨e6,g6,m6⟩:=x2.facts
   have R1:=Lib.hid r1
   clear r1 r2 y2 y3 y4 y5 y7 c6 f6 c7 f7 l6 l7
   gi_wp2
   refine ⟨hon.trans (zDF _ _ (by simp;omega)),.slice A' (k+1) c',?_,?_,?_,?_,?_⟩
   ·have q:=R1.out
    simp only [List.length_append,List.length_map,List.length_range,List.length_cons,List.length_nil,Nat.zero_add] at q
    rw [hs,List.range_succ,List.map_append]
    exact q.setCell _ (by first|(simp;omega)|simp|omega)
   ·exact (x2.zA7 0 _).cast (by simp)
   ·exact x3.far (by simp) _
   ·exact x4.far (by simp) _
   ·exact x5.setCell (by simp;omega) _
  ·rintro W' ⟨v,h1,h2,h3,h4,h5⟩ hD hsz
   obtain ⟨c6,f6,l6⟩:=h2.facts
   go_wp2
   have ho:=zBk W' (.deferred none) (lo:=W.heap.size) (hi:=W.heap.size+1) (Nat.le_refl _) (by omega)
   refine zGD hD (v:=.tuple #[v,.int .i64 0]) (by simp [results,go_sem]) ⟨_,rfl,zCI h5 ho hB.size h5.size,v,rfl,?_⟩
   have hr:=(h1.off ho (by omega)).gets len_sp (base':=w.heap.size) (by have:=hB.size;omega)
   rw [show t.length+1 - 0=t.length+1 by omega] at hr
   simpa [zFm,hv,marks] using hr
end Go.Proofs.YtdigopgncfhiaaaGreatDoor
namespace Go.Proofs.YtdigopgncfhiaaaGreatDoor
open Go.RowKit
set_option maxRecDepth 20000
theorem newSl_of {α:Type} {enc:α→List Value} {k:Nat} {xs:List α} {V:Value→Value} {f:FuncId} {args:List Value} {w:World} (h:Does f args.toArray w fun u w'=>∃ v,u=V v∧Gets w.heap.size enc k w' v xs):zCB enc k xs V Tryz.prog f args w:=by
 unfold zCB
 refine Ret.of (Calls.mono h ?_)
 rintro e w' ⟨u,rfl,hb,v,rfl,A,c,rfl,hs,hbd⟩
 refine ⟨(A,c),trivial,rfl,hb,?_,?_,by simp⟩
 ·intro e he
  simp only [List.mem_singleton] at he
  subst he
  exact hs
 ·intro e he b hb'
  simp only [List.mem_singleton] at he
  subst he
  obtain ⟨o,hA⟩:=hb'
  exact hbd b o hA
theorem zJH (t:List St):(marks t).length=t.length+1:=by simp [marks]
theorem zL4 {t:List St} (h:valid t=true):zFm t=marks t:=by simp [zFm,h]
theorem zNm {t:List St} (h:valid t=false):zFm t=[]:=by simp [zFm,h]
end Go.Proofs.YtdigopgncfhiaaaGreatDoor
namespace Go.Proofs.YtdigopgncfhiaaaGreatDoor
open Go.RowKit
set_option maxRecDepth 20000
def placeP (m:List Sp) (a:Int) (i:Nat) (x:Sp):Bool:=decide (x.lo≤a) && (decide (i+1=m.length) || (match m[i+1]? with|some y=>decide (a<y.hi)|none=>false))
theorem InC.one {w:World} {b:Nat} {v:Value} (h:w.cell? ⟨b,0,none⟩=some v):InC w b 0 [v]:=⟨fun j u hj=>by
 match j,hj with
 | 0,hj=>simp at hj;subst hj;exact h⟩
set_option maxHeartbeats 1000000 in
theorem zLv (m:List Sp) (A:Option Addr) (cap:Nat) (a:Int) (i:Nat) (x:Sp) (b1 b2:Nat) (w:World) (hk:zq zAz 2 w A m) (hi:i<m.length) (hl:m.length≤1001)
  (h1:w.cell? ⟨b1,0,none⟩=some (.int .i64 a)) (h2:w.cell? ⟨b2,0,none⟩=some (.slice A m.length cap)) :
  Gv Tryz.prog 86 [.int .i64 (i:Int),vSp x,.pointer (some ⟨b1,0,none⟩),.pointer (some ⟨b2,0,none⟩)] w (.bool (placeP m a i x)):=by
 unfold Gv vSp
 have i1:=InC.one h1
 have i2:=InC.one h2
 (refine zJ (n:=28) Tryz.func86 rfl rfl rfl ?_)
 by_cases hn:i+1<m.length
 ·obtain ⟨b,o,rfl,hblt,hc⟩:=hk.at_ hn
  have:InS w b o zAz 2 m:=⟨hk⟩
  have:zAT m (i+1) m[i+1]:=⟨by simp [hn]⟩
  have hp:placeP m a i x=(decide (x.lo≤a) && decide (a<m[i+1].hi)):=by
   have h9:decide (i+1=m.length)=false:=by simp;omega
   simp [placeP,hn,h9]
  rw [hp]
  (repeat' (first|((with_reducible refine zF ?_);first|refine zC rfl rfl rfl ?_|(refine zu rfl rfl rfl rfl (fun b=>?_)))|(with_reducible first|refine zH ?_|refine zB ?_|refine zD ?_|refine zA ?_)))
  (refine zBP (by kernel_rfl) (by kernel_rfl) (by kernel_rfl) ?_)
  (repeat' (first|((with_reducible refine zBr ?_);first|refine zn (zAi rfl rfl) rfl ?_|refine zn (zAG rfl rfl (by exact rfl)) rfl ?_|refine zn (zAU rfl rfl) rfl ?_|refine zn (zDM rfl rfl rfl) rfl ?_|refine zn (zCE rfl rfl) rfl ?_|refine zBj rfl rfl rfl ?_|(refine zFQ rfl rfl rfl rfl rfl (fun h=>?_) (fun h=>?_)<;>(dsimp only [cmpP] at h;(try (exfalso;omega))))|refine zn (zMS rfl rfl rfl (by omega)) rfl ?_|refine zn (zAr rfl rfl rfl rfl (by omega)) rfl ?_|refine zn (zD8 rfl rfl) rfl ?_)|(with_reducible refine zCZ ?_)))
  all_goals
   (repeat' (first|(with_reducible first|refine zA ?_|refine zX ?_)))
   exact zS (by exact rTm rfl) () trivial (by simp [resV, *]) (fun _ h=>h.sub (by (repeat constructor)))
 ·have hp:placeP m a i x=decide (x.lo≤a):=by simp [placeP];intro _;left;omega
  rw [hp]
  (repeat' (first|((with_reducible refine zF ?_);first|refine zC rfl rfl rfl ?_|(refine zu rfl rfl rfl rfl (fun b=>?_)))|(with_reducible first|refine zH ?_|refine zB ?_|refine zD ?_|refine zA ?_)))
  (refine zBP (by kernel_rfl) (by kernel_rfl) (by kernel_rfl) ?_)
  (repeat' (first|((with_reducible refine zBr ?_);first|refine zn (zAi rfl rfl) rfl ?_|refine zn (zAG rfl rfl (by exact rfl)) rfl ?_|refine zn (zAU rfl rfl) rfl ?_|refine zn (zDM rfl rfl rfl) rfl ?_|refine zn (zCE rfl rfl) rfl ?_|refine zBj rfl rfl rfl ?_|(refine zFQ rfl rfl rfl rfl rfl (fun h=>?_) (fun h=>?_)<;>(dsimp only [cmpP] at h;(try (exfalso;omega))))|refine zn (zMS rfl rfl rfl (by omega)) rfl ?_|refine zn (zD8 rfl rfl) rfl ?_)|(with_reducible refine zCZ ?_)))
  all_goals
   (repeat' (first|(with_reducible first|refine zA ?_|refine zX ?_)))
   exact zS (by exact rTm rfl) () trivial (by simp [resV, *]) (fun _ h=>h.sub (by (repeat constructor)))
end Go.Proofs.YtdigopgncfhiaaaGreatDoor
namespace Go.Proofs.YtdigopgncfhiaaaGreatDoor
open Go.RowKit
set_option maxRecDepth 20000
def zCz (t:List St) (a:Int):List Int:=if valid t && inB 0 360000 a then picks (placeP (marks t) a) (marks t) else []
def errP (t:List St) (a:Int):Int:=if valid t then (if inB 0 360000 a then 0 else 2) else 10
set_option maxHeartbeats 1000000 in
theorem zNb (t:List St) (A:Option Addr) (cap:Nat) (a:Int) (w:World) (ht:zq zAS 9 w A t) (hf:zEe t) (hl:t.length≤1000) :
  zCB encI 1 (zCz t a) (fun v=>.tuple #[v,.int .i64 (errP t a)]) Tryz.prog 40 [vT A t.length cap,.int .i64 a] w:=by
 unfold zCB vT
 have h1:=fun W (h:Below w.heap.size w W)=>newSl_of (args:=[vT A t.length cap]) (zNl t A cap W (ht.below h) hf (by omega))
 unfold vT at h1
 (refine zJ (n:=23) Tryz.func40 rfl rfl rfl ?_)
 cases hv:valid t
 ·have e1:zCz t a=[]:=by simp [zCz,hv]
  have e2:errP t a=10:=by simp [errP,hv]
  rw [e1,e2]
  rw [zNm hv,zGI hv] at h1
  (repeat' (first|((with_reducible refine zF ?_);first|refine zE rfl rfl rfl ?_|refine zC rfl rfl rfl ?_|(refine zK rfl rfl rfl ?_;refine ⟨_,rfl,?_⟩)|(refine zQ rfl rfl rfl rfl rfl (fun h=>?_) (fun h=>?_)<;>(dsimp only [cmpP] at h;(try (exfalso;omega))))|refine zBt rfl rfl rfl rfl (fun _ _ q=>h1 _ q.below) (fun A' c'=>?_)|refine zc rfl rfl rfl rfl ?_|(refine zb rfl rfl rfl rfl rfl ?_;refine ⟨rfl,by first|decide|exact Nat.le_of_ble_eq_true rfl|(simp;omega),_,rfl,?_⟩)|(refine zj rfl rfl (fun b=>?_))|(refine zu rfl rfl rfl rfl (fun b=>?_)))|(with_reducible first|refine zH ?_|refine zB ?_|refine zD ?_|refine zA ?_|refine zX ?_|refine zZ ?_)|((with_reducible refine zI ?_ ?_);(· exact rfl))))
  exact zS (by (exact zi.cons (by exact zAR.tmp rfl) (zi.cons (by exact zAR.tmp rfl) zi.nil))) (none,0) trivial rfl (fun _ h=>zDi h)
 ·rw [zL4 hv,zDK hv] at h1
  have hml:=zJH t
  (repeat' (first|((with_reducible refine zF ?_);first|refine zE rfl rfl rfl ?_|refine zC rfl rfl rfl ?_|(refine zK rfl rfl rfl ?_;refine ⟨_,rfl,?_⟩)|(refine zQ rfl rfl rfl rfl rfl (fun h=>?_) (fun h=>?_)<;>(dsimp only [cmpP] at h;(try (exfalso;omega))))|refine zBt rfl rfl rfl rfl (fun _ _ q=>h1 _ q.below) (fun A' c'=>?_)|(refine zAI rfl rfl rfl rfl (fun _ _ q=>in1 _ _ _ _ _ _ (zAY (enc:=encI) (by exact rfl) _ q.below q.own)) (fun h=>?_) (fun h=>?_)<;>(simp only [zAC,zJ7] at h;(try (exfalso;omega))))|refine zBt rfl rfl rfl rfl (fun _ _ q=>(pickSp (marks t) _ _ _ _ (placeP (marks t) a) _ (zAv q.own (Below.refl _ _)) (by omega) (fun i x W hx hW=>zLv (marks t) _ _ a i x _ _ W (zAv q.own hW) (List.getElem?_eq_some_iff.1 hx).1 (by omega) (zM6 q.own hW rfl) (zM6 q.own hW rfl)))) (fun A' c'=>?_)|refine zc rfl rfl rfl rfl ?_|refine zAN rfl rfl rfl ?_|(refine zb rfl rfl rfl rfl rfl ?_;refine ⟨rfl,by first|decide|exact Nat.le_of_ble_eq_true rfl|(simp;omega),_,rfl,?_⟩)|(refine zj rfl rfl (fun b=>?_))|(refine zu rfl rfl rfl rfl (fun b=>?_))|(refine zY rfl rfl rfl ?_;refine ⟨rfl,_,rfl,fun b=>?_⟩)|refine zBx rfl rfl rfl rfl ?_)|(with_reducible first|refine zH ?_|refine zB ?_|refine zD ?_|refine zA ?_|refine zX ?_|refine zT ?_|refine zZ ?_)|((with_reducible refine zI ?_ ?_);(· exact rfl))|((with_reducible refine zG ?_ ?_);(· exact rfl))))
  ·have hi:=zAC.2 h
   have e1:zCz t a=picks (placeP (marks t) a) (marks t):=by simp [zCz,hv,hi]
   have e2:errP t a=0:=by simp [errP,hv,hi]
   rw [e1,e2]
   exact zS (by (exact zi.cons (by exact zAR.tmp rfl) (zi.cons (by exact zAR.tmp rfl) zi.nil))) (_,_) trivial rfl (fun _ h=>h.sub (by (repeat constructor)))
  ·have hi:=zJ7.2 h
   have e1:zCz t a=[]:=by simp [zCz,hi]
   have e2:errP t a=2:=by simp [errP,hv,hi]
   rw [e1,e2]
   exact zS (by (exact zi.cons (by exact zAR.tmp rfl) (zi.cons (by exact zAR.tmp rfl) zi.nil))) (none,0) trivial rfl (fun _ h=>zDi h)
end Go.Proofs.YtdigopgncfhiaaaGreatDoor
