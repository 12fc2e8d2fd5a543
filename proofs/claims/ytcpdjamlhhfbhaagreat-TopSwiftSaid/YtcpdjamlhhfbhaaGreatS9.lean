/- S9 -/
import Derived.Test.YtcpdjamlhhfbhaaGreatS7
import Derived.Test.YtcpdjamlhhfbhaaGreatS2
import Derived.Test.YtcpdjamlhhfbhaaGreatS1
import Derived.Test.YtcpdjamlhhfbhaaGreatS8
import Derived.RegionIn
set_option linter.unusedSimpArgs false
set_option linter.unusedVariables false
namespace Go.Proofs.YtcpdjamlhhfbhaaGreat
open Go.RowKit
set_option maxHeartbeats 2000000 in
theorem zCi (a:Sp) (more:List Sp) (A:Option Addr) (c:Nat) (w:World) (hm:zg zAM 2 w A more) (ha:near 1000000000000 a) (hn:∀ x∈more,near 1000000000 x) (hl:more.length≤100) :
  zAE 107 #[vSp a,.slice A more.length c] w (vSp (more.foldl zAG a)):=by
 unfold zAE vSp
 have HM:=Lib.hid hm
 clear hm
 obtain ⟨ha1,ha2,ha3,ha4⟩:=ha
 go_enter Tryz.func107,Tryz.ntmps107
 go_wp2
 go_loopw [9] (fun v wr=>∃ (i:Nat) (s:Sp),i≤more.length∧v = .int .i64 i∧near (1000000000000+1000000000 * i) s∧Blk wr w.heap.size #[.int .i64 s.lo,.int .i64 s.hi]∧Blk wr (w.heap.size+1) #[.int .i64 0,.int .i64 0]∧Below w.heap.size w wr∧Hid (more.foldl zAG a=(more.drop i).foldl zAG s)) (fun v _=>more.length - (intOf v).toNat)
 case atStart=>exact ⟨0,a,Nat.zero_le _,rfl,⟨by omega,by omega,by omega,by omega⟩,(Blk.new _ _ _).alloc _,Blk.new' (by simp),zAL (zk _ _) _,by unfold Hid;simp⟩
 case round =>
  obtain ⟨i,s,hi,rfl,⟨n1,n2,n3,n4⟩,hk,hk4,hB,hF⟩:=hrel
  obtain ⟨kc,kf,kl⟩:=hk.facts
  obtain ⟨qc,qf,ql⟩:=hk4.facts
  by_cases hlt:i<more.length
  ·obtain ⟨b,o,rfl,hblt,hc⟩:=(HM.out.below hB).at_ hlt
   have hF':more.foldl zAG a=(more.drop (i+1)).foldl zAG (zAG s more[i]):=by
    rw [hF.out,List.drop_eq_getElem_cons hlt];rfl
   have HF:=Lib.hid hF'
   clear hF' hF
   obtain ⟨x1,x2,x3,x4⟩:=hn more[i] (List.getElem_mem hlt)
   generalize more[i]=x at hc HF x1 x2 x3 x4
   have c0:=hc 0 _ rfl
   have c1:=hc 1 _ rfl
   simp only [Nat.add_zero] at c0
   clear hc
   have hi0:(0:Int)≤i:=by omega
   have hi1:(i:Int)<more.length:=by omega
   go_wp2
   go_roundw
   case rel =>
    refine ⟨i+1,zAG s x,by omega,by go_num,⟨by simp [zAG];omega,by simp [zAG];omega,by simp [zAG];omega,by simp [zAG];omega⟩,?_,?_,?_,HF.out⟩
    ·exact Blk.cast (((hk.zAg 0 _).zAg 1 _).alloc _) (by simp [zAG])
    ·exact ((hk4.far (p:=⟨_,_,_⟩) (by simp) _).far (p:=⟨_,_,_⟩) (by simp) _).alloc _
    ·exact zAL ((hB.setCell (p:=⟨_,_,_⟩) (by simp) _).setCell (p:=⟨_,_,_⟩) (by simp) _) _
   case measure=>simp [intOf];omega
  ·go_wp2
   refine bodyPost_ret (zGN (x:=.int .i64 s.lo) (y:=.int .i64 s.hi) rfl rfl (Blk.cast ((hk4.zAg 0 _).zAg 1 _) (by simp))) rfl ⟨zAk ?_,?_⟩
   ·rw [hF.out,List.drop_eq_nil_of_le (by omega)];rfl
   ·exact (hB.setCell (p:=⟨_,_,_⟩) (by simp) _).setCell (p:=⟨_,_,_⟩) (by simp) _
end Go.Proofs.YtcpdjamlhhfbhaaGreat
namespace Go.Proofs.YtcpdjamlhhfbhaaGreat
open Go.RowKit
set_option maxRecDepth 20000
attribute [local go_sem] Oper.semAt_some
theorem Blk.on {lo hi g:Nat} {W W':World} {cs:Array Value} (h:Blk W g cs) (ho:On lo hi W W') (h1:lo≤g) (h2:g<hi):Blk W' g cs:=by
 unfold Blk at h ⊢
 obtain ⟨t,h⟩:=h
 exact ⟨t,(ho.block g h1 h2).trans h⟩
theorem zFq {w:World} {g:Nat} {x:Sp} (h:Blk w g #[.int .i64 x.lo,.int .i64 x.hi]):zg zAM 2 w (some ⟨g,0,none⟩) [x]:=by
 intro i y hy
 match i,hy with
 | 0,hy =>
  simp at hy;subst hy
  refine ⟨g,0,rfl,h.lt,fun j v hv=>?_⟩
  rw [h.cell]
  simpa [zAM] using hv
 | i+1,hy=>simp at hy
set_option maxHeartbeats 4000000 in
theorem zF0 (t:List St) (A:Option Addr) (cap frm fb vb:Nat) (ho:∀ s∈t,zDS s) (hfrm:frm≤t.length) (hl:t.length≤100) :
  Iter Tryz.prog 154 #[.pointer (some ⟨fb,0,none⟩),.pointer (some ⟨vb,0,none⟩)] 2 (t.length+1 - frm) (fun k=>#[vSp (zQ t frm (frm+k)),vSp (zY t frm (frm+k))])
   (fun W=>Blk W fb #[.int .i64 frm]∧Blk W vb #[.slice A t.length cap]∧zg zq 9 W A t):=by
 intro l J Jx W hJ hJx hD hY h0
 obtain ⟨d1,d2,d3⟩:=hD 0 W h0
 obtain ⟨c1,f1,l1⟩:=d1.facts
 obtain ⟨c2,f2,l2⟩:=d2.facts
 have HS:=Lib.hid d3
 clear d3
 refine callsIn_of_wp Tryz.func154 rfl trivial ?_ rfl
 simp only [Tryz.ntmps154,List.size_toArray,List.length_cons,List.length_nil,Nat.reduceAdd,Nat.reduceSub,Array.replicate_succ,Array.replicate_zero,List.push_toArray,List.append_toArray,List.nil_append,List.cons_append]
 gi_wp2
 gi_loopw [6] (fun v wr=>∃ k:Nat,frm+k≤t.length∧v = .int .i64 (frm+k:Nat)∧J k wr∧Blk wr W.heap.size #[.int .i64 (zQ t frm (frm+k)).lo,.int .i64 (zQ t frm (frm+k)).hi]∧Blk wr (W.heap.size+1) #[.int .i64 (zY t frm (frm+k)).lo,.int .i64 (zY t frm (frm+k)).hi]∧W.heap.size+2≤wr.heap.size) (fun v _=>t.length - (intOf v).toNat)
 case atStart =>
  refine ⟨0,by omega,rfl,hJ _ _ _ h0 ((zCp _ _ _ _).trans (zCp _ _ _ _)),?_,?_,by simp⟩
  ·simp only [Nat.add_zero,zA6];(refine zAt ?_;repeat (first|(with_reducible refine zL.zAs (by first|(simp;done)|(simp;omega)|omega) ?_;(first|rfl|(simp;done)))|(with_reducible refine zL.alloc ?_ _)|(with_reducible refine zL.far ?_ _ (by first|(simp;done)|(simp;omega)|omega))|(with_reducible refine zL.zAg ?_ (by first|(simp;done)|(simp;omega)|omega))|(with_reducible refine zL.drew ?_)|(with_reducible refine zL.drewN ?_ _)|(refine zL.leaf (by assumption) ?_;(first|rfl|(simp;done)))))
  ·simp only [Nat.add_zero,zA9];(refine zAt ?_;repeat (first|(with_reducible refine zL.zAs (by first|(simp;done)|(simp;omega)|omega) ?_;(first|rfl|(simp;done)))|(with_reducible refine zL.alloc ?_ _)|(with_reducible refine zL.far ?_ _ (by first|(simp;done)|(simp;omega)|omega))|(with_reducible refine zL.zAg ?_ (by first|(simp;done)|(simp;omega)|omega))|(with_reducible refine zL.drew ?_)|(with_reducible refine zL.drewN ?_ _)|(refine zL.leaf (by assumption) ?_;(first|rfl|(simp;done)))))
 case round =>
  obtain ⟨k,hk,rfl,hJk,k4,k5,hsz⟩:=hrel
  obtain ⟨x1,x2,x3⟩:=hD k wr hJk
  obtain ⟨p1,q1,m1⟩:=x1.facts
  obtain ⟨p2,q2,m2⟩:=x2.facts
  obtain ⟨p4,q4,m4⟩:=k4.facts
  obtain ⟨p5,q5,m5⟩:=k5.facts
  have hy:=hY k wr (by omega) hJk hsz
  unfold YieldAt vSp at hy
  obtain ⟨fn,tmps,assign,body,hy,hR⟩:=hy
  gi_wp2
  refine hR.mono ?_
  rintro e W3 (⟨rfl,hJ3,hon⟩ | ⟨rfl,hJx3,hon⟩)
  ·obtain ⟨x1,x2,x3⟩:=hD (k+1) W3 hJ3
   have y4:=k4.on hon (by omega) (by omega)
   have y5:=k5.on hon (by omega) (by omega)
   obtain ⟨r1,s1,n1⟩:=x1.facts
   obtain ⟨r2,s2,n2⟩:=x2.facts
   have hsz3:=hon.size
   have ht0:(0:Int)≤t.length:=by omega
   by_cases hlt:frm+k<t.length
   ·have hi0:(0:Int)≤(frm+k:Nat):=by omega
    have hi1:((frm+k:Nat):Int)<t.length:=by omega
    obtain ⟨b,o,rfl,hblt,hc⟩:=x3.at_ hlt
    have hbW:b<W.heap.size:=by
     obtain ⟨b',o',hb',hlt',_⟩:=HS.out.at_ hlt
     cases hb';exact hlt'
    have bd:=zAb ho (show frm≤frm+k by omega) (show frm+k≤t.length by omega)
    have HL:=Lib.hid (zBT (show frm≤frm+k by omega) hlt)
    have HF:=Lib.hid (zBU (show frm≤frm+k by omega) hlt)
    have hok:=ho t[frm+k] (List.getElem_mem hlt)
    rw [show frm+k+1=frm+(k+1) by omega] at HL HF
    generalize t[frm+k]=s at hc HL HF hok
    generalize zQ t frm (frm+k)=p at *
    generalize zY t frm (frm+k)=q at *
    have e1:=hc 1 _ rfl
    have e2:=hc 2 _ rfl
    have e3:=hc 3 _ rfl
    have e4:=hc 4 _ rfl
    clear hc p1 q1 p2 q2 p4 q4 p5 q5 k4 k5 hy hR
    gi_wp2
    refine wpIn_wide.2 ?_
    have hbX:b≠W.heap.size:=by omega
    have hbY:b≠W.heap.size+1:=by omega
    have hvX:vb≠W.heap.size:=by omega
    have hvY:vb≠W.heap.size+1:=by omega
    have hj0:(0:Int)≤frm+k:=by omega
    have hj1:(frm+k:Int)<t.length:=by omega
    obtain ⟨z1,z2,z3⟩:=hok
    refine zCw (fun g=>g=W.heap.size∨g=W.heap.size+1) (fun r=>[oA W.heap.size #[.int .i64 p.lo,.int .i64 p.hi],oA (W.heap.size+1) #[.int .i64 q.lo,.int .i64 q.hi],
     voA 22 (vSp p) W.heap.size #[.int .i64 p.lo,.int .i64 p.hi],vA 23 (.pointer (some ⟨vb,0,none⟩)),vA 24 (.pointer (some ⟨vb,0,none⟩)),vA 25 (.slice (some ⟨b,o,none⟩) t.length cap),vA 26 (.int .i64 (frm+k)),vA 27 (.pointer (some ⟨b,o+(frm+k) * 9,none⟩)),vA 28 (.pointer (some ⟨b,o+(frm+k) * 9+1,none⟩)),vA 29 (vSp s.long),slA 30 1 #[.int .i64 s.long.lo,.int .i64 s.long.hi],voA 31 (vSp (zAG p s.long)) W.heap.size #[.int .i64 p.lo,.int .i64 p.hi],
     voA 32 (vSp q) (W.heap.size+1) #[.int .i64 q.lo,.int .i64 q.hi],vA 33 (.pointer (some ⟨vb,0,none⟩)),vA 34 (.pointer (some ⟨vb,0,none⟩)),vA 35 (.slice (some ⟨b,o,none⟩) t.length cap),vA 36 (.int .i64 (frm+k)),vA 37 (.pointer (some ⟨b,o+(frm+k) * 9,none⟩)),vA 38 (.pointer (some ⟨b,o+(frm+k) * 9+3,none⟩)),vA 39 (vSp s.fall),slA 40 1 #[.int .i64 s.fall.lo,.int .i64 s.fall.hi],voA 41 (vSp (zAG q s.fall)) (W.heap.size+1) #[.int .i64 q.lo,.int .i64 q.hi],
     oA W.heap.size #[.int .i64 (zAG p s.long).lo,.int .i64 (zAG p s.long).hi],oA (W.heap.size+1) #[.int .i64 (zAG q s.fall).lo,.int .i64 (zAG q s.fall).hi]].getD r nA)
     [(0,[0]),(9,[2]),(10,[1]),(19,[12]),(20,[11]),(21,[21])] 2 (fun r=>[W.heap.size+r]) 24 (by rfl) (by kernel_rfl) (by kernel_rfl) ?_ ?_ ?_ ?_ ?_ ?_
    ·intro r hr
     match r,hr with
     | 0,_=>exact zE3 rfl y4
     | 1,_=>exact zE3 rfl y5
    ·intro r hr b hb
     simp at hb
     subst hb
     exact ⟨by omega,by omega⟩
    ·intro r r' hr hr' hne b hb hb'
     simp at hb hb'
     omega
    ·(repeat (first|exact zAx.nil|(refine zAx.cons (zGz (by rintro _ ⟨⟩<;>exact ⟨by decide,by kernel_rfl⟩)) ?_)))
    ·(refine (zAH.cons ?_ (zAH.cons ?_ (zAH.cons ?_ (zAH.cons ?_ (zAH.cons ?_ (zAH.cons ?_ (zAH.cons ?_ (zAH.cons ?_ (zAH.cons ?_ (zAH.cons ?_ (zAH.cons ?_ (zAH.cons ?_ (zAH.cons ?_ (zAH.cons ?_ (zAH.cons ?_ (zAH.cons ?_ (zAH.cons ?_ (zAH.cons ?_ (zAH.cons ?_ (zAH.cons ?_ (zAH.cons ?_ (zAH.cons ?_ zAH.nil)))))))))))))))))))))))
     all_goals (refine OpOk.of (fun a v S hs hC hr hav K hK=>?_);have cC:=hC.cells.1;have fC:=hC.cells.2;have HS:=Lib.hid hs;have HK:=Lib.hid hC)
     ·have q4:=(hr 4 (by kernel_rfl))
      (have h0:=hav 0 (by kernel_rfl);(try dsimp only at h0);replace h0:=zDf h0;obtain ⟨hS0,hB0⟩:=h0;have k0:=hB0.cell;have f0:=hB0.frozen)
      (clear hr hav hs hC;simp [Array.getD_eq_getD_getElem?,vSp] at q4;go_simp)
      refine hK _ _ (zE0 0 (by kernel_rfl) (zFE (z7 (by rw [HS.out];exact Nat.lt_of_sub_ne_zero (by simp))) hS0 hB0))
     ·(have q2:=(hr 2 (by kernel_rfl));clear hr hav hs hC;simp [Array.getD_eq_getD_getElem?,vSp] at q2;go_simp);(refine hK _ _ (zAK (zBL (z7 (by rw [HS.out];exact Nat.lt_of_sub_ne_zero (by simp))))))
     ·(have u3:=(hav 3 (by kernel_rfl));(try dsimp only at u3);replace u3:=zAA u3;clear hr hav hs hC;simp [Array.getD_eq_getD_getElem?,vSp] at u3;go_simp);(refine hK _ _ (zAK (zBL (z7 (by rw [HS.out];exact Nat.lt_of_sub_ne_zero (by simp))))))
     ·(have u4:=(hav 4 (by kernel_rfl));(try dsimp only at u4);replace u4:=zAA u4;clear hr hav hs hC;simp [Array.getD_eq_getD_getElem?,vSp] at u4;go_simp);(refine hK _ _ (zAK (zBL (z7 (by rw [HS.out];exact Nat.lt_of_sub_ne_zero (by simp))))))
     ·(have q6:=(hr 6 (by kernel_rfl));clear hr hav hs hC;simp [Array.getD_eq_getD_getElem?,vSp] at q6;go_simp);(refine hK _ _ (zAK (zBL (z7 (by rw [HS.out];exact Nat.lt_of_sub_ne_zero (by simp))))))
     ·(have u5:=(hav 5 (by kernel_rfl));(try dsimp only at u5);replace u5:=zAA u5;have u6:=(hav 6 (by kernel_rfl));(try dsimp only at u6);replace u6:=zAA u6;clear hr hav hs hC;simp [Array.getD_eq_getD_getElem?,vSp] at u5;simp [Array.getD_eq_getD_getElem?,vSp] at u6;go_simp);(refine hK _ _ (zAK (zBL (z7 (by rw [HS.out];exact Nat.lt_of_sub_ne_zero (by simp))))))
     ·(have u7:=(hav 7 (by kernel_rfl));(try dsimp only at u7);replace u7:=zAA u7;clear hr hav hs hC;simp [Array.getD_eq_getD_getElem?,vSp] at u7;go_simp);(refine hK _ _ (zAK (zBL (z7 (by rw [HS.out];exact Nat.lt_of_sub_ne_zero (by simp))))))
     ·(have u8:=(hav 8 (by kernel_rfl));(try dsimp only at u8);replace u8:=zAA u8;clear hr hav hs hC;simp [Array.getD_eq_getD_getElem?,vSp] at u8;go_simp);(refine hK _ _ (zAK (zBL (z7 (by rw [HS.out];exact Nat.lt_of_sub_ne_zero (by simp))))))
     ·(have u9:=(hav 9 (by kernel_rfl));(try dsimp only at u9);replace u9:=zAA u9;clear hr hav hs hC;simp [Array.getD_eq_getD_getElem?,vSp] at u9;go_simp)
      refine hK _ _ (zER ?_)
      exact slA_in (z7 (by rw [HS.out];exact Nat.lt_of_sub_ne_zero (by simp))) (Blk.new' rfl)
     ·(have h2:=hav 2 (by kernel_rfl);(try dsimp only at h2);replace h2:=zD4 h2;obtain ⟨u2,hS2,hB2⟩:=h2;have k2:=hB2.cell;have f2:=hB2.frozen)
      (have h10:=hav 10 (by kernel_rfl);(try dsimp only at h10);replace h10:=zD6 h10;obtain ⟨b10,hS10,u10,hB10⟩:=h10;have k10:=hB10.cell;have f10:=hB10.frozen)
      have hc:=zCi p [s.long] (some ⟨b10,0,none⟩) 1 v (zFq hB10) ⟨by omega,by omega,by omega,by omega⟩ (by simp [near];omega) (by simp)
      unfold zAE vSp at hc
      simp only [List.length_cons,List.length_nil,Nat.zero_add] at hc
      (clear hr hav hs hC;simp [Array.getD_eq_getD_getElem?,vSp] at u2;simp [Array.getD_eq_getD_getElem?,vSp] at u10;go_simp)
      go_at_call 107
      refine hc.mono ?_
      rintro e w1 ⟨rfl,hb1⟩
      refine hK _ _ (zC0 2 (by kernel_rfl) hb1 (zFE (z7 (by rw [HS.out];exact Nat.lt_of_sub_ne_zero (by simp))) hS2 (hB2.past hb1)))
     ·have q5:=(hr 5 (by kernel_rfl))
      (have h1:=hav 1 (by kernel_rfl);(try dsimp only at h1);replace h1:=zDf h1;obtain ⟨hS1,hB1⟩:=h1;have k1:=hB1.cell;have f1:=hB1.frozen)
      (clear hr hav hs hC;simp [Array.getD_eq_getD_getElem?,vSp] at q5;go_simp)
      refine hK _ _ (zE0 1 (by kernel_rfl) (zFE (z7 (by rw [HS.out];exact Nat.lt_of_sub_ne_zero (by simp))) hS1 hB1))
     ·(have q2:=(hr 2 (by kernel_rfl));clear hr hav hs hC;simp [Array.getD_eq_getD_getElem?,vSp] at q2;go_simp);(refine hK _ _ (zAK (zBL (z7 (by rw [HS.out];exact Nat.lt_of_sub_ne_zero (by simp))))))
     ·(have u13:=(hav 13 (by kernel_rfl));(try dsimp only at u13);replace u13:=zAA u13;clear hr hav hs hC;simp [Array.getD_eq_getD_getElem?,vSp] at u13;go_simp);(refine hK _ _ (zAK (zBL (z7 (by rw [HS.out];exact Nat.lt_of_sub_ne_zero (by simp))))))
     ·(have u14:=(hav 14 (by kernel_rfl));(try dsimp only at u14);replace u14:=zAA u14;clear hr hav hs hC;simp [Array.getD_eq_getD_getElem?,vSp] at u14;go_simp);(refine hK _ _ (zAK (zBL (z7 (by rw [HS.out];exact Nat.lt_of_sub_ne_zero (by simp))))))
     ·(have q6:=(hr 6 (by kernel_rfl));clear hr hav hs hC;simp [Array.getD_eq_getD_getElem?,vSp] at q6;go_simp);(refine hK _ _ (zAK (zBL (z7 (by rw [HS.out];exact Nat.lt_of_sub_ne_zero (by simp))))))
     ·(have u15:=(hav 15 (by kernel_rfl));(try dsimp only at u15);replace u15:=zAA u15;have u16:=(hav 16 (by kernel_rfl));(try dsimp only at u16);replace u16:=zAA u16;clear hr hav hs hC;simp [Array.getD_eq_getD_getElem?,vSp] at u15;simp [Array.getD_eq_getD_getElem?,vSp] at u16;go_simp);(refine hK _ _ (zAK (zBL (z7 (by rw [HS.out];exact Nat.lt_of_sub_ne_zero (by simp))))))
     ·(have u17:=(hav 17 (by kernel_rfl));(try dsimp only at u17);replace u17:=zAA u17;clear hr hav hs hC;simp [Array.getD_eq_getD_getElem?,vSp] at u17;go_simp);(refine hK _ _ (zAK (zBL (z7 (by rw [HS.out];exact Nat.lt_of_sub_ne_zero (by simp))))))
     ·(have u18:=(hav 18 (by kernel_rfl));(try dsimp only at u18);replace u18:=zAA u18;clear hr hav hs hC;simp [Array.getD_eq_getD_getElem?,vSp] at u18;go_simp);(refine hK _ _ (zAK (zBL (z7 (by rw [HS.out];exact Nat.lt_of_sub_ne_zero (by simp))))))
     ·(have u19:=(hav 19 (by kernel_rfl));(try dsimp only at u19);replace u19:=zAA u19;clear hr hav hs hC;simp [Array.getD_eq_getD_getElem?,vSp] at u19;go_simp)
      refine hK _ _ (zER ?_)
      exact slA_in (z7 (by rw [HS.out];exact Nat.lt_of_sub_ne_zero (by simp))) (Blk.new' rfl)
     ·(have h12:=hav 12 (by kernel_rfl);(try dsimp only at h12);replace h12:=zD4 h12;obtain ⟨u12,hS12,hB12⟩:=h12;have k12:=hB12.cell;have f12:=hB12.frozen)
      (have h20:=hav 20 (by kernel_rfl);(try dsimp only at h20);replace h20:=zD6 h20;obtain ⟨b20,hS20,u20,hB20⟩:=h20;have k20:=hB20.cell;have f20:=hB20.frozen)
      have hc:=zCi q [s.fall] (some ⟨b20,0,none⟩) 1 v (zFq hB20) ⟨by omega,by omega,by omega,by omega⟩ (by simp [near];omega) (by simp)
      unfold zAE vSp at hc
      simp only [List.length_cons,List.length_nil,Nat.zero_add] at hc
      (clear hr hav hs hC;simp [Array.getD_eq_getD_getElem?,vSp] at u12;simp [Array.getD_eq_getD_getElem?,vSp] at u20;go_simp)
      go_at_call 107
      refine hc.mono ?_
      rintro e w1 ⟨rfl,hb1⟩
      refine hK _ _ (zC0 12 (by kernel_rfl) hb1 (zFE (z7 (by rw [HS.out];exact Nat.lt_of_sub_ne_zero (by simp))) hS12 (hB12.past hb1)))
     ·have q4:=(hr 4 (by kernel_rfl))
      (have h11:=hav 11 (by kernel_rfl);(try dsimp only at h11);replace h11:=zD4 h11;obtain ⟨u11,hS11,hB11⟩:=h11;have k11:=hB11.cell;have f11:=hB11.frozen)
      (clear hr hav hs hC;simp [Array.getD_eq_getD_getElem?,vSp] at q4;simp [Array.getD_eq_getD_getElem?,vSp] at u11;go_simp)
      (refine hK undef _ (zEQ 11 (by kernel_rfl) rfl rfl rfl (by simp) (by intro b hb;rw [hS11] at hb;first|exact Below.heap_setCell _ _ _ _ (by simpa using hb)|exact (Below.heap_setCell _ _ _ _ (by simpa using hb)).trans (Below.heap_setCell _ _ _ _ (by simpa using hb))) (zE3 hS11 ?_));(refine zAt ?_;repeat (first|(with_reducible refine zL.zAs (by first|(simp;done)|(simp;omega)|omega) ?_;(first|rfl|(simp [zAG];done)))|(with_reducible refine zL.alloc ?_ _)|(with_reducible refine zL.far ?_ _ (by first|(simp;done)|(simp;omega)|omega))|(with_reducible refine zL.zAg ?_ (by first|(simp;done)|(simp;omega)|omega))|(with_reducible refine zL.drew ?_)|(with_reducible refine zL.drewN ?_ _)|(refine zL.leaf (by assumption) ?_;(first|rfl|(simp [zAG];done))))))
     ·have q5:=(hr 5 (by kernel_rfl))
      (have h21:=hav 21 (by kernel_rfl);(try dsimp only at h21);replace h21:=zD4 h21;obtain ⟨u21,hS21,hB21⟩:=h21;have k21:=hB21.cell;have f21:=hB21.frozen)
      (clear hr hav hs hC;simp [Array.getD_eq_getD_getElem?,vSp] at q5;simp [Array.getD_eq_getD_getElem?,vSp] at u21;go_simp)
      (refine hK undef _ (zEQ 21 (by kernel_rfl) rfl rfl rfl (by simp) (by intro b hb;rw [hS21] at hb;first|exact Below.heap_setCell _ _ _ _ (by simpa using hb)|exact (Below.heap_setCell _ _ _ _ (by simpa using hb)).trans (Below.heap_setCell _ _ _ _ (by simpa using hb))) (zE3 hS21 ?_));(refine zAt ?_;repeat (first|(with_reducible refine zL.zAs (by first|(simp;done)|(simp;omega)|omega) ?_;(first|rfl|(simp [zAG];done)))|(with_reducible refine zL.alloc ?_ _)|(with_reducible refine zL.far ?_ _ (by first|(simp;done)|(simp;omega)|omega))|(with_reducible refine zL.zAg ?_ (by first|(simp;done)|(simp;omega)|omega))|(with_reducible refine zL.drew ?_)|(with_reducible refine zL.drewN ?_ _)|(refine zL.leaf (by assumption) ?_;(first|rfl|(simp [zAG];done))))))
    ·intro a v S hs hd hrest hC hav
     (have h3:=hav 3 (by kernel_rfl);(try dsimp only at h3);have u3:=zAA h3;have h4:=hav 4 (by kernel_rfl);(try dsimp only at h4);have u4:=zAA h4;have h5:=hav 5 (by kernel_rfl);(try dsimp only at h5);have u5:=zAA h5;have h6:=hav 6 (by kernel_rfl);(try dsimp only at h6);have u6:=zAA h6;have h7:=hav 7 (by kernel_rfl);(try dsimp only at h7);have u7:=zAA h7;have h8:=hav 8 (by kernel_rfl);(try dsimp only at h8);have u8:=zAA h8;have h9:=hav 9 (by kernel_rfl);(try dsimp only at h9);have u9:=zAA h9;have h10:=hav 10 (by kernel_rfl);(try dsimp only at h10);obtain ⟨b10,hS10,u10,hB10⟩:=zD6 h10;have h13:=hav 13 (by kernel_rfl);(try dsimp only at h13);have u13:=zAA h13;have h14:=hav 14 (by kernel_rfl);(try dsimp only at h14);have u14:=zAA h14;have h15:=hav 15 (by kernel_rfl);(try dsimp only at h15);have u15:=zAA h15;have h16:=hav 16 (by kernel_rfl);(try dsimp only at h16);have u16:=zAA h16;have h17:=hav 17 (by kernel_rfl);(try dsimp only at h17);have u17:=zAA h17;have h18:=hav 18 (by kernel_rfl);(try dsimp only at h18);have u18:=zAA h18;have h19:=hav 19 (by kernel_rfl);(try dsimp only at h19);have u19:=zAA h19;have h20:=hav 20 (by kernel_rfl);(try dsimp only at h20);obtain ⟨b20,hS20,u20,hB20⟩:=zD6 h20;have h22:=hav 22 (by kernel_rfl);(try dsimp only at h22);obtain ⟨hS22,hB22⟩:=zDf h22;have h23:=hav 23 (by kernel_rfl);(try dsimp only at h23);obtain ⟨hS23,hB23⟩:=zDf h23)
     (obtain ⟨x41,ux41⟩:∃ x,a.tmps.getD 41 undef=x:=⟨_,rfl⟩;obtain ⟨x32,ux32⟩:∃ x,a.tmps.getD 32 undef=x:=⟨_,rfl⟩;obtain ⟨x31,ux31⟩:∃ x,a.tmps.getD 31 undef=x:=⟨_,rfl⟩;obtain ⟨x22,ux22⟩:∃ x,a.tmps.getD 22 undef=x:=⟨_,rfl⟩;have hfr:=zG0 hs hd hrest _ (by kernel_rfl) (by simp) (zAF ux22 (zAF u3 (zAF u4 (zAF u5 (zAF u6 (zAF u7 (zAF u8 (zAF u9 (zAF u10 (zAF ux31 (zAF ux32 (zAF u13 (zAF u14 (zAF u15 (zAF u16 (zAF u17 (zAF u18 (zAF u19 (zAF u20 (zAF ux41 wr_nil))))))))))))))))))));simp only [List.foldl_cons,List.foldl_nil] at hfr;subst hfr)
     gi_wp2
     go_roundw
     case rel =>
      refine ⟨k+1,by omega,by go_num,hJ _ _ _ hJ3 ⟨hC.os,hC.tape,hC.output,hC.size,fun j hj hn=>hC.block j hj (by rintro (h|h)<;>exact hn (by omega))⟩,?_,?_,by have:=hC.size;omega⟩
      ·rw [HL.out];exact hB22
      ·rw [HF.out];exact hB23
     case measure=>simp [intOf];omega
   ·obtain rfl:k=t.length - frm:=by omega
    gi_wp2
    go_end0
    exact ⟨⟨_,rfl⟩,.inl (by rw [show t.length+1 - frm=t.length - frm+1 by omega];exact hJ3)⟩
  ·gi_wp2
   go_end0
   exact ⟨⟨_,rfl⟩,.inr ⟨k,by omega,hJx3⟩⟩
end Go.Proofs.YtcpdjamlhhfbhaaGreat
namespace Go.Proofs.YtcpdjamlhhfbhaaGreat
open Go.RowKit
set_option maxRecDepth 20000
attribute [local go_sem] Oper.semAt_some
def Gets {α:Type} (base:Nat) (enc:α→List Value) (k:Nat) (w:World) (v:Value) (xs:List α):Prop:=∃ A c,v = .slice A xs.length c∧zg enc k w A xs∧∀ b o,A=some ⟨b,o,none⟩→base≤b∧b<w.heap.size
theorem Gets.nil {α:Type} {base:Nat} {enc:α→List Value} {k:Nat} {w:World}:Gets base enc k w (.slice none 0 0) ([]:List α):=⟨none,0,rfl,zg.nil,by simp⟩
theorem zGC (A:Option Addr) (n c:Nat) (f:Int) (w:World) :
  Calls Tryz.prog 135 #[.agg #[.slice A n c],.int .i64 f] w fun e w'=>e = .returned (.func (.func 154) #[] #[.pointer (some ⟨w.heap.size+1,0,none⟩),.pointer (some ⟨w.heap.size,0,none⟩)])∧w'=(w.alloc (.cells #[.slice A n c] 179)).alloc (.cells #[.int .i64 f] 3):=by
 go_enter Tryz.func135,Tryz.ntmps135
 go_wp2
 go_ret
 exact ⟨rfl,rfl⟩
end Go.Proofs.YtcpdjamlhhfbhaaGreat
namespace Go.Proofs.YtcpdjamlhhfbhaaGreat
open Go.RowKit
set_option maxRecDepth 20000
theorem zGT (t:List St) {i:Nat} (h:i≤t.length):(List.range (i+1)).map (mark t)=(List.range i).map (mark t)++[mark t i]:=by
 simp [List.range_succ]
set_option maxHeartbeats 1000000 in
theorem rmarks_n (t:List St) (A:Option Addr) (cap:Nat) (w:World) (ht:zg zq 9 w A t) (ho:∀ s∈t,zDS s) (hl:t.length≤1000) :
  zB6 zAM 2 (marks t) (fun v=>v) Tryz.prog 152 [vT A t.length cap] w:=by
 unfold zB6 vT
 (refine zD (n:=25) Tryz.func152 rfl rfl rfl ?_)
 (repeat' (first|((with_reducible refine zH ?_);first|refine zF rfl rfl rfl ?_|refine zC rfl rfl rfl ?_|(refine zM rfl rfl rfl ?_;refine ⟨_,rfl,?_⟩)|refine zP rfl rfl rfl ?_|(refine zS rfl rfl rfl rfl rfl (fun h=>?_) (fun h=>?_)<;>(dsimp only [cmpP] at h;(try (exfalso;omega))))|refine zh rfl rfl rfl rfl ?_|refine zAD rfl rfl rfl rfl (by omega) ?_|refine zCx rfl rfl rfl rfl (IntWalk.i64_in _ (by omega)) ?_|refine zz rfl rfl rfl ?_|(refine zV rfl rfl rfl rfl rfl ?_;refine ⟨rfl,by first|decide|exact Nat.le_of_ble_eq_true rfl|(simp;omega),_,rfl,?_⟩)|(refine zX rfl rfl (fun b=>?_))|(refine zf rfl rfl rfl rfl (fun b=>?_))|(refine zc rfl rfl rfl ?_;refine ⟨rfl,_,rfl,fun b=>?_⟩))|(with_reducible first|refine zK ?_|refine zB ?_|refine zG ?_|refine zA ?_|refine zR ?_|refine zU ?_|refine zb ?_|refine u_end ?_|refine zT ?_|refine zr ?_|refine zu ?_|refine zAw ?_|refine zZ ?_|refine ze ?_)|((with_reducible refine zBH ?_ ?_);(· exact rfl))|((with_reducible refine zO ?_ ?_);(· exact rfl))|((with_reducible refine zI ?_ ?_);(· exact rfl))))
 refine zBh zAM 2 26 ?_
 refine zGE (ι:=Nat × Value) (fun i=>i.1≤t.length+1) (fun i=>[(1,.pointer (some ⟨b,0,none⟩)),(3,i.2),(4,.int .i64 (i.1:Int))]) (fun i=>[.row zAM 2 26 i.2 ((List.range i.1).map (mark t)),.blk b [.slice A t.length cap]]) (fun i=>t.length+1 - i.1) (0,.slice none 0 0) (Nat.zero_le _) (by (repeat first|exact lK1|refine za rfl ?_)) (by (repeat constructor)) ?_
 rintro ⟨i,v⟩ hi
 simp only at hi ⊢
 have hrl:((List.range i).map (mark t)).length=i:=by simp
 by_cases hlt:i≤t.length
 ·have hc:=fun W (h:Below w.heap.size w W)=>(zEy t A cap 0 i W (ht.below h) ho (Nat.zero_le _) hlt hl).gv
  unfold vT at hc
  (repeat' (first|((with_reducible refine zH ?_);first|refine zF rfl rfl rfl ?_|refine zC rfl rfl rfl ?_|(refine zM rfl rfl rfl ?_;refine ⟨_,rfl,?_⟩)|refine zP rfl rfl rfl ?_|(refine zS rfl rfl rfl rfl rfl (fun h=>?_) (fun h=>?_)<;>(dsimp only [cmpP] at h;(try (exfalso;omega))))|refine zE rfl rfl rfl rfl (fun _ _ q=>hc _ q.below) ?_|(refine zCC (enc:=zAM) [_] rfl rfl rfl (by (repeat constructor)) rfl rfl (zo (by exact rfl)) (by refine ⟨?_,by decide⟩;(try simp only [List.length_append,List.length_cons,List.length_nil]);omega) (fun A' c'=>?_))|refine zh rfl rfl rfl rfl ?_|refine zAD rfl rfl rfl rfl (by omega) ?_|refine zCx rfl rfl rfl rfl (IntWalk.i64_in _ (by omega)) ?_|refine zz rfl rfl rfl ?_|(refine zV rfl rfl rfl rfl rfl ?_;refine ⟨rfl,by first|decide|exact Nat.le_of_ble_eq_true rfl|(simp;omega),_,rfl,?_⟩)|(refine zX rfl rfl (fun b=>?_))|(refine zf rfl rfl rfl rfl (fun b=>?_))|(refine zc rfl rfl rfl ?_;refine ⟨rfl,_,rfl,fun b=>?_⟩))|(with_reducible first|refine zK ?_|refine zB ?_|refine zG ?_|refine zA ?_|refine zR ?_|refine zU ?_|refine zb ?_|refine u_end ?_|refine zT ?_|refine zr ?_|refine zu ?_|refine zAw ?_|refine zZ ?_|refine ze ?_)|((with_reducible refine zBH ?_ ?_);(· exact rfl))|((with_reducible refine zO ?_ ?_);(· exact rfl))|((with_reducible refine zI ?_ ?_);(· exact rfl))))
  refine zl (i+1,.slice A' ((List.range i).map (mark t)++[mark t i]).length c') (by simp only;omega) (by simp only;omega) (by (repeat first|exact lK1|refine za rfl ?_)) ?_
  rw [zGT t hlt]
  (repeat constructor)
 ·obtain rfl:i=t.length+1:=by omega
  (repeat' (first|((with_reducible refine zH ?_);first|refine zF rfl rfl rfl ?_|refine zC rfl rfl rfl ?_|(refine zM rfl rfl rfl ?_;refine ⟨_,rfl,?_⟩)|refine zP rfl rfl rfl ?_|(refine zS rfl rfl rfl rfl rfl (fun h=>?_) (fun h=>?_)<;>(dsimp only [cmpP] at h;(try (exfalso;omega))))|refine zh rfl rfl rfl rfl ?_|refine zAD rfl rfl rfl rfl (by omega) ?_|refine zCx rfl rfl rfl rfl (IntWalk.i64_in _ (by omega)) ?_|refine zz rfl rfl rfl ?_|(refine zV rfl rfl rfl rfl rfl ?_;refine ⟨rfl,by first|decide|exact Nat.le_of_ble_eq_true rfl|(simp;omega),_,rfl,?_⟩)|(refine zX rfl rfl (fun b=>?_))|(refine zf rfl rfl rfl rfl (fun b=>?_))|(refine zc rfl rfl rfl ?_;refine ⟨rfl,_,rfl,fun b=>?_⟩))|(with_reducible first|refine zK ?_|refine zB ?_|refine zG ?_|refine zA ?_|refine zR ?_|refine zU ?_|refine zb ?_|refine u_end ?_|refine zT ?_|refine zr ?_|refine zu ?_|refine zAw ?_|refine zZ ?_|refine ze ?_)|((with_reducible refine zBH ?_ ?_);(· exact rfl))|((with_reducible refine zO ?_ ?_);(· exact rfl))|((with_reducible refine zI ?_ ?_);(· exact rfl))))
  refine zBS (enc:=zAM) (by (repeat constructor)) ?_
  rintro A' c' rfl
  exact zN (by exact rTm rfl) (A',c') trivial (by simp [marks,resV]) (fun _ h=>(h.zDe (by (repeat constructor))).sub (by (repeat constructor)))
end Go.Proofs.YtcpdjamlhhfbhaaGreat
namespace Go.Proofs.YtcpdjamlhhfbhaaGreat
open Go.RowKit
set_option linter.unnecessarySimpa false
set_option maxRecDepth 20000
attribute [local go_sem] Oper.semAt_some
set_option maxHeartbeats 4000000 in
theorem zDY (t:List St) (A:Option Addr) (cap i j:Nat) (w:World) (ht:zg zq 9 w A t) (ho:∀ s∈t,zDS s) (hij:i≤j) (hj:j≤t.length) (hl:t.length≤100) :
  zAE 106 #[vT A t.length cap,.int .i64 i,.int .i64 j] w (.tuple #[vSp (zQ t i j),vSp (zY t i j)]):=by
 unfold zAE vT
 have HT:=Lib.hid ht
 clear ht
 refine (callsIn_wide (n:=10)).1 ?_
 refine callsIn_of_wp_marks Tryz.func106 rfl trivial ?_ rfl
 refine wpIn_wide.2 ?_
 simp only [Tryz.ntmps106,List.size_toArray,List.length_cons,List.length_nil,Nat.reduceAdd,Nat.reduceSub,Array.replicate_succ,Array.replicate_zero,List.push_toArray,List.append_toArray,List.nil_append,List.cons_append]
 go_wp2_with (go_at_call 135;refine (zGC _ _ _ _ _).mono ?_;rintro e w2 ⟨rfl,rfl⟩)
 generalize hW:(((((((w.alloc (.cells #[.slice A t.length cap] 179)).alloc (.cells #[.int .i64 i] 3)).alloc (.cells #[.int .i64 j] 3)).alloc (.cells #[.int .i64 0,.int .i64 0] 26)).alloc (.cells #[.int .i64 0,.int .i64 0] 26)).alloc (.cells #[.slice A t.length cap] 179)).alloc (.cells #[.int .i64 i] 3))=W
 have z1:Blk W (w.heap.size+1) #[.int .i64 i]:=by rw [← hW];(refine zAt ?_;repeat (first|(with_reducible refine zL.zAs (by first|(simp;done)|(simp;omega)|omega) ?_;(first|rfl|(simp;done)))|(with_reducible refine zL.alloc ?_ _)|(with_reducible refine zL.far ?_ _ (by first|(simp;done)|(simp;omega)|omega))|(with_reducible refine zL.zAg ?_ (by first|(simp;done)|(simp;omega)|omega))|(with_reducible refine zL.drew ?_)|(with_reducible refine zL.drewN ?_ _)|(refine zL.leaf (by assumption) ?_;(first|rfl|(simp;done)))))
 have z2:Blk W (w.heap.size+2) #[.int .i64 j]:=by rw [← hW];(refine zAt ?_;repeat (first|(with_reducible refine zL.zAs (by first|(simp;done)|(simp;omega)|omega) ?_;(first|rfl|(simp;done)))|(with_reducible refine zL.alloc ?_ _)|(with_reducible refine zL.far ?_ _ (by first|(simp;done)|(simp;omega)|omega))|(with_reducible refine zL.zAg ?_ (by first|(simp;done)|(simp;omega)|omega))|(with_reducible refine zL.drew ?_)|(with_reducible refine zL.drewN ?_ _)|(refine zL.leaf (by assumption) ?_;(first|rfl|(simp;done)))))
 have z3:Blk W (w.heap.size+3) #[.int .i64 0,.int .i64 0]:=by rw [← hW];(refine zAt ?_;repeat (first|(with_reducible refine zL.zAs (by first|(simp;done)|(simp;omega)|omega) ?_;(first|rfl|(simp;done)))|(with_reducible refine zL.alloc ?_ _)|(with_reducible refine zL.far ?_ _ (by first|(simp;done)|(simp;omega)|omega))|(with_reducible refine zL.zAg ?_ (by first|(simp;done)|(simp;omega)|omega))|(with_reducible refine zL.drew ?_)|(with_reducible refine zL.drewN ?_ _)|(refine zL.leaf (by assumption) ?_;(first|rfl|(simp;done)))))
 have z4:Blk W (w.heap.size+4) #[.int .i64 0,.int .i64 0]:=by rw [← hW];(refine zAt ?_;repeat (first|(with_reducible refine zL.zAs (by first|(simp;done)|(simp;omega)|omega) ?_;(first|rfl|(simp;done)))|(with_reducible refine zL.alloc ?_ _)|(with_reducible refine zL.far ?_ _ (by first|(simp;done)|(simp;omega)|omega))|(with_reducible refine zL.zAg ?_ (by first|(simp;done)|(simp;omega)|omega))|(with_reducible refine zL.drew ?_)|(with_reducible refine zL.drewN ?_ _)|(refine zL.leaf (by assumption) ?_;(first|rfl|(simp;done)))))
 have z5:Blk W (w.heap.size+5) #[.slice A t.length cap]:=by rw [← hW];(refine zAt ?_;repeat (first|(with_reducible refine zL.zAs (by first|(simp;done)|(simp;omega)|omega) ?_;(first|rfl|(simp;done)))|(with_reducible refine zL.alloc ?_ _)|(with_reducible refine zL.far ?_ _ (by first|(simp;done)|(simp;omega)|omega))|(with_reducible refine zL.zAg ?_ (by first|(simp;done)|(simp;omega)|omega))|(with_reducible refine zL.drew ?_)|(with_reducible refine zL.drewN ?_ _)|(refine zL.leaf (by assumption) ?_;(first|rfl|(simp;done)))))
 have z6:Blk W (w.heap.size+6) #[.int .i64 i]:=by rw [← hW];(refine zAt ?_;repeat (first|(with_reducible refine zL.zAs (by first|(simp;done)|(simp;omega)|omega) ?_;(first|rfl|(simp;done)))|(with_reducible refine zL.alloc ?_ _)|(with_reducible refine zL.far ?_ _ (by first|(simp;done)|(simp;omega)|omega))|(with_reducible refine zL.zAg ?_ (by first|(simp;done)|(simp;omega)|omega))|(with_reducible refine zL.drew ?_)|(with_reducible refine zL.drewN ?_ _)|(refine zL.leaf (by assumption) ?_;(first|rfl|(simp;done)))))
 have hB:Below w.heap.size w W:=by rw [← hW];(repeat (first|(with_reducible refine zAL ?_ _)|(with_reducible refine zAX ?_ (by first|(simp;done)|(simp;omega)|omega))|(with_reducible refine zA4 ?_)|(with_reducible refine below_drewN ?_ _)|(with_reducible assumption)|(with_reducible exact Below.refl _ _)))
 have hs:W.heap.size=w.heap.size+7:=by rw [← hW];simp
 simp only [Nat.add_assoc,Nat.reduceAdd]
 refine (wpIn_wide (n:=10)).1 ?_
 refine zHD (gf:=154) (lb:=#[.pointer (some ⟨w.heap.size+6,0,none⟩),.pointer (some ⟨w.heap.size+5,0,none⟩)]) rfl (enters Tryz.func154 rfl rfl) (zF0 t A cap i _ _ ho (by omega) hl) (fun _=>rfl)
   (fun k W'=>i+k≤j∧Blk W' (w.heap.size+1) #[.int .i64 (i+k:Nat)]∧Blk W' (w.heap.size+2) #[.int .i64 j]∧(∃ x y,Blk W' (w.heap.size+3) #[.int .i64 x,.int .i64 y])∧(∃ x y,Blk W' (w.heap.size+4) #[.int .i64 x,.int .i64 y])∧Blk W' (w.heap.size+5) #[.slice A t.length cap]∧Blk W' (w.heap.size+6) #[.int .i64 i]∧Below w.heap.size w W')
   (fun c k W'=>c = .exit 0∧Blk W' (w.heap.size+3) #[.int .i64 (zQ t i j).lo,.int .i64 (zQ t i j).hi]∧Blk W' (w.heap.size+4) #[.int .i64 (zY t i j).lo,.int .i64 (zY t i j).hi]∧Below w.heap.size w W') ?_ ?_ ?_ ?_ ?_ ?_ ?_
 ·rintro k W1 W2 ⟨hk,h1,h2,⟨x,y,h3⟩,⟨x',y',h4⟩,h5,h6,h7⟩ ho
  exact ⟨hk,h1.off ho (by omega),h2.off ho (by omega),⟨x,y,h3.off ho (by omega)⟩,⟨x',y',h4.off ho (by omega)⟩,h5.off ho (by omega),h6.off ho (by omega),zCY h7 ho hB.size h7.size⟩
 ·rintro c k W1 W2 ⟨rfl,h3,h4,h7⟩ ho
  exact ⟨rfl,h3.off ho (by omega),h4.off ho (by omega),zCY h7 ho hB.size h7.size⟩
 ·rintro k W' ⟨hk,h1,h2,h3,h4,h5,h6,h7⟩
  exact ⟨h6,h5,HT.out.below h7⟩
 ·exact ⟨by omega,z1,z2,⟨0,0,z3⟩,⟨0,0,z4⟩,z5,z6,hB⟩
 ·intro l k W' hk ⟨hkj,h1,h2,⟨x,y,h3⟩,⟨x',y',h4⟩,h5,h6,h7⟩ hsz K hK
  clear hW z1 z2 z3 z4 z5 z6 hB
  unfold vSp
  gi_wp2
  generalize hp:zQ t i (i+k)=p
  generalize hq:zY t i (i+k)=q
  refine hK _ _ ((zFw _ _ hsz).trans (zFw _ _ (by simp;omega))) (fun W2 ho2=>?_)
  clear hK
  have hsz2:=ho2.size
  generalize hX:(W'.alloc (.cells #[.int .i64 p.lo,.int .i64 p.hi] 26)).alloc (.cells #[.int .i64 q.lo,.int .i64 q.hi] 26)=X at ho2 hsz2
  have y8:Blk W2 W'.heap.size #[.int .i64 p.lo,.int .i64 p.hi]:=Blk.off' (by rw [← hX];(refine zAt ?_;repeat (first|(with_reducible refine zL.zAs (by first|(simp;done)|(simp;omega)|omega) ?_;(first|rfl|(simp;done)))|(with_reducible refine zL.alloc ?_ _)|(with_reducible refine zL.far ?_ _ (by first|(simp;done)|(simp;omega)|omega))|(with_reducible refine zL.zAg ?_ (by first|(simp;done)|(simp;omega)|omega))|(with_reducible refine zL.drew ?_)|(with_reducible refine zL.drewN ?_ _)|(refine zL.leaf (by assumption) ?_;(first|rfl|(simp;done)))))) ho2 (by omega)
  have y9:Blk W2 (W'.heap.size+1) #[.int .i64 q.lo,.int .i64 q.hi]:=Blk.off' (by rw [← hX];(refine zAt ?_;repeat (first|(with_reducible refine zL.zAs (by first|(simp;done)|(simp;omega)|omega) ?_;(first|rfl|(simp;done)))|(with_reducible refine zL.alloc ?_ _)|(with_reducible refine zL.far ?_ _ (by first|(simp;done)|(simp;omega)|omega))|(with_reducible refine zL.zAg ?_ (by first|(simp;done)|(simp;omega)|omega))|(with_reducible refine zL.drew ?_)|(with_reducible refine zL.drewN ?_ _)|(refine zL.leaf (by assumption) ?_;(first|rfl|(simp;done)))))) ho2 (by omega)
  have y1:Blk W2 (w.heap.size+1) #[.int .i64 (i+k:Nat)]:=Blk.off (by rw [← hX];(refine zAt ?_;repeat (first|(with_reducible refine zL.zAs (by first|(simp;done)|(simp;omega)|omega) ?_;(first|rfl|(simp;done)))|(with_reducible refine zL.alloc ?_ _)|(with_reducible refine zL.far ?_ _ (by first|(simp;done)|(simp;omega)|omega))|(with_reducible refine zL.zAg ?_ (by first|(simp;done)|(simp;omega)|omega))|(with_reducible refine zL.drew ?_)|(with_reducible refine zL.drewN ?_ _)|(refine zL.leaf (by assumption) ?_;(first|rfl|(simp;done)))))) ho2 (by omega)
  have y2:Blk W2 (w.heap.size+2) #[.int .i64 j]:=Blk.off (by rw [← hX];(refine zAt ?_;repeat (first|(with_reducible refine zL.zAs (by first|(simp;done)|(simp;omega)|omega) ?_;(first|rfl|(simp;done)))|(with_reducible refine zL.alloc ?_ _)|(with_reducible refine zL.far ?_ _ (by first|(simp;done)|(simp;omega)|omega))|(with_reducible refine zL.zAg ?_ (by first|(simp;done)|(simp;omega)|omega))|(with_reducible refine zL.drew ?_)|(with_reducible refine zL.drewN ?_ _)|(refine zL.leaf (by assumption) ?_;(first|rfl|(simp;done)))))) ho2 (by omega)
  have y3:Blk W2 (w.heap.size+3) #[.int .i64 x,.int .i64 y]:=Blk.off (by rw [← hX];(refine zAt ?_;repeat (first|(with_reducible refine zL.zAs (by first|(simp;done)|(simp;omega)|omega) ?_;(first|rfl|(simp;done)))|(with_reducible refine zL.alloc ?_ _)|(with_reducible refine zL.far ?_ _ (by first|(simp;done)|(simp;omega)|omega))|(with_reducible refine zL.zAg ?_ (by first|(simp;done)|(simp;omega)|omega))|(with_reducible refine zL.drew ?_)|(with_reducible refine zL.drewN ?_ _)|(refine zL.leaf (by assumption) ?_;(first|rfl|(simp;done)))))) ho2 (by omega)
  have y4:Blk W2 (w.heap.size+4) #[.int .i64 x',.int .i64 y']:=Blk.off (by rw [← hX];(refine zAt ?_;repeat (first|(with_reducible refine zL.zAs (by first|(simp;done)|(simp;omega)|omega) ?_;(first|rfl|(simp;done)))|(with_reducible refine zL.alloc ?_ _)|(with_reducible refine zL.far ?_ _ (by first|(simp;done)|(simp;omega)|omega))|(with_reducible refine zL.zAg ?_ (by first|(simp;done)|(simp;omega)|omega))|(with_reducible refine zL.drew ?_)|(with_reducible refine zL.drewN ?_ _)|(refine zL.leaf (by assumption) ?_;(first|rfl|(simp;done)))))) ho2 (by omega)
  have y5:Blk W2 (w.heap.size+5) #[.slice A t.length cap]:=Blk.off (by rw [← hX];(refine zAt ?_;repeat (first|(with_reducible refine zL.zAs (by first|(simp;done)|(simp;omega)|omega) ?_;(first|rfl|(simp;done)))|(with_reducible refine zL.alloc ?_ _)|(with_reducible refine zL.far ?_ _ (by first|(simp;done)|(simp;omega)|omega))|(with_reducible refine zL.zAg ?_ (by first|(simp;done)|(simp;omega)|omega))|(with_reducible refine zL.drew ?_)|(with_reducible refine zL.drewN ?_ _)|(refine zL.leaf (by assumption) ?_;(first|rfl|(simp;done)))))) ho2 (by omega)
  have y6:Blk W2 (w.heap.size+6) #[.int .i64 i]:=Blk.off (by rw [← hX];(refine zAt ?_;repeat (first|(with_reducible refine zL.zAs (by first|(simp;done)|(simp;omega)|omega) ?_;(first|rfl|(simp;done)))|(with_reducible refine zL.alloc ?_ _)|(with_reducible refine zL.far ?_ _ (by first|(simp;done)|(simp;omega)|omega))|(with_reducible refine zL.zAg ?_ (by first|(simp;done)|(simp;omega)|omega))|(with_reducible refine zL.drew ?_)|(with_reducible refine zL.drewN ?_ _)|(refine zL.leaf (by assumption) ?_;(first|rfl|(simp;done)))))) ho2 (by omega)
  have y7:Below w.heap.size w W2:=zCY (by rw [← hX];(repeat (first|(with_reducible refine zAL ?_ _)|(with_reducible refine zAX ?_ (by first|(simp;done)|(simp;omega)|omega))|(with_reducible refine zA4 ?_)|(with_reducible refine below_drewN ?_ _)|(with_reducible assumption)|(with_reducible exact Below.refl _ _)))) ho2 (by omega) (by rw [← hX];simp;omega)
  have hXs:X.heap.size=W'.heap.size+2:=by rw [← hX];simp
  clear hX ho2 h1 h2 h3 h4 h5 h6 h7
  obtain ⟨c1,f1,l1⟩:=y1.facts
  obtain ⟨c2,f2,l2⟩:=y2.facts
  obtain ⟨c3,f3,l3⟩:=y3.facts
  obtain ⟨c4,f4,l4⟩:=y4.facts
  obtain ⟨c8,f8,l8⟩:=y8.facts
  obtain ⟨c9,f9,l9⟩:=y9.facts
  have g83:W'.heap.size≠w.heap.size+3:=by omega
  have g84:W'.heap.size≠w.heap.size+4:=by omega
  have g93:W'.heap.size+1≠w.heap.size+3:=by omega
  have g94:W'.heap.size+1≠w.heap.size+4:=by omega
  have hon:On W.heap.size (W.heap.size+2+2) W2 ((((W2.setCell ⟨w.heap.size+3,0,none⟩ (.int .i64 p.lo)).setCell ⟨w.heap.size+3,1,none⟩ (.int .i64 p.hi)).setCell ⟨w.heap.size+4,0,none⟩ (.int .i64 q.lo)).setCell ⟨w.heap.size+4,1,none⟩ (.int .i64 q.hi)) :=
   (((zCT _ _ (by simp;omega)).trans (zCT _ _ (by simp;omega))).trans (zCT _ _ (by simp;omega))).trans (zCT _ _ (by simp;omega))
  by_cases hkj2:i+k=j
  ·have hkj3:(i:Int)+k=j:=by omega
   gi_wp2
   gi_region
   all_goals
    gi_wp2
    refine ⟨⟨hon.os,hon.tape,hon.output,hon.size,hon.block⟩,rfl,?_,?_,?_⟩
    ·rw [← hkj2,hp];(refine zAt ?_;repeat (first|(with_reducible refine zL.zAs (by first|(simp;done)|(simp;omega)|omega) ?_;(first|rfl|(simp;done)))|(with_reducible refine zL.alloc ?_ _)|(with_reducible refine zL.far ?_ _ (by first|(simp;done)|(simp;omega)|omega))|(with_reducible refine zL.zAg ?_ (by first|(simp;done)|(simp;omega)|omega))|(with_reducible refine zL.drew ?_)|(with_reducible refine zL.drewN ?_ _)|(refine zL.leaf (by assumption) ?_;(first|rfl|(simp;done)))))
    ·rw [← hkj2,hq];(refine zAt ?_;repeat (first|(with_reducible refine zL.zAs (by first|(simp;done)|(simp;omega)|omega) ?_;(first|rfl|(simp;done)))|(with_reducible refine zL.alloc ?_ _)|(with_reducible refine zL.far ?_ _ (by first|(simp;done)|(simp;omega)|omega))|(with_reducible refine zL.zAg ?_ (by first|(simp;done)|(simp;omega)|omega))|(with_reducible refine zL.drew ?_)|(with_reducible refine zL.drewN ?_ _)|(refine zL.leaf (by assumption) ?_;(first|rfl|(simp;done)))))
    ·(repeat (first|(with_reducible refine zAL ?_ _)|(with_reducible refine zAX ?_ (by first|(simp;done)|(simp;omega)|omega))|(with_reducible refine zA4 ?_)|(with_reducible refine below_drewN ?_ _)|(with_reducible assumption)|(with_reducible exact Below.refl _ _)))
  ·have hkj3:¬ (i:Int)+k=j:=by omega
   have hl9:j≤100:=by omega
   gi_wp2
   gi_region
   all_goals
    gi_wp2
    refine ⟨⟨hon.os,hon.tape,hon.output,?_,?_⟩,by omega,?_,?_,⟨p.lo,p.hi,?_⟩,⟨q.lo,q.hi,?_⟩,?_,?_,?_⟩
    ·have:=hon.size;simpa using this
    ·intro g h1 h2;exact (Below.heap_setCell _ _ _ _ (by simp;omega)).trans (hon.block g h1 h2)
    ·(refine zAt ?_;repeat (first|(with_reducible refine zL.zAs (by first|(simp;done)|(simp;omega)|omega) ?_;(first|rfl|(simp [Int.natCast_add,Int.add_assoc];done)))|(with_reducible refine zL.alloc ?_ _)|(with_reducible refine zL.far ?_ _ (by first|(simp;done)|(simp;omega)|omega))|(with_reducible refine zL.zAg ?_ (by first|(simp;done)|(simp;omega)|omega))|(with_reducible refine zL.drew ?_)|(with_reducible refine zL.drewN ?_ _)|(refine zL.leaf (by assumption) ?_;(first|rfl|(simp [Int.natCast_add,Int.add_assoc];done)))))
    ·(refine zAt ?_;repeat (first|(with_reducible refine zL.zAs (by first|(simp;done)|(simp;omega)|omega) ?_;(first|rfl|(simp;done)))|(with_reducible refine zL.alloc ?_ _)|(with_reducible refine zL.far ?_ _ (by first|(simp;done)|(simp;omega)|omega))|(with_reducible refine zL.zAg ?_ (by first|(simp;done)|(simp;omega)|omega))|(with_reducible refine zL.drew ?_)|(with_reducible refine zL.drewN ?_ _)|(refine zL.leaf (by assumption) ?_;(first|rfl|(simp;done)))))
    ·(refine zAt ?_;repeat (first|(with_reducible refine zL.zAs (by first|(simp;done)|(simp;omega)|omega) ?_;(first|rfl|(simp;done)))|(with_reducible refine zL.alloc ?_ _)|(with_reducible refine zL.far ?_ _ (by first|(simp;done)|(simp;omega)|omega))|(with_reducible refine zL.zAg ?_ (by first|(simp;done)|(simp;omega)|omega))|(with_reducible refine zL.drew ?_)|(with_reducible refine zL.drewN ?_ _)|(refine zL.leaf (by assumption) ?_;(first|rfl|(simp;done)))))
    ·(refine zAt ?_;repeat (first|(with_reducible refine zL.zAs (by first|(simp;done)|(simp;omega)|omega) ?_;(first|rfl|(simp;done)))|(with_reducible refine zL.alloc ?_ _)|(with_reducible refine zL.far ?_ _ (by first|(simp;done)|(simp;omega)|omega))|(with_reducible refine zL.zAg ?_ (by first|(simp;done)|(simp;omega)|omega))|(with_reducible refine zL.drew ?_)|(with_reducible refine zL.drewN ?_ _)|(refine zL.leaf (by assumption) ?_;(first|rfl|(simp;done)))))
    ·(refine zAt ?_;repeat (first|(with_reducible refine zL.zAs (by first|(simp;done)|(simp;omega)|omega) ?_;(first|rfl|(simp;done)))|(with_reducible refine zL.alloc ?_ _)|(with_reducible refine zL.far ?_ _ (by first|(simp;done)|(simp;omega)|omega))|(with_reducible refine zL.zAg ?_ (by first|(simp;done)|(simp;omega)|omega))|(with_reducible refine zL.drew ?_)|(with_reducible refine zL.drewN ?_ _)|(refine zL.leaf (by assumption) ?_;(first|rfl|(simp;done)))))
    ·(refine zAt ?_;repeat (first|(with_reducible refine zL.zAs (by first|(simp;done)|(simp;omega)|omega) ?_;(first|rfl|(simp;done)))|(with_reducible refine zL.alloc ?_ _)|(with_reducible refine zL.far ?_ _ (by first|(simp;done)|(simp;omega)|omega))|(with_reducible refine zL.zAg ?_ (by first|(simp;done)|(simp;omega)|omega))|(with_reducible refine zL.drew ?_)|(with_reducible refine zL.drewN ?_ _)|(refine zL.leaf (by assumption) ?_;(first|rfl|(simp;done)))))
    ·(repeat (first|(with_reducible refine zAL ?_ _)|(with_reducible refine zAX ?_ (by first|(simp;done)|(simp;omega)|omega))|(with_reducible refine zA4 ?_)|(with_reducible refine below_drewN ?_ _)|(with_reducible assumption)|(with_reducible exact Below.refl _ _)))
 ·rintro W' ⟨hk,_⟩
  omega
 ·rintro c k W' hk ⟨rfl,h3,h4,h7⟩ hD hsz
  obtain ⟨c3,f3,l3⟩:=h3.facts
  obtain ⟨c4,f4,l4⟩:=h4.facts
  refine wpIn_wide.2 ?_
  go_wp2
  go_region
  all_goals
   go_wp2
   generalize hV:World.drew _=V
   have v3:Blk V (w.heap.size+3) #[.int .i64 (zQ t i j).lo,.int .i64 (zQ t i j).hi]:=by rw [← hV];(refine zAt ?_;repeat (first|(with_reducible refine zL.zAs (by first|(simp;done)|(simp;omega)|omega) ?_;(first|rfl|(simp;done)))|(with_reducible refine zL.alloc ?_ _)|(with_reducible refine zL.far ?_ _ (by first|(simp;done)|(simp;omega)|omega))|(with_reducible refine zL.zAg ?_ (by first|(simp;done)|(simp;omega)|omega))|(with_reducible refine zL.drew ?_)|(with_reducible refine zL.drewN ?_ _)|(refine zL.leaf (by assumption) ?_;(first|rfl|(simp;done)))))
   have v4:Blk V (w.heap.size+4) #[.int .i64 (zY t i j).lo,.int .i64 (zY t i j).hi]:=by rw [← hV];(refine zAt ?_;repeat (first|(with_reducible refine zL.zAs (by first|(simp;done)|(simp;omega)|omega) ?_;(first|rfl|(simp;done)))|(with_reducible refine zL.alloc ?_ _)|(with_reducible refine zL.far ?_ _ (by first|(simp;done)|(simp;omega)|omega))|(with_reducible refine zL.zAg ?_ (by first|(simp;done)|(simp;omega)|omega))|(with_reducible refine zL.drew ?_)|(with_reducible refine zL.drewN ?_ _)|(refine zL.leaf (by assumption) ?_;(first|rfl|(simp;done)))))
   have v7:Below w.heap.size w V:=by rw [← hV];(repeat (first|(with_reducible refine zAL ?_ _)|(with_reducible refine zAX ?_ (by first|(simp;done)|(simp;omega)|omega))|(with_reducible refine zA4 ?_)|(with_reducible refine below_drewN ?_ _)|(with_reducible assumption)|(with_reducible exact Below.refl _ _)))
   have vD:V.heap[W.heap.size]?=some (.deferred (some [])):=by
    rw [← hV]
    exact (Below.heap_setCell _ _ _ _ (by simp;omega)).trans ((Below.heap_setCell _ _ _ _ (by simp;omega)).trans ((Below.heap_setCell _ _ _ _ (by simp;omega)).trans ((Below.heap_setCell _ _ _ _ (by simp;omega)).trans hD)))
   have hvs:W.heap.size<V.heap.size:=(Array.getElem?_eq_some_iff.1 vD).1
   have ho:=zA0 V (.deferred none) (lo:=W.heap.size) (hi:=W.heap.size+1) (Nat.le_refl _) (by omega)
   exact zFT vD (zDq rfl rfl (v3.off ho (by omega)) rfl (v4.off ho (by omega))) ⟨rfl,zCY v7 ho hB.size v7.size⟩
end Go.Proofs.YtcpdjamlhhfbhaaGreat
namespace Go.Proofs.YtcpdjamlhhfbhaaGreat
open Go.RowKit
theorem zFN {α:Type} {a b:List α} {i:Nat} (h:a.take i=b.take i) (hl:a.length=b.length) (hi:a.length≤i):a=b:=by
 rwa [List.take_of_length_le hi,List.take_of_length_le (by omega)] at h
theorem zFM {α:Type} {a b:List α} {i:Nat} (h:a.take i=b.take i) (ha:i<a.length) (hb:i<b.length) (he:a[i]=b[i]):a.take (i+1)=b.take (i+1):=by
 rw [List.take_succ_eq_append_getElem ha,List.take_succ_eq_append_getElem hb,h,he]
theorem zEn {α:Type} {a b:List α} {i:Nat} (ha:i<a.length) (hb:i<b.length) (he:a[i]≠b[i]):a≠b:=by
 rintro rfl;exact he rfl
set_option maxHeartbeats 1000000 in
theorem zGI (a b:List Sp) (A B:Option Addr) (c d:Nat) (w:World) (ha:zg zAM 2 w A a) (hb:zg zAM 2 w B b) (hla:a.length≤1000000) (hlb:b.length≤1000000) :
  zAE 35 #[.slice A a.length c,.slice B b.length d] w (.bool (decide (a=b))):=by
 unfold zAE
 have HA:=Lib.hid ha
 have HB:=Lib.hid hb
 clear ha hb
 by_cases hl:a.length=b.length
 ·have hL:=Lib.hid hl
  have hlt0:b.length≤a.length:=by omega
  have hlt1:a.length≤b.length:=by omega
  clear hl
  go_enter Tryz.func35,Tryz.ntmps35
  go_wp2
  go_loopw [5] (fun v wr=>∃ i:Nat,i≤a.length∧v = .int .i64 i∧Below w.heap.size w wr∧Hid (a.take i=b.take i)) (fun v _=>a.length - (intOf v).toNat)
  case atStart=>exact ⟨0,Nat.zero_le _,rfl,Below.refl _ _,by unfold Hid;simp⟩
  case round =>
   obtain ⟨i,hi,rfl,hBw,hF⟩:=hrel
   by_cases hlt:i<a.length
   ·have hltb:i<b.length:=by omega
    obtain ⟨b1,o1,rfl,hb1,hc1⟩:=(HA.out.below hBw).at_ hlt
    obtain ⟨b2,o2,rfl,hb2,hc2⟩:=(HB.out.below hBw).at_ hltb
    have c1:=hc1 0 _ rfl
    have c2:=hc1 1 _ rfl
    have c3:=hc2 0 _ rfl
    have c4:=hc2 1 _ rfl
    simp only [Nat.add_zero] at c1 c3
    clear hc1 hc2
    have hi0:(0:Int)≤i:=by omega
    have hi1:(i:Int)<a.length:=by omega
    have hi2:(i:Int)<b.length:=by omega
    by_cases he:a[i]=b[i]
    ·have hq:zCH ⟨a[i].lo,a[i].hi⟩ ⟨b[i].lo,b[i].hi⟩=true:=by unfold zCH;exact decide_eq_true he
     have HE:=Lib.hid he
     clear he
     go_wp2_with fail
     go_quiet (fail)
     go_wp2
     go_roundw
     case rel=>exact ⟨i+1,by omega,by go_num,below_drewN hBw _,zFM hF.out hlt hltb HE.out⟩
     case measure=>simp [intOf];omega
    ·have hq:zCH ⟨a[i].lo,a[i].hi⟩ ⟨b[i].lo,b[i].hi⟩=false:=by unfold zCH;exact decide_eq_false he
     have HE:=Lib.hid he
     clear he
     go_wp2_with fail
     go_quiet (fail)
     go_wp2
     go_ret
     exact ⟨zAk (by simp [zEn hlt hltb HE.out]),below_drewN hBw _⟩
   ·go_wp2
    go_ret
    exact ⟨zAk (by rw [zFN hF.out hL.out (by omega)];simp),hBw⟩
 ·go_enter Tryz.func35,Tryz.ntmps35
  go_wp2
  go_ret
  exact ⟨zAk (by simp;rintro rfl;exact hl rfl),Below.refl _ _⟩
end Go.Proofs.YtcpdjamlhhfbhaaGreat
namespace Go.Proofs.YtcpdjamlhhfbhaaGreat
open Go.RowKit
set_option maxRecDepth 20000
theorem great_n (A:Option Addr) (n c:Nat) (w:World):Gv Tryz.prog 6 [.agg #[.slice A n c]] w (.bool (decide (20<n))):=(zHH A n c w).gv
end Go.Proofs.YtcpdjamlhhfbhaaGreat
