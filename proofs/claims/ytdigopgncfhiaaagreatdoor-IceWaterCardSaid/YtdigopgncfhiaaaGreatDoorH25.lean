/- H25 -/
import Derived.Test.YtdigopgncfhiaaaGreatDoorH12
import Derived.Test.YtdigopgncfhiaaaGreatDoorH22
import Derived.Test.YtdigopgncfhiaaaGreatDoorH21
import Derived.RegionIn
import Derived.Test.YtdigopgncfhiaaaGreatDoorH5
import Derived.Test.YtdigopgncfhiaaaGreatDoorH8
set_option linter.unusedSimpArgs false
set_option linter.unusedVariables false
namespace Go.Proofs.YtdigopgncfhiaaaGreatDoor
open Go.RowKit
set_option maxRecDepth 20000
def zG6 (c:Cov) (pl:List Sli):List (Int × Int):=if zCB c pl=0 then zCj c pl zC5 else []
def zJN (c:Cov) (pl:List Sli):Int:=if zCB c pl=0 then (if (zCj c pl zC5).length=0 then 2 else if (zCj c pl zNx).length=0 then 1 else 0) else 0
set_option maxHeartbeats 2000000 in
theorem zQh (c:Cov) (A:Option Addr) (ca:Nat) (B:Option Addr) (cb:Nat) (C:Option Addr) (cc:Nat) (pl:List Sli) (P:Option Addr) (cp:Nat) (w:World) (hc:zAp w c A B C) (hs:Small c) (hp:zBJ w P pl) (hl:pl.length≤12) (hrl:∀ s∈pl,s.xs.length≤20) (hG:InC w 0 0 zCz) :
  Ret Tryz.prog 20 [zAS c A ca B cb C cc,.slice P pl.length cp] w (fun p:Option Addr × Nat=>.tuple #[.slice p.1 (zG6 c pl).length p.2,.int .i64 (zCB c pl)]) (fun p=>[.sl zAc 2 p.1 (zG6 c pl)]) (fun _=>True):=by
 have h1:=fun W (hb:Below w.heap.size w W)=>zEk c A ca B cb C cc pl P cp W (hc.below hb) hs (hp.below hb) hl hrl
 have h2:=fun W (hb:Below w.heap.size w W)=>zEj c A ca B cb C cc pl P cp W (hc.below hb) hs (hp.below hb) hl hrl
 unfold zAS at h1 h2
 unfold zAS zG6
 by_cases h0:zCB c pl=0
 ·rw [if_pos h0,h0]
  obtain ⟨h00,hpl⟩:=zEr h0
  have hf:=zBm h00
  have h2:=fun W hb=>h2 W hb h00 hpl
  have hT:=fun W (hb:Below w.heap.size w W) g (hr:InC W g 0 (zN c A ca B cb C cc))=>zGK (en:=zC5) (enF:=58) zHg c A ca B cb C cc g pl P cp W hr (hG.below hb) (hc.below hb) hs hf (hp.below hb) hrl (zBc.1 hpl).1
  unfold zN at h2 hT ⊢
  (refine zJ (n:=20) Tryz.func20 rfl rfl rfl ?_)
  (repeat' (first|((with_reducible refine zF ?_);first|refine zE rfl rfl rfl ?_|refine zC rfl rfl rfl ?_|(refine zL rfl rfl rfl ?_;refine ⟨_,rfl,?_⟩)|(refine zQ rfl rfl rfl rfl rfl (fun h=>?_) (fun h=>?_)<;>(dsimp only [cmpP] at h;(try (exfalso;omega))))|(refine zAW rfl rfl rfl rfl (fun _ _ q=>h2 _ q.below) ?_;rintro g -;dsimp only [List.cons_append,List.nil_append])|(refine zAW rfl rfl rfl rfl (fun _ _ q=>hT _ q.below g (zBO q.own (Below.refl _ _) rfl)) ?_;rintro ⟨A',c'⟩ -;dsimp only [List.cons_append,List.nil_append])|refine zc rfl rfl rfl rfl ?_|(refine zy rfl rfl rfl rfl (fun b=>?_)))|(with_reducible first|refine zH ?_|refine zB ?_|refine zD ?_|refine zA ?_|refine zW ?_|refine zS ?_)|((with_reducible refine zG ?_ ?_);(· exact rfl))))
  exact zR (by (exact zf.cons (by exact zAL.tmp rfl) (zf.cons (by exact zAL.tmp rfl) zf.nil))) (A',c') trivial rfl (fun _ h=>h.sub (by (repeat constructor)))
 ·rw [if_neg h0]
  unfold zN at h1 ⊢
  generalize zCB c pl=e at *
  (refine zJ (n:=20) Tryz.func20 rfl rfl rfl ?_)
  (repeat' (first|((with_reducible refine zF ?_);first|refine zE rfl rfl rfl ?_|refine zC rfl rfl rfl ?_|(refine zL rfl rfl rfl ?_;refine ⟨_,rfl,?_⟩)|(refine zQ rfl rfl rfl rfl rfl (fun h=>?_) (fun h=>?_)<;>(dsimp only [cmpP] at h;(try (exfalso;omega))))|refine zY rfl rfl rfl rfl (fun _ _ q=>h1 _ q.below h0) ?_|refine zc rfl rfl rfl rfl ?_|(refine zy rfl rfl rfl rfl (fun b=>?_)))|(with_reducible first|refine zH ?_|refine zB ?_|refine zD ?_|refine zA ?_|refine zW ?_|refine ze ?_)|((with_reducible refine zK ?_ ?_);(· exact rfl))))
  all_goals exact zR (by (exact zf.cons (by exact zAL.tmp rfl) (zf.cons (by exact zAL.tmp rfl) zf.nil))) (none,0) trivial rfl (fun _ h=>(zDl h).sub (by (repeat constructor)))
set_option maxHeartbeats 2000000 in
theorem zQi (c:Cov) (A:Option Addr) (ca:Nat) (B:Option Addr) (cb:Nat) (C:Option Addr) (cc:Nat) (pl:List Sli) (P:Option Addr) (cp:Nat) (w:World) (hc:zAp w c A B C) (hs:Small c) (hp:zBJ w P pl) (hl:pl.length≤12) (hrl:∀ s∈pl,s.xs.length≤20) (hG:InC w 0 0 zCz) :
  Gv Tryz.prog 21 [zAS c A ca B cb C cc,.slice P pl.length cp] w (.tuple #[.int .u8 (zJN c pl),.int .i64 (zCB c pl)]):=by
 have h1:=fun W (hb:Below w.heap.size w W)=>zEk c A ca B cb C cc pl P cp W (hc.below hb) hs (hp.below hb) hl hrl
 have h2:=fun W (hb:Below w.heap.size w W)=>zEj c A ca B cb C cc pl P cp W (hc.below hb) hs (hp.below hb) hl hrl
 unfold zAS at h1 h2
 unfold Gv zAS zJN
 by_cases h0:zCB c pl=0
 ·rw [if_pos h0,h0]
  obtain ⟨h00,hpl⟩:=zEr h0
  have hf:=zBm h00
  have h2:=fun W hb=>h2 W hb h00 hpl
  have hT:=fun W (hb:Below w.heap.size w W) g (hr:InC W g 0 (zN c A ca B cb C cc))=>zGK (en:=zC5) (enF:=58) zHg c A ca B cb C cc g pl P cp W hr (hG.below hb) (hc.below hb) hs hf (hp.below hb) hrl (zBc.1 hpl).1
  have hB:=fun W (hb:Below w.heap.size w W) g (hr:InC W g 0 (zN c A ca B cb C cc))=>zGK (en:=zNx) (enF:=59) best_any c A ca B cb C cc g pl P cp W hr (hG.below hb) (hc.below hb) hs hf (hp.below hb) hrl (zBc.1 hpl).1
  generalize zCj c pl zC5=l1 at *
  generalize zCj c pl zNx=l2 at *
  unfold zN at h2 hT hB ⊢
  (refine zJ (n:=30) Tryz.func21 rfl rfl rfl ?_)
  (repeat' (first|((with_reducible refine zF ?_);first|refine zE rfl rfl rfl ?_|refine zC rfl rfl rfl ?_|(refine zL rfl rfl rfl ?_;refine ⟨_,rfl,?_⟩)|(refine zQ rfl rfl rfl rfl rfl (fun h=>?_) (fun h=>?_)<;>(dsimp only [cmpP] at h;(try (exfalso;omega))))|(refine zAW rfl rfl rfl rfl (fun _ _ q=>h2 _ q.below) ?_;rintro g -;dsimp only [List.cons_append,List.nil_append])|(refine zAW rfl rfl rfl rfl (fun _ _ q=>hT _ q.below g (zBO q.own (Below.refl _ _) rfl)) ?_;rintro ⟨A',c'⟩ -;dsimp only [List.cons_append,List.nil_append])|(refine zAW rfl rfl rfl rfl (fun _ _ q=>hB _ q.below g (zBO q.own (Below.refl _ _) rfl)) ?_;rintro ⟨A',c'⟩ -;dsimp only [List.cons_append,List.nil_append])|refine zc rfl rfl rfl rfl ?_|refine zq rfl rfl rfl ?_|(refine zy rfl rfl rfl rfl (fun b=>?_)))|(with_reducible first|refine zH ?_|refine zB ?_|refine zD ?_|refine zA ?_|refine zW ?_|refine zS ?_|refine ze ?_|refine zP ?_|refine zg ?_|refine zBb ?_)|((with_reducible refine zK ?_ ?_);(· exact rfl))|((with_reducible refine zG ?_ ?_);(· exact rfl))))
  all_goals first|exact zR (by (exact zf.cons (by exact zAL.tmp rfl) (zf.cons (by exact zAL.tmp rfl) zf.nil))) () trivial (by rw [if_pos (by omega)];rfl) (fun _ h=>h.sub (by (repeat constructor)))|exact zR (by (exact zf.cons (by exact zAL.tmp rfl) (zf.cons (by exact zAL.tmp rfl) zf.nil))) () trivial (by rw [if_neg (by omega),if_pos (by omega)];rfl) (fun _ h=>h.sub (by (repeat constructor)))|exact zR (by (exact zf.cons (by exact zAL.tmp rfl) (zf.cons (by exact zAL.tmp rfl) zf.nil))) () trivial (by rw [if_neg (by omega),if_neg (by omega)];rfl) (fun _ h=>h.sub (by (repeat constructor)))
 ·rw [if_neg h0]
  unfold zN at h1 ⊢
  generalize zCB c pl=e at *
  (refine zJ (n:=30) Tryz.func21 rfl rfl rfl ?_)
  (repeat' (first|((with_reducible refine zF ?_);first|refine zE rfl rfl rfl ?_|refine zC rfl rfl rfl ?_|(refine zL rfl rfl rfl ?_;refine ⟨_,rfl,?_⟩)|(refine zQ rfl rfl rfl rfl rfl (fun h=>?_) (fun h=>?_)<;>(dsimp only [cmpP] at h;(try (exfalso;omega))))|refine zY rfl rfl rfl rfl (fun _ _ q=>h1 _ q.below h0) ?_|refine zc rfl rfl rfl rfl ?_|(refine zy rfl rfl rfl rfl (fun b=>?_)))|(with_reducible first|refine zH ?_|refine zB ?_|refine zD ?_|refine zA ?_|refine zW ?_|refine ze ?_|refine zP ?_|refine zBb ?_)|((with_reducible refine zK ?_ ?_);(· exact rfl))))
  all_goals exact zR (by (exact zf.cons (by exact zAL.tmp rfl) (zf.cons (by exact zAL.tmp rfl) zf.nil))) () trivial rfl (fun _ h=>h.sub (by (repeat constructor)))
end Go.Proofs.YtdigopgncfhiaaaGreatDoor
namespace Go.Proofs.YtdigopgncfhiaaaGreatDoor
open Go.RowKit
set_option maxRecDepth 20000
theorem guardPr : Tryz.prog.eqGuardType Tryz.prog.depth 75=false:=by kernel_rfl
theorem e_nePr {w0:World} {n:Nat} {d:List Deferred} {R:List (Nat × Value)} {H:List Ent} {o:Oper} {x y:Operand} {a b:Int} {T':TypeId} (hop:o.op = .binOp .neq 75 x y T') (hx:evR R x=some (.agg #[.int .i64 a,.int .i64 b])) (hy:evR R y=some (.agg #[.int .i64 a,.int .i64 b])):Ev Tryz.prog w0 n d R H o (.bool false):=fun k w q=>by
 have e:=zIK 9998 a b a b w
 simp only [decide_true,Bool.and_true] at e
 have g:(eqGuard .neq 75 x y (.agg #[.int .i64 a,.int .i64 b]) (.agg #[.int .i64 a,.int .i64 b])).run Tryz.prog w = .ok () w:=run_eqGuard_agg _ _ _ _ _ _ _ guardPr
 unfold execOp;rw [hop]
 simp only [Sem.run_bind,q.ev hx,q.ev hy,g,Result.andThen_ok]
 rw [run_neq_struct,e];rfl
set_option maxHeartbeats 1000000 in
theorem zKX (l:List (Int × Int)) (A:Option Addr) (ca:Nat) (B:Option Addr) (cb:Nat) (w:World) (ha:zp zAc 2 w A l) (hb:zp zAc 2 w B l) (hl:l.length≤1000000) :
  Gv Tryz.prog 47 [.slice A l.length ca,.slice B l.length cb] w (.bool true):=by
 unfold Gv
 (refine zJ (n:=26) Tryz.func47 rfl rfl rfl ?_)
 (repeat' (first|((with_reducible refine zF ?_);first|refine zE rfl rfl rfl ?_|refine zC rfl rfl rfl ?_|(refine zQ rfl rfl rfl rfl rfl (fun h=>?_) (fun h=>?_)<;>(dsimp only [cmpP] at h;(try (exfalso;omega))))|refine zq rfl rfl rfl ?_)|(with_reducible first|refine zH ?_|refine zB ?_|refine zD ?_|refine zA ?_|refine zS ?_|refine zP ?_)|((with_reducible refine zG ?_ ?_);(· exact rfl))))
 refine zw (ι:=Nat) [0,1] rfl (fun i=>i≤l.length) (fun i=>[(5,.int .i64 (i:Int))]) (fun _=>[]) (fun i=>l.length - i) 0 (Nat.zero_le _) (by (repeat first|exact lK1|refine zI rfl ?_)) (by (repeat constructor)) ?_
 rintro i hi
 simp only [zA1,List.cons_append,List.nil_append]
 by_cases hlt:i<l.length
 ·obtain ⟨z,hz⟩:∃ z,l[i]?=some z:=⟨_,List.getElem?_eq_getElem hlt⟩
  obtain ⟨b1,o1,rfl,hb1,hc1⟩:=ha.at_ hlt
  obtain ⟨b2,o2,rfl,hb2,hc2⟩:=hb.at_ hlt
  have:InS w b1 o1 zAc 2 l:=⟨ha⟩
  have:InS w b2 o2 zAc 2 l:=⟨hb⟩
  have:zAQ l i z:=⟨hz⟩
  (repeat' (first|((with_reducible refine zF ?_);first|refine zE rfl rfl rfl ?_|(refine zQ rfl rfl rfl rfl rfl (fun h=>?_) (fun h=>?_)<;>(dsimp only [cmpP] at h;(try (exfalso;omega))))|refine zq rfl rfl rfl ?_)|(with_reducible first|refine zH ?_|refine zB ?_|refine zD ?_|refine zA ?_|refine zS ?_|refine zP ?_)|((with_reducible refine zK ?_ ?_);(· exact rfl))))
  (refine zBW (by kernel_rfl) (by kernel_rfl) (by kernel_rfl) ?_)
  (repeat' (first|((with_reducible refine zBy ?_);first|refine zj (zAO rfl rfl) rfl ?_|refine zj (zu rfl rfl (by exact rfl)) rfl ?_|refine zj (zAl (I:=i) rfl rfl rfl (by omega) (by first|omega|(dsimp only;omega))) rfl ?_|refine zj (e_nePr (a:=z.1) (b:=z.2) rfl rfl rfl) rfl ?_)|(with_reducible refine zCx ?_)))
  (repeat' (first|((with_reducible refine zF ?_);first|refine zE rfl rfl rfl ?_|refine zC rfl rfl rfl ?_|refine zi rfl rfl rfl rfl (by omega) ?_)|(with_reducible first|refine zB ?_|refine zD ?_|refine zA ?_|refine zS ?_|refine zg ?_)|((with_reducible refine zG ?_ ?_);(· exact rfl))))
  exact zZ (i+1) (by omega) (by omega) (by (repeat first|exact lK1|refine zI rfl ?_)) (by (repeat constructor))
 ·obtain rfl:i=l.length:=by omega
  (repeat' (first|((with_reducible refine zF ?_);first|refine zE rfl rfl rfl ?_|refine zC rfl rfl rfl ?_|(refine zQ rfl rfl rfl rfl rfl (fun h=>?_) (fun h=>?_)<;>(dsimp only [cmpP] at h;(try (exfalso;omega))))|refine zq rfl rfl rfl ?_)|(with_reducible first|refine zH ?_|refine zB ?_|refine zD ?_|refine zA ?_|refine zW ?_|refine zl ?_|refine zV ?_|refine zX ?_)|((with_reducible refine zG ?_ ?_);(· exact rfl))))
  exact zR (by exact rTm rfl) () trivial rfl (fun _ h=>h.sub (by (repeat constructor)))
end Go.Proofs.YtdigopgncfhiaaaGreatDoor
namespace Go.Proofs.YtdigopgncfhiaaaGreatDoor
open Go.RowKit
set_option linter.unnecessarySimpa false
set_option maxRecDepth 20000
attribute [local go_sem] Oper.semAt_some
set_option maxHeartbeats 4000000 in
theorem zPs (t:List St) (A:Option Addr) (cap i j:Nat) (w:World) (ht:zp zAK 9 w A t) (ho:∀ s∈t,Okay s) (hij:i≤j) (hj:j≤t.length) (hl:t.length≤100) :
  zAj 94 #[vT A t.length cap,.int .i64 i,.int .i64 j] w (.tuple #[vSp (zd t i j),vSp (zAH t i j)]):=by
 unfold zAj vT
 have HT:=Lib.hid ht
 clear ht
 refine (callsIn_wide (n:=10)).1 ?_
 refine callsIn_of_wp_marks Tryz.func94 rfl trivial ?_ rfl
 refine wpIn_wide.2 ?_
 simp only [Tryz.ntmps94,List.size_toArray,List.length_cons,List.length_nil,Nat.reduceAdd,Nat.reduceSub,Array.replicate_succ,Array.replicate_zero,List.push_toArray,List.append_toArray,List.nil_append,List.cons_append]
 go_wp2_with (go_at_call 117;refine (zI6 _ _ _ _ _).mono ?_;rintro e w2 ⟨rfl,rfl⟩)
 generalize hW:(((((((w.alloc (.cells #[.slice A t.length cap] 149)).alloc (.cells #[.int .i64 i] 3)).alloc (.cells #[.int .i64 j] 3)).alloc (.cells #[.int .i64 0,.int .i64 0] 28)).alloc (.cells #[.int .i64 0,.int .i64 0] 28)).alloc (.cells #[.slice A t.length cap] 149)).alloc (.cells #[.int .i64 i] 3))=W
 have z1:Blk W (w.heap.size+1) #[.int .i64 i]:=by rw [← hW];(refine zBV ?_;repeat (first|(with_reducible refine zM.zBU (by first|(simp;done)|(simp;omega)|omega) ?_;(first|rfl|(simp;done)))|(with_reducible refine zM.alloc ?_ _)|(with_reducible refine zM.far ?_ _ (by first|(simp;done)|(simp;omega)|omega))|(with_reducible refine zM.zBA ?_ (by first|(simp;done)|(simp;omega)|omega))|(with_reducible refine zM.drew ?_)|(with_reducible refine zM.drewN ?_ _)|(refine zM.leaf (by assumption) ?_;(first|rfl|(simp;done)))))
 have z2:Blk W (w.heap.size+2) #[.int .i64 j]:=by rw [← hW];(refine zBV ?_;repeat (first|(with_reducible refine zM.zBU (by first|(simp;done)|(simp;omega)|omega) ?_;(first|rfl|(simp;done)))|(with_reducible refine zM.alloc ?_ _)|(with_reducible refine zM.far ?_ _ (by first|(simp;done)|(simp;omega)|omega))|(with_reducible refine zM.zBA ?_ (by first|(simp;done)|(simp;omega)|omega))|(with_reducible refine zM.drew ?_)|(with_reducible refine zM.drewN ?_ _)|(refine zM.leaf (by assumption) ?_;(first|rfl|(simp;done)))))
 have z3:Blk W (w.heap.size+3) #[.int .i64 0,.int .i64 0]:=by rw [← hW];(refine zBV ?_;repeat (first|(with_reducible refine zM.zBU (by first|(simp;done)|(simp;omega)|omega) ?_;(first|rfl|(simp;done)))|(with_reducible refine zM.alloc ?_ _)|(with_reducible refine zM.far ?_ _ (by first|(simp;done)|(simp;omega)|omega))|(with_reducible refine zM.zBA ?_ (by first|(simp;done)|(simp;omega)|omega))|(with_reducible refine zM.drew ?_)|(with_reducible refine zM.drewN ?_ _)|(refine zM.leaf (by assumption) ?_;(first|rfl|(simp;done)))))
 have z4:Blk W (w.heap.size+4) #[.int .i64 0,.int .i64 0]:=by rw [← hW];(refine zBV ?_;repeat (first|(with_reducible refine zM.zBU (by first|(simp;done)|(simp;omega)|omega) ?_;(first|rfl|(simp;done)))|(with_reducible refine zM.alloc ?_ _)|(with_reducible refine zM.far ?_ _ (by first|(simp;done)|(simp;omega)|omega))|(with_reducible refine zM.zBA ?_ (by first|(simp;done)|(simp;omega)|omega))|(with_reducible refine zM.drew ?_)|(with_reducible refine zM.drewN ?_ _)|(refine zM.leaf (by assumption) ?_;(first|rfl|(simp;done)))))
 have z5:Blk W (w.heap.size+5) #[.slice A t.length cap]:=by rw [← hW];(refine zBV ?_;repeat (first|(with_reducible refine zM.zBU (by first|(simp;done)|(simp;omega)|omega) ?_;(first|rfl|(simp;done)))|(with_reducible refine zM.alloc ?_ _)|(with_reducible refine zM.far ?_ _ (by first|(simp;done)|(simp;omega)|omega))|(with_reducible refine zM.zBA ?_ (by first|(simp;done)|(simp;omega)|omega))|(with_reducible refine zM.drew ?_)|(with_reducible refine zM.drewN ?_ _)|(refine zM.leaf (by assumption) ?_;(first|rfl|(simp;done)))))
 have z6:Blk W (w.heap.size+6) #[.int .i64 i]:=by rw [← hW];(refine zBV ?_;repeat (first|(with_reducible refine zM.zBU (by first|(simp;done)|(simp;omega)|omega) ?_;(first|rfl|(simp;done)))|(with_reducible refine zM.alloc ?_ _)|(with_reducible refine zM.far ?_ _ (by first|(simp;done)|(simp;omega)|omega))|(with_reducible refine zM.zBA ?_ (by first|(simp;done)|(simp;omega)|omega))|(with_reducible refine zM.drew ?_)|(with_reducible refine zM.drewN ?_ _)|(refine zM.leaf (by assumption) ?_;(first|rfl|(simp;done)))))
 have hB:Below w.heap.size w W:=by rw [← hW];(repeat (first|(with_reducible refine zAT ?_ _)|(with_reducible refine zAi ?_ (by first|(simp;done)|(simp;omega)|omega))|(with_reducible refine zBI ?_)|(with_reducible refine below_drewN ?_ _)|(with_reducible assumption)|(with_reducible exact Below.refl _ _)))
 have hs:W.heap.size=w.heap.size+7:=by rw [← hW];simp
 simp only [Nat.add_assoc,Nat.reduceAdd]
 refine (wpIn_wide (n:=10)).1 ?_
 refine zHw (gf:=139) (lb:=#[.pointer (some ⟨w.heap.size+6,0,none⟩),.pointer (some ⟨w.heap.size+5,0,none⟩)]) rfl (enters Tryz.func139 rfl rfl) (zIV t A cap i _ _ ho (by omega) hl) (fun _=>rfl)
   (fun k W'=>i+k≤j∧Blk W' (w.heap.size+1) #[.int .i64 (i+k:Nat)]∧Blk W' (w.heap.size+2) #[.int .i64 j]∧(∃ x y,Blk W' (w.heap.size+3) #[.int .i64 x,.int .i64 y])∧(∃ x y,Blk W' (w.heap.size+4) #[.int .i64 x,.int .i64 y])∧Blk W' (w.heap.size+5) #[.slice A t.length cap]∧Blk W' (w.heap.size+6) #[.int .i64 i]∧Below w.heap.size w W')
   (fun c k W'=>c = .exit 0∧Blk W' (w.heap.size+3) #[.int .i64 (zd t i j).lo,.int .i64 (zd t i j).hi]∧Blk W' (w.heap.size+4) #[.int .i64 (zAH t i j).lo,.int .i64 (zAH t i j).hi]∧Below w.heap.size w W') ?_ ?_ ?_ ?_ ?_ ?_ ?_
 ·rintro k W1 W2 ⟨hk,h1,h2,⟨x,y,h3⟩,⟨x',y',h4⟩,h5,h6,h7⟩ ho
  exact ⟨hk,h1.off ho (by omega),h2.off ho (by omega),⟨x,y,h3.off ho (by omega)⟩,⟨x',y',h4.off ho (by omega)⟩,h5.off ho (by omega),h6.off ho (by omega),zCf h7 ho hB.size h7.size⟩
 ·rintro c k W1 W2 ⟨rfl,h3,h4,h7⟩ ho
  exact ⟨rfl,h3.off ho (by omega),h4.off ho (by omega),zCf h7 ho hB.size h7.size⟩
 ·rintro k W' ⟨hk,h1,h2,h3,h4,h5,h6,h7⟩
  exact ⟨h6,h5,HT.out.below h7⟩
 ·exact ⟨by omega,z1,z2,⟨0,0,z3⟩,⟨0,0,z4⟩,z5,z6,hB⟩
 ·intro l k W' hk ⟨hkj,h1,h2,⟨x,y,h3⟩,⟨x',y',h4⟩,h5,h6,h7⟩ hsz K hK
  clear hW z1 z2 z3 z4 z5 z6 hB
  unfold vSp
  gi_wp2
  generalize hp:zd t i (i+k)=p
  generalize hq:zAH t i (i+k)=q
  refine hK _ _ ((zFh _ _ hsz).trans (zFh _ _ (by simp;omega))) (fun W2 ho2=>?_)
  clear hK
  have hsz2:=ho2.size
  generalize hX:(W'.alloc (.cells #[.int .i64 p.lo,.int .i64 p.hi] 28)).alloc (.cells #[.int .i64 q.lo,.int .i64 q.hi] 28)=X at ho2 hsz2
  have y8:Blk W2 W'.heap.size #[.int .i64 p.lo,.int .i64 p.hi]:=Blk.off' (by rw [← hX];(refine zBV ?_;repeat (first|(with_reducible refine zM.zBU (by first|(simp;done)|(simp;omega)|omega) ?_;(first|rfl|(simp;done)))|(with_reducible refine zM.alloc ?_ _)|(with_reducible refine zM.far ?_ _ (by first|(simp;done)|(simp;omega)|omega))|(with_reducible refine zM.zBA ?_ (by first|(simp;done)|(simp;omega)|omega))|(with_reducible refine zM.drew ?_)|(with_reducible refine zM.drewN ?_ _)|(refine zM.leaf (by assumption) ?_;(first|rfl|(simp;done)))))) ho2 (by omega)
  have y9:Blk W2 (W'.heap.size+1) #[.int .i64 q.lo,.int .i64 q.hi]:=Blk.off' (by rw [← hX];(refine zBV ?_;repeat (first|(with_reducible refine zM.zBU (by first|(simp;done)|(simp;omega)|omega) ?_;(first|rfl|(simp;done)))|(with_reducible refine zM.alloc ?_ _)|(with_reducible refine zM.far ?_ _ (by first|(simp;done)|(simp;omega)|omega))|(with_reducible refine zM.zBA ?_ (by first|(simp;done)|(simp;omega)|omega))|(with_reducible refine zM.drew ?_)|(with_reducible refine zM.drewN ?_ _)|(refine zM.leaf (by assumption) ?_;(first|rfl|(simp;done)))))) ho2 (by omega)
  have y1:Blk W2 (w.heap.size+1) #[.int .i64 (i+k:Nat)]:=Blk.off (by rw [← hX];(refine zBV ?_;repeat (first|(with_reducible refine zM.zBU (by first|(simp;done)|(simp;omega)|omega) ?_;(first|rfl|(simp;done)))|(with_reducible refine zM.alloc ?_ _)|(with_reducible refine zM.far ?_ _ (by first|(simp;done)|(simp;omega)|omega))|(with_reducible refine zM.zBA ?_ (by first|(simp;done)|(simp;omega)|omega))|(with_reducible refine zM.drew ?_)|(with_reducible refine zM.drewN ?_ _)|(refine zM.leaf (by assumption) ?_;(first|rfl|(simp;done)))))) ho2 (by omega)
  have y2:Blk W2 (w.heap.size+2) #[.int .i64 j]:=Blk.off (by rw [← hX];(refine zBV ?_;repeat (first|(with_reducible refine zM.zBU (by first|(simp;done)|(simp;omega)|omega) ?_;(first|rfl|(simp;done)))|(with_reducible refine zM.alloc ?_ _)|(with_reducible refine zM.far ?_ _ (by first|(simp;done)|(simp;omega)|omega))|(with_reducible refine zM.zBA ?_ (by first|(simp;done)|(simp;omega)|omega))|(with_reducible refine zM.drew ?_)|(with_reducible refine zM.drewN ?_ _)|(refine zM.leaf (by assumption) ?_;(first|rfl|(simp;done)))))) ho2 (by omega)
  have y3:Blk W2 (w.heap.size+3) #[.int .i64 x,.int .i64 y]:=Blk.off (by rw [← hX];(refine zBV ?_;repeat (first|(with_reducible refine zM.zBU (by first|(simp;done)|(simp;omega)|omega) ?_;(first|rfl|(simp;done)))|(with_reducible refine zM.alloc ?_ _)|(with_reducible refine zM.far ?_ _ (by first|(simp;done)|(simp;omega)|omega))|(with_reducible refine zM.zBA ?_ (by first|(simp;done)|(simp;omega)|omega))|(with_reducible refine zM.drew ?_)|(with_reducible refine zM.drewN ?_ _)|(refine zM.leaf (by assumption) ?_;(first|rfl|(simp;done)))))) ho2 (by omega)
  have y4:Blk W2 (w.heap.size+4) #[.int .i64 x',.int .i64 y']:=Blk.off (by rw [← hX];(refine zBV ?_;repeat (first|(with_reducible refine zM.zBU (by first|(simp;done)|(simp;omega)|omega) ?_;(first|rfl|(simp;done)))|(with_reducible refine zM.alloc ?_ _)|(with_reducible refine zM.far ?_ _ (by first|(simp;done)|(simp;omega)|omega))|(with_reducible refine zM.zBA ?_ (by first|(simp;done)|(simp;omega)|omega))|(with_reducible refine zM.drew ?_)|(with_reducible refine zM.drewN ?_ _)|(refine zM.leaf (by assumption) ?_;(first|rfl|(simp;done)))))) ho2 (by omega)
  have y5:Blk W2 (w.heap.size+5) #[.slice A t.length cap]:=Blk.off (by rw [← hX];(refine zBV ?_;repeat (first|(with_reducible refine zM.zBU (by first|(simp;done)|(simp;omega)|omega) ?_;(first|rfl|(simp;done)))|(with_reducible refine zM.alloc ?_ _)|(with_reducible refine zM.far ?_ _ (by first|(simp;done)|(simp;omega)|omega))|(with_reducible refine zM.zBA ?_ (by first|(simp;done)|(simp;omega)|omega))|(with_reducible refine zM.drew ?_)|(with_reducible refine zM.drewN ?_ _)|(refine zM.leaf (by assumption) ?_;(first|rfl|(simp;done)))))) ho2 (by omega)
  have y6:Blk W2 (w.heap.size+6) #[.int .i64 i]:=Blk.off (by rw [← hX];(refine zBV ?_;repeat (first|(with_reducible refine zM.zBU (by first|(simp;done)|(simp;omega)|omega) ?_;(first|rfl|(simp;done)))|(with_reducible refine zM.alloc ?_ _)|(with_reducible refine zM.far ?_ _ (by first|(simp;done)|(simp;omega)|omega))|(with_reducible refine zM.zBA ?_ (by first|(simp;done)|(simp;omega)|omega))|(with_reducible refine zM.drew ?_)|(with_reducible refine zM.drewN ?_ _)|(refine zM.leaf (by assumption) ?_;(first|rfl|(simp;done)))))) ho2 (by omega)
  have y7:Below w.heap.size w W2:=zCf (by rw [← hX];(repeat (first|(with_reducible refine zAT ?_ _)|(with_reducible refine zAi ?_ (by first|(simp;done)|(simp;omega)|omega))|(with_reducible refine zBI ?_)|(with_reducible refine below_drewN ?_ _)|(with_reducible assumption)|(with_reducible exact Below.refl _ _)))) ho2 (by omega) (by rw [← hX];simp;omega)
  have hXs:X.heap.size=W'.heap.size+2:=by rw [← hX];simp
  clear hX ho2 h1 h2 h3 h4 h5 h6 h7
  obtain ⟨c1,f1,l1⟩:=y1.facts
  obtain ⟨c2,f2,l2⟩:=y2.facts
  obtain ⟨c3,f3,l3⟩:=y3.facts
  obtain ⟨c4,f4,l4⟩:=y4.facts
  obtain ⟨c8,f8,l8⟩:=y8.facts
  obtain ⟨c9,f9,l9⟩:=y9.facts
  have g83:W'.heap.size≠w.heap.size+3:=by omega
  have g84:W'.heap.size≠w.heap.size+4:=by omega
  have g93:W'.heap.size+1≠w.heap.size+3:=by omega
  have g94:W'.heap.size+1≠w.heap.size+4:=by omega
  have hon:On W.heap.size (W.heap.size+2+2) W2 ((((W2.setCell ⟨w.heap.size+3,0,none⟩ (.int .i64 p.lo)).setCell ⟨w.heap.size+3,1,none⟩ (.int .i64 p.hi)).setCell ⟨w.heap.size+4,0,none⟩ (.int .i64 q.lo)).setCell ⟨w.heap.size+4,1,none⟩ (.int .i64 q.hi)) :=
   (((zDp _ _ (by simp;omega)).trans (zDp _ _ (by simp;omega))).trans (zDp _ _ (by simp;omega))).trans (zDp _ _ (by simp;omega))
  by_cases hkj2:i+k=j
  ·have hkj3:(i:Int)+k=j:=by omega
   gi_wp2
   gi_region
   all_goals
    gi_wp2
    refine ⟨⟨hon.os,hon.tape,hon.output,hon.size,hon.block⟩,rfl,?_,?_,?_⟩
    ·rw [← hkj2,hp];(refine zBV ?_;repeat (first|(with_reducible refine zM.zBU (by first|(simp;done)|(simp;omega)|omega) ?_;(first|rfl|(simp;done)))|(with_reducible refine zM.alloc ?_ _)|(with_reducible refine zM.far ?_ _ (by first|(simp;done)|(simp;omega)|omega))|(with_reducible refine zM.zBA ?_ (by first|(simp;done)|(simp;omega)|omega))|(with_reducible refine zM.drew ?_)|(with_reducible refine zM.drewN ?_ _)|(refine zM.leaf (by assumption) ?_;(first|rfl|(simp;done)))))
    ·rw [← hkj2,hq];(refine zBV ?_;repeat (first|(with_reducible refine zM.zBU (by first|(simp;done)|(simp;omega)|omega) ?_;(first|rfl|(simp;done)))|(with_reducible refine zM.alloc ?_ _)|(with_reducible refine zM.far ?_ _ (by first|(simp;done)|(simp;omega)|omega))|(with_reducible refine zM.zBA ?_ (by first|(simp;done)|(simp;omega)|omega))|(with_reducible refine zM.drew ?_)|(with_reducible refine zM.drewN ?_ _)|(refine zM.leaf (by assumption) ?_;(first|rfl|(simp;done)))))
    ·(repeat (first|(with_reducible refine zAT ?_ _)|(with_reducible refine zAi ?_ (by first|(simp;done)|(simp;omega)|omega))|(with_reducible refine zBI ?_)|(with_reducible refine below_drewN ?_ _)|(with_reducible assumption)|(with_reducible exact Below.refl _ _)))
  ·have hkj3:¬ (i:Int)+k=j:=by omega
   have hl9:j≤100:=by omega
   gi_wp2
   gi_region
   all_goals
    gi_wp2
    refine ⟨⟨hon.os,hon.tape,hon.output,?_,?_⟩,by omega,?_,?_,⟨p.lo,p.hi,?_⟩,⟨q.lo,q.hi,?_⟩,?_,?_,?_⟩
    ·have:=hon.size;simpa using this
    ·intro g h1 h2;exact (Below.heap_setCell _ _ _ _ (by simp;omega)).trans (hon.block g h1 h2)
    ·(refine zBV ?_;repeat (first|(with_reducible refine zM.zBU (by first|(simp;done)|(simp;omega)|omega) ?_;(first|rfl|(simp [Int.natCast_add,Int.add_assoc];done)))|(with_reducible refine zM.alloc ?_ _)|(with_reducible refine zM.far ?_ _ (by first|(simp;done)|(simp;omega)|omega))|(with_reducible refine zM.zBA ?_ (by first|(simp;done)|(simp;omega)|omega))|(with_reducible refine zM.drew ?_)|(with_reducible refine zM.drewN ?_ _)|(refine zM.leaf (by assumption) ?_;(first|rfl|(simp [Int.natCast_add,Int.add_assoc];done)))))
    ·(refine zBV ?_;repeat (first|(with_reducible refine zM.zBU (by first|(simp;done)|(simp;omega)|omega) ?_;(first|rfl|(simp;done)))|(with_reducible refine zM.alloc ?_ _)|(with_reducible refine zM.far ?_ _ (by first|(simp;done)|(simp;omega)|omega))|(with_reducible refine zM.zBA ?_ (by first|(simp;done)|(simp;omega)|omega))|(with_reducible refine zM.drew ?_)|(with_reducible refine zM.drewN ?_ _)|(refine zM.leaf (by assumption) ?_;(first|rfl|(simp;done)))))
    ·(refine zBV ?_;repeat (first|(with_reducible refine zM.zBU (by first|(simp;done)|(simp;omega)|omega) ?_;(first|rfl|(simp;done)))|(with_reducible refine zM.alloc ?_ _)|(with_reducible refine zM.far ?_ _ (by first|(simp;done)|(simp;omega)|omega))|(with_reducible refine zM.zBA ?_ (by first|(simp;done)|(simp;omega)|omega))|(with_reducible refine zM.drew ?_)|(with_reducible refine zM.drewN ?_ _)|(refine zM.leaf (by assumption) ?_;(first|rfl|(simp;done)))))
    ·(refine zBV ?_;repeat (first|(with_reducible refine zM.zBU (by first|(simp;done)|(simp;omega)|omega) ?_;(first|rfl|(simp;done)))|(with_reducible refine zM.alloc ?_ _)|(with_reducible refine zM.far ?_ _ (by first|(simp;done)|(simp;omega)|omega))|(with_reducible refine zM.zBA ?_ (by first|(simp;done)|(simp;omega)|omega))|(with_reducible refine zM.drew ?_)|(with_reducible refine zM.drewN ?_ _)|(refine zM.leaf (by assumption) ?_;(first|rfl|(simp;done)))))
    ·(refine zBV ?_;repeat (first|(with_reducible refine zM.zBU (by first|(simp;done)|(simp;omega)|omega) ?_;(first|rfl|(simp;done)))|(with_reducible refine zM.alloc ?_ _)|(with_reducible refine zM.far ?_ _ (by first|(simp;done)|(simp;omega)|omega))|(with_reducible refine zM.zBA ?_ (by first|(simp;done)|(simp;omega)|omega))|(with_reducible refine zM.drew ?_)|(with_reducible refine zM.drewN ?_ _)|(refine zM.leaf (by assumption) ?_;(first|rfl|(simp;done)))))
    ·(refine zBV ?_;repeat (first|(with_reducible refine zM.zBU (by first|(simp;done)|(simp;omega)|omega) ?_;(first|rfl|(simp;done)))|(with_reducible refine zM.alloc ?_ _)|(with_reducible refine zM.far ?_ _ (by first|(simp;done)|(simp;omega)|omega))|(with_reducible refine zM.zBA ?_ (by first|(simp;done)|(simp;omega)|omega))|(with_reducible refine zM.drew ?_)|(with_reducible refine zM.drewN ?_ _)|(refine zM.leaf (by assumption) ?_;(first|rfl|(simp;done)))))
    ·(repeat (first|(with_reducible refine zAT ?_ _)|(with_reducible refine zAi ?_ (by first|(simp;done)|(simp;omega)|omega))|(with_reducible refine zBI ?_)|(with_reducible refine below_drewN ?_ _)|(with_reducible assumption)|(with_reducible exact Below.refl _ _)))
 ·rintro W' ⟨hk,_⟩
  omega
 ·rintro c k W' hk ⟨rfl,h3,h4,h7⟩ hD hsz
  obtain ⟨c3,f3,l3⟩:=h3.facts
  obtain ⟨c4,f4,l4⟩:=h4.facts
  refine wpIn_wide.2 ?_
  go_wp2
  go_region
  all_goals
   go_wp2
   generalize hV:World.drew _=V
   have v3:Blk V (w.heap.size+3) #[.int .i64 (zd t i j).lo,.int .i64 (zd t i j).hi]:=by rw [← hV];(refine zBV ?_;repeat (first|(with_reducible refine zM.zBU (by first|(simp;done)|(simp;omega)|omega) ?_;(first|rfl|(simp;done)))|(with_reducible refine zM.alloc ?_ _)|(with_reducible refine zM.far ?_ _ (by first|(simp;done)|(simp;omega)|omega))|(with_reducible refine zM.zBA ?_ (by first|(simp;done)|(simp;omega)|omega))|(with_reducible refine zM.drew ?_)|(with_reducible refine zM.drewN ?_ _)|(refine zM.leaf (by assumption) ?_;(first|rfl|(simp;done)))))
   have v4:Blk V (w.heap.size+4) #[.int .i64 (zAH t i j).lo,.int .i64 (zAH t i j).hi]:=by rw [← hV];(refine zBV ?_;repeat (first|(with_reducible refine zM.zBU (by first|(simp;done)|(simp;omega)|omega) ?_;(first|rfl|(simp;done)))|(with_reducible refine zM.alloc ?_ _)|(with_reducible refine zM.far ?_ _ (by first|(simp;done)|(simp;omega)|omega))|(with_reducible refine zM.zBA ?_ (by first|(simp;done)|(simp;omega)|omega))|(with_reducible refine zM.drew ?_)|(with_reducible refine zM.drewN ?_ _)|(refine zM.leaf (by assumption) ?_;(first|rfl|(simp;done)))))
   have v7:Below w.heap.size w V:=by rw [← hV];(repeat (first|(with_reducible refine zAT ?_ _)|(with_reducible refine zAi ?_ (by first|(simp;done)|(simp;omega)|omega))|(with_reducible refine zBI ?_)|(with_reducible refine below_drewN ?_ _)|(with_reducible assumption)|(with_reducible exact Below.refl _ _)))
   have vD:V.heap[W.heap.size]?=some (.deferred (some [])):=by
    rw [← hV]
    exact (Below.heap_setCell _ _ _ _ (by simp;omega)).trans ((Below.heap_setCell _ _ _ _ (by simp;omega)).trans ((Below.heap_setCell _ _ _ _ (by simp;omega)).trans ((Below.heap_setCell _ _ _ _ (by simp;omega)).trans hD)))
   have hvs:W.heap.size<V.heap.size:=(Array.getElem?_eq_some_iff.1 vD).1
   have ho:=zBk V (.deferred none) (lo:=W.heap.size) (hi:=W.heap.size+1) (Nat.le_refl _) (by omega)
   exact zFD vD (zMv rfl rfl (v3.off ho (by omega)) rfl (v4.off ho (by omega))) ⟨rfl,zCf v7 ho hB.size v7.size⟩
end Go.Proofs.YtdigopgncfhiaaaGreatDoor
namespace Go.Proofs.YtdigopgncfhiaaaGreatDoor
open Go.RowKit
set_option maxRecDepth 20000
def zDx (t:List St) (i j:Int):Bool:=inB 0 t.length i && inB i t.length j
def zDy (t:List St) (i j:Int):Sp:=if valid t && zDx t i j then zd t i.toNat j.toNat else ⟨0,0⟩
def zGe (t:List St) (i j:Int):Sp:=if valid t && zDx t i j then zAH t i.toNat j.toNat else ⟨0,0⟩
def errD (t:List St) (i j:Int):Int:=if valid t then (if zDx t i j then 0 else 2) else 10
end Go.Proofs.YtdigopgncfhiaaaGreatDoor
namespace Go.Proofs.YtdigopgncfhiaaaGreatDoor
open Go.RowKit
set_option maxRecDepth 20000
set_option maxHeartbeats 4000000 in
theorem zNo (t:List St) (A:Option Addr) (cap:Nat) (i j:Int) (w:World) (ht:zp zAK 9 w A t) (hf:zEY t) (hl:t.length≤1000000) :
  zAj 51 #[vT A t.length cap,.int .i64 i,.int .i64 j] w (.tuple #[vSp (zDy t i j),vSp (zGe t i j),.int .i64 (errD t i j)]):=by
 unfold zAj vT
 have HT:=Lib.hid ht
 clear ht
 have k0:Blk (((w.alloc (.cells #[.slice A t.length cap] 24)).alloc (.cells #[.int .i64 0,.int .i64 0] 28)).alloc (.cells #[.int .i64 0,.int .i64 0] 28)) w.heap.size #[.slice A t.length cap]:=by (refine zBV ?_;repeat (first|(with_reducible refine zM.zBU (by first|(simp;done)|(simp;omega)|omega) ?_;(first|rfl|(simp;done)))|(with_reducible refine zM.alloc ?_ _)|(with_reducible refine zM.far ?_ _ (by first|(simp;done)|(simp;omega)|omega))|(with_reducible refine zM.zBA ?_ (by first|(simp;done)|(simp;omega)|omega))|(with_reducible refine zM.drew ?_)|(with_reducible refine zM.drewN ?_ _)|(refine zM.leaf (by assumption) ?_;(first|rfl|(simp;done)))))
 have k1:Blk (((w.alloc (.cells #[.slice A t.length cap] 24)).alloc (.cells #[.int .i64 0,.int .i64 0] 28)).alloc (.cells #[.int .i64 0,.int .i64 0] 28)) (w.heap.size+1) #[.int .i64 0,.int .i64 0]:=by (refine zBV ?_;repeat (first|(with_reducible refine zM.zBU (by first|(simp;done)|(simp;omega)|omega) ?_;(first|rfl|(simp;done)))|(with_reducible refine zM.alloc ?_ _)|(with_reducible refine zM.far ?_ _ (by first|(simp;done)|(simp;omega)|omega))|(with_reducible refine zM.zBA ?_ (by first|(simp;done)|(simp;omega)|omega))|(with_reducible refine zM.drew ?_)|(with_reducible refine zM.drewN ?_ _)|(refine zM.leaf (by assumption) ?_;(first|rfl|(simp;done)))))
 have k2:Blk (((w.alloc (.cells #[.slice A t.length cap] 24)).alloc (.cells #[.int .i64 0,.int .i64 0] 28)).alloc (.cells #[.int .i64 0,.int .i64 0] 28)) (w.heap.size+2) #[.int .i64 0,.int .i64 0]:=by (refine zBV ?_;repeat (first|(with_reducible refine zM.zBU (by first|(simp;done)|(simp;omega)|omega) ?_;(first|rfl|(simp;done)))|(with_reducible refine zM.alloc ?_ _)|(with_reducible refine zM.far ?_ _ (by first|(simp;done)|(simp;omega)|omega))|(with_reducible refine zM.zBA ?_ (by first|(simp;done)|(simp;omega)|omega))|(with_reducible refine zM.drew ?_)|(with_reducible refine zM.drewN ?_ _)|(refine zM.leaf (by assumption) ?_;(first|rfl|(simp;done)))))
 have hB0:Below w.heap.size w (((w.alloc (.cells #[.slice A t.length cap] 24)).alloc (.cells #[.int .i64 0,.int .i64 0] 28)).alloc (.cells #[.int .i64 0,.int .i64 0] 28)):=by (repeat (first|(with_reducible refine zAT ?_ _)|(with_reducible refine zAi ?_ (by first|(simp;done)|(simp;omega)|omega))|(with_reducible refine zBI ?_)|(with_reducible refine below_drewN ?_ _)|(with_reducible assumption)|(with_reducible exact Below.refl _ _)))
 have hd:=zJe t A cap _ (HT.out.below hB0) hf hl
 unfold zAj vT at hd
 go_enter Tryz.func51,Tryz.ntmps51
 cases hv:valid t
 ·have hd1:zDy t i j=⟨0,0⟩:=by simp [zDy,hv]
  have hd2:zGe t i j=⟨0,0⟩:=by simp [zGe,hv]
  have hd3:errD t i j=10:=by simp [errD,hv]
  rw [hd1,hd2,hd3]
  have he:zDd t=10:=by simp [zDd,hv]
  rw [he] at hd
  go_wp2_with (go_at_call 93;refine hd.mono ?_;rintro e w1 ⟨rfl,hb1⟩;have x0:=k0.past hb1;have x1:=k1.past hb1;have x2:=k2.past hb1;have hB1:=zAa hB0 hb1;clear hb1;obtain ⟨c0,f0,l0⟩:=x0.facts;obtain ⟨c1,f1,l1⟩:=x1.facts;obtain ⟨c2,f2,l2⟩:=x2.facts)
  refine bodyPost_ret (zEF (x:=.int .i64 0) (y:=.int .i64 0) (x':=.int .i64 0) (y':=.int .i64 0) rfl rfl ?_ rfl ?_) rfl ⟨rfl,?_⟩
  ·(refine zBV ?_;repeat (first|(with_reducible refine zM.zBU (by first|(simp;done)|(simp;omega)|omega) ?_;(first|rfl|(simp;done)))|(with_reducible refine zM.alloc ?_ _)|(with_reducible refine zM.far ?_ _ (by first|(simp;done)|(simp;omega)|omega))|(with_reducible refine zM.zBA ?_ (by first|(simp;done)|(simp;omega)|omega))|(with_reducible refine zM.drew ?_)|(with_reducible refine zM.drewN ?_ _)|(refine zM.leaf (by assumption) ?_;(first|rfl|(simp;done)))))
  ·(refine zBV ?_;repeat (first|(with_reducible refine zM.zBU (by first|(simp;done)|(simp;omega)|omega) ?_;(first|rfl|(simp;done)))|(with_reducible refine zM.alloc ?_ _)|(with_reducible refine zM.far ?_ _ (by first|(simp;done)|(simp;omega)|omega))|(with_reducible refine zM.zBA ?_ (by first|(simp;done)|(simp;omega)|omega))|(with_reducible refine zM.drew ?_)|(with_reducible refine zM.drewN ?_ _)|(refine zM.leaf (by assumption) ?_;(first|rfl|(simp;done)))))
  ·(repeat (first|(with_reducible refine zAT ?_ _)|(with_reducible refine zAi ?_ (by first|(simp;done)|(simp;omega)|omega))|(with_reducible refine zBI ?_)|(with_reducible refine below_drewN ?_ _)|(with_reducible assumption)|(with_reducible exact Below.refl _ _)))
 ·have he:zDd t=0:=by simp [zDd,hv]
  rw [he] at hd
  cases h1:zDx t i j
  ·have hd1:zDy t i j=⟨0,0⟩:=by simp [zDy,h1]
   have hd2:zGe t i j=⟨0,0⟩:=by simp [zGe,h1]
   have hd3:errD t i j=2:=by simp [errD,hv,h1]
   rw [hd1,hd2,hd3]
   cases h2:inB 0 t.length i && inB 0 t.length j
   ·have h3:=Lib.hid h2
    clear h2 h1
    go_wp2_with (first|(go_at_call 93;refine hd.mono ?_;rintro e w1 ⟨rfl,hb1⟩;have x0:=k0.past hb1;have x1:=k1.past hb1;have x2:=k2.past hb1;have hB1:=zAa hB0 hb1;clear hb1;obtain ⟨c0,f0,l0⟩:=x0.facts;obtain ⟨c1,f1,l1⟩:=x1.facts;obtain ⟨c2,f2,l2⟩:=x2.facts)|(go_at_call 84;refine (zL8 _ _ _ _ _ _ _ _ (by simp)).mono ?_;rintro e w2 ⟨rfl,hb2⟩;rw [h3.out];have y1:Blk _ (w.heap.size+1) _:=(Blk.alloc (Blk.alloc x1 _) _).past hb2;have y2:Blk _ (w.heap.size+2) _:=(Blk.alloc (Blk.alloc x2 _) _).past hb2;have hB2:=zAa (zAT (zAT hB1 _) _) hb2;clear c0 f0 c1 f1 c2 f2 l0 l1 l2 hb2;obtain ⟨c1,f1,l1⟩:=y1.facts;obtain ⟨c2,f2,l2⟩:=y2.facts))
    refine bodyPost_ret (zEF (x:=.int .i64 0) (y:=.int .i64 0) (x':=.int .i64 0) (y':=.int .i64 0) rfl rfl ?_ rfl ?_) rfl ⟨rfl,?_⟩
    ·(refine zBV ?_;repeat (first|(with_reducible refine zM.zBU (by first|(simp;done)|(simp;omega)|omega) ?_;(first|rfl|(simp;done)))|(with_reducible refine zM.alloc ?_ _)|(with_reducible refine zM.far ?_ _ (by first|(simp;done)|(simp;omega)|omega))|(with_reducible refine zM.zBA ?_ (by first|(simp;done)|(simp;omega)|omega))|(with_reducible refine zM.drew ?_)|(with_reducible refine zM.drewN ?_ _)|(refine zM.leaf (by assumption) ?_;(first|rfl|(simp;done)))))
    ·(refine zBV ?_;repeat (first|(with_reducible refine zM.zBU (by first|(simp;done)|(simp;omega)|omega) ?_;(first|rfl|(simp;done)))|(with_reducible refine zM.alloc ?_ _)|(with_reducible refine zM.far ?_ _ (by first|(simp;done)|(simp;omega)|omega))|(with_reducible refine zM.zBA ?_ (by first|(simp;done)|(simp;omega)|omega))|(with_reducible refine zM.drew ?_)|(with_reducible refine zM.drewN ?_ _)|(refine zM.leaf (by assumption) ?_;(first|rfl|(simp;done)))))
    ·(repeat (first|(with_reducible refine zAT ?_ _)|(with_reducible refine zAi ?_ (by first|(simp;done)|(simp;omega)|omega))|(with_reducible refine zBI ?_)|(with_reducible refine below_drewN ?_ _)|(with_reducible assumption)|(with_reducible exact Below.refl _ _)))
   ·have h3:=Lib.hid h2
    have hij:j<i:=by
     rw [Bool.and_eq_true,zAB,zAB] at h2
     rcases Int.lt_or_le j i with h|h
     ·exact h
     ·exfalso
      have:zDx t i j=true:=by simp only [zDx,Bool.and_eq_true,zAB];omega
      rw [h1] at this;cases this
    clear h2 h1
    go_wp2_with (first|(go_at_call 93;refine hd.mono ?_;rintro e w1 ⟨rfl,hb1⟩;have x0:=k0.past hb1;have x1:=k1.past hb1;have x2:=k2.past hb1;have hB1:=zAa hB0 hb1;clear hb1;obtain ⟨c0,f0,l0⟩:=x0.facts;obtain ⟨c1,f1,l1⟩:=x1.facts;obtain ⟨c2,f2,l2⟩:=x2.facts)|(go_at_call 84;refine (zL8 _ _ _ _ _ _ _ _ (by simp)).mono ?_;rintro e w2 ⟨rfl,hb2⟩;rw [h3.out];have y1:Blk _ (w.heap.size+1) _:=(Blk.alloc (Blk.alloc x1 _) _).past hb2;have y2:Blk _ (w.heap.size+2) _:=(Blk.alloc (Blk.alloc x2 _) _).past hb2;have hB2:=zAa (zAT (zAT hB1 _) _) hb2;clear c0 f0 c1 f1 c2 f2 l0 l1 l2 hb2;obtain ⟨c1,f1,l1⟩:=y1.facts;obtain ⟨c2,f2,l2⟩:=y2.facts))
    refine bodyPost_ret (zEF (x:=.int .i64 0) (y:=.int .i64 0) (x':=.int .i64 0) (y':=.int .i64 0) rfl rfl ?_ rfl ?_) rfl ⟨rfl,?_⟩
    ·(refine zBV ?_;repeat (first|(with_reducible refine zM.zBU (by first|(simp;done)|(simp;omega)|omega) ?_;(first|rfl|(simp;done)))|(with_reducible refine zM.alloc ?_ _)|(with_reducible refine zM.far ?_ _ (by first|(simp;done)|(simp;omega)|omega))|(with_reducible refine zM.zBA ?_ (by first|(simp;done)|(simp;omega)|omega))|(with_reducible refine zM.drew ?_)|(with_reducible refine zM.drewN ?_ _)|(refine zM.leaf (by assumption) ?_;(first|rfl|(simp;done)))))
    ·(refine zBV ?_;repeat (first|(with_reducible refine zM.zBU (by first|(simp;done)|(simp;omega)|omega) ?_;(first|rfl|(simp;done)))|(with_reducible refine zM.alloc ?_ _)|(with_reducible refine zM.far ?_ _ (by first|(simp;done)|(simp;omega)|omega))|(with_reducible refine zM.zBA ?_ (by first|(simp;done)|(simp;omega)|omega))|(with_reducible refine zM.drew ?_)|(with_reducible refine zM.drewN ?_ _)|(refine zM.leaf (by assumption) ?_;(first|rfl|(simp;done)))))
    ·(repeat (first|(with_reducible refine zAT ?_ _)|(with_reducible refine zAi ?_ (by first|(simp;done)|(simp;omega)|omega))|(with_reducible refine zBI ?_)|(with_reducible refine below_drewN ?_ _)|(with_reducible assumption)|(with_reducible exact Below.refl _ _)))
  ·obtain ⟨h2,h2'⟩:inB 0 t.length i=true∧inB i t.length j=true:=by simpa [zDx] using h1
   have h5:=zAB.1 h2
   have h6:=zAB.1 h2'
   obtain ⟨I,rfl⟩:=Int.eq_ofNat_of_zero_le h5.1
   obtain ⟨J,rfl⟩:=Int.eq_ofNat_of_zero_le (show 0≤j by omega)
   have hlen:=zCN hv
   have hd1:zDy t I J=zd t I J:=by simp [zDy,hv,h1]
   have hd2:zGe t I J=zAH t I J:=by simp [zGe,hv,h1]
   have hd3:errD t I J=0:=by simp [errD,hv,h1]
   have hm:∀ W:World,Below w.heap.size w W→zAj 94 #[.agg #[.slice A t.length cap],.int .i64 I,.int .i64 J] W (.tuple #[.agg #[.int .i64 (zDy t I J).lo,.int .i64 (zDy t I J).hi],.agg #[.int .i64 (zGe t I J).lo,.int .i64 (zGe t I J).hi]]):=fun W hW=>by
    rw [hd1,hd2];exact zPs t A cap I J W (HT.out.below hW) (zCE hv) (by omega) (by omega) (by omega)
   unfold zAj at hm
   rw [hd3]
   have HM:=Lib.hid hm
   have h3:(inB 0 t.length I && inB 0 t.length J)=true:=by simp only [Bool.and_eq_true,zAB];omega
   have h3:=Lib.hid h3
   have hij:(I:Int)≤J:=by omega
   clear h2 h2' hm hd1 hd2 hd3 h1
   unfold vSp
   generalize zDy t I J=p at *
   generalize zGe t I J=q at *
   go_wp2_with (first|(go_at_call 93;refine hd.mono ?_;rintro e w1 ⟨rfl,hb1⟩;have x0:=k0.past hb1;have x1:=k1.past hb1;have x2:=k2.past hb1;have hB1:=zAa hB0 hb1;clear hb1;obtain ⟨c0,f0,l0⟩:=x0.facts;obtain ⟨c1,f1,l1⟩:=x1.facts;obtain ⟨c2,f2,l2⟩:=x2.facts)|(go_at_call 84;refine (zL8 _ _ _ _ _ _ _ _ (by simp)).mono ?_;rintro e w2 ⟨rfl,hb2⟩;rw [h3.out];have y1:Blk _ (w.heap.size+1) _:=(Blk.alloc (Blk.alloc x1 _) _).past hb2;have y2:Blk _ (w.heap.size+2) _:=(Blk.alloc (Blk.alloc x2 _) _).past hb2;have y9:Blk _ w1.heap.size _:=(Blk.alloc (Blk.new _ _ _) _).past hb2;have hB2:=zAa (zAT (zAT hB1 _) _) hb2;clear c0 f0 c1 f1 c2 f2 l0 l1 l2 hb2;obtain ⟨c1,f1,l1⟩:=y1.facts;obtain ⟨c2,f2,l2⟩:=y2.facts;obtain ⟨c9,f9,l9⟩:=y9.facts)|(go_at_call 94;refine (HM.out _ hB2).mono ?_;rintro e w3 ⟨rfl,hb3⟩;have z1:=y1.past hb3;have z2:=y2.past hb3;have hB3:=zAa hB2 hb3;clear c1 f1 c2 f2 l1 l2 c9 f9 l9 hb3;obtain ⟨c1,f1,l1⟩:=z1.facts;obtain ⟨c2,f2,l2⟩:=z2.facts))
   simp only [Nat.add_assoc,Nat.reduceAdd]
   clear c1 f1 c2 f2
   generalize hX:(((w3.setCell ⟨w.heap.size+1,0,none⟩ (.int .i64 p.lo)).setCell ⟨w.heap.size+1,1,none⟩ (.int .i64 p.hi)).setCell ⟨w.heap.size+2,0,none⟩ (.int .i64 q.lo)).setCell ⟨w.heap.size+2,1,none⟩ (.int .i64 q.hi)=X
   have y1:Blk X (w.heap.size+1) #[.int .i64 p.lo,.int .i64 p.hi]:=by rw [← hX];(refine zBV ?_;repeat (first|(with_reducible refine zM.zBU (by first|(simp;done)|(simp;omega)|omega) ?_;(first|rfl|(simp;done)))|(with_reducible refine zM.alloc ?_ _)|(with_reducible refine zM.far ?_ _ (by first|(simp;done)|(simp;omega)|omega))|(with_reducible refine zM.zBA ?_ (by first|(simp;done)|(simp;omega)|omega))|(with_reducible refine zM.drew ?_)|(with_reducible refine zM.drewN ?_ _)|(refine zM.leaf (by assumption) ?_;(first|rfl|(simp;done)))))
   have y2:Blk X (w.heap.size+2) #[.int .i64 q.lo,.int .i64 q.hi]:=by rw [← hX];(refine zBV ?_;repeat (first|(with_reducible refine zM.zBU (by first|(simp;done)|(simp;omega)|omega) ?_;(first|rfl|(simp;done)))|(with_reducible refine zM.alloc ?_ _)|(with_reducible refine zM.far ?_ _ (by first|(simp;done)|(simp;omega)|omega))|(with_reducible refine zM.zBA ?_ (by first|(simp;done)|(simp;omega)|omega))|(with_reducible refine zM.drew ?_)|(with_reducible refine zM.drewN ?_ _)|(refine zM.leaf (by assumption) ?_;(first|rfl|(simp;done)))))
   have hBX:Below w.heap.size w X:=by rw [← hX];(repeat (first|(with_reducible refine zAT ?_ _)|(with_reducible refine zAi ?_ (by first|(simp;done)|(simp;omega)|omega))|(with_reducible refine zBI ?_)|(with_reducible refine below_drewN ?_ _)|(with_reducible assumption)|(with_reducible exact Below.refl _ _)))
   clear hX hB1 hB2 hB3 x0 x1 x2 z1 z2
   obtain ⟨c1,f1,l1⟩:=y1.facts
   obtain ⟨c2,f2,l2⟩:=y2.facts
   go_region
   all_goals
    go_wp2
    refine bodyPost_ret (zEF (x:=.int .i64 p.lo) (y:=.int .i64 p.hi) (x':=.int .i64 q.lo) (y':=.int .i64 q.hi) rfl rfl ?_ rfl ?_) rfl ⟨rfl,?_⟩
    ·(refine zBV ?_;repeat (first|(with_reducible refine zM.zBU (by first|(simp;done)|(simp;omega)|omega) ?_;(first|rfl|(simp;done)))|(with_reducible refine zM.alloc ?_ _)|(with_reducible refine zM.far ?_ _ (by first|(simp;done)|(simp;omega)|omega))|(with_reducible refine zM.zBA ?_ (by first|(simp;done)|(simp;omega)|omega))|(with_reducible refine zM.drew ?_)|(with_reducible refine zM.drewN ?_ _)|(refine zM.leaf (by assumption) ?_;(first|rfl|(simp;done)))))
    ·(refine zBV ?_;repeat (first|(with_reducible refine zM.zBU (by first|(simp;done)|(simp;omega)|omega) ?_;(first|rfl|(simp;done)))|(with_reducible refine zM.alloc ?_ _)|(with_reducible refine zM.far ?_ _ (by first|(simp;done)|(simp;omega)|omega))|(with_reducible refine zM.zBA ?_ (by first|(simp;done)|(simp;omega)|omega))|(with_reducible refine zM.drew ?_)|(with_reducible refine zM.drewN ?_ _)|(refine zM.leaf (by assumption) ?_;(first|rfl|(simp;done)))))
    ·(repeat (first|(with_reducible refine zAT ?_ _)|(with_reducible refine zAi ?_ (by first|(simp;done)|(simp;omega)|omega))|(with_reducible refine zBI ?_)|(with_reducible refine below_drewN ?_ _)|(with_reducible assumption)|(with_reducible exact Below.refl _ _)))
end Go.Proofs.YtdigopgncfhiaaaGreatDoor
namespace Go.Proofs.YtdigopgncfhiaaaGreatDoor
variable {ro : Option Nat}
open Go.RowKit
set_option maxRecDepth 20000
def Wit.off (x:Wit):Nat:=match x.A with|some a=>a.off|none=>0
end Go.Proofs.YtdigopgncfhiaaaGreatDoor
namespace Go.Proofs.YtdigopgncfhiaaaGreatDoor
variable {ro : Option Nat}
open Go.RowKit
set_option maxRecDepth 20000
def zMI (s:Spot):List Value:=[.int .i64 s.st,.int .i64 s.off.lo,.int .i64 s.off.hi]
theorem one_spot (x:Spot):∀ u∈zMI x,u.oneCell'=true:=by simp [zMI,Value.oneCell']
instance : zB8 zMI 3:=⟨fun _=>rfl,one_spot⟩
end Go.Proofs.YtdigopgncfhiaaaGreatDoor
namespace Go.Proofs.YtdigopgncfhiaaaGreatDoor
variable {ro : Option Nat}
open Go.RowKit
set_option maxRecDepth 20000
theorem zHt {P:Program} {w:World} (t u ty e:TypeId) (i:TypeInfo) (z:Value) (ht:P.underlying t=some (.slice e)) (hu:P.underlying u=some (.int .i64)) (hi:P.info? e=some i) (hz:i.zero=some z)
  (n:Nat) (h0:0<n) (h63:(n:Int)≤1000000) (hb:i.bytes≤1000000) (hs:0<i.size) :
  (Builtin.append_ #[t,u] ty #[.slice none 0 0,.int .i64 n]).run P w =
   .ok (.slice (some ⟨w.heap.size,0,none⟩) n (grownCap w n 0 e)) (w.drew.alloc (.cells (Builtin.zeroCells z.cells n++Builtin.zeroCells z.cells (grownCap w n 0 e - n)) e)):=by
 have hn:n≠0:=by omega
 have hw:IntKind.i64.wrap (n:Int)=n:=IntWalk.i64_in _ (by omega)
 have h63':¬ (9223372036854775807<(n:Int)):=by omega
 have h49:n * i.bytes≤1000000 * 1000000:=Nat.mul_le_mul (by omega) hb
 have h48':¬ (281474976710656<Builtin.nextslicecap n 0 * i.bytes):=by rw [nextslicecap_zero h0];omega
 have h50:¬ ((281474976710656:Int)<(n:Int) * (i.bytes:Int)):=by
  have:((n * i.bytes:Nat):Int)≤((1000000 * 1000000:Nat):Int):=by exact_mod_cast h49
  rw [Int.natCast_mul] at this;omega
 have h51:¬ ((n:Int)<0):=by omega
 have h52:¬ n * i.size=0:=by
  intro h;rcases Nat.mul_eq_zero.1 h with h|h<;>omega
 have h53:¬ i.size=0:=by omega
 simp [Builtin.append_,run_underlying ht,run_underlying hu,sizeOf,typeInfo,zeroValue,hi,hz,Builtin.lenOf,Builtin.firstCells,hn,h63',h48',Question.forced,newRow,grownCap,asInt,asIntOf,hw,h50,h51,h52,h53]
section
variable {P : Program} {w0:World} {n:Nat} {d:List Deferred} {R:List (Nat × Value)} {H:List Ent} {Q:Exit→Act→World→Prop} {ops:Array Oper} {rest:List Oper} {o:Oper} {t:Tmp} {x y:Operand}
theorem zP2 {α:Type} (enc:α→List Value) {k e T1 U1 bytes s m:Nat} {g:Bool} [el:ElI P T1 e k bytes] [tu:TyI P U1 (.int .i64) s g] (hop:o.op = .call { callee:=.builtin .append,args:=#[x,y],argTypes:=#[T1,U1] }) (hrd:rdy R ops n o=some t)
  (hx:evR R x=some (.slice none 0 0)) (hy:evR R y=some (.int .i64 (m:Int))) (h0:0<m) (hm:m≤1000000∧bytes≤1000000)
  (h:∀ b c',m≤c'→U w0 n d ((t,.slice (some ⟨b,0,none⟩) m c')::R) (.row enc k e (.slice (some ⟨b,0,none⟩) 0 c') ([]:List α)::H) (wpL ro P ops Q rest)):U w0 n d R H (wpL ro P ops Q (o::rest)) :=
 zDH (rW hrd) fun a w q K hK=>by
  obtain ⟨z,hE⟩:=el.el
  obtain ⟨i,i1,i2,i3,i4⟩:=hE.info
  have hp:=hE.pos
  have key:=zHt (P:=P) (w:=w) T1 U1 o.type e i z hE.under tu.und i1 i2 m h0 (by omega) (by omega) (by omega)
  unfold Oper.wp execOp
  simp only [hop,resolve,invoke,builtin,Sem.run_bind,Sem.run_pure,Result.andThen_ok,List.map_toArray,List.map_cons,List.map_nil,q.ev hx,q.ev hy,key,Oper.upon_value,(rD hrd)]
  have hge:=grownCap_ge w m 0 e
  refine hK _ _ (h w.heap.size _ hge _ _ (Kn.put (q.call (E:=[.row enc k e (.slice (some ⟨w.heap.size,0,none⟩) 0 (grownCap w m 0 e)) ([]:List α)]) ?_ ⟨?_,?_,by simp⟩) (rT hrd)))
  ·exact ⟨rfl,rfl,rfl,by simp,fun k hk=>Below.heap_alloc _ _ _ hk⟩
  ·intro f hf
   simp only [List.mem_singleton] at hf
   subst hf
   refine (?_:World.ownsRow _ 0 e k (.slice (some ⟨w.heap.size,0,none⟩) 0 (grownCap w m 0 e)) 0 [])
   refine ⟨by simp,.inr ⟨w.heap.size,_,_,rfl,Nat.zero_le _,heap_alloc_new w.drew _,Nat.zero_le _,grownCap_le_maxLen w m 0 e (by unfold maxLen;omega),?_,by simp⟩⟩
   simp only [Array.size_append,size_zeroCells,hE.zs,← Nat.add_mul]
   congr 1
   omega
  ·intro f hf b hb
   simp only [List.mem_singleton] at hf
   subst hf
   cases hb
   simp
theorem zPv {T1 e:TypeId} {td:TypeDesc} {s s' m c:Nat} {g g':Bool} {A:Option Addr} {hi:Option Operand} {u:Int} (M:Nat) (hop:o.op = .slice T1 x none hi none) [i1:TyI P T1 (.slice e) s g] [i2:TyI P e td s' g'] (hrd:rdy R ops n o=some t) (hx:evR R x=some (.slice A m c))
  (hu:bnd R hi m=some u) (hM:u=(M:Int)) (h2:M≤c) (hA:A.map (·.add 0)=A)
  (h:U w0 n d ((t,.slice A M c)::R) H (wpL ro P ops Q rest)):U w0 n d R H (wpL ro P ops Q (o::rest)):=by
 subst hM
 refine zAN (v:=.slice A M c) hrd (fun a w q=>?_) h
 unfold execOp;rw [hop]
 have e1:=run_underlying i1.und w
 have e2:=i2.siz w
 have b1:∀ (r:Nat) (code:BoundsCode) (z:Nat),z≤r→∀ k,(Instr.sliceBound (.int k (z:Int)) r code).run P w = .ok z w:=fun r code z hz k=>by
  simp [Instr.sliceBound,asIntOf,hz]
 have hhi:(∃ k,hi.map a.eval=some (.int k (M:Int)))∨(hi=none∧M=m):=by
  cases hi with
  | none=>simp only [bnd,Option.some.injEq] at hu;exact .inr ⟨rfl,by omega⟩
  | some y =>
   simp only [bnd] at hu
   cases hy:evR R y with
   | none=>rw [hy] at hu;simp at hu
   | some v =>
    rw [hy] at hu
    cases v<;>simp at hu
    rename_i k i
    subst hu
    exact .inl ⟨k,by simp [q.ev hy]⟩
 have hA':∀ z:Nat,z=0→A.map (·.add z)=A:=fun z hz=>by rw [hz];exact hA
 rcases hhi with ⟨k2,hhi⟩ | ⟨hhi,rfl⟩ <;>
  simp [Instr.sliceAt,Instr.slice,e1,e2,q.ev hx,Instr.sliceBounds,hhi,b1,h2,hA]
end
end Go.Proofs.YtdigopgncfhiaaaGreatDoor
