/- F25 -/
import Derived.Test.YtdigopgncfhiaaaGreatDoorF12
import Derived.Test.YtdigopgncfhiaaaGreatDoorF22
import Derived.Test.YtdigopgncfhiaaaGreatDoorF21
import Derived.RegionIn
import Derived.Test.YtdigopgncfhiaaaGreatDoorF8
import Derived.Test.YtdigopgncfhiaaaGreatDoorF5
set_option linter.unusedSimpArgs false
set_option linter.unusedVariables false
namespace Go.Proofs.YtdigopgncfhiaaaGreatDoor
open Go.RowKit
set_option maxRecDepth 20000
def zFy (c:Cov) (pl:List Sli):List (Int × Int):=if zBs c pl=0 then zCL c pl zCc else []
def zHt (c:Cov) (pl:List Sli):Int:=if zBs c pl=0 then (if (zCL c pl zCc).length=0 then 2 else if (zCL c pl zLZ).length=0 then 1 else 0) else 0
set_option maxHeartbeats 2000000 in
theorem zNu (c:Cov) (A:Option Addr) (ca:Nat) (B:Option Addr) (cb:Nat) (C:Option Addr) (cc:Nat) (pl:List Sli) (P:Option Addr) (cp:Nat) (w:World) (hc:zAe w c A B C) (hs:Small c) (hp:zBG w P pl) (hl:pl.length≤12) (hrl:∀ s∈pl,s.xs.length≤20) (hG:InC w 0 0 zCP) :
  Ret Tryz.prog 20 [zAH c A ca B cb C cc,.slice P pl.length cp] w (fun p:Option Addr × Nat=>.tuple #[.slice p.1 (zFy c pl).length p.2,.int .i64 (zBs c pl)]) (fun p=>[.sl zAW 2 p.1 (zFy c pl)]) (fun _=>True):=by
 have h1:=fun W (hb:Below w.heap.size w W)=>zDz c A ca B cb C cc pl P cp W (hc.below hb) hs (hp.below hb) hl hrl
 have h2:=fun W (hb:Below w.heap.size w W)=>zDy c A ca B cb C cc pl P cp W (hc.below hb) hs (hp.below hb) hl hrl
 unfold zAH at h1 h2
 unfold zAH zFy
 by_cases h0:zBs c pl=0
 ·rw [if_pos h0,h0]
  obtain ⟨h00,hpl⟩:=zD6 h0
  have hf:=zBu h00
  have h2:=fun W hb=>h2 W hb h00 hpl
  have hT:=fun W (hb:Below w.heap.size w W) g (hr:InC W g 0 (zM c A ca B cb C cc))=>zFE (en:=zCc) (enF:=58) zGV c A ca B cb C cc g pl P cp W hr (hG.below hb) (hc.below hb) hs hf (hp.below hb) hrl (zBK.1 hpl).1
  unfold zM at h2 hT ⊢
  (refine zJ (n:=20) Tryz.func20 rfl rfl rfl ?_)
  (repeat' (first|((with_reducible refine zF ?_);first|refine zE rfl rfl rfl ?_|refine zC rfl rfl rfl ?_|(refine zK rfl rfl rfl ?_;refine ⟨_,rfl,?_⟩)|(refine zQ rfl rfl rfl rfl rfl (fun h=>?_) (fun h=>?_)<;>(dsimp only [cmpP] at h;(try (exfalso;omega))))|(refine zAQ rfl rfl rfl rfl (fun _ _ q=>h2 _ q.below) ?_;rintro g -;dsimp only [List.cons_append,List.nil_append])|(refine zAQ rfl rfl rfl rfl (fun _ _ q=>hT _ q.below g (zA5 q.own (Below.refl _ _) rfl)) ?_;rintro ⟨A',c'⟩ -;dsimp only [List.cons_append,List.nil_append])|refine zc rfl rfl rfl rfl ?_|(refine zu rfl rfl rfl rfl (fun b=>?_)))|(with_reducible first|refine zH ?_|refine zB ?_|refine zD ?_|refine zA ?_|refine zX ?_|refine zT ?_)|((with_reducible refine zG ?_ ?_);(· exact rfl))))
  exact zS (by (exact zi.cons (by exact zAR.tmp rfl) (zi.cons (by exact zAR.tmp rfl) zi.nil))) (A',c') trivial rfl (fun _ h=>h.sub (by (repeat constructor)))
 ·rw [if_neg h0]
  unfold zM at h1 ⊢
  generalize zBs c pl=e at *
  (refine zJ (n:=20) Tryz.func20 rfl rfl rfl ?_)
  (repeat' (first|((with_reducible refine zF ?_);first|refine zE rfl rfl rfl ?_|refine zC rfl rfl rfl ?_|(refine zK rfl rfl rfl ?_;refine ⟨_,rfl,?_⟩)|(refine zQ rfl rfl rfl rfl rfl (fun h=>?_) (fun h=>?_)<;>(dsimp only [cmpP] at h;(try (exfalso;omega))))|refine zV rfl rfl rfl rfl (fun _ _ q=>h1 _ q.below h0) ?_|refine zc rfl rfl rfl rfl ?_|(refine zu rfl rfl rfl rfl (fun b=>?_)))|(with_reducible first|refine zH ?_|refine zB ?_|refine zD ?_|refine zA ?_|refine zX ?_|refine zZ ?_)|((with_reducible refine zI ?_ ?_);(· exact rfl))))
  all_goals exact zS (by (exact zi.cons (by exact zAR.tmp rfl) (zi.cons (by exact zAR.tmp rfl) zi.nil))) (none,0) trivial rfl (fun _ h=>(zDi h).sub (by (repeat constructor)))
set_option maxHeartbeats 2000000 in
theorem zNv (c:Cov) (A:Option Addr) (ca:Nat) (B:Option Addr) (cb:Nat) (C:Option Addr) (cc:Nat) (pl:List Sli) (P:Option Addr) (cp:Nat) (w:World) (hc:zAe w c A B C) (hs:Small c) (hp:zBG w P pl) (hl:pl.length≤12) (hrl:∀ s∈pl,s.xs.length≤20) (hG:InC w 0 0 zCP) :
  Gv Tryz.prog 21 [zAH c A ca B cb C cc,.slice P pl.length cp] w (.tuple #[.int .u8 (zHt c pl),.int .i64 (zBs c pl)]):=by
 have h1:=fun W (hb:Below w.heap.size w W)=>zDz c A ca B cb C cc pl P cp W (hc.below hb) hs (hp.below hb) hl hrl
 have h2:=fun W (hb:Below w.heap.size w W)=>zDy c A ca B cb C cc pl P cp W (hc.below hb) hs (hp.below hb) hl hrl
 unfold zAH at h1 h2
 unfold Gv zAH zHt
 by_cases h0:zBs c pl=0
 ·rw [if_pos h0,h0]
  obtain ⟨h00,hpl⟩:=zD6 h0
  have hf:=zBu h00
  have h2:=fun W hb=>h2 W hb h00 hpl
  have hT:=fun W (hb:Below w.heap.size w W) g (hr:InC W g 0 (zM c A ca B cb C cc))=>zFE (en:=zCc) (enF:=58) zGV c A ca B cb C cc g pl P cp W hr (hG.below hb) (hc.below hb) hs hf (hp.below hb) hrl (zBK.1 hpl).1
  have hB:=fun W (hb:Below w.heap.size w W) g (hr:InC W g 0 (zM c A ca B cb C cc))=>zFE (en:=zLZ) (enF:=59) best_any c A ca B cb C cc g pl P cp W hr (hG.below hb) (hc.below hb) hs hf (hp.below hb) hrl (zBK.1 hpl).1
  generalize zCL c pl zCc=l1 at *
  generalize zCL c pl zLZ=l2 at *
  unfold zM at h2 hT hB ⊢
  (refine zJ (n:=30) Tryz.func21 rfl rfl rfl ?_)
  (repeat' (first|((with_reducible refine zF ?_);first|refine zE rfl rfl rfl ?_|refine zC rfl rfl rfl ?_|(refine zK rfl rfl rfl ?_;refine ⟨_,rfl,?_⟩)|(refine zQ rfl rfl rfl rfl rfl (fun h=>?_) (fun h=>?_)<;>(dsimp only [cmpP] at h;(try (exfalso;omega))))|(refine zAQ rfl rfl rfl rfl (fun _ _ q=>h2 _ q.below) ?_;rintro g -;dsimp only [List.cons_append,List.nil_append])|(refine zAQ rfl rfl rfl rfl (fun _ _ q=>hT _ q.below g (zA5 q.own (Below.refl _ _) rfl)) ?_;rintro ⟨A',c'⟩ -;dsimp only [List.cons_append,List.nil_append])|(refine zAQ rfl rfl rfl rfl (fun _ _ q=>hB _ q.below g (zA5 q.own (Below.refl _ _) rfl)) ?_;rintro ⟨A',c'⟩ -;dsimp only [List.cons_append,List.nil_append])|refine zc rfl rfl rfl rfl ?_|refine zo rfl rfl rfl ?_|(refine zu rfl rfl rfl rfl (fun b=>?_)))|(with_reducible first|refine zH ?_|refine zB ?_|refine zD ?_|refine zA ?_|refine zX ?_|refine zT ?_|refine zZ ?_|refine zP ?_|refine zg ?_|refine zAP ?_)|((with_reducible refine zI ?_ ?_);(· exact rfl))|((with_reducible refine zG ?_ ?_);(· exact rfl))))
  all_goals first|exact zS (by (exact zi.cons (by exact zAR.tmp rfl) (zi.cons (by exact zAR.tmp rfl) zi.nil))) () trivial (by rw [if_pos (by omega)];rfl) (fun _ h=>h.sub (by (repeat constructor)))|exact zS (by (exact zi.cons (by exact zAR.tmp rfl) (zi.cons (by exact zAR.tmp rfl) zi.nil))) () trivial (by rw [if_neg (by omega),if_pos (by omega)];rfl) (fun _ h=>h.sub (by (repeat constructor)))|exact zS (by (exact zi.cons (by exact zAR.tmp rfl) (zi.cons (by exact zAR.tmp rfl) zi.nil))) () trivial (by rw [if_neg (by omega),if_neg (by omega)];rfl) (fun _ h=>h.sub (by (repeat constructor)))
 ·rw [if_neg h0]
  unfold zM at h1 ⊢
  generalize zBs c pl=e at *
  (refine zJ (n:=30) Tryz.func21 rfl rfl rfl ?_)
  (repeat' (first|((with_reducible refine zF ?_);first|refine zE rfl rfl rfl ?_|refine zC rfl rfl rfl ?_|(refine zK rfl rfl rfl ?_;refine ⟨_,rfl,?_⟩)|(refine zQ rfl rfl rfl rfl rfl (fun h=>?_) (fun h=>?_)<;>(dsimp only [cmpP] at h;(try (exfalso;omega))))|refine zV rfl rfl rfl rfl (fun _ _ q=>h1 _ q.below h0) ?_|refine zc rfl rfl rfl rfl ?_|(refine zu rfl rfl rfl rfl (fun b=>?_)))|(with_reducible first|refine zH ?_|refine zB ?_|refine zD ?_|refine zA ?_|refine zX ?_|refine zZ ?_|refine zP ?_|refine zAP ?_)|((with_reducible refine zI ?_ ?_);(· exact rfl))))
  all_goals exact zS (by (exact zi.cons (by exact zAR.tmp rfl) (zi.cons (by exact zAR.tmp rfl) zi.nil))) () trivial rfl (fun _ h=>h.sub (by (repeat constructor)))
end Go.Proofs.YtdigopgncfhiaaaGreatDoor
namespace Go.Proofs.YtdigopgncfhiaaaGreatDoor
open Go.RowKit
set_option maxRecDepth 20000
theorem guardPr : Tryz.prog.eqGuardType Tryz.prog.depth 75=false:=by kernel_rfl
theorem e_nePr {w0:World} {n:Nat} {d:List Deferred} {R:List (Nat × Value)} {H:List Ent} {o:Oper} {x y:Operand} {a b:Int} {T':TypeId} (hop:o.op = .binOp .neq 75 x y T') (hx:evR R x=some (.agg #[.int .i64 a,.int .i64 b])) (hy:evR R y=some (.agg #[.int .i64 a,.int .i64 b])):Ev Tryz.prog w0 n d R H o (.bool false):=fun k w q=>by
 have e:=zG4 9998 a b a b w
 simp only [decide_true,Bool.and_true] at e
 have g:(eqGuard .neq 75 x y (.agg #[.int .i64 a,.int .i64 b]) (.agg #[.int .i64 a,.int .i64 b])).run Tryz.prog w = .ok () w:=run_eqGuard_agg _ _ _ _ _ _ _ guardPr
 unfold execOp;rw [hop]
 simp only [Sem.run_bind,q.ev hx,q.ev hy,g,Result.andThen_ok]
 rw [run_neq_struct,e];rfl
set_option maxHeartbeats 1000000 in
theorem zIj (l:List (Int × Int)) (A:Option Addr) (ca:Nat) (B:Option Addr) (cb:Nat) (w:World) (ha:zq zAW 2 w A l) (hb:zq zAW 2 w B l) (hl:l.length≤1000000) :
  Gv Tryz.prog 47 [.slice A l.length ca,.slice B l.length cb] w (.bool true):=by
 unfold Gv
 (refine zJ (n:=26) Tryz.func47 rfl rfl rfl ?_)
 (repeat' (first|((with_reducible refine zF ?_);first|refine zE rfl rfl rfl ?_|refine zC rfl rfl rfl ?_|(refine zQ rfl rfl rfl rfl rfl (fun h=>?_) (fun h=>?_)<;>(dsimp only [cmpP] at h;(try (exfalso;omega))))|refine zo rfl rfl rfl ?_)|(with_reducible first|refine zH ?_|refine zB ?_|refine zD ?_|refine zA ?_|refine zT ?_|refine zP ?_)|((with_reducible refine zG ?_ ?_);(· exact rfl))))
 refine zw (ι:=Nat) [0,1] rfl (fun i=>i≤l.length) (fun i=>[(5,.int .i64 (i:Int))]) (fun _=>[]) (fun i=>l.length - i) 0 (Nat.zero_le _) (by (repeat first|exact lK1|refine zL rfl ?_)) (by (repeat constructor)) ?_
 rintro i hi
 simp only [zAt,List.cons_append,List.nil_append]
 by_cases hlt:i<l.length
 ·obtain ⟨z,hz⟩:∃ z,l[i]?=some z:=⟨_,List.getElem?_eq_getElem hlt⟩
  obtain ⟨b1,o1,rfl,hb1,hc1⟩:=ha.at_ hlt
  obtain ⟨b2,o2,rfl,hb2,hc2⟩:=hb.at_ hlt
  have:InS w b1 o1 zAW 2 l:=⟨ha⟩
  have:InS w b2 o2 zAW 2 l:=⟨hb⟩
  have:zAT l i z:=⟨hz⟩
  (repeat' (first|((with_reducible refine zF ?_);first|refine zE rfl rfl rfl ?_|(refine zQ rfl rfl rfl rfl rfl (fun h=>?_) (fun h=>?_)<;>(dsimp only [cmpP] at h;(try (exfalso;omega))))|refine zo rfl rfl rfl ?_)|(with_reducible first|refine zH ?_|refine zB ?_|refine zD ?_|refine zA ?_|refine zT ?_|refine zP ?_)|((with_reducible refine zI ?_ ?_);(· exact rfl))))
  (refine zBP (by kernel_rfl) (by kernel_rfl) (by kernel_rfl) ?_)
  (repeat' (first|((with_reducible refine zBr ?_);first|refine zn (zAi rfl rfl) rfl ?_|refine zn (zAG rfl rfl (by exact rfl)) rfl ?_|refine zn (zAr (I:=i) rfl rfl rfl (by omega) (by first|omega|(dsimp only;omega))) rfl ?_|refine zn (e_nePr (a:=z.1) (b:=z.2) rfl rfl rfl) rfl ?_)|(with_reducible refine zCZ ?_)))
  (repeat' (first|((with_reducible refine zF ?_);first|refine zE rfl rfl rfl ?_|refine zC rfl rfl rfl ?_|refine zh rfl rfl rfl rfl (by omega) ?_)|(with_reducible first|refine zB ?_|refine zD ?_|refine zA ?_|refine zT ?_|refine zg ?_)|((with_reducible refine zG ?_ ?_);(· exact rfl))))
  exact zf (i+1) (by omega) (by omega) (by (repeat first|exact lK1|refine zL rfl ?_)) (by (repeat constructor))
 ·obtain rfl:i=l.length:=by omega
  (repeat' (first|((with_reducible refine zF ?_);first|refine zE rfl rfl rfl ?_|refine zC rfl rfl rfl ?_|(refine zQ rfl rfl rfl rfl rfl (fun h=>?_) (fun h=>?_)<;>(dsimp only [cmpP] at h;(try (exfalso;omega))))|refine zo rfl rfl rfl ?_)|(with_reducible first|refine zH ?_|refine zB ?_|refine zD ?_|refine zA ?_|refine zX ?_|refine zk ?_|refine zR ?_|refine zW ?_)|((with_reducible refine zG ?_ ?_);(· exact rfl))))
  exact zS (by exact rTm rfl) () trivial rfl (fun _ h=>h.sub (by (repeat constructor)))
end Go.Proofs.YtdigopgncfhiaaaGreatDoor
namespace Go.Proofs.YtdigopgncfhiaaaGreatDoor
open Go.RowKit
set_option linter.unnecessarySimpa false
set_option maxRecDepth 20000
attribute [local go_sem] Oper.semAt_some
set_option maxHeartbeats 4000000 in
theorem zNE (t:List St) (A:Option Addr) (cap i j:Nat) (w:World) (ht:zq zAS 9 w A t) (ho:∀ s∈t,Okay s) (hij:i≤j) (hj:j≤t.length) (hl:t.length≤100) :
  zAb 94 #[vT A t.length cap,.int .i64 i,.int .i64 j] w (.tuple #[vSp (ze t i j),vSp (zAD t i j)]):=by
 unfold zAb vT
 have HT:=Lib.hid ht
 clear ht
 refine (callsIn_wide (n:=10)).1 ?_
 refine callsIn_of_wp_marks Tryz.func94 rfl trivial ?_ rfl
 refine wpIn_wide.2 ?_
 simp only [Tryz.ntmps94,List.size_toArray,List.length_cons,List.length_nil,Nat.reduceAdd,Nat.reduceSub,Array.replicate_succ,Array.replicate_zero,List.push_toArray,List.append_toArray,List.nil_append,List.cons_append]
 go_wp2_with (go_at_call 117;refine (zHb _ _ _ _ _).mono ?_;rintro e w2 ⟨rfl,rfl⟩)
 generalize hW:(((((((w.alloc (.cells #[.slice A t.length cap] 149)).alloc (.cells #[.int .i64 i] 3)).alloc (.cells #[.int .i64 j] 3)).alloc (.cells #[.int .i64 0,.int .i64 0] 28)).alloc (.cells #[.int .i64 0,.int .i64 0] 28)).alloc (.cells #[.slice A t.length cap] 149)).alloc (.cells #[.int .i64 i] 3))=W
 have z1:Blk W (w.heap.size+1) #[.int .i64 i]:=by rw [← hW];(refine zBN ?_;repeat (first|(with_reducible refine zN.zBL (by first|(simp;done)|(simp;omega)|omega) ?_;(first|rfl|(simp;done)))|(with_reducible refine zN.alloc ?_ _)|(with_reducible refine zN.far ?_ _ (by first|(simp;done)|(simp;omega)|omega))|(with_reducible refine zN.zA7 ?_ (by first|(simp;done)|(simp;omega)|omega))|(with_reducible refine zN.drew ?_)|(with_reducible refine zN.drewN ?_ _)|(refine zN.leaf (by assumption) ?_;(first|rfl|(simp;done)))))
 have z2:Blk W (w.heap.size+2) #[.int .i64 j]:=by rw [← hW];(refine zBN ?_;repeat (first|(with_reducible refine zN.zBL (by first|(simp;done)|(simp;omega)|omega) ?_;(first|rfl|(simp;done)))|(with_reducible refine zN.alloc ?_ _)|(with_reducible refine zN.far ?_ _ (by first|(simp;done)|(simp;omega)|omega))|(with_reducible refine zN.zA7 ?_ (by first|(simp;done)|(simp;omega)|omega))|(with_reducible refine zN.drew ?_)|(with_reducible refine zN.drewN ?_ _)|(refine zN.leaf (by assumption) ?_;(first|rfl|(simp;done)))))
 have z3:Blk W (w.heap.size+3) #[.int .i64 0,.int .i64 0]:=by rw [← hW];(refine zBN ?_;repeat (first|(with_reducible refine zN.zBL (by first|(simp;done)|(simp;omega)|omega) ?_;(first|rfl|(simp;done)))|(with_reducible refine zN.alloc ?_ _)|(with_reducible refine zN.far ?_ _ (by first|(simp;done)|(simp;omega)|omega))|(with_reducible refine zN.zA7 ?_ (by first|(simp;done)|(simp;omega)|omega))|(with_reducible refine zN.drew ?_)|(with_reducible refine zN.drewN ?_ _)|(refine zN.leaf (by assumption) ?_;(first|rfl|(simp;done)))))
 have z4:Blk W (w.heap.size+4) #[.int .i64 0,.int .i64 0]:=by rw [← hW];(refine zBN ?_;repeat (first|(with_reducible refine zN.zBL (by first|(simp;done)|(simp;omega)|omega) ?_;(first|rfl|(simp;done)))|(with_reducible refine zN.alloc ?_ _)|(with_reducible refine zN.far ?_ _ (by first|(simp;done)|(simp;omega)|omega))|(with_reducible refine zN.zA7 ?_ (by first|(simp;done)|(simp;omega)|omega))|(with_reducible refine zN.drew ?_)|(with_reducible refine zN.drewN ?_ _)|(refine zN.leaf (by assumption) ?_;(first|rfl|(simp;done)))))
 have z5:Blk W (w.heap.size+5) #[.slice A t.length cap]:=by rw [← hW];(refine zBN ?_;repeat (first|(with_reducible refine zN.zBL (by first|(simp;done)|(simp;omega)|omega) ?_;(first|rfl|(simp;done)))|(with_reducible refine zN.alloc ?_ _)|(with_reducible refine zN.far ?_ _ (by first|(simp;done)|(simp;omega)|omega))|(with_reducible refine zN.zA7 ?_ (by first|(simp;done)|(simp;omega)|omega))|(with_reducible refine zN.drew ?_)|(with_reducible refine zN.drewN ?_ _)|(refine zN.leaf (by assumption) ?_;(first|rfl|(simp;done)))))
 have z6:Blk W (w.heap.size+6) #[.int .i64 i]:=by rw [← hW];(refine zBN ?_;repeat (first|(with_reducible refine zN.zBL (by first|(simp;done)|(simp;omega)|omega) ?_;(first|rfl|(simp;done)))|(with_reducible refine zN.alloc ?_ _)|(with_reducible refine zN.far ?_ _ (by first|(simp;done)|(simp;omega)|omega))|(with_reducible refine zN.zA7 ?_ (by first|(simp;done)|(simp;omega)|omega))|(with_reducible refine zN.drew ?_)|(with_reducible refine zN.drewN ?_ _)|(refine zN.leaf (by assumption) ?_;(first|rfl|(simp;done)))))
 have hB:Below w.heap.size w W:=by rw [← hW];(repeat (first|(with_reducible refine zAO ?_ _)|(with_reducible refine zAa ?_ (by first|(simp;done)|(simp;omega)|omega))|(with_reducible refine zA8 ?_)|(with_reducible refine below_drewN ?_ _)|(with_reducible assumption)|(with_reducible exact Below.refl _ _)))
 have hs:W.heap.size=w.heap.size+7:=by rw [← hW];simp
 simp only [Nat.add_assoc,Nat.reduceAdd]
 refine (wpIn_wide (n:=10)).1 ?_
 refine zI9 (gf:=139) (lb:=#[.pointer (some ⟨w.heap.size+6,0,none⟩),.pointer (some ⟨w.heap.size+5,0,none⟩)]) rfl (enters Tryz.func139 rfl rfl) (zHC t A cap i _ _ ho (by omega) hl) (fun _=>rfl)
   (fun k W'=>i+k≤j∧Blk W' (w.heap.size+1) #[.int .i64 (i+k:Nat)]∧Blk W' (w.heap.size+2) #[.int .i64 j]∧(∃ x y,Blk W' (w.heap.size+3) #[.int .i64 x,.int .i64 y])∧(∃ x y,Blk W' (w.heap.size+4) #[.int .i64 x,.int .i64 y])∧Blk W' (w.heap.size+5) #[.slice A t.length cap]∧Blk W' (w.heap.size+6) #[.int .i64 i]∧Below w.heap.size w W')
   (fun c k W'=>c = .exit 0∧Blk W' (w.heap.size+3) #[.int .i64 (ze t i j).lo,.int .i64 (ze t i j).hi]∧Blk W' (w.heap.size+4) #[.int .i64 (zAD t i j).lo,.int .i64 (zAD t i j).hi]∧Below w.heap.size w W') ?_ ?_ ?_ ?_ ?_ ?_ ?_
 ·rintro k W1 W2 ⟨hk,h1,h2,⟨x,y,h3⟩,⟨x',y',h4⟩,h5,h6,h7⟩ ho
  exact ⟨hk,h1.off ho (by omega),h2.off ho (by omega),⟨x,y,h3.off ho (by omega)⟩,⟨x',y',h4.off ho (by omega)⟩,h5.off ho (by omega),h6.off ho (by omega),zCI h7 ho hB.size h7.size⟩
 ·rintro c k W1 W2 ⟨rfl,h3,h4,h7⟩ ho
  exact ⟨rfl,h3.off ho (by omega),h4.off ho (by omega),zCI h7 ho hB.size h7.size⟩
 ·rintro k W' ⟨hk,h1,h2,h3,h4,h5,h6,h7⟩
  exact ⟨h6,h5,HT.out.below h7⟩
 ·exact ⟨by omega,z1,z2,⟨0,0,z3⟩,⟨0,0,z4⟩,z5,z6,hB⟩
 ·intro l k W' hk ⟨hkj,h1,h2,⟨x,y,h3⟩,⟨x',y',h4⟩,h5,h6,h7⟩ hsz K hK
  clear hW z1 z2 z3 z4 z5 z6 hB
  unfold vSp
  gi_wp2
  generalize hp:ze t i (i+k)=p
  generalize hq:zAD t i (i+k)=q
  refine hK _ _ ((zF7 _ _ hsz).trans (zF7 _ _ (by simp;omega))) (fun W2 ho2=>?_)
  clear hK
  have hsz2:=ho2.size
  generalize hX:(W'.alloc (.cells #[.int .i64 p.lo,.int .i64 p.hi] 28)).alloc (.cells #[.int .i64 q.lo,.int .i64 q.hi] 28)=X at ho2 hsz2
  have y8:Blk W2 W'.heap.size #[.int .i64 p.lo,.int .i64 p.hi]:=Blk.off' (by rw [← hX];(refine zBN ?_;repeat (first|(with_reducible refine zN.zBL (by first|(simp;done)|(simp;omega)|omega) ?_;(first|rfl|(simp;done)))|(with_reducible refine zN.alloc ?_ _)|(with_reducible refine zN.far ?_ _ (by first|(simp;done)|(simp;omega)|omega))|(with_reducible refine zN.zA7 ?_ (by first|(simp;done)|(simp;omega)|omega))|(with_reducible refine zN.drew ?_)|(with_reducible refine zN.drewN ?_ _)|(refine zN.leaf (by assumption) ?_;(first|rfl|(simp;done)))))) ho2 (by omega)
  have y9:Blk W2 (W'.heap.size+1) #[.int .i64 q.lo,.int .i64 q.hi]:=Blk.off' (by rw [← hX];(refine zBN ?_;repeat (first|(with_reducible refine zN.zBL (by first|(simp;done)|(simp;omega)|omega) ?_;(first|rfl|(simp;done)))|(with_reducible refine zN.alloc ?_ _)|(with_reducible refine zN.far ?_ _ (by first|(simp;done)|(simp;omega)|omega))|(with_reducible refine zN.zA7 ?_ (by first|(simp;done)|(simp;omega)|omega))|(with_reducible refine zN.drew ?_)|(with_reducible refine zN.drewN ?_ _)|(refine zN.leaf (by assumption) ?_;(first|rfl|(simp;done)))))) ho2 (by omega)
  have y1:Blk W2 (w.heap.size+1) #[.int .i64 (i+k:Nat)]:=Blk.off (by rw [← hX];(refine zBN ?_;repeat (first|(with_reducible refine zN.zBL (by first|(simp;done)|(simp;omega)|omega) ?_;(first|rfl|(simp;done)))|(with_reducible refine zN.alloc ?_ _)|(with_reducible refine zN.far ?_ _ (by first|(simp;done)|(simp;omega)|omega))|(with_reducible refine zN.zA7 ?_ (by first|(simp;done)|(simp;omega)|omega))|(with_reducible refine zN.drew ?_)|(with_reducible refine zN.drewN ?_ _)|(refine zN.leaf (by assumption) ?_;(first|rfl|(simp;done)))))) ho2 (by omega)
  have y2:Blk W2 (w.heap.size+2) #[.int .i64 j]:=Blk.off (by rw [← hX];(refine zBN ?_;repeat (first|(with_reducible refine zN.zBL (by first|(simp;done)|(simp;omega)|omega) ?_;(first|rfl|(simp;done)))|(with_reducible refine zN.alloc ?_ _)|(with_reducible refine zN.far ?_ _ (by first|(simp;done)|(simp;omega)|omega))|(with_reducible refine zN.zA7 ?_ (by first|(simp;done)|(simp;omega)|omega))|(with_reducible refine zN.drew ?_)|(with_reducible refine zN.drewN ?_ _)|(refine zN.leaf (by assumption) ?_;(first|rfl|(simp;done)))))) ho2 (by omega)
  have y3:Blk W2 (w.heap.size+3) #[.int .i64 x,.int .i64 y]:=Blk.off (by rw [← hX];(refine zBN ?_;repeat (first|(with_reducible refine zN.zBL (by first|(simp;done)|(simp;omega)|omega) ?_;(first|rfl|(simp;done)))|(with_reducible refine zN.alloc ?_ _)|(with_reducible refine zN.far ?_ _ (by first|(simp;done)|(simp;omega)|omega))|(with_reducible refine zN.zA7 ?_ (by first|(simp;done)|(simp;omega)|omega))|(with_reducible refine zN.drew ?_)|(with_reducible refine zN.drewN ?_ _)|(refine zN.leaf (by assumption) ?_;(first|rfl|(simp;done)))))) ho2 (by omega)
  have y4:Blk W2 (w.heap.size+4) #[.int .i64 x',.int .i64 y']:=Blk.off (by rw [← hX];(refine zBN ?_;repeat (first|(with_reducible refine zN.zBL (by first|(simp;done)|(simp;omega)|omega) ?_;(first|rfl|(simp;done)))|(with_reducible refine zN.alloc ?_ _)|(with_reducible refine zN.far ?_ _ (by first|(simp;done)|(simp;omega)|omega))|(with_reducible refine zN.zA7 ?_ (by first|(simp;done)|(simp;omega)|omega))|(with_reducible refine zN.drew ?_)|(with_reducible refine zN.drewN ?_ _)|(refine zN.leaf (by assumption) ?_;(first|rfl|(simp;done)))))) ho2 (by omega)
  have y5:Blk W2 (w.heap.size+5) #[.slice A t.length cap]:=Blk.off (by rw [← hX];(refine zBN ?_;repeat (first|(with_reducible refine zN.zBL (by first|(simp;done)|(simp;omega)|omega) ?_;(first|rfl|(simp;done)))|(with_reducible refine zN.alloc ?_ _)|(with_reducible refine zN.far ?_ _ (by first|(simp;done)|(simp;omega)|omega))|(with_reducible refine zN.zA7 ?_ (by first|(simp;done)|(simp;omega)|omega))|(with_reducible refine zN.drew ?_)|(with_reducible refine zN.drewN ?_ _)|(refine zN.leaf (by assumption) ?_;(first|rfl|(simp;done)))))) ho2 (by omega)
  have y6:Blk W2 (w.heap.size+6) #[.int .i64 i]:=Blk.off (by rw [← hX];(refine zBN ?_;repeat (first|(with_reducible refine zN.zBL (by first|(simp;done)|(simp;omega)|omega) ?_;(first|rfl|(simp;done)))|(with_reducible refine zN.alloc ?_ _)|(with_reducible refine zN.far ?_ _ (by first|(simp;done)|(simp;omega)|omega))|(with_reducible refine zN.zA7 ?_ (by first|(simp;done)|(simp;omega)|omega))|(with_reducible refine zN.drew ?_)|(with_reducible refine zN.drewN ?_ _)|(refine zN.leaf (by assumption) ?_;(first|rfl|(simp;done)))))) ho2 (by omega)
  have y7:Below w.heap.size w W2:=zCI (by rw [← hX];(repeat (first|(with_reducible refine zAO ?_ _)|(with_reducible refine zAa ?_ (by first|(simp;done)|(simp;omega)|omega))|(with_reducible refine zA8 ?_)|(with_reducible refine below_drewN ?_ _)|(with_reducible assumption)|(with_reducible exact Below.refl _ _)))) ho2 (by omega) (by rw [← hX];simp;omega)
  have hXs:X.heap.size=W'.heap.size+2:=by rw [← hX];simp
  clear hX ho2 h1 h2 h3 h4 h5 h6 h7
  obtain ⟨c1,f1,l1⟩:=y1.facts
  obtain ⟨c2,f2,l2⟩:=y2.facts
  obtain ⟨c3,f3,l3⟩:=y3.facts
  obtain ⟨c4,f4,l4⟩:=y4.facts
  obtain ⟨c8,f8,l8⟩:=y8.facts
  obtain ⟨c9,f9,l9⟩:=y9.facts
  have g83:W'.heap.size≠w.heap.size+3:=by omega
  have g84:W'.heap.size≠w.heap.size+4:=by omega
  have g93:W'.heap.size+1≠w.heap.size+3:=by omega
  have g94:W'.heap.size+1≠w.heap.size+4:=by omega
  have hon:On W.heap.size (W.heap.size+2+2) W2 ((((W2.setCell ⟨w.heap.size+3,0,none⟩ (.int .i64 p.lo)).setCell ⟨w.heap.size+3,1,none⟩ (.int .i64 p.hi)).setCell ⟨w.heap.size+4,0,none⟩ (.int .i64 q.lo)).setCell ⟨w.heap.size+4,1,none⟩ (.int .i64 q.hi)) :=
   (((zDF _ _ (by simp;omega)).trans (zDF _ _ (by simp;omega))).trans (zDF _ _ (by simp;omega))).trans (zDF _ _ (by simp;omega))
  by_cases hkj2:i+k=j
  ·have hkj3:(i:Int)+k=j:=by omega
   gi_wp2
   gi_region
   all_goals
    gi_wp2
    refine ⟨⟨hon.os,hon.tape,hon.output,hon.size,hon.block⟩,rfl,?_,?_,?_⟩
    ·rw [← hkj2,hp];(refine zBN ?_;repeat (first|(with_reducible refine zN.zBL (by first|(simp;done)|(simp;omega)|omega) ?_;(first|rfl|(simp;done)))|(with_reducible refine zN.alloc ?_ _)|(with_reducible refine zN.far ?_ _ (by first|(simp;done)|(simp;omega)|omega))|(with_reducible refine zN.zA7 ?_ (by first|(simp;done)|(simp;omega)|omega))|(with_reducible refine zN.drew ?_)|(with_reducible refine zN.drewN ?_ _)|(refine zN.leaf (by assumption) ?_;(first|rfl|(simp;done)))))
    ·rw [← hkj2,hq];(refine zBN ?_;repeat (first|(with_reducible refine zN.zBL (by first|(simp;done)|(simp;omega)|omega) ?_;(first|rfl|(simp;done)))|(with_reducible refine zN.alloc ?_ _)|(with_reducible refine zN.far ?_ _ (by first|(simp;done)|(simp;omega)|omega))|(with_reducible refine zN.zA7 ?_ (by first|(simp;done)|(simp;omega)|omega))|(with_reducible refine zN.drew ?_)|(with_reducible refine zN.drewN ?_ _)|(refine zN.leaf (by assumption) ?_;(first|rfl|(simp;done)))))
    ·(repeat (first|(with_reducible refine zAO ?_ _)|(with_reducible refine zAa ?_ (by first|(simp;done)|(simp;omega)|omega))|(with_reducible refine zA8 ?_)|(with_reducible refine below_drewN ?_ _)|(with_reducible assumption)|(with_reducible exact Below.refl _ _)))
  ·have hkj3:¬ (i:Int)+k=j:=by omega
   have hl9:j≤100:=by omega
   gi_wp2
   gi_region
   all_goals
    gi_wp2
    refine ⟨⟨hon.os,hon.tape,hon.output,?_,?_⟩,by omega,?_,?_,⟨p.lo,p.hi,?_⟩,⟨q.lo,q.hi,?_⟩,?_,?_,?_⟩
    ·have:=hon.size;simpa using this
    ·intro g h1 h2;exact (Below.heap_setCell _ _ _ _ (by simp;omega)).trans (hon.block g h1 h2)
    ·(refine zBN ?_;repeat (first|(with_reducible refine zN.zBL (by first|(simp;done)|(simp;omega)|omega) ?_;(first|rfl|(simp [Int.natCast_add,Int.add_assoc];done)))|(with_reducible refine zN.alloc ?_ _)|(with_reducible refine zN.far ?_ _ (by first|(simp;done)|(simp;omega)|omega))|(with_reducible refine zN.zA7 ?_ (by first|(simp;done)|(simp;omega)|omega))|(with_reducible refine zN.drew ?_)|(with_reducible refine zN.drewN ?_ _)|(refine zN.leaf (by assumption) ?_;(first|rfl|(simp [Int.natCast_add,Int.add_assoc];done)))))
    ·(refine zBN ?_;repeat (first|(with_reducible refine zN.zBL (by first|(simp;done)|(simp;omega)|omega) ?_;(first|rfl|(simp;done)))|(with_reducible refine zN.alloc ?_ _)|(with_reducible refine zN.far ?_ _ (by first|(simp;done)|(simp;omega)|omega))|(with_reducible refine zN.zA7 ?_ (by first|(simp;done)|(simp;omega)|omega))|(with_reducible refine zN.drew ?_)|(with_reducible refine zN.drewN ?_ _)|(refine zN.leaf (by assumption) ?_;(first|rfl|(simp;done)))))
    ·(refine zBN ?_;repeat (first|(with_reducible refine zN.zBL (by first|(simp;done)|(simp;omega)|omega) ?_;(first|rfl|(simp;done)))|(with_reducible refine zN.alloc ?_ _)|(with_reducible refine zN.far ?_ _ (by first|(simp;done)|(simp;omega)|omega))|(with_reducible refine zN.zA7 ?_ (by first|(simp;done)|(simp;omega)|omega))|(with_reducible refine zN.drew ?_)|(with_reducible refine zN.drewN ?_ _)|(refine zN.leaf (by assumption) ?_;(first|rfl|(simp;done)))))
    ·(refine zBN ?_;repeat (first|(with_reducible refine zN.zBL (by first|(simp;done)|(simp;omega)|omega) ?_;(first|rfl|(simp;done)))|(with_reducible refine zN.alloc ?_ _)|(with_reducible refine zN.far ?_ _ (by first|(simp;done)|(simp;omega)|omega))|(with_reducible refine zN.zA7 ?_ (by first|(simp;done)|(simp;omega)|omega))|(with_reducible refine zN.drew ?_)|(with_reducible refine zN.drewN ?_ _)|(refine zN.leaf (by assumption) ?_;(first|rfl|(simp;done)))))
    ·(refine zBN ?_;repeat (first|(with_reducible refine zN.zBL (by first|(simp;done)|(simp;omega)|omega) ?_;(first|rfl|(simp;done)))|(with_reducible refine zN.alloc ?_ _)|(with_reducible refine zN.far ?_ _ (by first|(simp;done)|(simp;omega)|omega))|(with_reducible refine zN.zA7 ?_ (by first|(simp;done)|(simp;omega)|omega))|(with_reducible refine zN.drew ?_)|(with_reducible refine zN.drewN ?_ _)|(refine zN.leaf (by assumption) ?_;(first|rfl|(simp;done)))))
    ·(refine zBN ?_;repeat (first|(with_reducible refine zN.zBL (by first|(simp;done)|(simp;omega)|omega) ?_;(first|rfl|(simp;done)))|(with_reducible refine zN.alloc ?_ _)|(with_reducible refine zN.far ?_ _ (by first|(simp;done)|(simp;omega)|omega))|(with_reducible refine zN.zA7 ?_ (by first|(simp;done)|(simp;omega)|omega))|(with_reducible refine zN.drew ?_)|(with_reducible refine zN.drewN ?_ _)|(refine zN.leaf (by assumption) ?_;(first|rfl|(simp;done)))))
    ·(repeat (first|(with_reducible refine zAO ?_ _)|(with_reducible refine zAa ?_ (by first|(simp;done)|(simp;omega)|omega))|(with_reducible refine zA8 ?_)|(with_reducible refine below_drewN ?_ _)|(with_reducible assumption)|(with_reducible exact Below.refl _ _)))
 ·rintro W' ⟨hk,_⟩
  omega
 ·rintro c k W' hk ⟨rfl,h3,h4,h7⟩ hD hsz
  obtain ⟨c3,f3,l3⟩:=h3.facts
  obtain ⟨c4,f4,l4⟩:=h4.facts
  refine wpIn_wide.2 ?_
  go_wp2
  go_region
  all_goals
   go_wp2
   generalize hV:World.drew _=V
   have v3:Blk V (w.heap.size+3) #[.int .i64 (ze t i j).lo,.int .i64 (ze t i j).hi]:=by rw [← hV];(refine zBN ?_;repeat (first|(with_reducible refine zN.zBL (by first|(simp;done)|(simp;omega)|omega) ?_;(first|rfl|(simp;done)))|(with_reducible refine zN.alloc ?_ _)|(with_reducible refine zN.far ?_ _ (by first|(simp;done)|(simp;omega)|omega))|(with_reducible refine zN.zA7 ?_ (by first|(simp;done)|(simp;omega)|omega))|(with_reducible refine zN.drew ?_)|(with_reducible refine zN.drewN ?_ _)|(refine zN.leaf (by assumption) ?_;(first|rfl|(simp;done)))))
   have v4:Blk V (w.heap.size+4) #[.int .i64 (zAD t i j).lo,.int .i64 (zAD t i j).hi]:=by rw [← hV];(refine zBN ?_;repeat (first|(with_reducible refine zN.zBL (by first|(simp;done)|(simp;omega)|omega) ?_;(first|rfl|(simp;done)))|(with_reducible refine zN.alloc ?_ _)|(with_reducible refine zN.far ?_ _ (by first|(simp;done)|(simp;omega)|omega))|(with_reducible refine zN.zA7 ?_ (by first|(simp;done)|(simp;omega)|omega))|(with_reducible refine zN.drew ?_)|(with_reducible refine zN.drewN ?_ _)|(refine zN.leaf (by assumption) ?_;(first|rfl|(simp;done)))))
   have v7:Below w.heap.size w V:=by rw [← hV];(repeat (first|(with_reducible refine zAO ?_ _)|(with_reducible refine zAa ?_ (by first|(simp;done)|(simp;omega)|omega))|(with_reducible refine zA8 ?_)|(with_reducible refine below_drewN ?_ _)|(with_reducible assumption)|(with_reducible exact Below.refl _ _)))
   have vD:V.heap[W.heap.size]?=some (.deferred (some [])):=by
    rw [← hV]
    exact (Below.heap_setCell _ _ _ _ (by simp;omega)).trans ((Below.heap_setCell _ _ _ _ (by simp;omega)).trans ((Below.heap_setCell _ _ _ _ (by simp;omega)).trans ((Below.heap_setCell _ _ _ _ (by simp;omega)).trans hD)))
   have hvs:W.heap.size<V.heap.size:=(Array.getElem?_eq_some_iff.1 vD).1
   have ho:=zBk V (.deferred none) (lo:=W.heap.size) (hi:=W.heap.size+1) (Nat.le_refl _) (by omega)
   exact zGD vD (zKg rfl rfl (v3.off ho (by omega)) rfl (v4.off ho (by omega))) ⟨rfl,zCI v7 ho hB.size v7.size⟩
end Go.Proofs.YtdigopgncfhiaaaGreatDoor
namespace Go.Proofs.YtdigopgncfhiaaaGreatDoor
open Go.RowKit
set_option maxRecDepth 20000
def zEa (t:List St) (i j:Int):Bool:=inB 0 t.length i && inB i t.length j
def zEA (t:List St) (i j:Int):Sp:=if valid t && zEa t i j then ze t i.toNat j.toNat else ⟨0,0⟩
def zFV (t:List St) (i j:Int):Sp:=if valid t && zEa t i j then zAD t i.toNat j.toNat else ⟨0,0⟩
def errD (t:List St) (i j:Int):Int:=if valid t then (if zEa t i j then 0 else 2) else 10
end Go.Proofs.YtdigopgncfhiaaaGreatDoor
namespace Go.Proofs.YtdigopgncfhiaaaGreatDoor
open Go.RowKit
set_option maxRecDepth 20000
set_option maxHeartbeats 4000000 in
theorem drop_any (t:List St) (A:Option Addr) (cap:Nat) (i j:Int) (w:World) (ht:zq zAS 9 w A t) (hf:zEe t) (hl:t.length≤1000000) :
  zAb 51 #[vT A t.length cap,.int .i64 i,.int .i64 j] w (.tuple #[vSp (zEA t i j),vSp (zFV t i j),.int .i64 (errD t i j)]):=by
 unfold zAb vT
 have HT:=Lib.hid ht
 clear ht
 have k0:Blk (((w.alloc (.cells #[.slice A t.length cap] 24)).alloc (.cells #[.int .i64 0,.int .i64 0] 28)).alloc (.cells #[.int .i64 0,.int .i64 0] 28)) w.heap.size #[.slice A t.length cap]:=by (refine zBN ?_;repeat (first|(with_reducible refine zN.zBL (by first|(simp;done)|(simp;omega)|omega) ?_;(first|rfl|(simp;done)))|(with_reducible refine zN.alloc ?_ _)|(with_reducible refine zN.far ?_ _ (by first|(simp;done)|(simp;omega)|omega))|(with_reducible refine zN.zA7 ?_ (by first|(simp;done)|(simp;omega)|omega))|(with_reducible refine zN.drew ?_)|(with_reducible refine zN.drewN ?_ _)|(refine zN.leaf (by assumption) ?_;(first|rfl|(simp;done)))))
 have k1:Blk (((w.alloc (.cells #[.slice A t.length cap] 24)).alloc (.cells #[.int .i64 0,.int .i64 0] 28)).alloc (.cells #[.int .i64 0,.int .i64 0] 28)) (w.heap.size+1) #[.int .i64 0,.int .i64 0]:=by (refine zBN ?_;repeat (first|(with_reducible refine zN.zBL (by first|(simp;done)|(simp;omega)|omega) ?_;(first|rfl|(simp;done)))|(with_reducible refine zN.alloc ?_ _)|(with_reducible refine zN.far ?_ _ (by first|(simp;done)|(simp;omega)|omega))|(with_reducible refine zN.zA7 ?_ (by first|(simp;done)|(simp;omega)|omega))|(with_reducible refine zN.drew ?_)|(with_reducible refine zN.drewN ?_ _)|(refine zN.leaf (by assumption) ?_;(first|rfl|(simp;done)))))
 have k2:Blk (((w.alloc (.cells #[.slice A t.length cap] 24)).alloc (.cells #[.int .i64 0,.int .i64 0] 28)).alloc (.cells #[.int .i64 0,.int .i64 0] 28)) (w.heap.size+2) #[.int .i64 0,.int .i64 0]:=by (refine zBN ?_;repeat (first|(with_reducible refine zN.zBL (by first|(simp;done)|(simp;omega)|omega) ?_;(first|rfl|(simp;done)))|(with_reducible refine zN.alloc ?_ _)|(with_reducible refine zN.far ?_ _ (by first|(simp;done)|(simp;omega)|omega))|(with_reducible refine zN.zA7 ?_ (by first|(simp;done)|(simp;omega)|omega))|(with_reducible refine zN.drew ?_)|(with_reducible refine zN.drewN ?_ _)|(refine zN.leaf (by assumption) ?_;(first|rfl|(simp;done)))))
 have hB0:Below w.heap.size w (((w.alloc (.cells #[.slice A t.length cap] 24)).alloc (.cells #[.int .i64 0,.int .i64 0] 28)).alloc (.cells #[.int .i64 0,.int .i64 0] 28)):=by (repeat (first|(with_reducible refine zAO ?_ _)|(with_reducible refine zAa ?_ (by first|(simp;done)|(simp;omega)|omega))|(with_reducible refine zA8 ?_)|(with_reducible refine below_drewN ?_ _)|(with_reducible assumption)|(with_reducible exact Below.refl _ _)))
 have hd:=zKw t A cap _ (HT.out.below hB0) hf hl
 unfold zAb vT at hd
 go_enter Tryz.func51,Tryz.ntmps51
 cases hv:valid t
 ·have hd1:zEA t i j=⟨0,0⟩:=by simp [zEA,hv]
  have hd2:zFV t i j=⟨0,0⟩:=by simp [zFV,hv]
  have hd3:errD t i j=10:=by simp [errD,hv]
  rw [hd1,hd2,hd3]
  have he:zDL t=10:=by simp [zDL,hv]
  rw [he] at hd
  go_wp2_with (go_at_call 93;refine hd.mono ?_;rintro e w1 ⟨rfl,hb1⟩;have x0:=k0.past hb1;have x1:=k1.past hb1;have x2:=k2.past hb1;have hB1:=zAV hB0 hb1;clear hb1;obtain ⟨c0,f0,l0⟩:=x0.facts;obtain ⟨c1,f1,l1⟩:=x1.facts;obtain ⟨c2,f2,l2⟩:=x2.facts)
  refine bodyPost_ret (zDW (x:=.int .i64 0) (y:=.int .i64 0) (x':=.int .i64 0) (y':=.int .i64 0) rfl rfl ?_ rfl ?_) rfl ⟨rfl,?_⟩
  ·(refine zBN ?_;repeat (first|(with_reducible refine zN.zBL (by first|(simp;done)|(simp;omega)|omega) ?_;(first|rfl|(simp;done)))|(with_reducible refine zN.alloc ?_ _)|(with_reducible refine zN.far ?_ _ (by first|(simp;done)|(simp;omega)|omega))|(with_reducible refine zN.zA7 ?_ (by first|(simp;done)|(simp;omega)|omega))|(with_reducible refine zN.drew ?_)|(with_reducible refine zN.drewN ?_ _)|(refine zN.leaf (by assumption) ?_;(first|rfl|(simp;done)))))
  ·(refine zBN ?_;repeat (first|(with_reducible refine zN.zBL (by first|(simp;done)|(simp;omega)|omega) ?_;(first|rfl|(simp;done)))|(with_reducible refine zN.alloc ?_ _)|(with_reducible refine zN.far ?_ _ (by first|(simp;done)|(simp;omega)|omega))|(with_reducible refine zN.zA7 ?_ (by first|(simp;done)|(simp;omega)|omega))|(with_reducible refine zN.drew ?_)|(with_reducible refine zN.drewN ?_ _)|(refine zN.leaf (by assumption) ?_;(first|rfl|(simp;done)))))
  ·(repeat (first|(with_reducible refine zAO ?_ _)|(with_reducible refine zAa ?_ (by first|(simp;done)|(simp;omega)|omega))|(with_reducible refine zA8 ?_)|(with_reducible refine below_drewN ?_ _)|(with_reducible assumption)|(with_reducible exact Below.refl _ _)))
 ·have he:zDL t=0:=by simp [zDL,hv]
  rw [he] at hd
  cases h1:zEa t i j
  ·have hd1:zEA t i j=⟨0,0⟩:=by simp [zEA,h1]
   have hd2:zFV t i j=⟨0,0⟩:=by simp [zFV,h1]
   have hd3:errD t i j=2:=by simp [errD,hv,h1]
   rw [hd1,hd2,hd3]
   cases h2:inB 0 t.length i && inB 0 t.length j
   ·have h3:=Lib.hid h2
    clear h2 h1
    go_wp2_with (first|(go_at_call 93;refine hd.mono ?_;rintro e w1 ⟨rfl,hb1⟩;have x0:=k0.past hb1;have x1:=k1.past hb1;have x2:=k2.past hb1;have hB1:=zAV hB0 hb1;clear hb1;obtain ⟨c0,f0,l0⟩:=x0.facts;obtain ⟨c1,f1,l1⟩:=x1.facts;obtain ⟨c2,f2,l2⟩:=x2.facts)|(go_at_call 84;refine (zJ6 _ _ _ _ _ _ _ _ (by simp)).mono ?_;rintro e w2 ⟨rfl,hb2⟩;rw [h3.out];have y1:Blk _ (w.heap.size+1) _:=(Blk.alloc (Blk.alloc x1 _) _).past hb2;have y2:Blk _ (w.heap.size+2) _:=(Blk.alloc (Blk.alloc x2 _) _).past hb2;have hB2:=zAV (zAO (zAO hB1 _) _) hb2;clear c0 f0 c1 f1 c2 f2 l0 l1 l2 hb2;obtain ⟨c1,f1,l1⟩:=y1.facts;obtain ⟨c2,f2,l2⟩:=y2.facts))
    refine bodyPost_ret (zDW (x:=.int .i64 0) (y:=.int .i64 0) (x':=.int .i64 0) (y':=.int .i64 0) rfl rfl ?_ rfl ?_) rfl ⟨rfl,?_⟩
    ·(refine zBN ?_;repeat (first|(with_reducible refine zN.zBL (by first|(simp;done)|(simp;omega)|omega) ?_;(first|rfl|(simp;done)))|(with_reducible refine zN.alloc ?_ _)|(with_reducible refine zN.far ?_ _ (by first|(simp;done)|(simp;omega)|omega))|(with_reducible refine zN.zA7 ?_ (by first|(simp;done)|(simp;omega)|omega))|(with_reducible refine zN.drew ?_)|(with_reducible refine zN.drewN ?_ _)|(refine zN.leaf (by assumption) ?_;(first|rfl|(simp;done)))))
    ·(refine zBN ?_;repeat (first|(with_reducible refine zN.zBL (by first|(simp;done)|(simp;omega)|omega) ?_;(first|rfl|(simp;done)))|(with_reducible refine zN.alloc ?_ _)|(with_reducible refine zN.far ?_ _ (by first|(simp;done)|(simp;omega)|omega))|(with_reducible refine zN.zA7 ?_ (by first|(simp;done)|(simp;omega)|omega))|(with_reducible refine zN.drew ?_)|(with_reducible refine zN.drewN ?_ _)|(refine zN.leaf (by assumption) ?_;(first|rfl|(simp;done)))))
    ·(repeat (first|(with_reducible refine zAO ?_ _)|(with_reducible refine zAa ?_ (by first|(simp;done)|(simp;omega)|omega))|(with_reducible refine zA8 ?_)|(with_reducible refine below_drewN ?_ _)|(with_reducible assumption)|(with_reducible exact Below.refl _ _)))
   ·have h3:=Lib.hid h2
    have hij:j<i:=by
     rw [Bool.and_eq_true,zAC,zAC] at h2
     rcases Int.lt_or_le j i with h|h
     ·exact h
     ·exfalso
      have:zEa t i j=true:=by simp only [zEa,Bool.and_eq_true,zAC];omega
      rw [h1] at this;cases this
    clear h2 h1
    go_wp2_with (first|(go_at_call 93;refine hd.mono ?_;rintro e w1 ⟨rfl,hb1⟩;have x0:=k0.past hb1;have x1:=k1.past hb1;have x2:=k2.past hb1;have hB1:=zAV hB0 hb1;clear hb1;obtain ⟨c0,f0,l0⟩:=x0.facts;obtain ⟨c1,f1,l1⟩:=x1.facts;obtain ⟨c2,f2,l2⟩:=x2.facts)|(go_at_call 84;refine (zJ6 _ _ _ _ _ _ _ _ (by simp)).mono ?_;rintro e w2 ⟨rfl,hb2⟩;rw [h3.out];have y1:Blk _ (w.heap.size+1) _:=(Blk.alloc (Blk.alloc x1 _) _).past hb2;have y2:Blk _ (w.heap.size+2) _:=(Blk.alloc (Blk.alloc x2 _) _).past hb2;have hB2:=zAV (zAO (zAO hB1 _) _) hb2;clear c0 f0 c1 f1 c2 f2 l0 l1 l2 hb2;obtain ⟨c1,f1,l1⟩:=y1.facts;obtain ⟨c2,f2,l2⟩:=y2.facts))
    refine bodyPost_ret (zDW (x:=.int .i64 0) (y:=.int .i64 0) (x':=.int .i64 0) (y':=.int .i64 0) rfl rfl ?_ rfl ?_) rfl ⟨rfl,?_⟩
    ·(refine zBN ?_;repeat (first|(with_reducible refine zN.zBL (by first|(simp;done)|(simp;omega)|omega) ?_;(first|rfl|(simp;done)))|(with_reducible refine zN.alloc ?_ _)|(with_reducible refine zN.far ?_ _ (by first|(simp;done)|(simp;omega)|omega))|(with_reducible refine zN.zA7 ?_ (by first|(simp;done)|(simp;omega)|omega))|(with_reducible refine zN.drew ?_)|(with_reducible refine zN.drewN ?_ _)|(refine zN.leaf (by assumption) ?_;(first|rfl|(simp;done)))))
    ·(refine zBN ?_;repeat (first|(with_reducible refine zN.zBL (by first|(simp;done)|(simp;omega)|omega) ?_;(first|rfl|(simp;done)))|(with_reducible refine zN.alloc ?_ _)|(with_reducible refine zN.far ?_ _ (by first|(simp;done)|(simp;omega)|omega))|(with_reducible refine zN.zA7 ?_ (by first|(simp;done)|(simp;omega)|omega))|(with_reducible refine zN.drew ?_)|(with_reducible refine zN.drewN ?_ _)|(refine zN.leaf (by assumption) ?_;(first|rfl|(simp;done)))))
    ·(repeat (first|(with_reducible refine zAO ?_ _)|(with_reducible refine zAa ?_ (by first|(simp;done)|(simp;omega)|omega))|(with_reducible refine zA8 ?_)|(with_reducible refine below_drewN ?_ _)|(with_reducible assumption)|(with_reducible exact Below.refl _ _)))
  ·obtain ⟨h2,h2'⟩:inB 0 t.length i=true∧inB i t.length j=true:=by simpa [zEa] using h1
   have h5:=zAC.1 h2
   have h6:=zAC.1 h2'
   obtain ⟨I,rfl⟩:=Int.eq_ofNat_of_zero_le h5.1
   obtain ⟨J,rfl⟩:=Int.eq_ofNat_of_zero_le (show 0≤j by omega)
   have hlen:=zCd hv
   have hd1:zEA t I J=ze t I J:=by simp [zEA,hv,h1]
   have hd2:zFV t I J=zAD t I J:=by simp [zFV,hv,h1]
   have hd3:errD t I J=0:=by simp [errD,hv,h1]
   have hm:∀ W:World,Below w.heap.size w W→zAb 94 #[.agg #[.slice A t.length cap],.int .i64 I,.int .i64 J] W (.tuple #[.agg #[.int .i64 (zEA t I J).lo,.int .i64 (zEA t I J).hi],.agg #[.int .i64 (zFV t I J).lo,.int .i64 (zFV t I J).hi]]):=fun W hW=>by
    rw [hd1,hd2];exact zNE t A cap I J W (HT.out.below hW) (zFa hv) (by omega) (by omega) (by omega)
   unfold zAb at hm
   rw [hd3]
   have HM:=Lib.hid hm
   have h3:(inB 0 t.length I && inB 0 t.length J)=true:=by simp only [Bool.and_eq_true,zAC];omega
   have h3:=Lib.hid h3
   have hij:(I:Int)≤J:=by omega
   clear h2 h2' hm hd1 hd2 hd3 h1
   unfold vSp
   generalize zEA t I J=p at *
   generalize zFV t I J=q at *
   go_wp2_with (first|(go_at_call 93;refine hd.mono ?_;rintro e w1 ⟨rfl,hb1⟩;have x0:=k0.past hb1;have x1:=k1.past hb1;have x2:=k2.past hb1;have hB1:=zAV hB0 hb1;clear hb1;obtain ⟨c0,f0,l0⟩:=x0.facts;obtain ⟨c1,f1,l1⟩:=x1.facts;obtain ⟨c2,f2,l2⟩:=x2.facts)|(go_at_call 84;refine (zJ6 _ _ _ _ _ _ _ _ (by simp)).mono ?_;rintro e w2 ⟨rfl,hb2⟩;rw [h3.out];have y1:Blk _ (w.heap.size+1) _:=(Blk.alloc (Blk.alloc x1 _) _).past hb2;have y2:Blk _ (w.heap.size+2) _:=(Blk.alloc (Blk.alloc x2 _) _).past hb2;have y9:Blk _ w1.heap.size _:=(Blk.alloc (Blk.new _ _ _) _).past hb2;have hB2:=zAV (zAO (zAO hB1 _) _) hb2;clear c0 f0 c1 f1 c2 f2 l0 l1 l2 hb2;obtain ⟨c1,f1,l1⟩:=y1.facts;obtain ⟨c2,f2,l2⟩:=y2.facts;obtain ⟨c9,f9,l9⟩:=y9.facts)|(go_at_call 94;refine (HM.out _ hB2).mono ?_;rintro e w3 ⟨rfl,hb3⟩;have z1:=y1.past hb3;have z2:=y2.past hb3;have hB3:=zAV hB2 hb3;clear c1 f1 c2 f2 l1 l2 c9 f9 l9 hb3;obtain ⟨c1,f1,l1⟩:=z1.facts;obtain ⟨c2,f2,l2⟩:=z2.facts))
   simp only [Nat.add_assoc,Nat.reduceAdd]
   clear c1 f1 c2 f2
   generalize hX:(((w3.setCell ⟨w.heap.size+1,0,none⟩ (.int .i64 p.lo)).setCell ⟨w.heap.size+1,1,none⟩ (.int .i64 p.hi)).setCell ⟨w.heap.size+2,0,none⟩ (.int .i64 q.lo)).setCell ⟨w.heap.size+2,1,none⟩ (.int .i64 q.hi)=X
   have y1:Blk X (w.heap.size+1) #[.int .i64 p.lo,.int .i64 p.hi]:=by rw [← hX];(refine zBN ?_;repeat (first|(with_reducible refine zN.zBL (by first|(simp;done)|(simp;omega)|omega) ?_;(first|rfl|(simp;done)))|(with_reducible refine zN.alloc ?_ _)|(with_reducible refine zN.far ?_ _ (by first|(simp;done)|(simp;omega)|omega))|(with_reducible refine zN.zA7 ?_ (by first|(simp;done)|(simp;omega)|omega))|(with_reducible refine zN.drew ?_)|(with_reducible refine zN.drewN ?_ _)|(refine zN.leaf (by assumption) ?_;(first|rfl|(simp;done)))))
   have y2:Blk X (w.heap.size+2) #[.int .i64 q.lo,.int .i64 q.hi]:=by rw [← hX];(refine zBN ?_;repeat (first|(with_reducible refine zN.zBL (by first|(simp;done)|(simp;omega)|omega) ?_;(first|rfl|(simp;done)))|(with_reducible refine zN.alloc ?_ _)|(with_reducible refine zN.far ?_ _ (by first|(simp;done)|(simp;omega)|omega))|(with_reducible refine zN.zA7 ?_ (by first|(simp;done)|(simp;omega)|omega))|(with_reducible refine zN.drew ?_)|(with_reducible refine zN.drewN ?_ _)|(refine zN.leaf (by assumption) ?_;(first|rfl|(simp;done)))))
   have hBX:Below w.heap.size w X:=by rw [← hX];(repeat (first|(with_reducible refine zAO ?_ _)|(with_reducible refine zAa ?_ (by first|(simp;done)|(simp;omega)|omega))|(with_reducible refine zA8 ?_)|(with_reducible refine below_drewN ?_ _)|(with_reducible assumption)|(with_reducible exact Below.refl _ _)))
   clear hX hB1 hB2 hB3 x0 x1 x2 z1 z2
   obtain ⟨c1,f1,l1⟩:=y1.facts
   obtain ⟨c2,f2,l2⟩:=y2.facts
   go_region
   all_goals
    go_wp2
    refine bodyPost_ret (zDW (x:=.int .i64 p.lo) (y:=.int .i64 p.hi) (x':=.int .i64 q.lo) (y':=.int .i64 q.hi) rfl rfl ?_ rfl ?_) rfl ⟨rfl,?_⟩
    ·(refine zBN ?_;repeat (first|(with_reducible refine zN.zBL (by first|(simp;done)|(simp;omega)|omega) ?_;(first|rfl|(simp;done)))|(with_reducible refine zN.alloc ?_ _)|(with_reducible refine zN.far ?_ _ (by first|(simp;done)|(simp;omega)|omega))|(with_reducible refine zN.zA7 ?_ (by first|(simp;done)|(simp;omega)|omega))|(with_reducible refine zN.drew ?_)|(with_reducible refine zN.drewN ?_ _)|(refine zN.leaf (by assumption) ?_;(first|rfl|(simp;done)))))
    ·(refine zBN ?_;repeat (first|(with_reducible refine zN.zBL (by first|(simp;done)|(simp;omega)|omega) ?_;(first|rfl|(simp;done)))|(with_reducible refine zN.alloc ?_ _)|(with_reducible refine zN.far ?_ _ (by first|(simp;done)|(simp;omega)|omega))|(with_reducible refine zN.zA7 ?_ (by first|(simp;done)|(simp;omega)|omega))|(with_reducible refine zN.drew ?_)|(with_reducible refine zN.drewN ?_ _)|(refine zN.leaf (by assumption) ?_;(first|rfl|(simp;done)))))
    ·(repeat (first|(with_reducible refine zAO ?_ _)|(with_reducible refine zAa ?_ (by first|(simp;done)|(simp;omega)|omega))|(with_reducible refine zA8 ?_)|(with_reducible refine below_drewN ?_ _)|(with_reducible assumption)|(with_reducible exact Below.refl _ _)))
end Go.Proofs.YtdigopgncfhiaaaGreatDoor
namespace Go.Proofs.YtdigopgncfhiaaaGreatDoor
open Go.RowKit
set_option maxRecDepth 20000
theorem great_n (A:Option Addr) (n c:Nat) (w:World):Gv Tryz.prog 48 [.agg #[.slice A n c]] w (.bool (decide (20<n))):=(zJS A n c w).gv
end Go.Proofs.YtdigopgncfhiaaaGreatDoor
namespace Go.Proofs.YtdigopgncfhiaaaGreatDoor
variable {ro : Option Nat}
open Go.RowKit
set_option maxRecDepth 20000
def Wit.off (x:Wit):Nat:=match x.A with|some a=>a.off|none=>0
end Go.Proofs.YtdigopgncfhiaaaGreatDoor
namespace Go.Proofs.YtdigopgncfhiaaaGreatDoor
variable {ro : Option Nat}
open Go.RowKit
set_option maxRecDepth 20000
def zKD (s:Spot):List Value:=[.int .i64 s.st,.int .i64 s.off.lo,.int .i64 s.off.hi]
theorem one_spot (x:Spot):∀ u∈zKD x,u.oneCell'=true:=by simp [zKD,Value.oneCell']
instance : zBw zKD 3:=⟨fun _=>rfl,one_spot⟩
end Go.Proofs.YtdigopgncfhiaaaGreatDoor
