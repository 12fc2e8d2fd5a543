/- F11 -/
import Derived.Test.YtdigopgncfhiaaaGreatDoorF10
import Derived.Test.YtdigopgncfhiaaaGreatDoorF6
import Derived.Shelf.SlSortCmp.NoneTotal
import Derived.Shelf.SlicesG.Cmp
import Derived.Test.YtdigopgncfhiaaaGreatDoorF8
import Derived.Test.YtdigopgncfhiaaaGreatDoorF9
import Derived.Scope
set_option linter.unusedSimpArgs false
set_option linter.unusedVariables false
namespace Go.Proofs.YtdigopgncfhiaaaGreatDoor
open Go.RowKit
set_option maxRecDepth 20000
theorem zJO (r i:Nat) (pl:List Sli) (P:Option Addr) (cp:Nat) (w:World):Ret Tryz.prog 61 [.pointer (some ⟨r,0,none⟩),.slice P pl.length cp,.int .i64 (i:Int)] w (fun g:Nat × Nat × Nat=>.func (.func 104) #[] #[.pointer (some ⟨g.1,0,none⟩),.pointer (some ⟨g.2.1,0,none⟩),.pointer (some ⟨g.2.2,0,none⟩)])
  (fun g=>[.blk g.1 [.pointer (some ⟨r,0,none⟩)],.blk g.2.1 [.int .i64 (i:Int)],.blk g.2.2 [.slice P pl.length cp]]) (fun _=>True):=by
 (refine zJ (n:=8) Tryz.func61 rfl rfl rfl ?_)
 (repeat' (first|((with_reducible refine zF ?_);first|refine zC rfl rfl rfl ?_|(refine zu rfl rfl rfl rfl (fun b=>?_))|refine zBx rfl rfl rfl rfl ?_)|(with_reducible first|refine zH ?_|refine zB ?_|refine zD ?_|refine zA ?_|refine zX ?_)))
 rename_i b1 b3
 exact zS (by exact rTm rfl) (b1,b,b3) trivial rfl (fun _ h=>h.sub (by (repeat constructor)))
def zDB (c:Cov) (pl:List Sli) (i h:Int):Sp × Int :=
 if zBs c pl=0 then (if inB 0 ((c.beds.length:Int) - 1) i=true∧inB 0 (c.hours.length:Int) h=true then (thickN c pl (c.beds.getD i.toNat default) i h.toNat,0) else (⟨0,0⟩,2)) else (⟨0,0⟩,zBs c pl)
theorem zD6 {c:Cov} {pl:List Sli} (h:zBs c pl=0):zAm c=0∧zBY c pl=true:=by
 unfold zBs at h
 by_cases h0:zAm c=0
 ·rw [if_pos h0] at h
  cases hp:zBY c pl with
  | true=>exact ⟨h0,rfl⟩
  | false=>rw [hp] at h;simp at h
 ·rw [if_neg h0] at h;exact absurd h h0
set_option maxHeartbeats 4000000 in
theorem zMI (c:Cov) (A:Option Addr) (ca:Nat) (B:Option Addr) (cb:Nat) (C:Option Addr) (cc:Nat) (pl:List Sli) (P:Option Addr) (cp:Nat) (i h:Int) (w:World) (hc:zAe w c A B C) (hs:Small c) (hp:zBG w P pl) (hl:pl.length≤12) (hrl:∀ s∈pl,s.xs.length≤20) :
  Gv Tryz.prog 23 [zAH c A ca B cb C cc,.slice P pl.length cp,.int .i64 i,.int .i64 h] w (.tuple #[vSp (zDB c pl i h).1,.int .i64 (zDB c pl i h).2]):=by
 have hl4:=hs.b;have hl5:=hs.h
 have h1:=fun W (hb:Below w.heap.size w W)=>zDz c A ca B cb C cc pl P cp W (hc.below hb) hs (hp.below hb) hl hrl
 have h2:=fun W (hb:Below w.heap.size w W)=>zDy c A ca B cb C cc pl P cp W (hc.below hb) hs (hp.below hb) hl hrl
 unfold zAH at h1 h2
 unfold Gv zAH zDB
 by_cases h0:zBs c pl=0
 ·rw [if_pos h0]
  obtain ⟨h00,hpl⟩:=zD6 h0
  have hf:=zBu h00
  have h2:=fun W hb=>h2 W hb h00 hpl
  by_cases hin:inB 0 ((c.beds.length:Int) - 1) i=true∧inB 0 (c.hours.length:Int) h=true
  ·rw [if_pos hin]
   obtain ⟨I,rfl,hI⟩:=zL3 hin.1
   obtain ⟨J,rfl,hJ⟩:∃ J:Nat,h=(J:Int)∧J≤c.hours.length:=by have:=zAC.1 hin.2;exact ⟨h.toNat,by omega,by omega⟩
   obtain ⟨hi1,hi2⟩:=hin
   obtain ⟨z,hz⟩:∃ z,c.beds[I]?=some z:=⟨_,List.getElem?_eq_getElem hI⟩
   simp only [Int.toNat_natCast]
   rw [zBB hz]
   have hseq:=fun g1 g2 g3 r=>days_seq c A ca B cb C cc pl P cp I g1 g2 g3 r z w hc hs hf hp hrl (zBK.1 hpl).1 hz
   unfold vSp
   unfold zM at h2 ⊢
   (refine zJ (n:=54) Tryz.func23 rfl rfl rfl ?_)
   (repeat' (first|((with_reducible refine zF ?_);first|refine zE rfl rfl rfl ?_|refine zC rfl rfl rfl ?_|(refine zK rfl rfl rfl ?_;refine ⟨_,rfl,?_⟩)|refine za rfl rfl rfl ?_|refine zAB rfl rfl rfl rfl ?_|(refine zQ rfl rfl rfl rfl rfl (fun h=>?_) (fun h=>?_)<;>(dsimp only [cmpP] at h;(try (exfalso;omega))))|(refine zAQ rfl rfl rfl rfl (fun _ _ q=>h2 _ q.below) ?_;rintro g -;dsimp only [List.cons_append,List.nil_append])|(refine zV rfl rfl rfl rfl (fun _ _ q=>hi1 ▸ iin1 _ _ _ _ _ _ (zAY (enc:=encI) (by exact rfl) _ q.below q.own)) ?_)|(refine zV rfl rfl rfl rfl (fun _ _ q=>hi2 ▸ iin1 _ _ _ _ _ _ (zAY (enc:=encI) (by exact rfl) _ q.below q.own)) ?_)|(refine zAQ rfl rfl rfl rfl (fun _ _ q=>zJO _ I pl P cp _) ?_;rintro ⟨g1,g2,g3⟩ -;dsimp only [List.cons_append,List.nil_append])|refine zc rfl rfl rfl rfl ?_|refine zAN rfl rfl rfl ?_|refine zCC rfl rfl rfl rfl (IntWalk.i64_in _ (by omega)) ?_|refine zo rfl rfl rfl ?_|(refine zj rfl rfl (fun b=>?_))|(refine zu rfl rfl rfl rfl (fun b=>?_))|(refine zY rfl rfl rfl ?_;refine ⟨rfl,_,rfl,fun b=>?_⟩))|(with_reducible first|refine zH ?_|refine zB ?_|refine zD ?_|refine zA ?_|refine zT ?_|refine zP ?_)|((with_reducible refine zG ?_ ?_);(· exact rfl))))
   rename_i b4 b7 b8 ba1 ba2
   refine u_dfr0 ?_
   refine zMk (ι:=Sp) (α:=Nat × Sp) (gf:=104) (lb:=[.pointer (some ⟨g1,0,none⟩),.pointer (some ⟨g2,0,none⟩),.pointer (some ⟨g3,0,none⟩)]) (bs:=[]) (zCA c A ca B cb C cc pl P cp g1 g2 g3 g (I:Int)) zEy (zHG c pl z I) (J+1) (fun k s=>k=J+1→s=thickN c pl z I J) (fun s=>[.blk b (zAz s),.blk b8 [.int .i64 0,.int .i64 0],.blk b7 [.int .i64 (J:Int)],.blk b4 (zM c A ca B cb C cc)]) (fun k=>!decide (k=J)) (.exit 0) ⟨0,0⟩ rfl (by unfold zCA zM;simp only [List.cons_append,List.nil_append];(repeat constructor)) (fun h=>by omega) (by rw [zEB];omega) (fun k hk=>by simp;omega) (.inr ⟨by omega,by simp⟩) (fun x=>rfl) (by decide) (.inr ⟨0,rfl⟩) (hseq g1 g2 g3 g) ?_ ?_ ?_
   ·rintro l k x s ⟨⟩ W hk hx hI hr hrp hW
    simp only at hr hrp
    subst hr hrp
    rw [zGK (by omega)] at hx
    cases hx
    simp only [zEy,parR,zCA,zM,vSp,List.cons_append,List.nil_append]
    by_cases hkJ:k=J
    ·subst hkJ
     simp only [decide_true,Bool.not_true,Bool.false_eq_true,if_false]
     (repeat' (first|((with_reducible refine zF ?_);first|refine zC rfl rfl rfl ?_|(refine zb rfl rfl rfl rfl rfl ?_;refine ⟨rfl,by first|decide|exact Nat.le_of_ble_eq_true rfl|(simp;omega),_,rfl,?_⟩)|(refine zj rfl rfl (fun b=>?_)))|(with_reducible first|refine zH ?_|refine zB ?_|refine zD ?_|refine zA ?_)))
     refine zJp (by (repeat constructor)) rfl ?_
     (repeat' (first|((with_reducible refine zF ?_);first|refine zE rfl rfl rfl ?_|(refine zK rfl rfl rfl ?_;refine ⟨_,rfl,?_⟩)|(refine zQ rfl rfl rfl rfl rfl (fun h=>?_) (fun h=>?_)<;>(dsimp only [cmpP] at h;(try (exfalso;omega))))|(refine zb rfl rfl rfl rfl rfl ?_;refine ⟨rfl,by first|decide|exact Nat.le_of_ble_eq_true rfl|(simp;omega),_,rfl,?_⟩))|(with_reducible first|refine zH ?_|refine zB ?_|refine zD ?_|refine zA ?_|refine zP ?_|refine zk ?_)|((with_reducible refine zAE ?_ ?_);(· exact rfl))|((with_reducible refine zI ?_ ?_);(· exact rfl))))
     exact zEk (some (.exit 0)) (.inr (.inr ⟨0,rfl,rfl⟩)) rfl (by (repeat constructor)) (thickN c pl z I k) (fun _=>rfl) hW (fun _ h=>h.sub (by (repeat constructor)))
    ·simp only [hkJ,decide_false,Bool.not_false,if_true]
     (repeat' (first|((with_reducible refine zF ?_);first|refine zC rfl rfl rfl ?_|(refine zb rfl rfl rfl rfl rfl ?_;refine ⟨rfl,by first|decide|exact Nat.le_of_ble_eq_true rfl|(simp;omega),_,rfl,?_⟩)|(refine zj rfl rfl (fun b=>?_)))|(with_reducible first|refine zH ?_|refine zB ?_|refine zD ?_|refine zA ?_)))
     refine zJp (by (repeat constructor)) rfl ?_
     (repeat' (first|((with_reducible refine zF ?_);first|refine zE rfl rfl rfl ?_|(refine zK rfl rfl rfl ?_;refine ⟨_,rfl,?_⟩)|(refine zQ rfl rfl rfl rfl rfl (fun h=>?_) (fun h=>?_)<;>(dsimp only [cmpP] at h;(try (exfalso;omega)))))|(with_reducible first|refine zH ?_|refine zB ?_|refine zD ?_|refine zA ?_|refine zT ?_|refine zP ?_|refine zg ?_)|((with_reducible refine zG ?_ ?_);(· exact rfl))))
     exact zEk none (.inl ⟨rfl,rfl⟩) rfl (by (repeat constructor)) s (fun h=>by omega) hW (fun _ h=>h.sub (by (repeat constructor)))
   ·intro h9;simp at h9
   ·intro _ _ bd s hI
    have:=hI rfl
    subst this
    simp only [zCA,zM,List.cons_append,List.nil_append]
    (repeat' (first|((with_reducible refine zF ?_);first|refine zC rfl rfl rfl ?_|(refine zK rfl rfl rfl ?_;refine ⟨_,rfl,?_⟩)|(refine zb rfl rfl rfl rfl rfl ?_;refine ⟨rfl,by first|decide|exact Nat.le_of_ble_eq_true rfl|(simp;omega),_,rfl,?_⟩))|(with_reducible first|refine zH ?_|refine zB ?_|refine zD ?_|refine zA ?_|refine zX ?_|refine zk ?_|refine zR ?_)))
    exact zMm (by (repeat constructor)) (by (exact zi.cons (by exact res1c rfl (by exact rfl)) (zi.cons (by exact zAR.tmp rfl) zi.nil))) () trivial rfl (fun _ h=>h.sub (by (repeat constructor)))
  ·rw [if_neg hin]
   unfold vSp
   unfold zM at h2 ⊢
   (refine zJ (n:=54) Tryz.func23 rfl rfl rfl ?_)
   (repeat' (first|((with_reducible refine zF ?_);first|refine zE rfl rfl rfl ?_|refine zC rfl rfl rfl ?_|(refine zK rfl rfl rfl ?_;refine ⟨_,rfl,?_⟩)|refine za rfl rfl rfl ?_|refine zAB rfl rfl rfl rfl ?_|refine zd rfl rfl rfl ?_|(refine zQ rfl rfl rfl rfl rfl (fun h=>?_) (fun h=>?_)<;>(dsimp only [cmpP] at h;(try (exfalso;omega))))|(refine zAQ rfl rfl rfl rfl (fun _ _ q=>h2 _ q.below) ?_;rintro g -;dsimp only [List.cons_append,List.nil_append])|(refine zAI rfl rfl rfl rfl (fun _ _ q=>iin1 _ _ _ _ _ _ (zAY (enc:=encI) (by exact rfl) _ q.below q.own)) (fun h=>?_) (fun h=>?_)<;>(try (exfalso;omega)))|refine zc rfl rfl rfl rfl ?_|refine zAN rfl rfl rfl ?_|refine zCC rfl rfl rfl rfl (IntWalk.i64_in _ (by omega)) ?_|refine zo rfl rfl rfl ?_|(refine zb rfl rfl rfl rfl rfl ?_;refine ⟨rfl,by first|decide|exact Nat.le_of_ble_eq_true rfl|(simp;omega),_,rfl,?_⟩)|(refine zj rfl rfl (fun b=>?_))|(refine zu rfl rfl rfl rfl (fun b=>?_))|(refine zAl rfl rfl rfl ?_;refine ⟨_,rfl,?_⟩)|(refine zY rfl rfl rfl ?_;refine ⟨rfl,_,rfl,fun b=>?_⟩))|(with_reducible first|refine zH ?_|refine zB ?_|refine zD ?_|refine zA ?_|refine zX ?_|refine zT ?_|refine zZ ?_)|((with_reducible refine zI ?_ ?_);(· exact rfl))|((with_reducible refine zG ?_ ?_);(· exact rfl))))
   all_goals first|exact zS (by (exact zi.cons (by exact res1c rfl (by exact rfl)) (zi.cons (by exact zAR.tmp rfl) zi.nil))) () trivial rfl (fun _ h=>h.sub (by (repeat constructor)))|(exfalso;exact hin ⟨by assumption,by assumption⟩)
 ·rw [if_neg h0]
  unfold vSp
  unfold zM at h1 ⊢
  generalize zBs c pl=e at *
  (refine zJ (n:=54) Tryz.func23 rfl rfl rfl ?_)
  (repeat' (first|((with_reducible refine zF ?_);first|refine zE rfl rfl rfl ?_|refine zC rfl rfl rfl ?_|(refine zK rfl rfl rfl ?_;refine ⟨_,rfl,?_⟩)|(refine zQ rfl rfl rfl rfl rfl (fun h=>?_) (fun h=>?_)<;>(dsimp only [cmpP] at h;(try (exfalso;omega))))|refine zV rfl rfl rfl rfl (fun _ _ q=>h1 _ q.below h0) ?_|refine zc rfl rfl rfl rfl ?_|(refine zb rfl rfl rfl rfl rfl ?_;refine ⟨rfl,by first|decide|exact Nat.le_of_ble_eq_true rfl|(simp;omega),_,rfl,?_⟩)|(refine zj rfl rfl (fun b=>?_))|(refine zu rfl rfl rfl rfl (fun b=>?_))|(refine zAl rfl rfl rfl ?_;refine ⟨_,rfl,?_⟩))|(with_reducible first|refine zH ?_|refine zB ?_|refine zD ?_|refine zA ?_|refine zX ?_|refine zZ ?_)|((with_reducible refine zI ?_ ?_);(· exact rfl))))
  all_goals exact zS (by (exact zi.cons (by exact res1c rfl (by exact rfl)) (zi.cons (by exact zAR.tmp rfl) zi.nil))) () trivial rfl (fun _ h=>h.sub (by (repeat constructor)))
end Go.Proofs.YtdigopgncfhiaaaGreatDoor
namespace Go.Proofs.YtdigopgncfhiaaaGreatDoor
open Go.Shelf
set_option maxRecDepth 20000
def zLj : Ren where
 f:=fun x=>match x with | 6=>100 | 15=>132 | 14=>131 | 28=>153 | 29=>154 | 20=>145 | 21=>146 | 22=>147 | 23=>148 | 24=>149 | 25=>150 | 26=>151 | 27=>152 | 46=>157 | 47=>158 | 48=>159 | 49=>160 | 50=>161 | 57=>162|n=>n
 t:=fun x=>match x with | 22=>36 | 24=>75 | 25=>162 | 3=>3 | 39=>126 | 0=>0 | 53=>80 | 55=>179 | 4=>4 | 46=>222 | 45=>221 | 50=>169 | 5=>5 | 9=>9 | 66=>229 | 70=>233 | 76=>235 | 77=>236|n=>n
 g:=fun n=>n
theorem sortPr : SlLaysF0.n6 Tryz.prog zLj where
 mixed:=by kernel_rfl
 f6:=⟨Tryz.f100.name,by decide,Tryz.func100.trans (congrArg some (by kernel_rfl))⟩
 f14:=⟨Tryz.f131.name,by decide,Tryz.func131.trans (congrArg some (by kernel_rfl))⟩
 f15:=Tryz.func132.trans (congrArg some (by kernel_rfl))
 f20:=⟨Tryz.f145.name,by decide,Tryz.func145.trans (congrArg some (by kernel_rfl))⟩
 f21:=⟨Tryz.f146.name,by decide,Tryz.func146.trans (congrArg some (by kernel_rfl))⟩
 f22:=⟨Tryz.f147.name,by decide,Tryz.func147.trans (congrArg some (by kernel_rfl))⟩
 f23:=⟨Tryz.f148.name,by decide,Tryz.func148.trans (congrArg some (by kernel_rfl))⟩
 f24:=⟨Tryz.f149.name,by decide,Tryz.func149.trans (congrArg some (by kernel_rfl))⟩
 f25:=⟨Tryz.f150.name,by decide,Tryz.func150.trans (congrArg some (by kernel_rfl))⟩
 f26:=⟨Tryz.f151.name,by decide,Tryz.func151.trans (congrArg some (by kernel_rfl))⟩
 f27:=⟨Tryz.f152.name,by decide,Tryz.func152.trans (congrArg some (by kernel_rfl))⟩
 f28:=Tryz.func153.trans (congrArg some (by kernel_rfl))
 f29:=Tryz.func154.trans (congrArg some (by kernel_rfl))
 f46:=⟨Tryz.f157.name,by decide,Tryz.func157.trans (congrArg some (by kernel_rfl))⟩
 f47:=Tryz.func158.trans (congrArg some (by kernel_rfl))
 f48:=Tryz.func159.trans (congrArg some (by kernel_rfl))
 f49:=⟨Tryz.f160.name,by decide,Tryz.func160.trans (congrArg some (by kernel_rfl))⟩
 f50:=⟨Tryz.f161.name,by decide,Tryz.func161.trans (congrArg some (by kernel_rfl))⟩
 f57:=⟨Tryz.f162.name,by decide,Tryz.func162.trans (congrArg some (by kernel_rfl))⟩
 t0:=Tryz.underlying0
 a0:=Tryz.isAgg0
 z0:=Tryz.sizeOf0
 v0:=Tryz.zeroValue0
 t3:=Tryz.underlying3
 a3:=Tryz.isAgg3
 z3:=Tryz.sizeOf3
 v3:=Tryz.zeroValue3
 t4:=Tryz.underlying4
 a4:=Tryz.isAgg4
 z4:=Tryz.sizeOf4
 v4:=Tryz.zeroValue4
 t5:=Tryz.underlying5
 a5:=Tryz.isAgg5
 z5:=Tryz.sizeOf5
 v5:=Tryz.zeroValue5
 t9:=Tryz.underlying9
 a9:=Tryz.isAgg9
 z9:=Tryz.sizeOf9
 v9:=Tryz.zeroValue9
 t22:=Tryz.underlying36
 a22:=Tryz.isAgg36
 z22:=Tryz.sizeOf36
 v22:=Tryz.zeroValue36
 t25:=Tryz.underlying162
 a25:=Tryz.isAgg162
 z25:=Tryz.sizeOf162
 v25:=Tryz.zeroValue162
 t39:=Tryz.underlying126
 a39:=Tryz.isAgg126
 z39:=Tryz.sizeOf126
 v39:=Tryz.zeroValue126
 t45:=Tryz.underlying221
 a45:=Tryz.isAgg221
 z45:=Tryz.sizeOf221
 v45:=Tryz.zeroValue221
 t46:=Tryz.underlying222
 a46:=Tryz.isAgg222
 z46:=Tryz.sizeOf222
 v46:=Tryz.zeroValue222
 t50:=Tryz.underlying169
 a50:=Tryz.isAgg169
 z50:=Tryz.sizeOf169
 v50:=Tryz.zeroValue169
 t53:=Tryz.underlying80
 a53:=Tryz.isAgg80
 z53:=Tryz.sizeOf80
 v53:=Tryz.zeroValue80
 t55:=Tryz.underlying179
 a55:=Tryz.isAgg179
 z55:=Tryz.sizeOf179
 v55:=Tryz.zeroValue179
 t66:=Tryz.underlying229
 a66:=Tryz.isAgg229
 z66:=Tryz.sizeOf229
 v66:=Tryz.zeroValue229
 t70:=Tryz.underlying233
 a70:=Tryz.isAgg233
 z70:=Tryz.sizeOf233
 v70:=Tryz.zeroValue233
 t76:=Tryz.underlying235
 a76:=Tryz.isAgg235
 z76:=Tryz.sizeOf235
 v76:=Tryz.zeroValue235
 t77:=Tryz.underlying236
 a77:=Tryz.isAgg236
 z77:=Tryz.sizeOf236
 v77:=Tryz.zeroValue236
def zMa : Ren where
 f:=fun x=>match x with | 5=>115 | 7=>138|n=>n
 t:=fun x=>match x with | 22=>3 | 3=>3 | 4=>4|n=>n
 g:=fun n=>n
theorem cmpInt : SlLaysC2.n5 Tryz.prog zMa where
 mixed:=by kernel_rfl
 f5:=⟨Tryz.f115.name,by decide,Tryz.func115.trans (congrArg some (by kernel_rfl))⟩
 f7:=⟨Tryz.f138.name,by decide,Tryz.func138.trans (congrArg some (by kernel_rfl))⟩
 t3:=Tryz.underlying3
 a3:=Tryz.isAgg3
 z3:=Tryz.sizeOf3
 v3:=Tryz.zeroValue3
 t4:=Tryz.underlying4
 a4:=Tryz.isAgg4
 z4:=Tryz.sizeOf4
 v4:=Tryz.zeroValue4
 t22:=Tryz.underlying3
 a22:=Tryz.isAgg3
 z22:=Tryz.sizeOf3
 v22:=Tryz.zeroValue3
end Go.Proofs.YtdigopgncfhiaaaGreatDoor
namespace Go.Proofs.YtdigopgncfhiaaaGreatDoor
open Go.RowKit Go.Lib Go.Sort Go.Shelf
set_option maxRecDepth 20000
def cf2 (a b c d:Int):Int:=if Lib.compareInt a c≠0 then Lib.compareInt a c else Lib.compareInt b d
set_option maxHeartbeats 2000000 in
theorem zKK (b1 b2:Nat) (a b c d:Int) (W:World) (h1:W.cell? ⟨b1,0,none⟩=some (.int .i64 a)) (h2:W.cell? ⟨b1,1,none⟩=some (.int .i64 b)) (h3:W.cell? ⟨b2,0,none⟩=some (.int .i64 c)) (h4:W.cell? ⟨b2,1,none⟩=some (.int .i64 d)) :
  Calls Tryz.prog 74 #[.slice (some ⟨b1,0,none⟩) 2 2,.slice (some ⟨b2,0,none⟩) 2 2] W fun e w'=>e = .returned (.int .i64 (cf2 a b c d))∧w'=W:=by
 have hcon:=fun x y W'=>AnyG.cmp_Compare_int cmpInt x y W'
 change ∀ x y W',Calls Tryz.prog 115 _ _ _ at hcon
 unfold cf2
 generalize hr1:Lib.compareInt a c=r1
 have k1:=hcon a c W
 have k2:=hcon b d W
 rw [hr1] at k1
 generalize Lib.compareInt b d=r2 at *
 clear hcon hr1
 go_enter Tryz.func74,Tryz.ntmps74
 go_wp2
 go_loopw [11] (fun v wr=>∃ i:Nat,i≤2∧v = .int .i64 i∧wr=W∧Hid (0<i→r1=0)∧Hid (1<i→r2=0)) (fun v _=>2 - (intOf v).toNat)
 case atStart=>exact ⟨0,Nat.zero_le _,rfl,rfl,fun h=>absurd h (by omega),fun h=>absurd h (by omega)⟩
 case round =>
  obtain ⟨i,hi,rfl,rfl,hF,hF2⟩:=hrel
  by_cases h0:i=0
  ·subst h0
   by_cases hr:r1=0
   ·have HR:=Lib.hid hr
    subst hr
    go_wp2_with (go_at_call 115;refine k1.mono ?_;rintro e w' ⟨rfl,rfl⟩)
    exact ⟨⟨1,by omega,rfl,trivial,fun _=>trivial,fun h=>absurd h (by omega)⟩,by simp [intOf]⟩
   ·have HR:=Lib.hid hr
    go_wp2_with (go_at_call 115;refine k1.mono ?_;rintro e w' ⟨rfl,rfl⟩)
    go_ret
    exact ⟨by simp [HR.out],rfl⟩
  ·by_cases h1:i=1
   ·subst h1
    have hr1:=hF.out (by omega)
    subst hr1
    by_cases hr:r2=0
    ·have HR:=Lib.hid hr
     subst hr
     go_wp2_with (go_at_call 115;refine k2.mono ?_;rintro e w' ⟨rfl,rfl⟩)
     exact ⟨⟨2,by omega,rfl,trivial,fun _=>trivial,fun _=>trivial⟩,by simp [intOf]⟩
    ·have HR:=Lib.hid hr
     go_wp2_with (go_at_call 115;refine k2.mono ?_;rintro e w' ⟨rfl,rfl⟩)
     go_ret
     exact ⟨by simp,rfl⟩
   ·obtain rfl:i=2:=by omega
    have hr1:=hF.out (by omega)
    have hr2:=hF2.out (by omega)
    subst hr1 hr2
    go_wp2
    go_ret
    exact ⟨by simp,rfl⟩
theorem zG4 (d:Nat) (a b c e:Int) (w:World):(Op.equalIn (d+2) 75 (.agg #[.int .i64 a,.int .i64 b]) (.agg #[.int .i64 c,.int .i64 e])).run Tryz.prog w = .ok (decide (a=c) && decide (b=e)) w:=by
 have hs:∀ w,(Go.sizeOf 3).run Tryz.prog w = .ok 1 w:=Tryz.sizeOf3
 have ha:∀ w,(Go.isAgg 3).run Tryz.prog w = .ok false w:=Tryz.isAgg3
 have e2:∀ (x y:Int) w,(Op.equalIn (d+1) 3 (.int .i64 x) (.int .i64 y)).run Tryz.prog w = .ok (x == y) w:=fun x y w=>run_equalIn_int w d _ .i64 .i64 _ _ Tryz.underlying3
 rw [Op.equalIn]
 simp only [Sem.run_bind,run_underlying Tryz.underlying75,Result.andThen_ok,hs,Std.Legacy.Range.forIn_eq_forIn_range',Std.Legacy.Range.size,Nat.sub_zero,Nat.add_sub_cancel,Nat.div_one]
 simp only [List.range',List.forIn_cons,List.forIn_nil,Sem.run_bind,part,ha,Result.andThen_ok]
 by_cases h1:a=c<;>by_cases h2:b=e<;>simp [go_sem,h1,h2,e2]
def zGv (p q:Int × Int):Int:=if p=q then 0 else cf2 p.1 p.2 q.1 q.2
set_option maxHeartbeats 2000000 in
theorem zNP (p q:Int × Int) (W:World):Calls Tryz.prog 101 #[.agg #[.int .i64 p.1,.int .i64 p.2],.agg #[.int .i64 q.1,.int .i64 q.2]] W fun e w'=>e = .returned (.int .i64 (zGv p q))∧∃ n os',w'=grow (W.drewN n) os':=by
 obtain ⟨a,b⟩:=p
 obtain ⟨c,d⟩:=q
 have hcon:=fun b1 b2 W h1 h2 h3 h4=>zKK b1 b2 a b c d W h1 h2 h3 h4
 have heq:=fun w=>zG4 9998 a b c d w
 unfold zGv
 generalize hcf:cf2 a b c d=cf at *
 by_cases he:(a,b)=(c,d)
 ·rw [if_pos he]
  rw [show (decide (a=c) && decide (b=d))=true from by cases he;simp] at heq
  clear he hcon
  dsimp only
  go_enter Tryz.func101,Tryz.ntmps101
  go_wp2
  go_ret
  exact ⟨rfl,0,_,by rw [alloc_eq_grow,alloc_eq_grow,grow_grow];rfl⟩
 ·rw [if_neg he]
  rw [show (decide (a=c) && decide (b=d))=false from by simp only [Prod.mk.injEq] at he;simp;omega] at heq
  clear he
  dsimp only
  go_enter Tryz.func101,Tryz.ntmps101
  go_wp2_with fail
  go_quiet (first|(go_at_call 74;exact Calls.quiet_of_same (hcon _ _ _ (by simp [go_sem]) (by simp [go_sem]) (by simp [go_sem]) (by simp [go_sem]))))
  go_wp2
  go_ret
  exact ⟨rfl,nq,_,by rw [alloc_eq_grow,alloc_eq_grow,grow_grow];rfl⟩
theorem zK5 (p q:Int × Int):ltOf zGv p q=true↔(p.1<q.1∨(p.1=q.1∧p.2<q.2)):=by
 obtain ⟨a,b⟩:=p
 obtain ⟨c,d⟩:=q
 unfold ltOf zGv cf2 Lib.compareInt
 simp only [decide_eq_true_eq,Prod.mk.injEq]
 (repeat' split)<;>omega
theorem zFC (p q:Int × Int):ltOf zGv p q=false↔¬ (p.1<q.1∨(p.1=q.1∧p.2<q.2)):=by
 rw [← zK5,Bool.not_eq_true]
theorem swoPr : SWO (ltOf zGv) where
 irrefl x:=by rw [zFC];omega
 trans x y z h1 h2:=by rw [zK5] at *;omega
 ntrans x y z h1 h2:=by rw [zFC] at *;omega
theorem totPr (x y:Int × Int) (h1:ltOf zGv x y=false) (h2:ltOf zGv y x=false):x=y:=by
 rw [zFC] at h1 h2
 obtain ⟨a,b⟩:=x
 obtain ⟨c,d⟩:=y
 simp only at h1 h2
 simp only [Prod.mk.injEq];omega
def zAW (p:Int × Int):List Value:=[.int .i64 p.1,.int .i64 p.2]
instance : zBw zAW 2:=⟨fun _=>rfl,fun p v hv=>by simp [zAW] at hv;rcases hv with rfl|rfl<;>rfl⟩
def zDt (l:List (Int × Int)):List (Int × Int):=l.mergeSort fun x y=>!(ltOf zGv) y x
theorem zGb (l:List (Int × Int)):(zDt l).length=l.length:=by simp [zDt]
theorem cmpPr (g off size:Nat) (w:World):CmpLays Tryz.prog 101 #[] zAW 2 zGv g off size w:=fun _ _ _ _ x y=>zNP x y _
theorem zHL {n g b:Nat} {d:Array (Int × Int)} {os:Array Obj} {w:World} (hb:b<w.heap.size) (hne:b≠g):(sortWorldK zAW 2 w g 0 n d os).heap[b]?=w.heap[b]?:=by
 unfold sortWorldK grow putRowK putRow mapBlock Sort.ahead
 simp only
 rw [Array.getElem?_append_left (by simpa using hb),Array.getElem?_modify,if_neg (fun h=>hne h.symm)]
theorem zHq {n g:Nat} {d:Array (Int × Int)} {os:Array Obj} {w:World}:w.heap.size≤(sortWorldK zAW 2 w g 0 n d os).heap.size:=by
 unfold sortWorldK grow putRowK putRow mapBlock Sort.ahead
 simp
theorem zNz {w:World} {g:Nat} {xs:List (Int × Int)} {tl:List Value} (hB:Blk w g (xs.flatMap zAW++tl).toArray):HoldsK zAW 2 w g 0 xs.toArray:=by
 intro j hj
 have hj2:j<xs.length * 2:=by simpa using hj
 have hq:j / 2<xs.length:=by omega
 obtain ⟨z,hz⟩:∃ z,xs[j / 2]?=some z:=⟨_,List.getElem?_eq_getElem hq⟩
 refine ⟨?_,hB.frozen _⟩
 rw [hB.cell,get_flatK _ _ _ _ (by simpa using hj2)]
 have e1:(xs.toArray[j / 2]!)=z:=by
  rw [getElem!_pos _ _ (by simpa using hq)]
  simpa [List.getElem?_eq_getElem hq] using hz
 rw [e1]
 have hm:j % 2<(zAW z).length:=by show j % 2<2;omega
 have h1:=zEY (k:=2) (enc:=zAW) (fun _=>rfl) xs (j / 2) z hz (j % 2) _ (List.getElem?_eq_getElem hm)
 rw [show j / 2 * 2+j % 2=j by omega] at h1
 rw [getElem!_pos (zAW z) (j % 2) hm]
 simp only [Nat.zero_add,List.getElem?_toArray]
 rw [List.getElem?_append_left (List.getElem?_eq_some_iff.1 h1).1]
 exact h1
theorem zJv {w:World} {g:Nat} {ys:List (Int × Int)} (hg:g<w.heap.size) (h:HoldsK zAW 2 w g 0 ys.toArray):zq zAW 2 w (some ⟨g,0,none⟩) ys:=by
 intro i x hx
 have hi:=(List.getElem?_eq_some_iff.1 hx).1
 refine ⟨g,0,rfl,hg,fun j v hv=>?_⟩
 have hj:j<2:=(List.getElem?_eq_some_iff.1 hv).1
 have h1:=(h (i * 2+j) (by simp;omega)).1
 rw [get_flatK _ _ _ _ (by simp;omega),show (i * 2+j) / 2=i by omega,show (i * 2+j) % 2=j by omega] at h1
 have e1:(ys.toArray[i]!)=x:=by
  rw [getElem!_pos _ _ (by simpa using hi)]
  simpa [List.getElem?_eq_getElem hi] using hx
 rw [e1,getElem!_pos (zAW x) j (show j<(zAW x).length from hj)] at h1
 rw [show 0+i * 2+j=0+(i * 2+j) by omega,h1,← hv,List.getElem?_eq_getElem (show j<(zAW x).length from hj)]
 rfl
set_option maxHeartbeats 1000000 in
theorem zNo (xs:List (Int × Int)) (v:Value) (e:TypeId) (base:Nat) (w:World) (hl:xs.length≤1000000) (ho:Own base w [.row zAW 2 e v xs]) :
  zFN Tryz.prog 100 [v,.func (.func 101) #[] #[]] w [.row zAW 2 e v xs] (fun _:Option Addr × Nat=>.tuple #[]) (fun p=>[.sl zAW 2 p.1 (zDt xs)]) (fun p=>v = .slice p.1 xs.length p.2):=by
 obtain ⟨h1,h2⟩:=(ho.here (.row zAW 2 e v xs) (by simp):Row zAW 2 e 0 w v xs)
 have hf:=ho.foot (.row zAW 2 e v xs) (by simp)
 have hf:=fun b hb=>(hf b hb).2
 by_cases hx:xs.length=0
 ·obtain ⟨A,c,rfl,hA⟩:∃ A c,v = .slice A 0 c∧(∀ g,A=some ⟨g,0,none⟩→g<w.heap.size):=by
   rcases h2 with ⟨rfl,_⟩ | ⟨g,cap,cur,rfl,_,hg,_⟩
   ·exact ⟨none,0,rfl,fun g h=>by cases h⟩
   ·rw [hx];exact ⟨_,_,rfl,fun g' h=>by cases h;exact (Array.getElem?_eq_some_iff.1 hg).1⟩
  have hxs:xs=[]:=List.length_eq_zero_iff.1 hx
  subst hxs
  refine zFN.of ((AnyF.slices_SortFunc_none sortPr A c (.func (.func 101) #[] #[]) w).mono ?_)
  rintro e' w' ⟨rfl,rfl⟩
  refine ⟨(A,c),rfl,rfl,⟨rfl,rfl,rfl,Nat.le_refl _⟩,fun b _ _=>rfl,⟨fun f hf'=>?_,fun f hf' b hb=>?_,by simp⟩,fun b hb=>?_⟩
  ·simp only [List.mem_singleton] at hf';subst hf'
   intro i x hx';simp [zDt] at hx'
  ·simp only [List.mem_singleton] at hf';subst hf'
   obtain ⟨o,hb⟩:=hb
   exact ⟨Nat.zero_le _,by
    rcases h2 with ⟨h,_⟩ | ⟨g,cap,cur,h,_,hg,_⟩
    ·cases h;cases hb
    ·cases h;cases hb;exact (Array.getElem?_eq_some_iff.1 hg).1⟩
  ·obtain ⟨f,hf',hb⟩:=hb
   simp only [List.mem_singleton] at hf';subst hf'
   obtain ⟨o,hb⟩:=hb
   refine .inl ⟨_,List.mem_singleton.2 rfl,?_⟩
   rcases h2 with ⟨h,_⟩ | ⟨g,cap,cur,h,_,hg,_⟩
   ·cases h;cases hb
   ·cases h;cases hb;rfl
 ·rcases h2 with ⟨_,h⟩ | ⟨g,cap,cur,rfl,_,hg,hle,hcap,hsz,htk⟩
  ·exact absurd h hx
  ·have hB:Blk w g (xs.flatMap zAW++cur.toList.drop (xs.length * 2)).toArray:=by
    unfold Blk
    refine ⟨e,?_⟩
    rw [hg,← htk,List.take_append_drop]
   have hH:=zNz hB
   have hlt:=hB.lt
   have hcon:=AnyQ.slices_SortFunc_total sortPr 2 Tryz.isAgg75 Tryz.sizeOf75 zAW (fun _=>rfl) (fun x v hv=>by simp [zAW] at hv;rcases hv with rfl|rfl<;>rfl) zGv swoPr 101 #[] g 0 cap xs.toArray w (enters_of Tryz.func101 (by kernel_rfl) rfl) (cmpPr g 0 _ w) hH hlt (by simp;omega) totPr
   refine zFN.of (Calls.mono hcon ?_)
   rintro e' w' ⟨rfl,n,os,rfl⟩
   have hE:(xs.toArray.toList.mergeSort fun x y=>!(ltOf zGv) y x)=zDt xs:=rfl
   rw [hE]
   have hk:HoldsK zAW 2 (sortWorldK zAW 2 w g 0 n (zDt xs).toArray os) g 0 (zDt xs).toArray:=by
    unfold sortWorldK
    have h9:=holdsK_putRowK zAW 2 (Sort.ahead w n) g 0 xs.toArray (zDt xs).toArray (holdsK_ahead zAW 2 w n g 0 _ hH) (by simp [zGb])
    exact holdsK_grow zAW 2 _ os g 0 _ (by unfold putRowK putRow mapBlock Sort.ahead;simpa using hlt) h9
   have hsz2:=zHq (n:=n) (g:=g) (d:=(zDt xs).toArray) (os:=os) (w:=w)
   refine ⟨(some ⟨g,0,none⟩,cap),rfl,rfl,⟨rfl,rfl,rfl,hsz2⟩,fun b hb hne=>zHL hb (fun h=>hne ?_),⟨fun f hf'=>?_,fun f hf' b hb=>?_,by simp⟩,fun b hb=>?_⟩
   ·exact ⟨_,List.mem_singleton.2 rfl,by subst h;rfl⟩
   ·simp only [List.mem_singleton] at hf';subst hf'
    exact zJv (by omega) hk
   ·simp only [List.mem_singleton] at hf';subst hf'
    obtain ⟨o,hb⟩:=hb
    cases hb
    exact ⟨Nat.zero_le _,by omega⟩
   ·obtain ⟨f,hf',hb⟩:=hb
    simp only [List.mem_singleton] at hf';subst hf'
    obtain ⟨o,hb⟩:=hb
    cases hb
    exact .inl ⟨_,List.mem_singleton.2 rfl,rfl⟩
end Go.Proofs.YtdigopgncfhiaaaGreatDoor
namespace Go.Proofs.YtdigopgncfhiaaaGreatDoor
open Go.RowKit Go.Sort
def zC2 (c:Cov) (u:Hour):Int:=if 0<u.runs then c.limit else c.base
def zCc (t l:Sp):Int:=t.lo - l.hi
def zLZ (t l:Sp):Int:=t.hi - l.lo
def Mild (t l:Sp):Prop:=(0≤t.lo∧t.lo≤4000∧0≤t.hi∧t.hi≤4000)∧0≤l.lo∧l.lo≤1650∧0≤l.hi∧l.hi≤1650
def zCF (c:Cov) (pl:List Sli) (en:Sp→Sp→Int) (z:Bed) (i h:Nat):Bool:=decide (en (thickN c pl z i h) (zBh c z (c.hours.getD h default))<zC2 c (c.hours.getD h default))
def zEf (c:Cov) (pl:List Sli) (en:Sp→Sp→Int) (z:Bed) (i k:Nat):List (Int × Int):=((List.range k).filter (zCF c pl en z i)).map fun (h:Nat)=>((h:Int),(i:Int))
theorem zLi {c:Cov} {pl:List Sli} {en:Sp→Sp→Int} {z:Bed} {i k:Nat}:zEf c pl en z i (k+1)=zEf c pl en z i k++(if zCF c pl en z i k then [((k:Int),(i:Int))] else []):=by
 unfold zEf
 rw [List.range_succ,List.filter_append,List.map_append]
 congr 1
 by_cases h:zCF c pl en z i k=true
 ·simp [h]
 ·simp [h]
theorem zIy {c:Cov} {pl:List Sli} {en:Sp→Sp→Int} {z:Bed} {i k:Nat}:(zEf c pl en z i k).length≤k:=by
 unfold zEf
 rw [List.length_map]
 exact Nat.le_trans (List.length_filter_le _ _) (by simp)
def zCT (c:Cov) (pl:List Sli) (en:Sp→Sp→Int) (m:Nat):List (Int × Int):=(List.range m).flatMap fun i=>zEf c pl en (c.beds.getD i default) i c.hours.length
theorem zHi {c:Cov} {pl:List Sli} {en:Sp→Sp→Int} {m:Nat} {z:Bed} (hz:c.beds[m]?=some z):zCT c pl en (m+1)=zCT c pl en m++zEf c pl en z m c.hours.length:=by
 unfold zCT
 rw [List.range_succ,List.flatMap_append]
 simp only [List.flatMap_cons,List.flatMap_nil,List.append_nil,zBB hz]
theorem zE3 {c:Cov} {pl:List Sli} {en:Sp→Sp→Int}:∀ {m:Nat},m≤c.beds.length→(zCT c pl en m).length≤m * c.hours.length
 | 0,_=>by simp [zCT]
 | m+1,h=>by
  obtain ⟨z,hz⟩:∃ z,c.beds[m]?=some z:=⟨_,List.getElem?_eq_getElem (by omega)⟩
  rw [zHi hz,List.length_append,Nat.succ_mul]
  have:=zE3 (c:=c) (pl:=pl) (en:=en) (m:=m) (by omega)
  have:=zIy (c:=c) (pl:=pl) (en:=en) (z:=z) (i:=m) (k:=c.hours.length)
  omega
def zCL (c:Cov) (pl:List Sli) (en:Sp→Sp→Int):List (Int × Int):=(List.range c.hours.length).flatMap fun h=>((List.range c.beds.length).filter fun i=>zCF c pl en (c.beds.getD i default) i h).map fun (i:Nat)=>((h:Int),(i:Int))
def PrLt (p q:Int × Int):Prop:=p.1<q.1∨(p.1=q.1∧p.2<q.2)
theorem zI1 : ∀ {l m:List (Int × Int)},l.Pairwise PrLt→m.Pairwise PrLt→(∀ x,x∈l↔x∈m)→l=m
 | [],[],_,_,_=>rfl
 | [],b::m,_,_,h=>by have:=(h b).2 (by simp);simp at this
 | a::l,[],_,_,h=>by have:=(h a).1 (by simp);simp at this
 | a::l,b::m,h1,h2,h=>by
  obtain ⟨a1,a2⟩:=List.pairwise_cons.1 h1
  obtain ⟨b1,b2⟩:=List.pairwise_cons.1 h2
  have e:a=b:=by
   rcases List.mem_cons.1 ((h a).1 (by simp)) with e|e
   ·exact e
   ·rcases List.mem_cons.1 ((h b).2 (by simp)) with f|f
    ·exact f.symm
    ·have k1:=b1 a e;have k2:=a1 b f
     simp only [PrLt] at k1 k2;omega
  subst e
  rw [zI1 a2 b2 (fun x=>?_)]
  constructor
  ·intro hx
   rcases List.mem_cons.1 ((h x).1 (List.mem_cons_of_mem _ hx)) with e|e
   ·subst e;have:=a1 x hx;simp only [PrLt] at this;omega
   ·exact e
  ·intro hx
   rcases List.mem_cons.1 ((h x).2 (List.mem_cons_of_mem _ hx)) with e|e
   ·subst e;have:=b1 x hx;simp only [PrLt] at this;omega
   ·exact e
section
variable {c : Cov} {pl:List Sli} {en:Sp→Sp→Int}
theorem zGn {z:Bed} {i k:Nat} {p:Int × Int}:p∈zEf c pl en z i k↔∃ h,h<k∧zCF c pl en z i h=true∧p=((h:Int),(i:Int)):=by
 simp only [zEf,List.mem_map,List.mem_filter,List.mem_range]
 constructor
 ·rintro ⟨h,⟨h1,h2⟩,rfl⟩;exact ⟨h,h1,h2,rfl⟩
 ·rintro ⟨h,h1,h2,rfl⟩;exact ⟨h,⟨h1,h2⟩,rfl⟩
theorem zNj {m:Nat} {p:Int × Int}:p∈zCT c pl en m↔∃ i h,i<m∧h<c.hours.length∧zCF c pl en (c.beds.getD i default) i h=true∧p=((h:Int),(i:Int)):=by
 simp only [zCT,List.mem_flatMap,List.mem_range,zGn]
 constructor
 ·rintro ⟨i,h1,h,h2,h3,h4⟩;exact ⟨i,h,h1,h2,h3,h4⟩
 ·rintro ⟨i,h,h1,h2,h3,h4⟩;exact ⟨i,h1,h,h2,h3,h4⟩
theorem zNi {p:Int × Int}:p∈zCL c pl en↔∃ i h,i<c.beds.length∧h<c.hours.length∧zCF c pl en (c.beds.getD i default) i h=true∧p=((h:Int),(i:Int)):=by
 simp only [zCL,List.mem_flatMap,List.mem_range,List.mem_map,List.mem_filter]
 constructor
 ·rintro ⟨h,h1,i,⟨h2,h3⟩,rfl⟩;exact ⟨i,h,h2,h1,h3,rfl⟩
 ·rintro ⟨i,h,h1,h2,h3,rfl⟩;exact ⟨h,h2,i,⟨h1,h3⟩,rfl⟩
theorem zEg (q:Nat→Bool) (k:Nat):((List.range k).filter q).Pairwise (· < ·):=List.Pairwise.filter _ List.pairwise_lt_range
theorem zJq : (zCL c pl en).Pairwise PrLt:=by
 unfold zCL
 rw [List.pairwise_flatMap]
 refine ⟨fun h _=>?_,?_⟩
 ·rw [List.pairwise_map]
  exact (zEg _ _).imp (fun {a b} hab=>.inr ⟨rfl,by simp only;omega⟩)
 ·refine List.pairwise_lt_range.imp (fun {a b} hab=>?_)
  intro x hx y hy
  simp only [List.mem_map] at hx hy
  obtain ⟨i,_,rfl⟩:=hx
  obtain ⟨j,_,rfl⟩:=hy
  exact .inl (by simp only;omega)
theorem zKT {m:Nat}:(zCT c pl en m).Nodup:=by
 unfold zCT List.Nodup
 rw [List.pairwise_flatMap]
 refine ⟨fun i _=>?_,?_⟩
 ·unfold zEf
  rw [List.pairwise_map]
  exact (zEg _ _).imp (fun {a b} hab=>by simp only [ne_eq,Prod.mk.injEq];omega)
 ·refine List.pairwise_lt_range.imp (fun {a b} hab=>?_)
  intro x hx y hy
  obtain ⟨h,_,_,rfl⟩:=zGn.1 hx
  obtain ⟨h',_,_,rfl⟩:=zGn.1 hy
  simp only [ne_eq,Prod.mk.injEq];omega
theorem zGa : zDt (zCT c pl en c.beds.length)=zCL c pl en:=by
 have hp:(zDt (zCT c pl en c.beds.length)).Perm (zCT c pl en c.beds.length):=List.mergeSort_perm _ _
 have hnd:(zDt (zCT c pl en c.beds.length)).Nodup:=hp.nodup_iff.2 zKT
 have hle:(zDt (zCT c pl en c.beds.length)).Pairwise (fun x y=>(!(ltOf zGv) y x)=true):=List.pairwise_mergeSort (fun a b d h1 h2=>by
  simp only [Bool.not_eq_true',zFC] at h1 h2 ⊢;omega) (fun a b=>by
  rw [Bool.or_eq_true]
  simp only [Bool.not_eq_true',zFC];omega) _
 refine zI1 ?_ zJq (fun x=>?_)
 ·refine (hle.and hnd).imp (fun {a b} h=>?_)
  obtain ⟨h1,h2⟩:=h
  simp only [Bool.not_eq_true',zFC] at h1
  obtain ⟨a1,a2⟩:=a
  obtain ⟨b1,b2⟩:=b
  simp only [ne_eq,Prod.mk.injEq] at h1 h2
  simp only [PrLt];omega
 ·rw [hp.mem_iff,zNj,zNi]
theorem zNO (h4:c.beds.length≤20) (h5:c.hours.length≤12):(zCL c pl en).length≤240:=by
 rw [← zGa,zGb]
 have h9:=zE3 (c:=c) (pl:=pl) (en:=en) (m:=c.beds.length) (Nat.le_refl _)
 have h11:c.beds.length * c.hours.length≤20 * 12:=Nat.mul_le_mul (by omega) (by omega)
 omega
end
end Go.Proofs.YtdigopgncfhiaaaGreatDoor
namespace Go.Proofs.YtdigopgncfhiaaaGreatDoor
variable {ro : Option Nat}
open Go.RowKit
set_option maxRecDepth 20000
section
variable {P : Program} {w0:World} {n:Nat} {d:List Deferred} {R:List (Nat × Value)} {H:List Ent} {o:Oper} {x y:Operand} {v u:Value} {T T':TypeId} {k:IntKind} {i j:Int}
theorem zI4 {s off:Nat} {g:Bool} {td:TypeDesc} {vs:List Value} (i1:TyI P T td s g) (hv:rdv g (vs.drop off) s=some v) (w:World):(Go.part T vs.toArray off).run P w = .ok v w:=by
 unfold Go.part
 simp only [Sem.run_bind,i1.agg,Result.andThen_ok]
 cases g
 ·simp only [rdv,List.getElem?_drop,Nat.add_zero] at hv
  simp [hv]
 ·unfold rdv at hv
  simp only at hv
  cases hb:Nat.ble s (vs.drop off).length with
  | false=>rw [hb] at hv;cases hv
  | true =>
   rw [hb] at hv
   simp only [cond_true,Option.some.injEq] at hv
   simp only [if_true,Sem.run_bind,i1.siz,Result.andThen_ok,Sem.run_pure,← hv]
   congr 2
   rw [List.extract_toArray]
   simp [List.extract_eq_take_drop]
theorem zLQ {e:TypeId} {s s' m I:Nat} {g g':Bool} {td:TypeDesc} {vs:List Value} (hop:o.op = .index T x y) [i1:TyI P T (.array m e) s g] [i2:TyI P e td s' g'] (hx:evR R x=some (.agg vs.toArray)) (hy:evR R y=some (.int k i)) (hI:i=(I:Int)) (hi:I<m) (hv:rdv g' (vs.drop (I * s')) s'=some v):Ev P w0 n d R H o v :=
 (fun a w q=>by
  subst hI
  unfold execOp;rw [hop]
  have e1:=run_underlying i1.und w
  have e2:=i2.siz w
  have e3:=zI4 i2 hv w
  have h0:(0:Int)≤I:=by omega
  have h1:(I:Int)<m:=by omega
  simp [q.ev hx,q.ev hy,Instr.index,asIntOf,e1,e2,hi,e3])
theorem e_fieldV {s s' m:Nat} {fs:Array Field} {f:Field} {g g':Bool} {td:TypeDesc} {vs:List Value} (hop:o.op = .field T x m) [i1:TyI P T (.struct fs) s g] (hx:evR R x=some (.agg vs.toArray)) (hf:fs[m]?=some f) (i2:TyI P f.type td s' g') (hv:rdv g' (vs.drop f.offset) s'=some v):Ev P w0 n d R H o v :=
 (fun a w q=>by
  unfold execOp;rw [hop]
  have e1:=run_underlying i1.und w
  have e3:=zI4 i2 hv w
  simp [q.ev hx,Instr.field,asAgg,e1,hf,e3])
end
def zCP : List Value:=[.func (.func 180) #[] #[],.func (.func 181) #[] #[],.func (.func 182) #[] #[],.func (.func 183) #[] #[]]
theorem lim1_any (u:Hour) (w:World):Gv Tryz.prog 180 [zDq u] w (.bool true):=by
 unfold Gv zDq
 (refine zJ (n:=3) Tryz.func180 rfl rfl rfl ?_)
 (repeat' (first|((with_reducible refine zF ?_);first|refine zC rfl rfl rfl ?_|(refine zu rfl rfl rfl rfl (fun b=>?_)))|(with_reducible first|refine zH ?_|refine zB ?_|refine zD ?_|refine zA ?_|refine zX ?_)))
 all_goals exact zS (by exact rTm rfl) () trivial rfl (fun _ h=>h.sub (by (repeat constructor)))
theorem lim3_any (u:Hour) (w:World):Gv Tryz.prog 182 [zDq u] w (.bool (decide (0<u.runs))):=by
 unfold Gv zDq
 (refine zJ (n:=6) Tryz.func182 rfl rfl rfl ?_)
 (repeat' (first|((with_reducible refine zF ?_);first|refine zC rfl rfl rfl ?_|(refine zK rfl rfl rfl ?_;refine ⟨_,rfl,?_⟩)|refine za rfl rfl rfl ?_|(refine zQ rfl rfl rfl rfl rfl (fun h=>?_) (fun h=>?_)<;>(dsimp only [cmpP] at h;(try (exfalso;omega))))|(refine zu rfl rfl rfl rfl (fun b=>?_)))|(with_reducible first|refine zH ?_|refine zB ?_|refine zD ?_|refine zA ?_|refine zX ?_)))
 all_goals exact zS (by exact rTm rfl) () trivial (by simp [resV];omega) (fun _ h=>h.sub (by (repeat constructor)))
theorem lim2_any (c:Cov) (A:Option Addr) (ca:Nat) (B:Option Addr) (cb:Nat) (C:Option Addr) (cc:Nat) (w:World):Gv Tryz.prog 181 [zAH c A ca B cb C cc] w (.int .i64 c.base):=by
 unfold Gv zAH zM
 (refine zJ (n:=5) Tryz.func181 rfl rfl rfl ?_)
 (repeat' (first|((with_reducible refine zF ?_);first|refine zC rfl rfl rfl ?_|(refine zK rfl rfl rfl ?_;refine ⟨_,rfl,?_⟩)|refine za rfl rfl rfl ?_|(refine zu rfl rfl rfl rfl (fun b=>?_)))|(with_reducible first|refine zH ?_|refine zB ?_|refine zD ?_|refine zA ?_|refine zX ?_)))
 all_goals exact zS (by exact rTm rfl) () trivial rfl (fun _ h=>h.sub (by (repeat constructor)))
theorem lim4_any (c:Cov) (A:Option Addr) (ca:Nat) (B:Option Addr) (cb:Nat) (C:Option Addr) (cc:Nat) (w:World):Gv Tryz.prog 183 [zAH c A ca B cb C cc] w (.int .i64 c.limit):=by
 unfold Gv zAH zM
 (refine zJ (n:=5) Tryz.func183 rfl rfl rfl ?_)
 (repeat' (first|((with_reducible refine zF ?_);first|refine zC rfl rfl rfl ?_|(refine zK rfl rfl rfl ?_;refine ⟨_,rfl,?_⟩)|refine za rfl rfl rfl ?_|(refine zu rfl rfl rfl rfl (fun b=>?_)))|(with_reducible first|refine zH ?_|refine zB ?_|refine zD ?_|refine zA ?_|refine zX ?_)))
 all_goals exact zS (by exact rTm rfl) () trivial rfl (fun _ h=>h.sub (by (repeat constructor)))
set_option maxHeartbeats 1000000 in
theorem zIp (a b:Int) (A:Option Addr) (c:Nat) (w:World) (h:zq encI 1 w A [b]):Gv Tryz.prog 130 [.int .i64 a,.slice A 1 c] w (.int .i64 (max a b)):=by
 obtain ⟨bb,o,rfl,hblt,hc⟩:=h.at_ (i:=0) (by simp)
 have:InS w bb o encI 1 [b]:=⟨h⟩
 have:zAT [b] 0 b:=⟨rfl⟩
 unfold Gv
 (refine zJ (n:=18) Tryz.func130 rfl rfl rfl ?_)
 (repeat' (first|((with_reducible refine zF ?_);first|refine zE rfl rfl rfl ?_|refine zC rfl rfl rfl ?_|refine zo rfl rfl rfl ?_)|(with_reducible first|refine zH ?_|refine zB ?_|refine zD ?_|refine zA ?_|refine zP ?_)))
 refine zw (ι:=Nat) [7,8] rfl (fun i=>i≤1) (fun i=>[(9,.int .i64 (i:Int)),(0,.int .i64 (if i=0 then a else max a b))]) (fun _=>[]) (fun i=>1 - i) 0 (by omega) (by (repeat first|exact lK1|refine zL rfl ?_)) (by (repeat constructor)) ?_
 rintro i hi
 simp only [zAt,List.cons_append,List.nil_append]
 by_cases h0:i=0
 ·subst h0
  simp only [if_true]
  (repeat' (first|((with_reducible refine zF ?_);first|refine zE rfl rfl rfl ?_|refine zC rfl rfl rfl ?_|(refine zK rfl rfl rfl ?_;refine ⟨_,rfl,?_⟩)|(refine zQ rfl rfl rfl rfl rfl (fun h=>?_) (fun h=>?_)<;>(dsimp only [cmpP] at h;(try (exfalso;omega))))|refine zh rfl rfl rfl rfl (by omega) ?_|refine zl rfl rfl rfl rfl rfl (by omega) ?_|refine zIv rfl rfl rfl rfl ?_)|(with_reducible first|refine zH ?_|refine zB ?_|refine zD ?_|refine zA ?_|refine zT ?_|refine zP ?_|refine zg ?_)|((with_reducible refine zI ?_ ?_);(· exact rfl))))
  exact zf 1 (by omega) (by omega) (by (repeat first|exact lK1|refine zL rfl ?_)) (by (repeat constructor))
 ·obtain rfl:i=1:=by omega
  simp only [Nat.one_ne_zero,if_false]
  (repeat' (first|((with_reducible refine zF ?_);first|refine zE rfl rfl rfl ?_|refine zC rfl rfl rfl ?_|(refine zQ rfl rfl rfl rfl rfl (fun h=>?_) (fun h=>?_)<;>(dsimp only [cmpP] at h;(try (exfalso;omega)))))|(with_reducible first|refine zH ?_|refine zB ?_|refine zD ?_|refine zA ?_|refine zX ?_|refine zk ?_|refine zR ?_|refine zW ?_)|((with_reducible refine zG ?_ ?_);(· exact rfl))))
  exact zS (by exact rTm rfl) () trivial rfl (fun _ h=>h.sub (by (repeat constructor)))
def asksN (c:Cov) (u:Hour):Nat→Int
 | 0=>0
 | 1=>max 0 c.base
 | _=>if 0<u.runs then max (max 0 c.base) c.limit else max 0 c.base
theorem asks_eq {c:Cov} {u:Hour} (hf:zDo c):asksN c u 2=zC2 c u:=by
 have h1:=hf.limit;have h2:=hf.base
 simp only [zAC] at h1 h2
 simp only [asksN,zC2];split<;>omega
set_option maxHeartbeats 2000000 in
theorem zJP (c:Cov) (A:Option Addr) (ca:Nat) (B:Option Addr) (cb:Nat) (C:Option Addr) (cc g:Nat) (u:Hour) (w:World) (hr:InC w g 0 (zM c A ca B cb C cc)) (hG:InC w 0 0 zCP) (hf:zDo c) :
  Gv Tryz.prog 99 [.pointer (some ⟨g,0,none⟩),zDq u] w (.int .i64 (zC2 c u)):=by
 have k1:=fun W=>lim1_any u W
 have k3:=fun W=>lim3_any u W
 have k2:=fun W=>lim2_any c A ca B cb C cc W
 have k4:=fun W=>lim4_any c A ca B cb C cc W
 have hmax:=fun (a b:Int) (A:Option Addr) (c:Nat) (w:World) (h:zq encI 1 w A [b])=>zIp a b A c w h
 rw [← asks_eq hf]
 unfold zDq at k1 k3
 unfold zAH at k2 k4
 unfold zM at hr k2 k4
 unfold zCP at hG
 unfold Gv zDq
 (refine zJ (n:=28) Tryz.func99 rfl rfl rfl ?_)
 (repeat' (first|((with_reducible refine zF ?_);first|refine zE rfl rfl rfl ?_|refine zC rfl rfl rfl ?_|(refine zK rfl rfl rfl ?_;refine ⟨_,rfl,?_⟩)|(refine zu rfl rfl rfl rfl (fun b=>?_)))|(with_reducible first|refine zH ?_|refine zB ?_|refine zD ?_|refine zA ?_|refine zP ?_)))
 refine zw (ι:=Nat) [0,3,8] rfl (fun i=>i≤2) (fun i=>[(9,.int .i64 (i:Int)),(5,.int .i64 (asksN c u i))]) (fun _=>[.blk b (zr u)]) (fun i=>2 - i) 0 (by omega) (by (repeat first|exact lK1|refine zL rfl ?_)) (by (repeat constructor)) ?_
 rintro i hi
 simp only [zAt,List.cons_append,List.nil_append]
 unfold zr
 by_cases h0:i=0
 ·subst h0
  (repeat' (first|((with_reducible refine zF ?_);first|(refine zK rfl rfl rfl ?_;refine ⟨_,rfl,?_⟩)|refine za rfl rfl rfl ?_|(refine zQ rfl rfl rfl rfl rfl (fun h=>?_) (fun h=>?_)<;>(dsimp only [cmpP] at h;(try (exfalso;omega))))|refine zAL rfl (zLQ (I:=0) rfl rfl rfl rfl (by decide) rfl) ?_|refine zV rfl rfl rfl rfl (fun _ _ q=>k1 _) ?_|(refine zb rfl rfl rfl rfl rfl ?_;refine ⟨rfl,by first|decide|exact Nat.le_of_ble_eq_true rfl|(simp;omega),_,rfl,?_⟩)|(refine zj rfl rfl (fun b=>?_)))|(with_reducible first|refine zH ?_|refine zB ?_|refine zD ?_|refine zA ?_|refine zT ?_|refine zP ?_)|((with_reducible refine zI ?_ ?_);(· exact rfl))))
  (refine Two.zA1 [] [] [] rfl (show ([]:List Nat).Nodup by decide) (fun _ h=>h) (by kernel_rfl) [[],[Y],[Z,Y],[Y,Y,Y],[Z,Y,Y,Y],[Z,Z,Y,Y,Y],[Z,Z,Z,Y,Y,Y],[Z,Z,Z,Z,Z,Z,Y],[Z,Z,Z,Z,Z,Z,Z,Y],[Z,Z,Z,Z,Z,Z,Z,Z,Z],[Z,Z,Z,Z,Z,Z,Z,Z,Z,Z]] (by kernel_rfl) (by kernel_rfl) (by kernel_rfl) (by kernel_rfl) (by kernel_rfl) ?_)
  (repeat' (first|(((with_reducible refine Two.zDQ ?_ ?_);(· exact rfl);refine ⟨_,fun G=>(by (try simp (decide:=true) only [Two.vis,Two.see,fltT,zAF,Nat.reduceAdd,Nat.reduceSub,if_true,if_false,List.set_cons_zero,List.set_cons_succ,List.set_nil,List.nil_append,List.cons_append]);rfl),?_⟩);first|refine Two.zm _ (fun _=>zAi rfl rfl) (fun _=>rfl) rfl (by intro G G' h;simp (decide:=true) only [h]) ?_|refine Two.zm _ (fun _=>zAG rfl rfl (by exact rfl)) (fun _=>rfl) rfl (by intro G G' h;simp (decide:=true) only [h]) ?_|(refine Two.zAj rfl ?_;refine Two.zm _ (fun _=>zAU rfl rfl) (fun _=>rfl) rfl (by intro G G' h;simp (decide:=true) only [h]) ?_)|refine Two.zm _ (fun _=>zCE rfl rfl) (fun _=>rfl) rfl (by intro G G' h;simp (decide:=true) only [h]) ?_|refine Two.zC5 _ rfl (fun _=>rfl) rfl (fun _=>rfl) (fun _=>rfl) (fun _ _ _ q=>k2 _) (by intro G G' h;simp (decide:=true) only [h]) ?_|refine Two.zC5 _ rfl (fun _=>rfl) rfl (fun _=>rfl) (fun _=>rfl) (fun _ _ _ q=>hmax _ _ _ _ _ (zAY (enc:=encI) (by exact rfl) _ q.below q.own)) (by intro G G' h;simp (decide:=true) only [h]) ?_|refine Two.zm _ (fun _=>zAg rfl rfl) (fun _=>rfl) rfl (by intro G G' h;simp (decide:=true) only [h]) ?_|refine Two.zBn rfl (fun _=>rfl) rfl (fun _=>rfl) (by exact rfl) (by exact fun _=>rfl) (by intro G G' h;simp (decide:=true) only [h]) ?_)|(with_reducible refine Two.zLX ?_)))
  (intro G;simp only [regsT,zAF,Two.zBb,Two.ini,List.nil_append,List.cons_append])
  (repeat' (first|((with_reducible refine zF ?_);first|refine zE rfl rfl rfl ?_|refine zh rfl rfl rfl rfl (by omega) ?_)|(with_reducible first|refine zB ?_|refine zD ?_|refine zA ?_|refine zg ?_)))
  exact zf 1 (by omega) (by omega) (by (repeat first|exact lK1|refine zL rfl ?_)) (by (repeat constructor))
 ·by_cases h1:i=1
  ·subst h1
   (repeat' (first|((with_reducible refine zF ?_);first|refine zE rfl rfl rfl ?_|(refine zK rfl rfl rfl ?_;refine ⟨_,rfl,?_⟩)|refine za rfl rfl rfl ?_|(refine zQ rfl rfl rfl rfl rfl (fun h=>?_) (fun h=>?_)<;>(dsimp only [cmpP] at h;(try (exfalso;omega))))|refine zAL rfl (zLQ (I:=1) rfl rfl rfl rfl (by decide) rfl) ?_|(refine zAI rfl rfl rfl rfl (fun _ _ q=>k3 _) (fun h=>?_) (fun h=>?_))|refine zh rfl rfl rfl rfl (by omega) ?_|(refine zb rfl rfl rfl rfl rfl ?_;refine ⟨rfl,by first|decide|exact Nat.le_of_ble_eq_true rfl|(simp;omega),_,rfl,?_⟩)|(refine zj rfl rfl (fun b=>?_)))|(with_reducible first|refine zH ?_|refine zB ?_|refine zD ?_|refine zA ?_|refine zT ?_|refine zP ?_|refine zg ?_)|((with_reducible refine zI ?_ ?_);(· exact rfl))|((with_reducible refine zG ?_ ?_);(· exact rfl))))
   ·(refine Two.zA1 [] [] [] rfl (show ([]:List Nat).Nodup by decide) (fun _ h=>h) (by kernel_rfl) [[],[Y],[Z,Y],[Y,Y,Y],[Z,Y,Y,Y],[Z,Z,Y,Y,Y],[Z,Z,Z,Y,Y,Y],[Z,Z,Z,Z,Z,Z,Y],[Z,Z,Z,Z,Z,Z,Z,Y],[Z,Z,Z,Z,Z,Z,Z,Z,Z],[Z,Z,Z,Z,Z,Z,Z,Z,Z,Z]] (by kernel_rfl) (by kernel_rfl) (by kernel_rfl) (by kernel_rfl) (by kernel_rfl) ?_)
    (repeat' (first|(((with_reducible refine Two.zDQ ?_ ?_);(· exact rfl);refine ⟨_,fun G=>(by (try simp (decide:=true) only [Two.vis,Two.see,fltT,zAF,Nat.reduceAdd,Nat.reduceSub,if_true,if_false,List.set_cons_zero,List.set_cons_succ,List.set_nil,List.nil_append,List.cons_append]);rfl),?_⟩);first|refine Two.zm _ (fun _=>zAi rfl rfl) (fun _=>rfl) rfl (by intro G G' h;simp (decide:=true) only [h]) ?_|refine Two.zm _ (fun _=>zAG rfl rfl (by exact rfl)) (fun _=>rfl) rfl (by intro G G' h;simp (decide:=true) only [h]) ?_|(refine Two.zAj rfl ?_;refine Two.zm _ (fun _=>zAU rfl rfl) (fun _=>rfl) rfl (by intro G G' h;simp (decide:=true) only [h]) ?_)|refine Two.zm _ (fun _=>zCE rfl rfl) (fun _=>rfl) rfl (by intro G G' h;simp (decide:=true) only [h]) ?_|refine Two.zC5 _ rfl (fun _=>rfl) rfl (fun _=>rfl) (fun _=>rfl) (fun _ _ _ q=>k4 _) (by intro G G' h;simp (decide:=true) only [h]) ?_|refine Two.zC5 _ rfl (fun _=>rfl) rfl (fun _=>rfl) (fun _=>rfl) (fun _ _ _ q=>hmax _ _ _ _ _ (zAY (enc:=encI) (by exact rfl) _ q.below q.own)) (by intro G G' h;simp (decide:=true) only [h]) ?_|refine Two.zm _ (fun _=>zAg rfl rfl) (fun _=>rfl) rfl (by intro G G' h;simp (decide:=true) only [h]) ?_|refine Two.zBn rfl (fun _=>rfl) rfl (fun _=>rfl) (by exact rfl) (by exact fun _=>rfl) (by intro G G' h;simp (decide:=true) only [h]) ?_)|(with_reducible refine Two.zLX ?_)))
    (intro G;simp only [regsT,zAF,Two.zBb,Two.ini,List.nil_append,List.cons_append])
    (repeat' (first|((with_reducible refine zF ?_);first|refine zE rfl rfl rfl ?_|refine zh rfl rfl rfl rfl (by omega) ?_)|(with_reducible first|refine zB ?_|refine zD ?_|refine zA ?_|refine zg ?_)))
    have e:asksN c u 2=max (asksN c u 1) c.limit:=by simp only [decide_eq_true_eq] at h;simp only [asksN,if_pos h]
    exact zf 2 (by omega) (by omega) (by rw [e];(repeat first|exact lK1|refine zL rfl ?_)) (by (repeat constructor))
   ·have e:asksN c u 2=asksN c u 1:=by simp only [decide_eq_false_iff_not] at h;simp only [asksN,if_neg h]
    exact zf 2 (by omega) (by omega) (by rw [e];(repeat first|exact lK1|refine zL rfl ?_)) (by (repeat constructor))
  ·obtain rfl:i=2:=by omega
   (repeat' (first|((with_reducible refine zF ?_);first|refine zE rfl rfl rfl ?_|refine zC rfl rfl rfl ?_|(refine zQ rfl rfl rfl rfl rfl (fun h=>?_) (fun h=>?_)<;>(dsimp only [cmpP] at h;(try (exfalso;omega)))))|(with_reducible first|refine zH ?_|refine zB ?_|refine zD ?_|refine zA ?_|refine zX ?_|refine zk ?_|refine zR ?_|refine zW ?_)|((with_reducible refine zG ?_ ?_);(· exact rfl))))
   exact zS (by exact rTm rfl) () trivial rfl (fun _ h=>h.sub (by (repeat constructor)))
end Go.Proofs.YtdigopgncfhiaaaGreatDoor
namespace Go.Proofs.YtdigopgncfhiaaaGreatDoor
variable {ro : Option Nat}
open Go.RowKit
theorem zCM {P:Program} {b:Frame} {a:Act} {k:List Item} {cs:List Frame} {w:World} {c:Code}:step P (lone (b.atR a (.code (.scope c)::k)) cs w) = .next (lone (b.atR a (.code c :: .inScope c::k)) cs w) :=
 step_lone_go (by simp [stepG,stepG.exec,Frame.atR])
theorem zIi {P:Program} {b:Frame} {a:Act} {k:List Item} {cs:List Frame} {w:World} {c:Code}:step P (lone (b.atR a (.inScope c::k)) cs w) = .next (lone (b.atR a k) cs w) :=
 step_lone_go (by simp [stepG,stepG.exec,Frame.atR])
theorem zLf {F:Fence} {n:Nat} {P:Program} {Q:Exit→Act→World→Prop} {a:Act} {w:World} {c:Code} (h:c.wpIn F n P (Exit.noGoto Q) a w):(Code.scope c).wpIn F n P Q a w:=by
 intro b k cs hro hb hr
 have h0:(lone (b.atR a (.code (.scope c)::k)) cs w).fenced P F:=fenced_calm hb hr rfl
 obtain ⟨e,a₁,w₁,hq,harr⟩:=h b (.inScope c::k) cs hro hb hr
 cases e with
 | normal=>exact ⟨.normal,a₁,w₁,hq,.head h0 zCM (StepsIn.trans harr (.one (fenced_calm hb hr rfl) zIi))⟩
 | exit id =>
  have hx:exitTo id (.inScope c::k)=exitTo id k:=by simp [exitTo]
  exact ⟨.exit id,a₁,w₁,hq,fun k' hk=>.head h0 zCM (harr.1 k' (by rw [hx];exact hk)),
   fun hr' hk=>let ⟨k₁,h1,h2⟩:=harr.2 hr' (by rw [hx];exact hk);⟨k₁,h1,.head h0 zCM h2⟩⟩
 | goto l=>exact hq.elim
 | ret=>exact ⟨_,a₁,w₁,hq,.of_steps (.one h0 zCM) harr⟩
 | panic ch=>exact ⟨_,a₁,w₁,hq,.of_steps (.one h0 zCM) harr⟩
 | outgrown=>exact ⟨_,a₁,w₁,hq,.of_steps (.one h0 zCM) harr⟩
section
variable {P : Program} {w0:World} {n:Nat} {d:List Deferred} {R:List (Nat × Value)} {H:List Ent} {Q:Exit→Act→World→Prop}
theorem u_scope {c:Code} (h:U w0 n d R H (c.wpI ro P (Exit.noGoto Q))):U w0 n d R H ((Code.scope c).wpI ro P Q):=fun a w k=>zLf (h a w k)
theorem zNF (h:U w0 n d R H (Q .normal)):U w0 n d R H (Exit.noGoto Q .normal):=h
end
section
variable {P : Program} {w0:World} {n:Nat} {d:List Deferred} {R:List (Nat × Value)} {H H':List Ent} {Q:Exit→Act→World→Prop} {ops:Array Oper} {rest:List Oper} {o:Oper} {t:Tmp} {x y:Operand}
theorem zBp {T1:TypeId} {ps:Array (Nat × Operand)} {s:Nat} {z:List Value} {qs:List (Nat × Value)} (hop:o.op = .build T1 ps) [i1:TyBA P T1 s z] (hrd:rdy R ops n o=some t) (hp:evp R ps.toList=some qs)
  (h:∃ cs,fillL (fun i=>some (i * s,s)) z qs=some cs∧U w0 n d ((t,.agg cs.toArray)::R) H (wpL ro P ops Q rest)):U w0 n d R H (wpL ro P ops Q (o::rest)):=by
 obtain ⟨cs,hf,h⟩:=h
 exact zAL hrd (fun a w q=>by
  unfold execOp;rw [hop]
  have e1:(ps.map fun (i,x)=>(i,a.eval x)).toList=qs:=by rw [Array.toList_map];exact q.evp hp
  have e2:P.built T1 (ps.map fun (i,x)=>(i,a.eval x)).toList=some cs.toArray:=by
   rw [i1.bui,e1]
   exact fill_eq _ qs z cs hf
  simp only [Sem.run_bind,run_build w T1 _ _ e2,Result.andThen_ok,Sem.run_pure]) h
end
theorem zGe {P:Program} (w:World) {t e:TypeId} (a:Addr) (n c:Nat) (ht:P.underlying t=some (.slice e)):(binOp .eql t (.slice (some a) n c) (.slice none 0 0)).run P w = .ok (.bool false) w:=by
 have:=Lib.run_eql_slice_nil (P:=P) w t e (some a) n c 0 0 ht
 simpa using this
section
variable {P : Program} {w0:World} {n:Nat} {d:List Deferred} {R:List (Nat × Value)} {H H':List Ent} {Q:Exit→Act→World→Prop} {ops:Array Oper} {rest:List Oper} {o:Oper} {t:Tmp} {x y:Operand}
theorem zHh {T1 T2 e:TypeId} {s m c:Nat} {g:Bool} {A:Addr} (hop:o.op = .binOp .eql T1 x y T2) [i1:TyI P T1 (.slice e) s g] (hrd:rdy R ops n o=some t) (hx:evR R x=some (.slice (some A) m c)) (hy:evR R y=some (.slice none 0 0))
  (h:U w0 n d ((t,.bool false)::R) H (wpL ro P ops Q rest)):U w0 n d R H (wpL ro P ops Q (o::rest)) :=
 u_eql (b:=false) hop hrd hx hy (fun w=>by simp [eqGuard]) (fun w=>zGe w A m c i1.und) (fun h=>by cases h) (fun _=>h)
end
end Go.Proofs.YtdigopgncfhiaaaGreatDoor
