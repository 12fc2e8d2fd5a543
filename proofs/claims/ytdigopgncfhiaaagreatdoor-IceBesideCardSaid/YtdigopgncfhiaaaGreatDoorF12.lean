/- F12 -/
import Derived.Test.YtdigopgncfhiaaaGreatDoorF10
import Derived.Test.YtdigopgncfhiaaaGreatDoorF11
import Derived.Test.YtdigopgncfhiaaaGreatDoorF9
import Derived.Test.YtdigopgncfhiaaaGreatDoorF7
set_option linter.unusedSimpArgs false
set_option linter.unusedVariables false
namespace Go.Proofs.YtdigopgncfhiaaaGreatDoor
variable {ro : Option Nat}
open Go.RowKit
set_option maxRecDepth 20000
theorem elem_pr : zIe Tryz.prog 36 75 2 16 (.agg #[.int .i64 0,.int .i64 0]) :=
 ⟨by rfl,by exact ⟨_,rfl,rfl,rfl,rfl⟩,by decide,by decide⟩
instance elI_pr : ElI Tryz.prog 36 75 2 16:=⟨⟨_,elem_pr⟩⟩
theorem zGV (t l:Sp) (w:World) (h:Mild t l):Gv Tryz.prog 58 [vSp t,vSp l] w (.int .i64 (zCc t l)):=by
 obtain ⟨⟨h1,h2,h3,h4⟩,h5,h6,h7,h8⟩:=h
 unfold Gv vSp zCc
 (refine zJ (n:=10) Tryz.func58 rfl rfl rfl ?_)
 (repeat' (first|((with_reducible refine zF ?_);first|refine zC rfl rfl rfl ?_|(refine zK rfl rfl rfl ?_;refine ⟨_,rfl,?_⟩)|refine za rfl rfl rfl ?_|refine zCC rfl rfl rfl rfl (IntWalk.i64_in _ (by omega)) ?_|(refine zu rfl rfl rfl rfl (fun b=>?_)))|(with_reducible first|refine zH ?_|refine zB ?_|refine zD ?_|refine zA ?_|refine zX ?_)))
 all_goals exact zS (by exact rTm rfl) () trivial rfl (fun _ h=>h.sub (by (repeat constructor)))
theorem best_any (t l:Sp) (w:World) (h:Mild t l):Gv Tryz.prog 59 [vSp t,vSp l] w (.int .i64 (zLZ t l)):=by
 obtain ⟨⟨h1,h2,h3,h4⟩,h5,h6,h7,h8⟩:=h
 unfold Gv vSp zLZ
 (refine zJ (n:=10) Tryz.func59 rfl rfl rfl ?_)
 (repeat' (first|((with_reducible refine zF ?_);first|refine zC rfl rfl rfl ?_|(refine zK rfl rfl rfl ?_;refine ⟨_,rfl,?_⟩)|refine za rfl rfl rfl ?_|refine zCC rfl rfl rfl rfl (IntWalk.i64_in _ (by omega)) ?_|(refine zu rfl rfl rfl rfl (fun b=>?_)))|(with_reducible first|refine zH ?_|refine zB ?_|refine zD ?_|refine zA ?_|refine zX ?_)))
 all_goals exact zS (by exact rTm rfl) () trivial rfl (fun _ h=>h.sub (by (repeat constructor)))
section
variable {en : Sp→Sp→Int} {enF:FuncId} [zU Tryz.prog enF]
set_option maxHeartbeats 4000000 in
theorem zFE (hEn:∀ t l W,Mild t l→Gv Tryz.prog enF [vSp t,vSp l] W (.int .i64 (en t l))) (c:Cov) (A:Option Addr) (ca:Nat) (B:Option Addr) (cb:Nat) (C:Option Addr) (cc g:Nat) (pl:List Sli) (P:Option Addr) (cp:Nat) (w:World) (hr:InC w g 0 (zM c A ca B cb C cc)) (hG:InC w 0 0 zCP) (h:zAe w c A B C) (hs:Small c) (hf:zDo c) (hp:zBG w P pl) (hrl:∀ s∈pl,s.xs.length≤20) (hpl:pl.length=c.hours.length) :
  Ret Tryz.prog 57 [.pointer (some ⟨g,0,none⟩),.slice P pl.length cp,.func (.func enF) #[] #[]] w (fun p:Option Addr × Nat=>.slice p.1 (zCL c pl en).length p.2) (fun p=>[.sl zAW 2 p.1 (zCL c pl en)]) (fun _=>True):=by
 have h4:=hs.b;have h5:=hs.h
 have hh:=h.h
 have hseq:=fun g1 g2 g3 i z (hz:c.beds[i]?=some z)=>zOC c A ca B cb C cc pl P cp i g1 g2 g3 g z w hr h hs hf hp hrl hpl hz
 have hL:=fun W (hW:Below w.heap.size w W) i z j u (hz:c.beds[i]?=some z) (hu:c.hours[j]?=some u)=>zFG c A ca B cb C cc g i j z u W (hr.below hW) (h.below hW) hs hf hz hu
 have hK:=fun W (hW:Below w.heap.size w W) u=>zJP c A ca B cb C cc g u W (hr.below hW) (hG.below hW) hf
 have:=hf.hours
 rw [zAC] at this
 unfold vSp at hL hEn
 unfold zDq at hK
 obtain ⟨bc,oc,rfl,hblt2,hc2⟩:=hh.at_ (show 0<c.hours.length by omega)
 have:InS w bc oc zr 5 c.hours:=⟨hh⟩
 unfold zM at hr
 (refine zJ (n:=64) Tryz.func57 rfl rfl rfl ?_)
 refine u_dfr0 ?_
 (repeat' (first|((with_reducible refine zF ?_);first|refine zE rfl rfl rfl ?_|refine zC rfl rfl rfl ?_|(refine zK rfl rfl rfl ?_;refine ⟨_,rfl,?_⟩)|refine za rfl rfl rfl ?_|refine zo rfl rfl rfl ?_|(refine zj rfl rfl (fun b=>?_))|(refine zu rfl rfl rfl rfl (fun b=>?_))|refine zA6 rfl rfl rfl ?_)|(with_reducible first|refine zH ?_|refine zB ?_|refine zD ?_|refine zA ?_|refine zP ?_)))
 rename_i b3 b5
 refine zDr zAW 2 75 ?_
 refine u_loopD (ι:=Nat × Value × List Nat) [1,3,5,7,16] rfl (fun q=>q.1≤c.beds.length) (fun q=>dL q.2.2) (fun q=>[(17,.int .i64 (q.1:Int))]) (fun q=>[.row zAW 2 75 q.2.1 (zCT c pl en q.1),.blk b [q.2.1],.blk b5 [.func (.func enF) #[] #[]],.blk b3 [.pointer (some ⟨g,0,none⟩)],.dfr q.2.2]) (fun q=>c.beds.length - q.1) (0,.slice none 0 0,[]) (Nat.zero_le _) rfl (by (repeat first|exact lK1|refine zL rfl ?_)) (by (repeat constructor)) ?_
 rintro ⟨i,v,bs⟩ hi
 simp only at hi
 simp only [zAt,List.cons_append,List.nil_append]
 by_cases hlt:i<c.beds.length
 ·obtain ⟨z,hz⟩:∃ z,c.beds[i]?=some z:=⟨_,List.getElem?_eq_getElem hlt⟩
  (repeat' (first|((with_reducible refine zF ?_);first|refine zE rfl rfl rfl ?_|(refine zQ rfl rfl rfl rfl rfl (fun h=>?_) (fun h=>?_)<;>(dsimp only [cmpP] at h;(try (exfalso;omega))))|(refine zb rfl rfl rfl rfl rfl ?_;refine ⟨rfl,by first|decide|exact Nat.le_of_ble_eq_true rfl|(simp;omega),_,rfl,?_⟩)|(refine zj rfl rfl (fun b=>?_)))|(with_reducible first|refine zH ?_|refine zB ?_|refine zD ?_|refine zA ?_|refine zT ?_|refine zP ?_)|((with_reducible refine zI ?_ ?_);(· exact rfl))))
  rename_i b7
  rename Nat=>bi
  refine u_scope ?_
  (repeat' (first|((with_reducible refine zF ?_);first|refine zE rfl rfl rfl ?_|(refine zK rfl rfl rfl ?_;refine ⟨_,rfl,?_⟩)|(refine zAQ rfl rfl rfl rfl (fun _ _ q=>zJO _ i pl P cp _) ?_;rintro ⟨g1,g2,g3⟩ -;dsimp only [List.cons_append,List.nil_append]))|(with_reducible first|refine zH ?_|refine zB ?_|refine zD ?_|refine zA ?_|refine zP ?_|refine u_label ?_)))
  refine zMk (ι:=Value × List (Int × Int)) (α:=Nat × Sp) (gf:=104) (lb:=[.pointer (some ⟨g1,0,none⟩),.pointer (some ⟨g2,0,none⟩),.pointer (some ⟨g3,0,none⟩)]) (bs:=bs) (zB9 c A ca B cb (some ⟨bc,oc,none⟩) cc pl P cp g1 g2 g3 g (i:Int)) zEy (zHG c pl z i) (c.hours.length+1) (fun k s=>s.2=zCT c pl en i++zEf c pl en z i (min k c.hours.length)) (fun s=>[.row zAW 2 75 s.1 s.2,.blk bi [.int .i64 (i:Int)],.blk b7 [s.1],.blk b5 [.func (.func enF) #[] #[]],.blk b3 [.pointer (some ⟨g,0,none⟩)]]) (fun _=>true) .ret (v,zCT c pl en i) rfl (by unfold zB9;simp only [List.cons_append,List.nil_append];(repeat constructor)) (by simp [zEf]) (by rw [zEB];omega) (fun k hk=>rfl) (.inl (by rw [zEB])) (fun x=>rfl) (by decide) (.inl rfl) (hseq g1 g2 g3 i z hz) ?_ ?_ ?_
  ·rintro l k x s ⟨⟩ W hk hx hI hrr hrp hW
   simp only at hrr hrp
   subst hrr hrp
   rw [zGK (by omega)] at hx
   cases hx
   obtain ⟨v,xs⟩:=s
   simp only at hI
   simp only [zEy,parR,zB9,vSp,List.cons_append,List.nil_append,if_true]
   (repeat' (first|((with_reducible refine zF ?_);first|refine zC rfl rfl rfl ?_|(refine zb rfl rfl rfl rfl rfl ?_;refine ⟨rfl,by first|decide|exact Nat.le_of_ble_eq_true rfl|(simp;omega),_,rfl,?_⟩)|(refine zj rfl rfl (fun b=>?_)))|(with_reducible first|refine zH ?_|refine zB ?_|refine zD ?_|refine zA ?_)))
   refine zJp (by (repeat constructor)) rfl ?_
   (repeat' (first|(with_reducible first|refine zH ?_|refine zP ?_)))
   by_cases hkN:k<c.hours.length
   ·obtain ⟨u,hu⟩:∃ u,c.hours[k]?=some u:=⟨_,List.getElem?_eq_getElem hkN⟩
    have:zAT c.hours k u:=⟨hu⟩
    have hin:=zFz (pl:=pl) (i:=i) hf (List.mem_of_getElem? hz) k (by omega)
    have hlin:=zDv hf (List.mem_of_getElem? hz) (List.mem_of_getElem? hu)
    have hE:=fun W=>hEn (thickN c pl z i k) (zBh c z u) W ⟨by omega,by omega⟩
    rw [Nat.min_eq_left (by omega)] at hI
    have hI1:min (k+1) c.hours.length=k+1:=Nat.min_eq_left (by omega)
    have hT:zCF c pl en z i k=decide (en (thickN c pl z i k) (zBh c z u)<zC2 c u):=by unfold zCF;rw [zBB hu]
    have hS:=zLi (c:=c) (pl:=pl) (en:=en) (z:=z) (i:=i) (k:=k)
    rw [hT] at hS
    have hlen:xs.length≤300:=by
     have h9:=zE3 (c:=c) (pl:=pl) (en:=en) (m:=i) (by omega)
     have h10:=zIy (c:=c) (pl:=pl) (en:=en) (z:=z) (i:=i) (k:=k)
     have h11:i * c.hours.length≤20 * 12:=Nat.mul_le_mul (by omega) (by omega)
     rw [hI,List.length_append];omega
    generalize en (thickN c pl z i k) (zBh c z u)=ev at *
    unfold zr at *
    (refine zBP (by kernel_rfl) (by kernel_rfl) (by kernel_rfl) ?_)
    (repeat' (first|((with_reducible refine zBr ?_);first|refine zn (zAi rfl rfl) rfl ?_|refine zn (zAG rfl rfl (by exact rfl)) rfl ?_|refine zn (zAU rfl rfl) rfl ?_|refine zn (zDM rfl rfl rfl) rfl ?_|(refine zFQ rfl rfl rfl rfl rfl (fun h=>?_) (fun h=>?_)<;>(dsimp only [cmpP] at h;(try (exfalso;omega))))|refine zn (zAr (I:=k) rfl rfl rfl (by omega) (by first|omega|(dsimp only;omega))) rfl ?_|refine zEU rfl rfl rfl rfl (fun _ _ q=>hL _ q.below i z k u hz hu) ?_|refine zEU rfl rfl rfl rfl (fun _ _ q=>hE _) ?_|refine zEU rfl rfl rfl rfl (fun _ _ q=>hK _ q.below u) ?_|refine zn (zD8 rfl rfl) rfl ?_|refine zn (zAg rfl rfl) rfl ?_)|(with_reducible refine zCZ ?_)))
    ·(repeat' (first|(with_reducible first|refine zA ?_|refine zk ?_|refine zR ?_|refine zW ?_)|((with_reducible refine zI ?_ ?_);(· exact rfl))))
     exact zEk none (.inl ⟨rfl,rfl⟩) rfl (by (repeat constructor)) (v,xs) (by simp only [hI1,hS];rw [if_neg (by simp;omega),List.append_nil];exact hI) hW (fun _ h=>h.sub (by (repeat constructor)))
    ·(repeat' (first|((with_reducible refine zF ?_);first|refine zE rfl rfl rfl ?_|(refine zK rfl rfl rfl ?_;refine ⟨_,rfl,?_⟩)|(refine zAn (enc:=zAW) [((k:Int),(i:Int))] rfl rfl rfl (by (repeat constructor)) rfl rfl (zAY (by exact rfl)) (by refine ⟨?_,by decide⟩;(try simp only [List.length_append,List.length_cons,List.length_nil]);omega) (fun A' c'=>?_))|(refine zBp rfl rfl rfl ?_;refine ⟨_,rfl,?_⟩)|(refine zb rfl rfl rfl rfl rfl ?_;refine ⟨rfl,by first|decide|exact Nat.le_of_ble_eq_true rfl|(simp;omega),_,rfl,?_⟩)|(refine zY rfl rfl rfl ?_;refine ⟨rfl,_,rfl,fun b=>?_⟩))|(with_reducible first|refine zB ?_|refine zD ?_|refine zA ?_|refine zT ?_|refine zg ?_)|((with_reducible refine zG ?_ ?_);(· exact rfl))))
     exact zEk none (.inl ⟨rfl,rfl⟩) rfl (by (repeat constructor)) (Value.slice A' (xs++[((k:Int),(i:Int))]).length c',xs++[((k:Int),(i:Int))]) (by simp only [hI1,hS];rw [if_pos (by simp;omega),← List.append_assoc,← hI]) hW (fun _ h=>h.sub (by (repeat constructor)))
   ·obtain rfl:k=c.hours.length:=by omega
    rw [Nat.min_eq_left (by omega)] at hI
    (refine zBP (by kernel_rfl) (by kernel_rfl) (by kernel_rfl) ?_)
    (repeat' (first|((with_reducible refine zBr ?_);first|refine zn (zAi rfl rfl) rfl ?_|refine zn (zAG rfl rfl (by exact rfl)) rfl ?_|refine zn (zAU rfl rfl) rfl ?_|refine zn (zDM rfl rfl rfl) rfl ?_|refine zBj rfl rfl rfl ?_|(refine zFQ rfl rfl rfl rfl rfl (fun h=>?_) (fun h=>?_)<;>(dsimp only [cmpP] at h;(try (exfalso;omega))))|refine zn (zD8 rfl rfl) rfl ?_|refine zn (zAg rfl rfl) rfl ?_)|(with_reducible refine zCZ ?_)))
    (repeat' (first|(with_reducible first|refine zA ?_|refine zk ?_|refine zR ?_|refine zW ?_)|((with_reducible refine zI ?_ ?_);(· exact rfl))))
    exact zEk none (.inl ⟨rfl,rfl⟩) rfl (by (repeat constructor)) (v,xs) (by simp only [Nat.min_eq_right (Nat.le_succ _)];exact hI) hW (fun _ h=>h.sub (by (repeat constructor)))
  ·intro _ bd s hI
   obtain ⟨v,xs⟩:=s
   simp only [Nat.min_eq_right (Nat.le_succ _),← zHi hz] at hI
   simp only [zB9,List.cons_append,List.nil_append]
   subst hI
   (repeat' (first|(with_reducible first|refine zg ?_)))
   refine zNF ?_
   (repeat' (first|((with_reducible refine zF ?_);first|refine zE rfl rfl rfl ?_|refine zh rfl rfl rfl rfl (by omega) ?_)|(with_reducible first|refine zB ?_|refine zD ?_|refine zA ?_|refine zg ?_)))
   exact u_againD (i+1,v,bd::bs) (by simp only;omega) (by simp only;omega) rfl (by (repeat first|exact lK1|refine zL rfl ?_)) (by (repeat constructor))
  ·intro _ h9;cases h9
 ·obtain rfl:i=c.beds.length:=by omega
  (repeat' (first|((with_reducible refine zF ?_);first|(refine zK rfl rfl rfl ?_;refine ⟨_,rfl,?_⟩)|(refine zQ rfl rfl rfl rfl rfl (fun h=>?_) (fun h=>?_)<;>(dsimp only [cmpP] at h;(try (exfalso;omega)))))|(with_reducible first|refine zH ?_|refine zB ?_|refine zD ?_|refine zA ?_|refine zk ?_|refine zR ?_|refine zW ?_)|((with_reducible refine zG ?_ ?_);(· exact rfl))))
  have hlen:(zCT c pl en c.beds.length).length≤1000000:=by
   have h9:=zE3 (c:=c) (pl:=pl) (en:=en) (m:=c.beds.length) (Nat.le_refl _)
   have h11:c.beds.length * c.hours.length≤20 * 12:=Nat.mul_le_mul (by omega) (by omega)
   omega
  refine zEM [.row zAW 2 75 v (zCT c pl en c.beds.length)] [.blk b [v],.dfr bs] rfl rfl rfl rfl (by (repeat constructor)) (fun _ _ q=>zNo _ v _ _ _ hlen (Own.append.1 q.own).1) ?_
  rintro ⟨A',c'⟩ hv
  simp only at hv
  subst hv
  rw [zGa,List.cons_append,List.nil_append]
  (repeat' (first|((with_reducible refine zF ?_);first|refine zC rfl rfl rfl ?_|(refine zK rfl rfl rfl ?_;refine ⟨_,rfl,?_⟩))|(with_reducible first|refine zH ?_|refine zB ?_|refine zD ?_|refine zA ?_|refine zX ?_)))
  exact zMm (by (repeat constructor)) (by exact rTm rfl) (A',c') trivial (by rw [← zGa (c:=c) (pl:=pl) (en:=en),zGb];rfl) (fun _ h=>h.sub (by (repeat constructor)))
end
end Go.Proofs.YtdigopgncfhiaaaGreatDoor
namespace Go.Proofs.YtdigopgncfhiaaaGreatDoor
open Go.RowKit
set_option maxRecDepth 20000
theorem elem_ho : zIe Tryz.prog 26 67 5 40 (.agg #[.int .i64 0,.int .i64 0,.int .i64 0,.int .i64 0,.bool false]) :=
 ⟨by rfl,by exact ⟨_,rfl,rfl,rfl,rfl⟩,by decide,by decide⟩
instance elI_ho : ElI Tryz.prog 26 67 5 40:=⟨⟨_,elem_ho⟩⟩
theorem elem_be : zIe Tryz.prog 25 73 3 24 (.agg #[.int .i64 0,.int .i64 0,.int .i64 0]) :=
 ⟨by rfl,by exact ⟨_,rfl,rfl,rfl,rfl⟩,by decide,by decide⟩
instance elI_be : ElI Tryz.prog 25 73 3 24:=⟨⟨_,elem_be⟩⟩
theorem zLW (t:List Hour) (A:Option Addr) (c:Nat) (w:World) (ht:zq zr 5 w A t) (h0:0<t.length) (hl:t.length≤1000) :
  Ret Tryz.prog 77 [.slice A t.length c] w (fun p:Option Addr × Nat=>.slice p.1 t.length p.2) (fun p=>[.row zr 5 67 (.slice p.1 t.length p.2) t]) (fun _=>True):=by
 obtain ⟨bb,o,rfl,_⟩:=ht.at_ h0
 (refine zJ (n:=8) Tryz.func77 rfl rfl rfl ?_)
 (repeat' (first|((with_reducible refine zF ?_);first|refine zE rfl rfl rfl ?_|refine zC rfl rfl rfl ?_|refine zHh rfl rfl rfl rfl ?_|(refine zCe zr rfl rfl (fun b=>?_))|(refine zAn (enc:=zr) t rfl rfl rfl (by (repeat constructor)) rfl rfl (zEP ht) (by refine ⟨?_,by decide⟩;(try simp only [List.length_append,List.length_cons,List.length_nil]);omega) (fun A' c'=>?_)))|(with_reducible first|refine zH ?_|refine zB ?_|refine zD ?_|refine zA ?_|refine zX ?_|refine zT ?_)|((with_reducible refine zG ?_ ?_);(· exact rfl))))
 exact zS (by exact rTm rfl) (A',c') trivial rfl (fun _ h=>h.sub (by (repeat constructor)))
set_option maxHeartbeats 1000000 in
theorem zMX (l:List (Int × Int)) (A:Option Addr) (cap:Nat) (kf:FuncId) [zU Tryz.prog kf] (cs:Array Value) (p:(Int × Int)→Bool) (w:World) (hk:zq zAW 2 w A l) (hl:l.length≤1000000)
  (hp:∀ x W,x∈l→Below w.heap.size w W→Gv Tryz.prog kf ([(fun p:Int × Int=>Value.agg (zAW p).toArray) x]++cs.toList) W (.bool (p x))) :
  Gv Tryz.prog 116 [.slice A l.length cap,.func (.func kf) #[] cs] w (.int .i64 (zCa p l)):=by
 unfold Gv
 (refine zJ (n:=19) Tryz.func116 rfl rfl rfl ?_)
 (repeat' (first|((with_reducible refine zF ?_);first|refine zE rfl rfl rfl ?_|refine zC rfl rfl rfl ?_|refine zo rfl rfl rfl ?_)|(with_reducible first|refine zH ?_|refine zB ?_|refine zD ?_|refine zA ?_|refine zP ?_)))
 refine zw (ι:=Nat) [0,1,7] rfl (fun i=>i≤l.length∧∀ j y,j<i→l[j]?=some y→p y=false) (fun i=>[(8,.int .i64 (i:Int))]) (fun _=>[]) (fun i=>l.length - i) 0 ⟨Nat.zero_le _,fun j y h=>by omega⟩ (by (repeat first|exact lK1|refine zL rfl ?_)) (by (repeat constructor)) ?_
 rintro i ⟨hi,hb⟩
 simp only [zAt,List.cons_append,List.nil_append]
 by_cases hlt:i<l.length
 ·have hx:l[i]?=some l[i]:=by simp [hlt]
  obtain ⟨b,o,rfl,hblt,hc⟩:=hk.at_ hlt
  have:InS w b o zAW 2 l:=⟨hk⟩
  have:zAT l i l[i]:=⟨hx⟩
  (repeat' (first|((with_reducible refine zF ?_);first|refine zE rfl rfl rfl ?_|refine zC rfl rfl rfl ?_|(refine zK rfl rfl rfl ?_;refine ⟨_,rfl,?_⟩)|(refine zQ rfl rfl rfl rfl rfl (fun h=>?_) (fun h=>?_)<;>(dsimp only [cmpP] at h;(try (exfalso;omega))))|(refine zAI rfl rfl rfl rfl (fun _ _ q=>hp _ _ (List.getElem_mem hlt) q.below) (fun h=>?_) (fun h=>?_)<;>(try (exfalso;omega)))|refine zh rfl rfl rfl rfl (by omega) ?_|refine zl rfl rfl rfl rfl rfl (by omega) ?_)|(with_reducible first|refine zH ?_|refine zB ?_|refine zD ?_|refine zA ?_|refine zX ?_|refine zT ?_|refine zZ ?_|refine zP ?_|refine zg ?_|refine zAP ?_)|((with_reducible refine zI ?_ ?_);(· exact rfl))|((with_reducible refine zG ?_ ?_);(· exact rfl))))
  ·have e1:=zD3 hlt h hb
   exact zS (by exact rTm rfl) () trivial (by rw [e1];rfl) (fun _ h=>h.sub (by (repeat constructor)))
  ·refine zf (i+1) ⟨by omega,fun j y hj hy=>?_⟩ (by omega) (by (repeat first|exact lK1|refine zL rfl ?_)) (by (repeat constructor))
   by_cases e:j=i
   ·subst e;rw [hx] at hy;cases hy;exact h
   ·exact hb j y (by omega) hy
 ·obtain rfl:i=l.length:=by omega
  have e1:=zDJ (p:=p) (l:=l) (fun y hy=>by
   obtain ⟨j,hj⟩:=List.mem_iff_getElem?.1 hy
   exact hb j y (List.getElem?_eq_some_iff.1 hj).1 hj)
  (repeat' (first|((with_reducible refine zF ?_);first|refine zC rfl rfl rfl ?_|(refine zQ rfl rfl rfl rfl rfl (fun h=>?_) (fun h=>?_)<;>(dsimp only [cmpP] at h;(try (exfalso;omega)))))|(with_reducible first|refine zH ?_|refine zB ?_|refine zD ?_|refine zA ?_|refine zX ?_|refine zk ?_|refine zR ?_|refine zW ?_)|((with_reducible refine zG ?_ ?_);(· exact rfl))))
  exact zS (by exact rTm rfl) () trivial (by rw [e1];rfl) (fun _ h=>h.sub (by (repeat constructor)))
theorem cp_con (l:List (Int × Int)) (A:Option Addr) (cap:Nat) (kf:FuncId) [zU Tryz.prog kf] (cs:Array Value) (p:(Int × Int)→Bool) (w:World) (hk:zq zAW 2 w A l) (hl:l.length≤1000000)
  (hp:∀ x W,x∈l→Below w.heap.size w W→Gv Tryz.prog kf ([(fun p:Int × Int=>Value.agg (zAW p).toArray) x]++cs.toList) W (.bool (p x))) :
  Gv Tryz.prog 78 [.slice A l.length cap,.func (.func kf) #[] cs] w (.bool (l.any p)):=by
 unfold Gv
 have hf:=zD2 p l
 (refine zJ (n:=9) Tryz.func78 rfl rfl rfl ?_)
 (repeat' (first|((with_reducible refine zF ?_);first|refine zE rfl rfl rfl ?_|refine zC rfl rfl rfl ?_|(refine zQ rfl rfl rfl rfl rfl (fun h=>?_) (fun h=>?_)<;>(dsimp only [cmpP] at h;(try (exfalso;omega))))|refine zV rfl rfl rfl rfl (fun _ _ q=>zMX l A cap kf cs p _ (hk.below q.below) hl (fun x W hx hW=>hp x W hx (q.below.trans (hW.mono q.base)))) ?_)|(with_reducible first|refine zH ?_|refine zB ?_|refine zD ?_|refine zA ?_|refine zX ?_)))
 all_goals exact zS (by exact rTm rfl) () trivial (by simp only [resV];rw [← hf];simp;omega) (fun _ h=>h.sub (by (repeat constructor)))
def zKb (n:Int) (u:Hour):Hour:={ u with runs:=n }
def zBW (c:Cov) (J:Nat) (n:Int):Cov:={ c with hours:=c.hours.set J (zKb n (c.hours.getD J default)) }
theorem zCQ {c:Cov} {J:Nat} {n:Int}:(zBW c J n).hours.length=c.hours.length:=by simp [zBW]
theorem zHZ {c:Cov} {J:Nat} {n:Int} (h:Small c):Small (zBW c J n):=⟨h.fit,h.t,h.b,by rw [zCQ];exact h.h⟩
theorem zIg {c:Cov} {J:Nat} {n:Int} (hJ:J<c.hours.length) (h0:0≤n) (h1:n≤60) (h:zDo c):zDo (zBW c J n) :=
 ⟨h.bed,fun u hu=>by
  rcases List.mem_or_eq_of_mem_set hu with hu|rfl
  ·exact h.hour u hu
  ·have:=h.hour (c.hours.getD J default) (by rw [zBB (List.getElem?_eq_getElem hJ)];exact List.getElem_mem hJ)
   simp only [zCH,Bool.and_eq_true,zAC] at this ⊢
   exact ⟨⟨this.1.1,by simp only [zKb];omega⟩,this.2⟩,h.wear,h.layer,h.rate,h.limit,h.base,h.beds,by rw [zCQ];exact h.hours⟩
def zG0 (c:Cov) (pl:List Sli) (J:Nat) (n:Int):Bool:=!(zCL (zBW c J n) pl zCc).any fun p=>decide (p.1=(J:Int))
theorem zMf (g J:Nat) (p:Int × Int) (w:World) (hg:InC w g 0 [.int .i64 (J:Int)]):Gv Tryz.prog 79 [.agg (zAW p).toArray,.pointer (some ⟨g,0,none⟩)] w (.bool (decide (p.1=(J:Int)))):=by
 unfold Gv zAW
 (refine zJ (n:=8) Tryz.func79 rfl rfl rfl ?_)
 (repeat' (first|((with_reducible refine zF ?_);first|refine zC rfl rfl rfl ?_|(refine zK rfl rfl rfl ?_;refine ⟨_,rfl,?_⟩)|(refine zQ rfl rfl rfl rfl rfl (fun h=>?_) (fun h=>?_)<;>(dsimp only [cmpP] at h;(try (exfalso;omega))))|refine zFv rfl rfl rfl rfl rfl (by first|decide|omega) ?_|(refine zu rfl rfl rfl rfl (fun b=>?_)))|(with_reducible first|refine zH ?_|refine zB ?_|refine zD ?_|refine zA ?_|refine zX ?_)))
 all_goals exact zS (by exact rTm rfl) () trivial (by simp [resV];omega) (fun _ h=>h.sub (by (repeat constructor)))
set_option maxHeartbeats 4000000 in
theorem zOH (c:Cov) (A:Option Addr) (ca:Nat) (B:Option Addr) (cb:Nat) (C:Option Addr) (cc g gp gh gr J n:Nat) (pl:List Sli) (P:Option Addr) (cp:Nat) (w:World) (hr:InC w g 0 (zM c A ca B cb C cc)) (hG:InC w 0 0 zCP) (h:zAe w c A B C) (hs:Small c) (hf:zDo c) (hp:zBG w P pl) (hrl:∀ s∈pl,s.xs.length≤20) (hpl:pl.length=c.hours.length)
  (hgr:InC w gr 0 [.pointer (some ⟨g,0,none⟩)]) (hgh:InC w gh 0 [.int .i64 (J:Int)]) (hgp:InC w gp 0 [.slice P pl.length cp]) (hJ:J<c.hours.length) (hn:n≤60) :
  Gv Tryz.prog 76 [.int .i64 (n:Int),.pointer (some ⟨gr,0,none⟩),.pointer (some ⟨gh,0,none⟩),.pointer (some ⟨gp,0,none⟩)] w (.bool (zG0 c pl J n)):=by
 have h4:=hs.b;have h5:=hs.h
 have hh:=h.h
 have hT:=fun W C' cc' g' (hW:Below w.heap.size w W) (hx:InC W g' 0 (zM (zBW c J n) A ca B cb C' cc')) (hC:zq zr 5 W C' (zBW c J n).hours)=>zFE (en:=zCc) (enF:=58) zGV (zBW c J n) A ca B cb C' cc' g' pl P cp W hx (hG.below hW) ⟨h.t.below hW,h.b.below hW,hC⟩ (zHZ hs) (zIg hJ (by omega) (by omega) hf) (hp.below hW) hrl (by rw [zCQ];exact hpl)
 obtain ⟨u,hu⟩:∃ u,c.hours[J]?=some u:=⟨_,List.getElem?_eq_getElem hJ⟩
 have hl:=zNO (c:=zBW c J n) (pl:=pl) (en:=zCc) h4 (by rw [zCQ];exact h5)
 unfold zG0
 have hcp:=fun A2 c2 W (hs2:zq zAW 2 W A2 (zCL (zBW c J n) pl zCc)) (hW:Below w.heap.size w W)=>cp_con (zCL (zBW c J n) pl zCc) A2 c2 79 #[.pointer (some ⟨gh,0,none⟩)] (fun p=>decide (p.1=(J:Int))) W hs2 (by omega) (fun x W2 _ hW2=>zMf gh J x W2 (hgh.below (hW.trans (hW2.mono hW.size))))
 generalize hth:zCL (zBW c J n) pl zCc=th at *
 unfold zM at *
 rw [zCQ] at hT
 unfold Gv
 (refine zJ (n:=38) Tryz.func76 rfl rfl rfl ?_)
 (repeat' (first|((with_reducible refine zF ?_);first|refine zE rfl rfl rfl ?_|refine zC rfl rfl rfl ?_|(refine zK rfl rfl rfl ?_;refine ⟨_,rfl,?_⟩)|refine za rfl rfl rfl ?_|(refine zAQ rfl rfl rfl rfl (fun _ _ q=>zLW c.hours C cc _ (hh.below q.below) (by omega) (by omega)) ?_;rintro ⟨A',c'⟩ -;dsimp only [List.cons_append,List.nil_append];refine zDs (Take.here _ _) (by omega) ?_;rintro g' rfl)|(refine zb rfl rfl rfl rfl rfl ?_;refine ⟨rfl,by first|decide|exact Nat.le_of_ble_eq_true rfl|(simp;omega),_,rfl,?_⟩)|(refine zu rfl rfl rfl rfl (fun b=>?_))|(refine zAl rfl rfl rfl ?_;refine ⟨_,rfl,?_⟩)|refine zA6 rfl rfl rfl ?_)|(with_reducible first|refine zH ?_|refine zB ?_|refine zD ?_|refine zA ?_)))
 have hset:(zBW c J n).hours=c.hours.set J (zKb n u):=by simp only [zBW,zBB hu]
 rw [hset] at hT
 have:zAT c.hours J u:=⟨hu⟩
 (refine Two.zA1 [] [] [] rfl (show ([]:List Nat).Nodup by decide) (fun _ h=>h) (by kernel_rfl) [[],[Z],[Z,Z],[Z,Z,Z],[Z,Z,Z,Z],[Y,Y,Y,Y,Y],[Y,Y,Y,Y,Y,Y],[Z,Z,Z,Z,Z,Z,Z],[Z,Z,Z,Z,Z,Z,Z,Z],[Z,Z,Z,Z,Z,Z,Z,Z,Z]] (by kernel_rfl) (by kernel_rfl) (by kernel_rfl) (by kernel_rfl) (by kernel_rfl) ?_)
 (repeat' (first|(((with_reducible refine Two.zDQ ?_ ?_);(· exact rfl);refine ⟨_,fun G=>(by (try simp (decide:=true) only [Two.vis,Two.see,fltT,zAF,Nat.reduceAdd,Nat.reduceSub,if_true,if_false,List.set_cons_zero,List.set_cons_succ,List.set_nil,List.nil_append,List.cons_append]);rfl),?_⟩);first|refine Two.zm _ (fun _=>zAi rfl rfl) (fun _=>rfl) rfl (by intro G G' h;simp (decide:=true) only [h]) ?_|refine Two.zm _ (fun _=>zAG rfl rfl (by exact rfl)) (fun _=>rfl) rfl (by intro G G' h;simp (decide:=true) only [h]) ?_|(refine Two.zAj rfl ?_;refine Two.zm _ (fun _=>zAU rfl rfl) (fun _=>rfl) rfl (by intro G G' h;simp (decide:=true) only [h]) ?_)|refine Two.zm _ (fun _=>zAr (I:=J) rfl rfl rfl rfl (by omega)) (fun _=>rfl) rfl (by exact fun _ _ _=>rfl) ?_|refine Two.zm _ (fun _=>zAg rfl rfl) (fun _=>rfl) rfl (by intro G G' h;simp (decide:=true) only [h]) ?_)|((with_reducible refine Two.zB3 ?_ ?_);(· exact rfl))))
 (intro G;simp only [regsT,zAF,Two.zBb,Two.ini,List.nil_append,List.cons_append])
 refine zHe (enc:=zr) (j:=2) (z:=u) (zKb n u) rfl rfl rfl rfl rfl rfl rfl rfl (by decide) ?_
 (repeat' (first|((with_reducible refine zF ?_);first|refine zE rfl rfl rfl ?_|refine zC rfl rfl rfl ?_|(refine zK rfl rfl rfl ?_;refine ⟨_,rfl,?_⟩)|(refine zAQ rfl rfl rfl rfl (fun _ _ q=>hT _ (some ⟨g',0,none⟩) c' b q.below (zA5 q.own (Below.refl _ _) rfl) ((Own.zMg (by (repeat constructor)) q.own).here (.sl zr 5 (some ⟨g',0,none⟩) (c.hours.set J (zKb n u))) (by simp))) ?_;rintro ⟨A2,c2⟩ -;dsimp only [List.cons_append,List.nil_append])|refine zV rfl rfl rfl rfl (fun _ _ q=>hcp _ _ _ (zAv q.own (Below.refl _ _)) q.below) ?_|refine zAN rfl rfl rfl ?_|refine zBx rfl rfl rfl rfl ?_)|(with_reducible first|refine zH ?_|refine zB ?_|refine zD ?_|refine zA ?_|refine zX ?_)))
 all_goals exact zS (by exact rTm rfl) () trivial rfl (fun _ h=>h.sub (by (repeat constructor)))
end Go.Proofs.YtdigopgncfhiaaaGreatDoor
namespace Go.Proofs.YtdigopgncfhiaaaGreatDoor
open Go.RowKit
set_option maxRecDepth 20000
def bestN (c:Cov) (pl:List Sli) (J:Nat):Nat→Int
 | 0=>-1
 | n+1=>if zG0 c pl J n then (n:Int) else bestN c pl J n
def zF9 (c:Cov) (pl:List Sli) (h:Int):Int × Int :=
 if zBs c pl=0 then (if inB 0 ((c.hours.length:Int) - 1) h=true then (if bestN c pl h.toNat 61<0 then (0,6) else (bestN c pl h.toNat 61,0)) else (0,2)) else (0,zBs c pl)
set_option maxHeartbeats 4000000 in
theorem zNy (c:Cov) (A:Option Addr) (ca:Nat) (B:Option Addr) (cb:Nat) (C:Option Addr) (cc:Nat) (pl:List Sli) (P:Option Addr) (cp:Nat) (h:Int) (w:World) (hc:zAe w c A B C) (hs:Small c) (hp:zBG w P pl) (hl:pl.length≤12) (hrl:∀ s∈pl,s.xs.length≤20) (hG:InC w 0 0 zCP) :
  Gv Tryz.prog 37 [zAH c A ca B cb C cc,.slice P pl.length cp,.int .i64 h] w (.tuple #[.int .i64 (zF9 c pl h).1,.int .i64 (zF9 c pl h).2]):=by
 have hl4:=hs.b;have hl5:=hs.h
 have h1:=fun W (hb:Below w.heap.size w W)=>zDz c A ca B cb C cc pl P cp W (hc.below hb) hs (hp.below hb) hl hrl
 have h2:=fun W (hb:Below w.heap.size w W)=>zDy c A ca B cb C cc pl P cp W (hc.below hb) hs (hp.below hb) hl hrl
 unfold zAH at h1 h2
 unfold Gv zAH zF9
 by_cases h0:zBs c pl=0
 ·rw [if_pos h0]
  obtain ⟨h00,hpl⟩:=zD6 h0
  have hf:=zBu h00
  have h2:=fun W hb=>h2 W hb h00 hpl
  by_cases hin:inB 0 ((c.hours.length:Int) - 1) h=true
  ·rw [if_pos hin]
   obtain ⟨J,rfl,hJ⟩:=zL3 hin
   simp only [Int.toNat_natCast]
   have hB:=fun W (hb:Below w.heap.size w W) g gp gh gr n (hr:InC W g 0 (zM c A ca B cb C cc)) (hgr:InC W gr 0 [.pointer (some ⟨g,0,none⟩)]) (hgh:InC W gh 0 [.int .i64 (J:Int)]) (hgp:InC W gp 0 [.slice P pl.length cp]) hn=>zOH c A ca B cb C cc g gp gh gr J n pl P cp W hr (hG.below hb) (hc.below hb) hs hf (hp.below hb) hrl (zBK.1 hpl).1 hgr hgh hgp hJ hn
   unfold zM at h2 hB ⊢
   (refine zJ (n:=38) Tryz.func37 rfl rfl rfl ?_)
   (repeat' (first|((with_reducible refine zF ?_);first|refine zE rfl rfl rfl ?_|refine zC rfl rfl rfl ?_|(refine zK rfl rfl rfl ?_;refine ⟨_,rfl,?_⟩)|refine za rfl rfl rfl ?_|(refine zQ rfl rfl rfl rfl rfl (fun h=>?_) (fun h=>?_)<;>(dsimp only [cmpP] at h;(try (exfalso;omega))))|(refine zAQ rfl rfl rfl rfl (fun _ _ q=>h2 _ q.below) ?_;rintro g -;dsimp only [List.cons_append,List.nil_append])|(refine zV rfl rfl rfl rfl (fun _ _ q=>hin ▸ iin1 _ _ _ _ _ _ (zAY (enc:=encI) (by exact rfl) _ q.below q.own)) ?_)|refine zc rfl rfl rfl rfl ?_|refine zAN rfl rfl rfl ?_|refine zCC rfl rfl rfl rfl (IntWalk.i64_in _ (by omega)) ?_|refine zo rfl rfl rfl ?_|(refine zb rfl rfl rfl rfl rfl ?_;refine ⟨rfl,by first|decide|exact Nat.le_of_ble_eq_true rfl|(simp;omega),_,rfl,?_⟩)|(refine zj rfl rfl (fun b=>?_))|(refine zu rfl rfl rfl rfl (fun b=>?_))|(refine zY rfl rfl rfl ?_;refine ⟨rfl,_,rfl,fun b=>?_⟩)|refine zBx rfl rfl rfl rfl ?_)|(with_reducible first|refine zH ?_|refine zB ?_|refine zD ?_|refine zA ?_|refine zT ?_|refine zP ?_)|((with_reducible refine zG ?_ ?_);(· exact rfl))))
   rename_i b3 b4 b5 b8
   refine zw (ι:=Nat) [8,10] rfl (fun k=>k≤61∧bestN c pl J 61=bestN c pl J k) (fun k=>[(11,.int .i64 ((k:Int) - 1))]) (fun _=>[.blk b8 [.pointer (some ⟨g,0,none⟩)],.blk b5 [.int .i64 (J:Int)],.blk b4 [.slice P pl.length cp],.blk g (zM c A ca B cb C cc)]) (fun k=>k) 61 ⟨Nat.le_refl _,rfl⟩ (by (repeat first|exact lK1|refine zL rfl ?_)) (by (repeat constructor)) ?_
   rintro k ⟨hk,hbe⟩
   simp only [zAt,zM,List.cons_append,List.nil_append]
   cases k with
   | zero =>
    (repeat' (first|((with_reducible refine zF ?_);first|refine zE rfl rfl rfl ?_|refine zC rfl rfl rfl ?_|(refine zQ rfl rfl rfl rfl rfl (fun h=>?_) (fun h=>?_)<;>(dsimp only [cmpP] at h;(try (exfalso;omega)))))|(with_reducible first|refine zH ?_|refine zB ?_|refine zD ?_|refine zA ?_|refine zX ?_|refine zk ?_|refine zR ?_|refine zW ?_)|((with_reducible refine zG ?_ ?_);(· exact rfl))))
    exact zS (by (exact zi.cons (by exact zAR.tmp rfl) (zi.cons (by exact zAR.tmp rfl) zi.nil))) () trivial (by rw [hbe];simp [bestN,resV]) (fun _ h=>h.sub (by (repeat constructor)))
   | succ n =>
    rw [show (((n+1:Nat):Int) - 1)=(n:Int) by omega]
    (repeat' (first|((with_reducible refine zF ?_);first|refine zE rfl rfl rfl ?_|refine zC rfl rfl rfl ?_|(refine zQ rfl rfl rfl rfl rfl (fun h=>?_) (fun h=>?_)<;>(dsimp only [cmpP] at h;(try (exfalso;omega))))|(refine zAI rfl rfl rfl rfl (fun _ _ q=>hB _ q.below g b4 b5 b8 n (zA5 q.own (Below.refl _ _) rfl) (zA5 q.own (Below.refl _ _) rfl) (zA5 q.own (Below.refl _ _) rfl) (zA5 q.own (Below.refl _ _) rfl) (by omega)) (fun h=>?_) (fun h=>?_)<;>(try (exfalso;omega)))|refine zCC rfl rfl rfl rfl (IntWalk.i64_in _ (by omega)) ?_)|(with_reducible first|refine zH ?_|refine zB ?_|refine zD ?_|refine zA ?_|refine zX ?_|refine zT ?_|refine zZ ?_|refine zP ?_|refine zg ?_|refine zAP ?_)|((with_reducible refine zI ?_ ?_);(· exact rfl))|((with_reducible refine zG ?_ ?_);(· exact rfl))))
    ·exact zS (by (exact zi.cons (by exact zAR.tmp rfl) (zi.cons (by exact zAR.tmp rfl) zi.nil))) () trivial (by rw [hbe,show bestN c pl J (n+1)=(n:Int) from by simp [bestN,h],if_neg (by omega)];rfl) (fun _ h=>h.sub (by (repeat constructor)))
    ·exact zf n ⟨by omega,by rw [hbe];simp [bestN,h]⟩ (by omega) (by (repeat first|exact lK1|refine zL rfl ?_)) (by (repeat constructor))
  ·rw [if_neg hin]
   unfold zM at h2 ⊢
   (refine zJ (n:=38) Tryz.func37 rfl rfl rfl ?_)
   (repeat' (first|((with_reducible refine zF ?_);first|refine zE rfl rfl rfl ?_|refine zC rfl rfl rfl ?_|(refine zK rfl rfl rfl ?_;refine ⟨_,rfl,?_⟩)|refine za rfl rfl rfl ?_|(refine zQ rfl rfl rfl rfl rfl (fun h=>?_) (fun h=>?_)<;>(dsimp only [cmpP] at h;(try (exfalso;omega))))|(refine zAQ rfl rfl rfl rfl (fun _ _ q=>h2 _ q.below) ?_;rintro g -;dsimp only [List.cons_append,List.nil_append])|(refine zV rfl rfl rfl rfl (fun _ _ q=>(Bool.eq_false_iff.2 hin) ▸ iin1 _ _ _ _ _ _ (zAY (enc:=encI) (by exact rfl) _ q.below q.own)) ?_)|refine zc rfl rfl rfl rfl ?_|refine zAN rfl rfl rfl ?_|refine zCC rfl rfl rfl rfl (IntWalk.i64_in _ (by omega)) ?_|refine zo rfl rfl rfl ?_|(refine zb rfl rfl rfl rfl rfl ?_;refine ⟨rfl,by first|decide|exact Nat.le_of_ble_eq_true rfl|(simp;omega),_,rfl,?_⟩)|(refine zj rfl rfl (fun b=>?_))|(refine zu rfl rfl rfl rfl (fun b=>?_))|(refine zY rfl rfl rfl ?_;refine ⟨rfl,_,rfl,fun b=>?_⟩))|(with_reducible first|refine zH ?_|refine zB ?_|refine zD ?_|refine zA ?_|refine zX ?_|refine zT ?_|refine zZ ?_)|((with_reducible refine zI ?_ ?_);(· exact rfl))|((with_reducible refine zG ?_ ?_);(· exact rfl))))
   all_goals exact zS (by (exact zi.cons (by exact zAR.tmp rfl) (zi.cons (by exact zAR.tmp rfl) zi.nil))) () trivial rfl (fun _ h=>h.sub (by (repeat constructor)))
 ·rw [if_neg h0]
  unfold zM at h1 ⊢
  generalize zBs c pl=e at *
  (refine zJ (n:=38) Tryz.func37 rfl rfl rfl ?_)
  (repeat' (first|((with_reducible refine zF ?_);first|refine zE rfl rfl rfl ?_|refine zC rfl rfl rfl ?_|(refine zK rfl rfl rfl ?_;refine ⟨_,rfl,?_⟩)|(refine zQ rfl rfl rfl rfl rfl (fun h=>?_) (fun h=>?_)<;>(dsimp only [cmpP] at h;(try (exfalso;omega))))|refine zV rfl rfl rfl rfl (fun _ _ q=>h1 _ q.below h0) ?_|refine zc rfl rfl rfl rfl ?_|(refine zb rfl rfl rfl rfl rfl ?_;refine ⟨rfl,by first|decide|exact Nat.le_of_ble_eq_true rfl|(simp;omega),_,rfl,?_⟩)|(refine zj rfl rfl (fun b=>?_))|(refine zu rfl rfl rfl rfl (fun b=>?_)))|(with_reducible first|refine zH ?_|refine zB ?_|refine zD ?_|refine zA ?_|refine zX ?_|refine zZ ?_)|((with_reducible refine zI ?_ ?_);(· exact rfl))))
  all_goals exact zS (by (exact zi.cons (by exact zAR.tmp rfl) (zi.cons (by exact zAR.tmp rfl) zi.nil))) () trivial rfl (fun _ h=>h.sub (by (repeat constructor)))
end Go.Proofs.YtdigopgncfhiaaaGreatDoor
namespace Go.Proofs.YtdigopgncfhiaaaGreatDoor
open Go.RowKit
theorem zJu {α:Type} {a b:List α} {i:Nat} (h:a.take i=b.take i) (hl:a.length=b.length) (hi:a.length≤i):a=b:=by
 rwa [List.take_of_length_le hi,List.take_of_length_le (by omega)] at h
theorem zJt {α:Type} {a b:List α} {i:Nat} (h:a.take i=b.take i) (ha:i<a.length) (hb:i<b.length) (he:a[i]=b[i]):a.take (i+1)=b.take (i+1):=by
 rw [List.take_succ_eq_append_getElem ha,List.take_succ_eq_append_getElem hb,h,he]
theorem zIm {α:Type} {a b:List α} {i:Nat} (ha:i<a.length) (hb:i<b.length) (he:a[i]≠b[i]):a≠b:=by
 rintro rfl;exact he rfl
end Go.Proofs.YtdigopgncfhiaaaGreatDoor
namespace Go.Proofs.YtdigopgncfhiaaaGreatDoor
open Go.RowKit
set_option maxRecDepth 20000
set_option maxHeartbeats 1000000 in
theorem zI2 (a b:List Int) (A B:Option Addr) (c d:Nat) (w:World) (ha:zq encI 1 w A a) (hb:zq encI 1 w B b) (hla:a.length≤1000000) (hlb:b.length≤1000000) :
  zAb 68 #[.slice A a.length c,.slice B b.length d] w (.bool (decide (a=b))):=by
 unfold zAb
 have HA:=Lib.hid ha
 have HB:=Lib.hid hb
 clear ha hb
 by_cases hl:a.length=b.length
 ·have hL:=Lib.hid hl
  have hlt0:b.length≤a.length:=by omega
  have hlt1:a.length≤b.length:=by omega
  clear hl
  go_enter Tryz.func68,Tryz.ntmps68
  go_wp2
  go_loopw [5] (fun v wr=>∃ i:Nat,i≤a.length∧v = .int .i64 i∧Below w.heap.size w wr∧Hid (a.take i=b.take i)) (fun v _=>a.length - (intOf v).toNat)
  case atStart=>exact ⟨0,Nat.zero_le _,rfl,Below.refl _ _,by unfold Hid;simp⟩
  case round =>
   obtain ⟨i,hi,rfl,hBw,hF⟩:=hrel
   by_cases hlt:i<a.length
   ·have hltb:i<b.length:=by omega
    obtain ⟨b1,o1,rfl,hb1,hc1⟩:=(HA.out.below hBw).at_ hlt
    obtain ⟨b2,o2,rfl,hb2,hc2⟩:=(HB.out.below hBw).at_ hltb
    have c1:=hc1 0 _ rfl
    have c3:=hc2 0 _ rfl
    simp only [Nat.add_zero,Nat.mul_one] at c1 c3
    clear hc1 hc2
    have hi0:(0:Int)≤i:=by omega
    have hi1:(i:Int)<a.length:=by omega
    have hi2:(i:Int)<b.length:=by omega
    by_cases he:a[i]=b[i]
    ·have hq:a[i]=b[i]:=he
     have HE:=Lib.hid he
     clear he
     go_wp2_with fail
     go_quiet (fail)
     go_wp2
     go_roundw
     case rel=>exact ⟨i+1,by omega,by go_num,below_drewN hBw _,zJt hF.out hlt hltb HE.out⟩
     case measure=>simp [intOf];omega
    ·have hq:¬ a[i]=b[i]:=he
     have HE:=Lib.hid he
     clear he
     go_wp2_with fail
     go_quiet (fail)
     go_wp2
     go_ret
     exact ⟨zBT (by simp [zIm hlt hltb HE.out]),below_drewN hBw _⟩
   ·go_wp2
    go_ret
    exact ⟨zBT (by rw [zJu hF.out hL.out (by omega)];simp),hBw⟩
 ·go_enter Tryz.func68,Tryz.ntmps68
  go_wp2
  go_ret
  exact ⟨zBT (by simp;rintro rfl;exact hl rfl),Below.refl _ _⟩
open Go.RowKit
set_option maxRecDepth 20000
end Go.Proofs.YtdigopgncfhiaaaGreatDoor
namespace Go.Proofs.YtdigopgncfhiaaaGreatDoor
open Go.RowKit
set_option maxRecDepth 20000
def zCk (c:Cov) (pl:List Sli):Bool:=decide (20<c.t.length) || (decide (20<c.beds.length) || (decide (12<c.hours.length) || (decide (12<pl.length) || pl.any fun s=>decide (20<s.xs.length))))
theorem zFI {c:Cov} {pl:List Sli} (h:zCk c pl=false):c.t.length≤20∧c.beds.length≤20∧c.hours.length≤12∧pl.length≤12∧∀ s∈pl,s.xs.length≤20:=by
 unfold zCk at h
 simp only [Bool.or_eq_false_iff,decide_eq_false_iff_not,List.any_eq_false,decide_eq_true_eq] at h
 obtain ⟨h1,h2,h3,h4,h5⟩:=h
 exact ⟨by omega,by omega,by omega,by omega,fun s hs=>by have:=h5 s hs;omega⟩
theorem zLG {c:Cov} {pl:List Sli} (h:20<c.t.length∨20<c.beds.length∨12<c.hours.length∨12<pl.length):zCk c pl=true:=by
 cases hg:zCk c pl with
 | true=>rfl
 | false=>have:=zFI hg;omega
theorem zLF {c:Cov} {pl:List Sli} {s:Sli} (hs:s∈pl) (h:20<s.xs.length):zCk c pl=true:=by
 cases hg:zCk c pl with
 | true=>rfl
 | false=>have:=(zFI hg).2.2.2.2 s hs;omega
theorem zMP {c:Cov} {pl:List Sli} (h1:c.t.length≤20) (h2:c.beds.length≤20) (h3:c.hours.length≤12) (h4:pl.length≤12) (h5:∀ s∈pl,s.xs.length≤20):zCk c pl=false:=by
 unfold zCk
 simp only [Bool.or_eq_false_iff,decide_eq_false_iff_not,List.any_eq_false,decide_eq_true_eq]
 exact ⟨by omega,by omega,by omega,by omega,fun s hs=>by have:=h5 s hs;omega⟩
set_option maxHeartbeats 2000000 in
theorem zKj (c:Cov) (A:Option Addr) (ca:Nat) (B:Option Addr) (cb:Nat) (C:Option Addr) (cc:Nat) (pl:List Sli) (P:Option Addr) (cp:Nat) (w:World) (hp:zBG w P pl) (hcap:pl.length≤cp∧cp≤maxLen) :
  Gv Tryz.prog 54 [zAH c A ca B cb C cc,.slice P pl.length cp] w (.bool (zCk c pl)):=by
 have hpp:=hp.p
 have hgr:=fun W=>(zJS A c.t.length ca W).gv
 unfold vT at hgr
 unfold Gv zAH zM
 (refine zJ (n:=38) Tryz.func54 rfl rfl rfl ?_)
 (repeat' (first|((with_reducible refine zF ?_);first|refine zE rfl rfl rfl ?_|refine zC rfl rfl rfl ?_|(refine zK rfl rfl rfl ?_;refine ⟨_,rfl,?_⟩)|refine za rfl rfl rfl ?_|refine zAB rfl rfl rfl rfl ?_|refine zd rfl rfl rfl ?_|(refine zQ rfl rfl rfl rfl rfl (fun h=>?_) (fun h=>?_)<;>(dsimp only [cmpP] at h;(try (exfalso;omega))))|(refine zAI rfl rfl rfl rfl (fun _ _ q=>hgr _) (fun h=>?_) (fun h=>?_)<;>(try (exfalso;omega)))|refine zo rfl rfl rfl ?_|(refine zu rfl rfl rfl rfl (fun b=>?_)))|(with_reducible first|refine zH ?_|refine zB ?_|refine zD ?_|refine zA ?_|refine zX ?_|refine zT ?_|refine zZ ?_|refine zP ?_)|((with_reducible refine zI ?_ ?_);(· exact rfl))|((with_reducible refine zG ?_ ?_);(· exact rfl))))
 all_goals (try simp only [decide_eq_true_eq,decide_eq_false_iff_not] at *)
 all_goals first|exact zS (by exact rTm rfl) () trivial (by rw [zLG (by omega)];rfl) (fun _ h=>h.sub (by (repeat constructor)))|skip
 refine zw (ι:=Nat) [1] rfl (fun i=>i≤pl.length∧∀ j (z:Sli),j<i→pl[j]?=some z→z.xs.length≤20) (fun i=>[(5,.int .i64 (i:Int))]) (fun _=>[]) (fun i=>pl.length - i) 0 ⟨Nat.zero_le _,fun j z h=>by omega⟩ (by (repeat first|exact lK1|refine zL rfl ?_)) (by (repeat constructor)) ?_
 rintro i ⟨hi,hall⟩
 simp only [zAt,List.cons_append,List.nil_append]
 by_cases hlt:i<pl.length
 ·obtain ⟨s,hsi⟩:∃ s,pl[i]?=some s:=⟨_,List.getElem?_eq_getElem hlt⟩
  have hsm:=List.mem_of_getElem? hsi
  obtain ⟨bb,o,rfl,hblt,hc⟩:=hpp.at_ hlt
  have:InS w bb o zBF 1 pl:=⟨hpp⟩
  have:zAT pl i s:=⟨hsi⟩
  have hy:=fun h=>zLF (c:=c) hsm h
  obtain ⟨sA,xs,sc⟩:=s
  simp only at hy
  (repeat' (first|((with_reducible refine zF ?_);first|refine zE rfl rfl rfl ?_|refine zC rfl rfl rfl ?_|(refine zK rfl rfl rfl ?_;refine ⟨_,rfl,?_⟩)|(refine zQ rfl rfl rfl rfl rfl (fun h=>?_) (fun h=>?_)<;>(dsimp only [cmpP] at h;(try (exfalso;omega))))|refine zh rfl rfl rfl rfl (by omega) ?_|refine zl rfl rfl rfl rfl rfl (by omega) ?_|refine zo rfl rfl rfl ?_)|(with_reducible first|refine zH ?_|refine zB ?_|refine zD ?_|refine zA ?_|refine zX ?_|refine zT ?_|refine zZ ?_|refine zP ?_|refine zg ?_|refine zAP ?_)|((with_reducible refine zI ?_ ?_);(· exact rfl))|((with_reducible refine zG ?_ ?_);(· exact rfl))))
  ·exact zS (by exact rTm rfl) () trivial (by rw [hy (by omega)];rfl) (fun _ h=>h.sub (by (repeat constructor)))
  ·exact zf (i+1) ⟨by omega,fun j z hj hz=>by
    by_cases e:j=i
    ·subst e;rw [hsi] at hz;cases hz;simp only;omega
    ·exact hall j z (by omega) hz⟩ (by omega) (by (repeat first|exact lK1|refine zL rfl ?_)) (by (repeat constructor))
 ·obtain rfl:i=pl.length:=by omega
  have hg:zCk c pl=false:=zMP (by omega) (by omega) (by omega) (by omega) (fun s hs=>by
   obtain ⟨j,hj⟩:=List.mem_iff_getElem?.1 hs
   exact hall j s (List.getElem?_eq_some_iff.1 hj).1 hj)
  (repeat' (first|((with_reducible refine zF ?_);first|refine zE rfl rfl rfl ?_|refine zC rfl rfl rfl ?_|(refine zQ rfl rfl rfl rfl rfl (fun h=>?_) (fun h=>?_)<;>(dsimp only [cmpP] at h;(try (exfalso;omega))))|refine zo rfl rfl rfl ?_)|(with_reducible first|refine zH ?_|refine zB ?_|refine zD ?_|refine zA ?_|refine zX ?_|refine zk ?_|refine zR ?_|refine zW ?_)|((with_reducible refine zG ?_ ?_);(· exact rfl))))
  exact zS (by exact rTm rfl) () trivial (by rw [hg];rfl) (fun _ h=>h.sub (by (repeat constructor)))
end Go.Proofs.YtdigopgncfhiaaaGreatDoor
namespace Go.Proofs.YtdigopgncfhiaaaGreatDoor
open Go.RowKit
set_option maxRecDepth 20000
def Ent.rows (l:List Sli):Ent:=⟨fun b=>∃ s∈l,∃ o,s.A=some ⟨b,o,none⟩,fun w=>∀ s∈l,zq encI 1 w s.A s.xs,fun w w' hs h hp s hm=>(Ent.sl encI 1 s.A s.xs).loc w w' hs (fun b hb=>h b ⟨s,hm,hb⟩) (hp s hm)⟩
theorem Own.rows_nil {base:Nat} {w:World} {H:List Ent} (h:Own base w H):Own base w (.rows []::H) :=
 ⟨fun e he=>by
  rcases List.mem_cons.1 he with rfl|he
  ·intro s hs;cases hs
  ·exact h.here e he,fun e he b hb=>by
  rcases List.mem_cons.1 he with rfl|he
  ·obtain ⟨s,hs,_⟩:=hb;cases hs
  ·exact h.foot e he b hb,List.pairwise_cons.2 ⟨(fun f _ b hb=>by obtain ⟨s,hs,_⟩:=hb;cases hs),h.apart⟩⟩
theorem Own.zHv {base:Nat} {w:World} {H:List Ent} {A:Option Addr} {xs:List Int} {c:Nat} {l:List Sli} (h:Own base w (.sl encI 1 A xs :: .rows l::H)):Own base w (.rows (l++[⟨A,xs,c⟩])::H):=by
 obtain ⟨a1,a2⟩:=List.pairwise_cons.1 h.apart
 obtain ⟨a3,a4⟩:=List.pairwise_cons.1 a2
 refine ⟨fun e he=>?_,fun e he b hb=>?_,List.pairwise_cons.2 ⟨fun f hf b hb hb'=>?_,a4⟩⟩
 ·rcases List.mem_cons.1 he with rfl|he
  ·intro s hs
   rcases List.mem_append.1 hs with hs|hs
   ·exact (h.here (.rows l) (by simp):∀ s∈l,zq encI 1 w s.A s.xs) s hs
   ·simp only [List.mem_singleton] at hs;subst hs
    exact h.here (.sl encI 1 A xs) (by simp)
  ·exact h.here e (by simp [he])
 ·rcases List.mem_cons.1 he with rfl|he
  ·obtain ⟨s,hs,hb⟩:=hb
   rcases List.mem_append.1 hs with hs|hs
   ·exact h.foot (.rows l) (by simp) b ⟨s,hs,hb⟩
   ·simp only [List.mem_singleton] at hs;subst hs
    exact h.foot (.sl encI 1 A xs) (by simp) b hb
  ·exact h.foot e (by simp [he]) b hb
 ·obtain ⟨s,hs,hb⟩:=hb
  rcases List.mem_append.1 hs with hs|hs
  ·exact a3 f hf b ⟨s,hs,hb⟩ hb'
  ·simp only [List.mem_singleton] at hs;subst hs
   exact a1 f (by simp [hf]) b hb hb'
theorem elem_sl : zIe Tryz.prog 34 38 1 24 (.slice none 0 0) :=
 ⟨by rfl,by exact ⟨_,rfl,rfl,rfl,rfl⟩,by decide,by decide⟩
instance elI_sl : ElI Tryz.prog 34 38 1 24:=⟨⟨_,elem_sl⟩⟩
theorem zKA {pl pl':List Sli} (h:pl.map Sli.xs=pl'.map Sli.xs) (i:Nat):(pl.getD i default).xs=(pl'.getD i default).xs:=by
 have e:∀ l:List Sli,(l.getD i default).xs=(l.map Sli.xs).getD i []:=fun l=>by
  simp only [List.getD_eq_getElem?_getD,List.getElem?_map]
  cases l[i]?<;>rfl
 rw [e,e,h]
theorem zEN {c:Cov} {pl pl':List Sli} (h:pl.map Sli.xs=pl'.map Sli.xs) {z:Bed} {i:Int}:∀ k,thickN c pl z i k=thickN c pl' z i k
 | 0=>rfl
 | k+1=>by simp only [thickN];rw [zEN h k,zKA h]
theorem zJ1 {c:Cov} {pl pl':List Sli} (h:pl.map Sli.xs=pl'.map Sli.xs):zBY c pl=zBY c pl':=by
 have hl:pl.length=pl'.length:=by have:=congrArg List.length h;simpa using this
 unfold zBY
 rw [hl]
 congr 2
 funext i
 unfold zEp
 rw [zKA h]
theorem zB1 {c:Cov} {pl pl':List Sli} (h:pl.map Sli.xs=pl'.map Sli.xs):zBs c pl=zBs c pl':=by unfold zBs;rw [zJ1 h]
theorem zJr {c:Cov} {pl pl':List Sli} (h:pl.map Sli.xs=pl'.map Sli.xs) {i k:Int}:zDB c pl i k=zDB c pl' i k:=by unfold zDB;rw [zB1 h,zEN h]
theorem zIh {c:Cov} {pl pl':List Sli} (h:pl.map Sli.xs=pl'.map Sli.xs) {en:Sp→Sp→Int}:zCF c pl en=zCF c pl' en:=by
 funext z i k
 unfold zCF;rw [zEN h]
theorem zDS {c:Cov} {pl pl':List Sli} (h:pl.map Sli.xs=pl'.map Sli.xs) {en:Sp→Sp→Int}:zCL c pl en=zCL c pl' en:=by unfold zCL;rw [zIh h]
theorem zKN {c:Cov} {pl pl':List Sli} (h:pl.map Sli.xs=pl'.map Sli.xs) {J:Nat} {n:Int}:zG0 c pl J n=zG0 c pl' J n:=by unfold zG0;rw [zDS h]
theorem zHJ {c:Cov} {pl pl':List Sli} (h:pl.map Sli.xs=pl'.map Sli.xs) {J:Nat}:∀ k,bestN c pl J k=bestN c pl' J k
 | 0=>rfl
 | k+1=>by simp only [bestN,zKN h,zHJ h k]
theorem zK0 {c:Cov} {pl pl':List Sli} (h:pl.map Sli.xs=pl'.map Sli.xs) {k:Int}:zF9 c pl k=zF9 c pl' k:=by unfold zF9;rw [zB1 h,zHJ h]
end Go.Proofs.YtdigopgncfhiaaaGreatDoor
namespace Go.Proofs.YtdigopgncfhiaaaGreatDoor
open Go.RowKit
set_option maxRecDepth 20000
set_option maxHeartbeats 2000000 in
theorem zIk (a m:List Sli) (A:Option Addr) (ca:Nat) (B:Option Addr) (cb:Nat) (w:World) (ha:zBG w A a) (hb:zBG w B m) (hab:a.map Sli.xs=m.map Sli.xs) (hl:a.length≤1000) (hrl:∀ s∈m,s.xs.length≤1000) :
  Gv Tryz.prog 53 [.slice A a.length ca,.slice B m.length cb] w (.bool true):=by
 have hlen:a.length=m.length:=by have:=congrArg List.length hab;simpa using this
 have hap:=ha.p;have hbp:=hb.p
 have hS:∀ (x:List Int) (X:Option Addr) (cx:Nat) (Y:Option Addr) (cy:Nat) W,zq encI 1 W X x→zq encI 1 W Y x→x.length≤1000→Gv Tryz.prog 27 [.slice X x.length cx,.slice Y x.length cy] W (.bool true):=by
  intro x X cx Y cy W h1 h2 h3
  have hs:=fun W' (hW:Below W.heap.size W W')=>(zI2 x x X Y cx cy W' (h1.below hW) (h2.below hW) (by omega) (by omega)).gv
  simp only [decide_true] at hs
  unfold Gv
  (refine zJ (n:=8) Tryz.func27 rfl rfl rfl ?_)
  (repeat' (first|((with_reducible refine zF ?_);first|refine zE rfl rfl rfl ?_|refine zC rfl rfl rfl ?_|refine zV rfl rfl rfl rfl (fun _ _ q=>hs _ q.below) ?_)|(with_reducible first|refine zH ?_|refine zB ?_|refine zD ?_|refine zA ?_|refine zX ?_)))
  all_goals exact zS (by exact rTm rfl) () trivial rfl (fun _ h=>h.sub (by (repeat constructor)))
 unfold Gv
 (refine zJ (n:=27) Tryz.func53 rfl rfl rfl ?_)
 (repeat' (first|((with_reducible refine zF ?_);first|refine zE rfl rfl rfl ?_|refine zC rfl rfl rfl ?_|(refine zQ rfl rfl rfl rfl rfl (fun h=>?_) (fun h=>?_)<;>(dsimp only [cmpP] at h;(try (exfalso;omega))))|refine zo rfl rfl rfl ?_)|(with_reducible first|refine zH ?_|refine zB ?_|refine zD ?_|refine zA ?_|refine zT ?_|refine zP ?_)|((with_reducible refine zG ?_ ?_);(· exact rfl))))
 refine zw (ι:=Nat) [0,1] rfl (fun i=>i≤a.length) (fun i=>[(5,.int .i64 (i:Int))]) (fun _=>[]) (fun i=>a.length - i) 0 (Nat.zero_le _) (by (repeat first|exact lK1|refine zL rfl ?_)) (by (repeat constructor)) ?_
 rintro i hi
 simp only [zAt,List.cons_append,List.nil_append]
 by_cases hlt:i<a.length
 ·obtain ⟨s,hsi⟩:∃ s,a[i]?=some s:=⟨_,List.getElem?_eq_getElem hlt⟩
  obtain ⟨u,hui⟩:∃ u,m[i]?=some u:=⟨_,List.getElem?_eq_getElem (by omega)⟩
  have hxs:s.xs=u.xs:=by
   have:=zKA hab i
   rwa [zBB hsi,zBB hui] at this
  have r1:=ha.rows s (List.mem_of_getElem? hsi)
  have r2:=hb.rows u (List.mem_of_getElem? hui)
  have r3:=hrl u (List.mem_of_getElem? hui)
  obtain ⟨b1,o1,rfl,hb1,hc1⟩:=hap.at_ hlt
  obtain ⟨b2,o2,rfl,hb2,hc2⟩:=hbp.at_ (show i<m.length by omega)
  have:InS w b1 o1 zBF 1 a:=⟨hap⟩
  have:InS w b2 o2 zBF 1 m:=⟨hbp⟩
  obtain ⟨sA,xs,sc⟩:=s
  obtain ⟨uA,xs',uc⟩:=u
  simp only at hxs r1 r2 r3
  subst hxs
  have:zAT a i ⟨sA,xs,sc⟩:=⟨hsi⟩
  have:zAT m i ⟨uA,xs,uc⟩:=⟨hui⟩
  (repeat' (first|((with_reducible refine zF ?_);first|refine zE rfl rfl rfl ?_|(refine zQ rfl rfl rfl rfl rfl (fun h=>?_) (fun h=>?_)<;>(dsimp only [cmpP] at h;(try (exfalso;omega))))|refine zo rfl rfl rfl ?_)|(with_reducible first|refine zH ?_|refine zB ?_|refine zD ?_|refine zA ?_|refine zT ?_|refine zP ?_)|((with_reducible refine zI ?_ ?_);(· exact rfl))))
  (refine zBP (by kernel_rfl) (by kernel_rfl) (by kernel_rfl) ?_)
  (repeat' (first|((with_reducible refine zBr ?_);first|refine zn (zAi rfl rfl) rfl ?_|refine zn (zAG rfl rfl (by exact rfl)) rfl ?_|refine zn (zAr (I:=i) rfl rfl rfl (by omega) (by first|omega|(dsimp only;omega))) rfl ?_|refine zEU rfl rfl rfl rfl (fun _ _ q=>hS xs _ _ _ _ _ (r1.below q.below) (r2.below q.below) r3) ?_|refine zn (e_not rfl rfl) rfl ?_)|(with_reducible refine zCZ ?_)))
  (repeat' (first|((with_reducible refine zF ?_);first|refine zE rfl rfl rfl ?_|refine zC rfl rfl rfl ?_|refine zh rfl rfl rfl rfl (by omega) ?_)|(with_reducible first|refine zB ?_|refine zD ?_|refine zA ?_|refine zT ?_|refine zg ?_)|((with_reducible refine zG ?_ ?_);(· exact rfl))))
  exact zf (i+1) (by omega) (by omega) (by (repeat first|exact lK1|refine zL rfl ?_)) (by (repeat constructor))
 ·obtain rfl:i=a.length:=by omega
  (repeat' (first|((with_reducible refine zF ?_);first|refine zE rfl rfl rfl ?_|refine zC rfl rfl rfl ?_|(refine zQ rfl rfl rfl rfl rfl (fun h=>?_) (fun h=>?_)<;>(dsimp only [cmpP] at h;(try (exfalso;omega))))|refine zo rfl rfl rfl ?_)|(with_reducible first|refine zH ?_|refine zB ?_|refine zD ?_|refine zA ?_|refine zX ?_|refine zk ?_|refine zR ?_|refine zW ?_)|((with_reducible refine zG ?_ ?_);(· exact rfl))))
  exact zS (by exact rTm rfl) () trivial rfl (fun _ h=>h.sub (by (repeat constructor)))
end Go.Proofs.YtdigopgncfhiaaaGreatDoor
namespace Go.Proofs.YtdigopgncfhiaaaGreatDoor
open Go.RowKit
set_option maxRecDepth 20000
section
variable {w0 : World} {n:Nat} {d:List Deferred} {R:List (Nat × Value)} {H:List Ent} {o:Oper} {x y:Operand}
theorem e_eqSp {a b:Int} {T':TypeId} (hop:o.op = .binOp .eql 28 x y T') (hx:evR R x=some (.agg #[.int .i64 a,.int .i64 b])) (hy:evR R y=some (.agg #[.int .i64 a,.int .i64 b])):Ev Tryz.prog w0 n d R H o (.bool true):=fun k w q=>by
 have e:=zLn a b a b w
 rw [show zD7 ⟨a,b⟩ ⟨a,b⟩=true from zGJ.2 ⟨rfl,rfl⟩] at e
 have g:=gd_sp .eql x y #[.int .i64 a,.int .i64 b] #[.int .i64 a,.int .i64 b] w
 unfold execOp;rw [hop]
 simp only [Sem.run_bind,q.ev hx,q.ev hy,g,Result.andThen_ok,e,Sem.run_pure]
end
end Go.Proofs.YtdigopgncfhiaaaGreatDoor
