/- C9 -/
import Derived.Test.YtdigopgncfhiaaaGreatDoorC6
import Derived.Test.YtdigopgncfhiaaaGreatDoorC8
set_option linter.unusedSimpArgs false
set_option linter.unusedVariables false
namespace Go.Proofs.YtdigopgncfhiaaaGreatDoor
open Go.RowKit
set_option maxRecDepth 20000
structure Bed where
 thick:Sp
 sun:Int
deriving DecidableEq
structure Hour where
 melt:Sp
 runs:Int
 crew:Int
 cold:Bool
deriving DecidableEq
structure Cov where
 t:List St
 beds:List Bed
 hours:List Hour
 wear:Sp
 layer:Sp
 rate:Int
 limit:Int
 base:Int
instance : Inhabited Bed:=⟨⟨⟨0,0⟩,0⟩⟩
instance : Inhabited Hour:=⟨⟨⟨0,0⟩,0,0,false⟩⟩
def zAJ (b:Bed):List Value:=[.int .i64 b.thick.lo,.int .i64 b.thick.hi,.int .i64 b.sun]
def vBed (b:Bed):Value:=.agg #[.int .i64 b.thick.lo,.int .i64 b.thick.hi,.int .i64 b.sun]
def zp (h:Hour):List Value:=[.int .i64 h.melt.lo,.int .i64 h.melt.hi,.int .i64 h.runs,.int .i64 h.crew,.bool h.cold]
def zFP (h:Hour):Value:=.agg #[.int .i64 h.melt.lo,.int .i64 h.melt.hi,.int .i64 h.runs,.int .i64 h.crew,.bool h.cold]
theorem one_bed (b:Bed):∀ v∈zAJ b,v.oneCell'=true:=by intro v hv;simp [zAJ] at hv;rcases hv with rfl|rfl|rfl<;>rfl
theorem one_hour (h:Hour):∀ v∈zp h,v.oneCell'=true:=by intro v hv;simp [zp] at hv;rcases hv with rfl|rfl|rfl|rfl|rfl<;>rfl
instance : zCc zAJ 3:=⟨fun _=>rfl,one_bed⟩
instance : zCc zp 5:=⟨fun _=>rfl,one_hour⟩
theorem zFi {α:Type} {p:α→Bool} {l:List α} {i:Nat} (h:i<l.length) (hp:p l[i]=true) (hb:∀ j y,j<i→l[j]?=some y→p y=false):zDp p l=i:=by
 have:l.findIdx? p=some i:=List.findIdx?_eq_some_iff_getElem.2 ⟨h,hp,fun j hj=>by
  have:=hb j l[j] hj (List.getElem?_eq_getElem (by omega))
  simp [this]⟩
 unfold zDp;rw [this]
theorem zEr {α:Type} {p:α→Bool} {l:List α} (h:∀ y∈l,p y=false):zDp p l = -1:=by
 have:l.findIdx? p=none:=by rw [List.findIdx?_eq_none_iff];intro x hx;simp [h x hx]
 unfold zDp;rw [this]
set_option maxHeartbeats 1000000 in
theorem zK7 (l:List Int) (A:Option Addr) (cap:Nat) (kf:FuncId) [za Tryz.prog kf] (cs:Array Value) (p:Int→Bool) (w:World) (hk:zAB encI 1 w A l) (hl:l.length≤1000000)
  (hp:∀ x W,x∈l→Below w.heap.size w W→Gv Tryz.prog kf ([.int .i64 x]++cs.toList) W (.bool (p x))) :
  Gv Tryz.prog 108 [.slice A l.length cap,.func (.func kf) #[] cs] w (.int .i64 (zDp p l)):=by
 unfold Gv
 (refine zM (n:=19) Tryz.func108 rfl rfl rfl ?_)
 (repeat' (first|((with_reducible refine zG ?_);first|refine zE rfl rfl rfl rfl rfl ?_|refine zC rfl rfl rfl rfl rfl ?_|refine zr rfl rfl rfl rfl rfl ?_)|(with_reducible first|refine zI ?_|refine zB ?_|refine zD ?_|refine zA ?_|refine zN ?_)))
 refine zu (ι:=Nat) [0,1,7] rfl (fun i=>i≤l.length∧∀ j y,j<i→l[j]?=some y→p y=false) (fun i=>[(8,.int .i64 (i:Int))]) (fun _=>[]) (fun i=>l.length - i) 0 ⟨Nat.zero_le _,fun j y h=>by omega⟩ (by (first|exact lK1|(repeat (first|exact lK1|(refine zL rfl ?_))))) (by (repeat (first|exact oK1 _|(refine oK2 (by (repeat (first|exact tK1 _ _|apply tK2))) ?_)))) ?_
 rintro i ⟨hi,hb⟩
 simp only [zAq,List.cons_append,List.nil_append]
 by_cases hlt:i<l.length
 ·have hx:l[i]?=some l[i]:=by simp [hlt]
  obtain ⟨b,o,rfl,hblt,hc⟩:=hk.at_ hlt
  have:InS w b o encI 1 l:=⟨hk⟩
  have:zAR l i l[i]:=⟨hx⟩
  (repeat' (first|((with_reducible refine zG ?_);first|refine zE rfl rfl rfl rfl rfl ?_|refine zC rfl rfl rfl rfl rfl ?_|(refine zK rfl rfl rfl rfl rfl ?_;refine ⟨_,rfl,?_⟩)|(refine zQ rfl rfl rfl rfl rfl rfl rfl (fun h=>?_) (fun h=>?_)<;>(dsimp only [cmpP] at h;(try (exfalso;omega))))|(refine zAm rfl rfl rfl rfl rfl rfl (fun _ _ q=>hp _ _ (List.getElem_mem hlt) q.below) (fun h=>?_) (fun h=>?_)<;>(try (exfalso;omega)))|refine zj rfl rfl rfl rfl rfl rfl (by omega) ?_|refine zi rfl rfl rfl rfl rfl rfl rfl (by omega) ?_)|(with_reducible first|refine zI ?_|refine zB ?_|refine zD ?_|refine zA ?_|refine zb ?_|refine zP ?_|refine zd ?_|refine zN ?_|refine zk ?_|refine zA3 ?_)|((with_reducible refine zJ ?_ ?_);(· exact rfl))|((with_reducible refine zF ?_ ?_);(· exact rfl))))
  ·have e1:=zFi hlt h hb
   exact zT (by (exact zO.cons (by exact zq.tmp rfl) zO.nil)) () trivial (by rw [e1];rfl) (fun _ h=>h.sub (by (repeat (first|exact oK1 _|(refine oK2 (by (repeat (first|exact tK1 _ _|apply tK2))) ?_)))))
  ·refine zc (i+1) ⟨by omega,fun j y hj hy=>?_⟩ (by omega) (by (first|exact lK1|(repeat (first|exact lK1|(refine zL rfl ?_))))) (by (repeat (first|exact oK1 _|(refine oK2 (by (repeat (first|exact tK1 _ _|apply tK2))) ?_))))
   by_cases e:j=i
   ·subst e;rw [hx] at hy;cases hy;exact h
   ·exact hb j y (by omega) hy
 ·obtain rfl:i=l.length:=by omega
  have e1:=zEr (p:=p) (l:=l) (fun y hy=>by
   obtain ⟨j,hj⟩:=List.mem_iff_getElem?.1 hy
   exact hb j y (List.getElem?_eq_some_iff.1 hj).1 hj)
  (repeat' (first|((with_reducible refine zG ?_);first|refine zC rfl rfl rfl rfl rfl ?_|(refine zQ rfl rfl rfl rfl rfl rfl rfl (fun h=>?_) (fun h=>?_)<;>(dsimp only [cmpP] at h;(try (exfalso;omega)))))|(with_reducible first|refine zI ?_|refine zB ?_|refine zD ?_|refine zA ?_|refine zb ?_|refine zn ?_|refine zR ?_|refine zY ?_)|((with_reducible refine zF ?_ ?_);(· exact rfl))))
  exact zT (by (exact zO.cons (by exact zq.tmp rfl) zO.nil)) () trivial (by rw [e1];rfl) (fun _ h=>h.sub (by (repeat (first|exact oK1 _|(refine oK2 (by (repeat (first|exact tK1 _ _|apply tK2))) ?_)))))
theorem ci_con (l:List Int) (A:Option Addr) (cap:Nat) (kf:FuncId) [za Tryz.prog kf] (cs:Array Value) (p:Int→Bool) (w:World) (hk:zAB encI 1 w A l) (hl:l.length≤1000000)
  (hp:∀ x W,x∈l→Below w.heap.size w W→Gv Tryz.prog kf ([.int .i64 x]++cs.toList) W (.bool (p x))) :
  Gv Tryz.prog 102 [.slice A l.length cap,.func (.func kf) #[] cs] w (.bool (l.any p)):=by
 unfold Gv
 have hf:=zFh p l
 (refine zM (n:=9) Tryz.func102 rfl rfl rfl ?_)
 (repeat' (first|((with_reducible refine zG ?_);first|refine zE rfl rfl rfl rfl rfl ?_|refine zC rfl rfl rfl rfl rfl ?_|(refine zQ rfl rfl rfl rfl rfl rfl rfl (fun h=>?_) (fun h=>?_)<;>(dsimp only [cmpP] at h;(try (exfalso;omega))))|refine zS rfl rfl rfl rfl rfl rfl (fun _ _ q=>zK7 l A cap kf cs p _ (hk.below q.below) hl (fun x W hx hW=>hp x W hx (q.below.trans (hW.mono q.base)))) ?_)|(with_reducible first|refine zI ?_|refine zB ?_|refine zD ?_|refine zA ?_|refine zb ?_)))
 all_goals exact zT (by (exact zO.cons (by exact zq.tmp rfl) zO.nil)) () trivial (by simp only [resV];rw [← hf];simp;omega) (fun _ h=>h.sub (by (repeat (first|exact oK1 _|(refine oK2 (by (repeat (first|exact tK1 _ _|apply tK2))) ?_)))))
set_option maxHeartbeats 1000000 in
theorem zP9 (l:List Bed) (A:Option Addr) (cap:Nat) (kf:FuncId) [za Tryz.prog kf] (cs:Array Value) (p:Bed→Bool) (w:World) (hk:zAB zAJ 3 w A l) (hl:l.length≤1000000)
  (hp:∀ x W,x∈l→Below w.heap.size w W→Gv Tryz.prog kf ([vBed x]++cs.toList) W (.bool (p x))) :
  Gv Tryz.prog 155 [.slice A l.length cap,.func (.func kf) #[] cs] w (.int .i64 (zDp p l)):=by
 unfold Gv
 (refine zM (n:=19) Tryz.func155 rfl rfl rfl ?_)
 (repeat' (first|((with_reducible refine zG ?_);first|refine zE rfl rfl rfl rfl rfl ?_|refine zC rfl rfl rfl rfl rfl ?_|refine zr rfl rfl rfl rfl rfl ?_)|(with_reducible first|refine zI ?_|refine zB ?_|refine zD ?_|refine zA ?_|refine zN ?_)))
 refine zu (ι:=Nat) [0,1,7] rfl (fun i=>i≤l.length∧∀ j y,j<i→l[j]?=some y→p y=false) (fun i=>[(8,.int .i64 (i:Int))]) (fun _=>[]) (fun i=>l.length - i) 0 ⟨Nat.zero_le _,fun j y h=>by omega⟩ (by (first|exact lK1|(repeat (first|exact lK1|(refine zL rfl ?_))))) (by (repeat (first|exact oK1 _|(refine oK2 (by (repeat (first|exact tK1 _ _|apply tK2))) ?_)))) ?_
 rintro i ⟨hi,hb⟩
 simp only [zAq,List.cons_append,List.nil_append]
 by_cases hlt:i<l.length
 ·have hx:l[i]?=some l[i]:=by simp [hlt]
  obtain ⟨b,o,rfl,hblt,hc⟩:=hk.at_ hlt
  have:InS w b o zAJ 3 l:=⟨hk⟩
  have:zAR l i l[i]:=⟨hx⟩
  (repeat' (first|((with_reducible refine zG ?_);first|refine zE rfl rfl rfl rfl rfl ?_|refine zC rfl rfl rfl rfl rfl ?_|(refine zK rfl rfl rfl rfl rfl ?_;refine ⟨_,rfl,?_⟩)|(refine zQ rfl rfl rfl rfl rfl rfl rfl (fun h=>?_) (fun h=>?_)<;>(dsimp only [cmpP] at h;(try (exfalso;omega))))|(refine zAm rfl rfl rfl rfl rfl rfl (fun _ _ q=>hp _ _ (List.getElem_mem hlt) q.below) (fun h=>?_) (fun h=>?_)<;>(try (exfalso;omega)))|refine zj rfl rfl rfl rfl rfl rfl (by omega) ?_|refine zi rfl rfl rfl rfl rfl rfl rfl (by omega) ?_)|(with_reducible first|refine zI ?_|refine zB ?_|refine zD ?_|refine zA ?_|refine zb ?_|refine zP ?_|refine zd ?_|refine zN ?_|refine zk ?_|refine zA3 ?_)|((with_reducible refine zJ ?_ ?_);(· exact rfl))|((with_reducible refine zF ?_ ?_);(· exact rfl))))
  ·have e1:=zFi hlt h hb
   exact zT (by (exact zO.cons (by exact zq.tmp rfl) zO.nil)) () trivial (by rw [e1];rfl) (fun _ h=>h.sub (by (repeat (first|exact oK1 _|(refine oK2 (by (repeat (first|exact tK1 _ _|apply tK2))) ?_)))))
  ·refine zc (i+1) ⟨by omega,fun j y hj hy=>?_⟩ (by omega) (by (first|exact lK1|(repeat (first|exact lK1|(refine zL rfl ?_))))) (by (repeat (first|exact oK1 _|(refine oK2 (by (repeat (first|exact tK1 _ _|apply tK2))) ?_))))
   by_cases e:j=i
   ·subst e;rw [hx] at hy;cases hy;exact h
   ·exact hb j y (by omega) hy
 ·obtain rfl:i=l.length:=by omega
  have e1:=zEr (p:=p) (l:=l) (fun y hy=>by
   obtain ⟨j,hj⟩:=List.mem_iff_getElem?.1 hy
   exact hb j y (List.getElem?_eq_some_iff.1 hj).1 hj)
  (repeat' (first|((with_reducible refine zG ?_);first|refine zC rfl rfl rfl rfl rfl ?_|(refine zQ rfl rfl rfl rfl rfl rfl rfl (fun h=>?_) (fun h=>?_)<;>(dsimp only [cmpP] at h;(try (exfalso;omega)))))|(with_reducible first|refine zI ?_|refine zB ?_|refine zD ?_|refine zA ?_|refine zb ?_|refine zn ?_|refine zR ?_|refine zY ?_)|((with_reducible refine zF ?_ ?_);(· exact rfl))))
  exact zT (by (exact zO.cons (by exact zq.tmp rfl) zO.nil)) () trivial (by rw [e1];rfl) (fun _ h=>h.sub (by (repeat (first|exact oK1 _|(refine oK2 (by (repeat (first|exact tK1 _ _|apply tK2))) ?_)))))
theorem cb_con (l:List Bed) (A:Option Addr) (cap:Nat) (kf:FuncId) [za Tryz.prog kf] (cs:Array Value) (p:Bed→Bool) (w:World) (hk:zAB zAJ 3 w A l) (hl:l.length≤1000000)
  (hp:∀ x W,x∈l→Below w.heap.size w W→Gv Tryz.prog kf ([vBed x]++cs.toList) W (.bool (p x))) :
  Gv Tryz.prog 136 [.slice A l.length cap,.func (.func kf) #[] cs] w (.bool (l.any p)):=by
 unfold Gv
 have hf:=zFh p l
 (refine zM (n:=9) Tryz.func136 rfl rfl rfl ?_)
 (repeat' (first|((with_reducible refine zG ?_);first|refine zE rfl rfl rfl rfl rfl ?_|refine zC rfl rfl rfl rfl rfl ?_|(refine zQ rfl rfl rfl rfl rfl rfl rfl (fun h=>?_) (fun h=>?_)<;>(dsimp only [cmpP] at h;(try (exfalso;omega))))|refine zS rfl rfl rfl rfl rfl rfl (fun _ _ q=>zP9 l A cap kf cs p _ (hk.below q.below) hl (fun x W hx hW=>hp x W hx (q.below.trans (hW.mono q.base)))) ?_)|(with_reducible first|refine zI ?_|refine zB ?_|refine zD ?_|refine zA ?_|refine zb ?_)))
 all_goals exact zT (by (exact zO.cons (by exact zq.tmp rfl) zO.nil)) () trivial (by simp only [resV];rw [← hf];simp;omega) (fun _ h=>h.sub (by (repeat (first|exact oK1 _|(refine oK2 (by (repeat (first|exact tK1 _ _|apply tK2))) ?_)))))
set_option maxHeartbeats 1000000 in
theorem zP7 (l:List Hour) (A:Option Addr) (cap:Nat) (kf:FuncId) [za Tryz.prog kf] (cs:Array Value) (p:Hour→Bool) (w:World) (hk:zAB zp 5 w A l) (hl:l.length≤1000000)
  (hp:∀ x W,x∈l→Below w.heap.size w W→Gv Tryz.prog kf ([zFP x]++cs.toList) W (.bool (p x))) :
  Gv Tryz.prog 156 [.slice A l.length cap,.func (.func kf) #[] cs] w (.int .i64 (zDp p l)):=by
 unfold Gv
 (refine zM (n:=19) Tryz.func156 rfl rfl rfl ?_)
 (repeat' (first|((with_reducible refine zG ?_);first|refine zE rfl rfl rfl rfl rfl ?_|refine zC rfl rfl rfl rfl rfl ?_|refine zr rfl rfl rfl rfl rfl ?_)|(with_reducible first|refine zI ?_|refine zB ?_|refine zD ?_|refine zA ?_|refine zN ?_)))
 refine zu (ι:=Nat) [0,1,7] rfl (fun i=>i≤l.length∧∀ j y,j<i→l[j]?=some y→p y=false) (fun i=>[(8,.int .i64 (i:Int))]) (fun _=>[]) (fun i=>l.length - i) 0 ⟨Nat.zero_le _,fun j y h=>by omega⟩ (by (first|exact lK1|(repeat (first|exact lK1|(refine zL rfl ?_))))) (by (repeat (first|exact oK1 _|(refine oK2 (by (repeat (first|exact tK1 _ _|apply tK2))) ?_)))) ?_
 rintro i ⟨hi,hb⟩
 simp only [zAq,List.cons_append,List.nil_append]
 by_cases hlt:i<l.length
 ·have hx:l[i]?=some l[i]:=by simp [hlt]
  obtain ⟨b,o,rfl,hblt,hc⟩:=hk.at_ hlt
  have:InS w b o zp 5 l:=⟨hk⟩
  have:zAR l i l[i]:=⟨hx⟩
  (repeat' (first|((with_reducible refine zG ?_);first|refine zE rfl rfl rfl rfl rfl ?_|refine zC rfl rfl rfl rfl rfl ?_|(refine zK rfl rfl rfl rfl rfl ?_;refine ⟨_,rfl,?_⟩)|(refine zQ rfl rfl rfl rfl rfl rfl rfl (fun h=>?_) (fun h=>?_)<;>(dsimp only [cmpP] at h;(try (exfalso;omega))))|(refine zAm rfl rfl rfl rfl rfl rfl (fun _ _ q=>hp _ _ (List.getElem_mem hlt) q.below) (fun h=>?_) (fun h=>?_)<;>(try (exfalso;omega)))|refine zj rfl rfl rfl rfl rfl rfl (by omega) ?_|refine zi rfl rfl rfl rfl rfl rfl rfl (by omega) ?_)|(with_reducible first|refine zI ?_|refine zB ?_|refine zD ?_|refine zA ?_|refine zb ?_|refine zP ?_|refine zd ?_|refine zN ?_|refine zk ?_|refine zA3 ?_)|((with_reducible refine zJ ?_ ?_);(· exact rfl))|((with_reducible refine zF ?_ ?_);(· exact rfl))))
  ·have e1:=zFi hlt h hb
   exact zT (by (exact zO.cons (by exact zq.tmp rfl) zO.nil)) () trivial (by rw [e1];rfl) (fun _ h=>h.sub (by (repeat (first|exact oK1 _|(refine oK2 (by (repeat (first|exact tK1 _ _|apply tK2))) ?_)))))
  ·refine zc (i+1) ⟨by omega,fun j y hj hy=>?_⟩ (by omega) (by (first|exact lK1|(repeat (first|exact lK1|(refine zL rfl ?_))))) (by (repeat (first|exact oK1 _|(refine oK2 (by (repeat (first|exact tK1 _ _|apply tK2))) ?_))))
   by_cases e:j=i
   ·subst e;rw [hx] at hy;cases hy;exact h
   ·exact hb j y (by omega) hy
 ·obtain rfl:i=l.length:=by omega
  have e1:=zEr (p:=p) (l:=l) (fun y hy=>by
   obtain ⟨j,hj⟩:=List.mem_iff_getElem?.1 hy
   exact hb j y (List.getElem?_eq_some_iff.1 hj).1 hj)
  (repeat' (first|((with_reducible refine zG ?_);first|refine zC rfl rfl rfl rfl rfl ?_|(refine zQ rfl rfl rfl rfl rfl rfl rfl (fun h=>?_) (fun h=>?_)<;>(dsimp only [cmpP] at h;(try (exfalso;omega)))))|(with_reducible first|refine zI ?_|refine zB ?_|refine zD ?_|refine zA ?_|refine zb ?_|refine zn ?_|refine zR ?_|refine zY ?_)|((with_reducible refine zF ?_ ?_);(· exact rfl))))
  exact zT (by (exact zO.cons (by exact zq.tmp rfl) zO.nil)) () trivial (by rw [e1];rfl) (fun _ h=>h.sub (by (repeat (first|exact oK1 _|(refine oK2 (by (repeat (first|exact tK1 _ _|apply tK2))) ?_)))))
theorem ch_con (l:List Hour) (A:Option Addr) (cap:Nat) (kf:FuncId) [za Tryz.prog kf] (cs:Array Value) (p:Hour→Bool) (w:World) (hk:zAB zp 5 w A l) (hl:l.length≤1000000)
  (hp:∀ x W,x∈l→Below w.heap.size w W→Gv Tryz.prog kf ([zFP x]++cs.toList) W (.bool (p x))) :
  Gv Tryz.prog 137 [.slice A l.length cap,.func (.func kf) #[] cs] w (.bool (l.any p)):=by
 unfold Gv
 have hf:=zFh p l
 (refine zM (n:=9) Tryz.func137 rfl rfl rfl ?_)
 (repeat' (first|((with_reducible refine zG ?_);first|refine zE rfl rfl rfl rfl rfl ?_|refine zC rfl rfl rfl rfl rfl ?_|(refine zQ rfl rfl rfl rfl rfl rfl rfl (fun h=>?_) (fun h=>?_)<;>(dsimp only [cmpP] at h;(try (exfalso;omega))))|refine zS rfl rfl rfl rfl rfl rfl (fun _ _ q=>zP7 l A cap kf cs p _ (hk.below q.below) hl (fun x W hx hW=>hp x W hx (q.below.trans (hW.mono q.base)))) ?_)|(with_reducible first|refine zI ?_|refine zB ?_|refine zD ?_|refine zA ?_|refine zb ?_)))
 all_goals exact zT (by (exact zO.cons (by exact zq.tmp rfl) zO.nil)) () trivial (by simp only [resV];rw [← hf];simp;omega) (fun _ h=>h.sub (by (repeat (first|exact oK1 _|(refine oK2 (by (repeat (first|exact tK1 _ _|apply tK2))) ?_)))))
theorem iin_fn (x lo hi:Int) (b c:Nat) (w:World) (h1:InC w b 0 [.int .i64 lo]) (h2:InC w c 0 [.int .i64 hi]):Gv Tryz.prog 103 [.int .i64 x,.pointer (some ⟨b,0,none⟩),.pointer (some ⟨c,0,none⟩)] w (.bool (!inB lo hi x)):=by
 unfold Gv
 (refine zM (n:=13) Tryz.func103 rfl rfl rfl ?_)
 (repeat' (first|((with_reducible refine zG ?_);first|refine zE rfl rfl rfl rfl rfl ?_|refine zC rfl rfl rfl rfl rfl ?_|(refine zK rfl rfl rfl rfl rfl ?_;refine ⟨_,rfl,?_⟩)|refine zAf rfl rfl rfl rfl rfl rfl ?_|refine zAT rfl rfl rfl ?_|(refine zQ rfl rfl rfl rfl rfl rfl rfl (fun h=>?_) (fun h=>?_)<;>(dsimp only [cmpP] at h;(try (exfalso;omega)))))|(with_reducible first|refine zI ?_|refine zB ?_|refine zD ?_|refine zA ?_|refine zb ?_)))
 all_goals exact zT (by (exact zO.cons (by exact zq.tmp rfl) zO.nil)) () trivial (by simp [resV,inB];omega) (fun _ h=>h.sub (by (repeat (first|exact oK1 _|(refine oK2 (by (repeat (first|exact tK1 _ _|apply tK2))) ?_)))))
theorem zND (lo hi:Int) (l:List Int) (A:Option Addr) (cap:Nat) (w:World) (hk:zAB encI 1 w A l) (hl:l.length≤1000000):Gv Tryz.prog 60 [.int .i64 lo,.int .i64 hi,.slice A l.length cap] w (.bool (l.all (inB lo hi))):=by
 unfold Gv
 rw [← zQs]
 (refine zM (n:=11) Tryz.func60 rfl rfl rfl ?_)
 (repeat' (first|((with_reducible refine zG ?_);first|refine zE rfl rfl rfl rfl rfl ?_|refine zC rfl rfl rfl rfl rfl ?_|refine zS rfl rfl rfl rfl rfl rfl (fun _ _ q=>ci_con l A cap _ _ (fun n=>!inB lo hi n) _ (hk.below q.below) hl (fun x W' _ hW'=>iin_fn x lo hi _ _ W' (zBi q.own hW' rfl) (zBi q.own hW' rfl))) ?_|refine zAh rfl rfl rfl rfl rfl ?_|(refine zAM rfl rfl rfl rfl rfl rfl (fun b=>?_))|refine zCo rfl rfl rfl rfl rfl rfl ?_)|(with_reducible first|refine zI ?_|refine zB ?_|refine zD ?_|refine zA ?_|refine zb ?_)))
 all_goals exact zT (by (exact zO.cons (by exact zq.tmp rfl) zO.nil)) () trivial rfl (fun _ _=>Own.nil _ _)
theorem iin1 (lo hi a:Int) (c:Nat) (A:Option Addr) (w:World) (hk:zAB encI 1 w A [a]):Gv Tryz.prog 60 [.int .i64 lo,.int .i64 hi,.slice A 1 c] w (.bool (inB lo hi a)):=by
 have:=zND lo hi [a] A c w hk (by simp)
 simpa using this
theorem iin2 (lo hi a b:Int) (c:Nat) (A:Option Addr) (w:World) (hk:zAB encI 1 w A [a,b]):Gv Tryz.prog 60 [.int .i64 lo,.int .i64 hi,.slice A 2 c] w (.bool (inB lo hi a && inB lo hi b)):=by
 have:=zND lo hi [a,b] A c w hk (by simp)
 simpa using this
theorem zCY (s:Sp) (lo hi:Int) (w:World):Gv Tryz.prog 80 [vSp s,.int .i64 lo,.int .i64 hi] w (.bool (zBu s lo hi)):=by
 unfold Gv vSp
 (refine zM (n:=22) Tryz.func80 rfl rfl rfl ?_)
 (repeat' (first|((with_reducible refine zG ?_);first|refine zE rfl rfl rfl rfl rfl ?_|refine zC rfl rfl rfl rfl rfl ?_|(refine zK rfl rfl rfl rfl rfl ?_;refine ⟨_,rfl,?_⟩)|refine ze rfl rfl rfl rfl rfl ?_|refine zAf rfl rfl rfl rfl rfl rfl ?_|refine zAT rfl rfl rfl ?_|(refine zQ rfl rfl rfl rfl rfl rfl rfl (fun h=>?_) (fun h=>?_)<;>(dsimp only [cmpP] at h;(try (exfalso;omega))))|(refine zAm rfl rfl rfl rfl rfl rfl (fun _ _ q=>iin2 _ _ _ _ _ _ _ (zHu (enc:=encI) [_,_] (by exact rfl) _ q.below q.own)) (fun h=>?_) (fun h=>?_)<;>skip)|(refine zAM rfl rfl rfl rfl rfl rfl (fun b=>?_))|(refine zz rfl rfl rfl rfl rfl ?_;refine ⟨rfl,_,rfl,fun b=>?_⟩))|(with_reducible first|refine zI ?_|refine zB ?_|refine zD ?_|refine zA ?_|refine zb ?_)))
 all_goals exact zT (by (exact zO.cons (by exact zq.tmp rfl) zO.nil)) () trivial (by first|(simp_all [resV,zBu];done)|(simp_all [resV,zBu];omega)) (fun _ h=>h.sub (by (repeat (first|exact oK1 _|(refine oK2 (by (repeat (first|exact tK1 _ _|apply tK2))) ?_)))))
theorem zDb (n lo hi:Int) (w:World):Gv Tryz.prog 67 [.int .i64 n,.int .i64 lo,.int .i64 hi] w (.bool (inB lo hi n)):=by
 unfold Gv
 (refine zM (n:=15) Tryz.func67 rfl rfl rfl ?_)
 (repeat' (first|((with_reducible refine zG ?_);first|refine zE rfl rfl rfl rfl rfl ?_|refine zC rfl rfl rfl rfl rfl ?_|refine zAf rfl rfl rfl rfl rfl rfl ?_|refine zAT rfl rfl rfl ?_|(refine zQ rfl rfl rfl rfl rfl rfl rfl (fun h=>?_) (fun h=>?_)<;>(dsimp only [cmpP] at h;(try (exfalso;omega)))))|(with_reducible first|refine zI ?_|refine zB ?_|refine zD ?_|refine zA ?_|refine zb ?_)))
 all_goals exact zT (by (exact zO.cons (by exact zq.tmp rfl) zO.nil)) () trivial (by simp [resV,inB];omega) (fun _ h=>h.sub (by (repeat (first|exact oK1 _|(refine oK2 (by (repeat (first|exact tK1 _ _|apply tK2))) ?_)))))
theorem zD3 (s:Sp) (lo hi:Int) (w:World):Gv Tryz.prog 129 [vSp s,.int .i64 lo,.int .i64 hi] w (.bool (zBu s lo hi)):=by
 unfold Gv vSp
 (refine zM (n:=24) Tryz.func129 rfl rfl rfl ?_)
 (repeat' (first|((with_reducible refine zG ?_);first|refine zE rfl rfl rfl rfl rfl ?_|refine zC rfl rfl rfl rfl rfl ?_|(refine zK rfl rfl rfl rfl rfl ?_;refine ⟨_,rfl,?_⟩)|refine ze rfl rfl rfl rfl rfl ?_|refine zAf rfl rfl rfl rfl rfl rfl ?_|refine zAT rfl rfl rfl ?_|(refine zQ rfl rfl rfl rfl rfl rfl rfl (fun h=>?_) (fun h=>?_)<;>(dsimp only [cmpP] at h;(try (exfalso;omega))))|(refine zAM rfl rfl rfl rfl rfl rfl (fun b=>?_)))|(with_reducible first|refine zI ?_|refine zB ?_|refine zD ?_|refine zA ?_|refine zb ?_)))
 all_goals exact zT (by (exact zO.cons (by exact zq.tmp rfl) zO.nil)) () trivial (by simp [resV,zBu,inB];omega) (fun _ h=>h.sub (by (repeat (first|exact oK1 _|(refine oK2 (by (repeat (first|exact tK1 _ _|apply tK2))) ?_)))))
def zC0 (b:Bed):Bool:=zBu b.thick 0 2000 && inB 0 9 b.sun
def zBX (h:Hour):Bool:=zBu h.melt 0 50 && inB 0 60 h.runs && inB 0 12 h.crew
def zEM (c:Cov):Bool:=decide (c.beds.length=c.t.length) && (inB 1 8 c.hours.length && (c.beds.all zC0 && (c.hours.all zBX && (zBu c.wear 0 20 && (zBu c.layer 1 100 && (inB 0 100 c.rate && (inB 0 2000 c.limit && inB 0 c.limit c.base)))))))
def zAr (c:Cov):Int:=if valid c.t then (if zEM c then 0 else 20) else 10
theorem ibed_fn (z:Bed) (w:World):Gv Tryz.prog 134 [vBed z] w (.bool (!zC0 z)):=by
 unfold Gv vBed
 (refine zM (n:=14) Tryz.func134 rfl rfl rfl ?_)
 (repeat' (first|((with_reducible refine zG ?_);first|refine zE rfl rfl rfl rfl rfl ?_|refine zC rfl rfl rfl rfl rfl ?_|(refine zK rfl rfl rfl rfl rfl ?_;refine ⟨_,rfl,?_⟩)|refine ze rfl rfl rfl rfl rfl ?_|refine zAf rfl rfl rfl rfl rfl rfl ?_|refine zAT rfl rfl rfl ?_|(refine zAm rfl rfl rfl rfl rfl rfl (fun _ _ q=>zCY z.thick 0 2000 _) (fun h=>?_) (fun h=>?_)<;>(try (exfalso;omega)))|(refine zAm rfl rfl rfl rfl rfl rfl (fun _ _ q=>iin1 _ _ _ _ _ _ (zAl (enc:=encI) (by exact rfl) _ q.below q.own)) (fun h=>?_) (fun h=>?_)<;>(try (exfalso;omega)))|refine zAh rfl rfl rfl rfl rfl ?_|(refine zAM rfl rfl rfl rfl rfl rfl (fun b=>?_))|(refine zz rfl rfl rfl rfl rfl ?_;refine ⟨rfl,_,rfl,fun b=>?_⟩))|(with_reducible first|refine zI ?_|refine zB ?_|refine zD ?_|refine zA ?_|refine zb ?_)))
 all_goals exact zT (by (exact zO.cons (by exact zq.tmp rfl) zO.nil)) () trivial (by simp_all [resV,zC0]) (fun _ h=>h.sub (by (repeat (first|exact oK1 _|(refine oK2 (by (repeat (first|exact tK1 _ _|apply tK2))) ?_)))))
theorem ihour_fn (z:Hour) (w:World):Gv Tryz.prog 135 [zFP z] w (.bool (!zBX z)):=by
 unfold Gv zFP
 (refine zM (n:=21) Tryz.func135 rfl rfl rfl ?_)
 (repeat' (first|((with_reducible refine zG ?_);first|refine zE rfl rfl rfl rfl rfl ?_|refine zC rfl rfl rfl rfl rfl ?_|(refine zK rfl rfl rfl rfl rfl ?_;refine ⟨_,rfl,?_⟩)|refine ze rfl rfl rfl rfl rfl ?_|refine zAf rfl rfl rfl rfl rfl rfl ?_|refine zAT rfl rfl rfl ?_|(refine zAm rfl rfl rfl rfl rfl rfl (fun _ _ q=>zCY z.melt 0 50 _) (fun h=>?_) (fun h=>?_)<;>(try (exfalso;omega)))|(refine zAm rfl rfl rfl rfl rfl rfl (fun _ _ q=>iin1 _ _ _ _ _ _ (zAl (enc:=encI) (by exact rfl) _ q.below q.own)) (fun h=>?_) (fun h=>?_)<;>(try (exfalso;omega)))|refine zAh rfl rfl rfl rfl rfl ?_|(refine zAM rfl rfl rfl rfl rfl rfl (fun b=>?_))|(refine zz rfl rfl rfl rfl rfl ?_;refine ⟨rfl,_,rfl,fun b=>?_⟩))|(with_reducible first|refine zI ?_|refine zB ?_|refine zD ?_|refine zA ?_|refine zb ?_)))
 all_goals exact zT (by (exact zO.cons (by exact zq.tmp rfl) zO.nil)) () trivial (by simp_all [resV,zBX]) (fun _ h=>h.sub (by (repeat (first|exact oK1 _|(refine oK2 (by (repeat (first|exact tK1 _ _|apply tK2))) ?_)))))
def zH (c:Cov) (A:Option Addr) (ca:Nat) (B:Option Addr) (cb:Nat) (C:Option Addr) (cc:Nat):List Value :=
 [.slice A c.t.length ca,.slice B c.beds.length cb,.slice C c.hours.length cc,.int .i64 c.wear.lo,.int .i64 c.wear.hi,.int .i64 c.layer.lo,.int .i64 c.layer.hi,.int .i64 c.rate,.int .i64 c.limit,.int .i64 c.base]
def zAI (c:Cov) (A:Option Addr) (ca:Nat) (B:Option Addr) (cb:Nat) (C:Option Addr) (cc:Nat):Value:=.agg (zH c A ca B cb C cc).toArray
structure zAU (w:World) (c:Cov) (A B C:Option Addr):Prop where
 t:zAB zAt 9 w A c.t
 b:zAB zAJ 3 w B c.beds
 h:zAB zp 5 w C c.hours
theorem zAU.below {w W:World} {c:Cov} {A B C:Option Addr} (h:zAU w c A B C) (hb:Below w.heap.size w W):zAU W c A B C:=⟨h.t.below hb,h.b.below hb,h.h.below hb⟩
structure Small (c:Cov):Prop where
 fit:zE0 c.t
 t:c.t.length≤20
 b:c.beds.length≤20
 h:c.hours.length≤12
theorem zCg {c:Cov}:zEM c=true↔c.beds.length=c.t.length∧inB 1 8 c.hours.length=true∧c.beds.all zC0=true∧c.hours.all zBX=true∧zBu c.wear 0 20=true∧zBu c.layer 1 100=true∧inB 0 100 c.rate=true∧inB 0 2000 c.limit=true∧inB 0 c.limit c.base=true:=by
 unfold zEM;simp only [Bool.and_eq_true,decide_eq_true_eq]
theorem zO4 {α:Type} {p:α→Bool} {l:List α}:(l.any fun x=>!p x) = !l.all p:=by
 induction l with
 | nil=>rfl
 | cons a l ih=>simp [ih]
set_option maxHeartbeats 2000000 in
theorem zKm (c:Cov) (A:Option Addr) (ca:Nat) (B:Option Addr) (cb:Nat) (C:Option Addr) (cc:Nat) (w:World) (h:zAU w c A B C) (hs:Small c):Gv Tryz.prog 106 [zAI c A ca B cb C cc] w (.int .i64 (zAr c)):=by
 have hT:=fun W (hb:Below w.heap.size w W)=>(check_n c.t A ca W (h.t.below hb) hs.fit (by have:=hs.t;omega))
 have h3:=hs.t;have h4:=hs.b;have h5:=hs.h
 have hB:=fun W (hb:Below w.heap.size w W)=>cb_con c.beds B cb 134 #[] (fun b=>!zC0 b) W (h.b.below hb) (by omega) (fun x W _ _=>ibed_fn x W)
 have hH:=fun W (hb:Below w.heap.size w W)=>ch_con c.hours C cc 135 #[] (fun b=>!zBX b) W (h.h.below hb) (by omega) (fun x W _ _=>ihour_fn x W)
 rw [zO4] at hB hH
 unfold vT at hT
 unfold Gv zAI zH
 cases hv:valid c.t
 ·have e:zAr c=10:=by simp [zAr,hv]
  rw [show zEs c.t=10 by simp [zEs,hv]] at hT
  rw [e]
  (refine zM (n:=73) Tryz.func106 rfl rfl rfl ?_)
  (repeat' (first|((with_reducible refine zG ?_);first|refine zE rfl rfl rfl rfl rfl ?_|refine zC rfl rfl rfl rfl rfl ?_|(refine zK rfl rfl rfl rfl rfl ?_;refine ⟨_,rfl,?_⟩)|refine ze rfl rfl rfl rfl rfl ?_|(refine zQ rfl rfl rfl rfl rfl rfl rfl (fun h=>?_) (fun h=>?_)<;>(dsimp only [cmpP] at h;(try (exfalso;omega))))|refine zS rfl rfl rfl rfl rfl rfl (fun _ _ q=>hT _ q.below) ?_|(refine zAM rfl rfl rfl rfl rfl rfl (fun b=>?_)))|(with_reducible first|refine zI ?_|refine zB ?_|refine zD ?_|refine zA ?_|refine zb ?_|refine zd ?_)|((with_reducible refine zJ ?_ ?_);(· exact rfl))))
  all_goals exact zT (by (exact zO.cons (by exact zq.tmp rfl) zO.nil)) () trivial rfl (fun _ _=>Own.nil _ _)
 ·rw [zK0 hv] at hT
  cases hi:zEM c
  ·have e:zAr c=20:=by simp [zAr,hv,hi]
   rw [e]
   (refine zM (n:=73) Tryz.func106 rfl rfl rfl ?_)
   (repeat' (first|((with_reducible refine zG ?_);first|refine zE rfl rfl rfl rfl rfl ?_|refine zC rfl rfl rfl rfl rfl ?_|(refine zK rfl rfl rfl rfl rfl ?_;refine ⟨_,rfl,?_⟩)|refine ze rfl rfl rfl rfl rfl ?_|refine zAf rfl rfl rfl rfl rfl rfl ?_|refine zAT rfl rfl rfl ?_|(refine zQ rfl rfl rfl rfl rfl rfl rfl (fun h=>?_) (fun h=>?_)<;>(dsimp only [cmpP] at h;(try (exfalso;omega))))|refine zS rfl rfl rfl rfl rfl rfl (fun _ _ q=>hT _ q.below) ?_|(refine zAm rfl rfl rfl rfl rfl rfl (fun _ _ q=>hB _ q.below) (fun h=>?_) (fun h=>?_)<;>(try (exfalso;omega)))|(refine zAm rfl rfl rfl rfl rfl rfl (fun _ _ q=>hH _ q.below) (fun h=>?_) (fun h=>?_)<;>(try (exfalso;omega)))|(refine zAm rfl rfl rfl rfl rfl rfl (fun _ _ q=>zCY c.wear 0 20 _) (fun h=>?_) (fun h=>?_)<;>(try (exfalso;omega)))|(refine zAm rfl rfl rfl rfl rfl rfl (fun _ _ q=>zCY c.layer 1 100 _) (fun h=>?_) (fun h=>?_)<;>(try (exfalso;omega)))|(refine zAm rfl rfl rfl rfl rfl rfl (fun _ _ q=>iin1 _ _ _ _ _ _ (zAl (enc:=encI) (by exact rfl) _ q.below q.own)) (fun h=>?_) (fun h=>?_)<;>(try (exfalso;omega)))|refine zAh rfl rfl rfl rfl rfl ?_|refine zr rfl rfl rfl rfl rfl ?_|(refine zAM rfl rfl rfl rfl rfl rfl (fun b=>?_))|(refine zz rfl rfl rfl rfl rfl ?_;refine ⟨rfl,_,rfl,fun b=>?_⟩))|(with_reducible first|refine zI ?_|refine zB ?_|refine zD ?_|refine zA ?_|refine zb ?_|refine zP ?_|refine zd ?_)|((with_reducible refine zJ ?_ ?_);(· exact rfl))|((with_reducible refine zF ?_ ?_);(· exact rfl))))
   all_goals first|exact zT (by (exact zO.cons (by exact zq.tmp rfl) zO.nil)) () trivial rfl (fun _ _=>Own.nil _ _)|(exfalso;have:=mt zCg.2 (by rw [hi];simp);simp_all;done)|(exfalso;have:=mt zCg.2 (by rw [hi];simp);simp_all;omega)
  ·have e:zAr c=0:=by simp [zAr,hv,hi]
   rw [e]
   obtain ⟨i1,i2,i3,i4,i5,i6,i7,i8,i9⟩:=zCg.1 hi
   rw [i3] at hB
   rw [i4] at hH
   (refine zM (n:=73) Tryz.func106 rfl rfl rfl ?_)
   (repeat' (first|((with_reducible refine zG ?_);first|refine zE rfl rfl rfl rfl rfl ?_|refine zC rfl rfl rfl rfl rfl ?_|(refine zK rfl rfl rfl rfl rfl ?_;refine ⟨_,rfl,?_⟩)|refine ze rfl rfl rfl rfl rfl ?_|refine zAf rfl rfl rfl rfl rfl rfl ?_|(refine zQ rfl rfl rfl rfl rfl rfl rfl (fun h=>?_) (fun h=>?_)<;>(dsimp only [cmpP] at h;(try (exfalso;omega))))|refine zS rfl rfl rfl rfl rfl rfl (fun _ _ q=>hT _ q.below) ?_|refine zS rfl rfl rfl rfl rfl rfl (fun _ _ q=>hB _ q.below) ?_|refine zS rfl rfl rfl rfl rfl rfl (fun _ _ q=>hH _ q.below) ?_|(refine zS rfl rfl rfl rfl rfl rfl (fun _ _ q=>i5 ▸ zCY c.wear 0 20 _) ?_)|(refine zS rfl rfl rfl rfl rfl rfl (fun _ _ q=>i6 ▸ zCY c.layer 1 100 _) ?_)|(refine zAm rfl rfl rfl rfl rfl rfl (fun _ _ q=>iin1 _ _ _ _ _ _ (zAl (enc:=encI) (by exact rfl) _ q.below q.own)) (fun h=>?_) (fun h=>?_)<;>(try (exfalso;simp_all;done)))|refine zAh rfl rfl rfl rfl rfl ?_|refine zr rfl rfl rfl rfl rfl ?_|(refine zAM rfl rfl rfl rfl rfl rfl (fun b=>?_))|(refine zz rfl rfl rfl rfl rfl ?_;refine ⟨rfl,_,rfl,fun b=>?_⟩))|(with_reducible first|refine zI ?_|refine zB ?_|refine zD ?_|refine zA ?_|refine zb ?_|refine zP ?_)|((with_reducible refine zF ?_ ?_);(· exact rfl))))
   all_goals exact zT (by (exact zO.cons (by exact zq.tmp rfl) zO.nil)) () trivial rfl (fun _ _=>Own.nil _ _)
end Go.Proofs.YtdigopgncfhiaaaGreatDoor
namespace Go.Proofs.YtdigopgncfhiaaaGreatDoor
open Go.RowKit
set_option maxRecDepth 20000
theorem zPr {c:Cov} {z:Bed} (hz:z∈c.beds) (h:zC0 z=false):zEM c=false:=by
 cases hi:zEM c with
 | false=>rfl
 | true =>
  have:=List.all_eq_true.1 (zCg.1 hi).2.2.1 z hz
  rw [h] at this;cases this
theorem zOc {c:Cov} {z:Hour} (hz:z∈c.hours) (h:zBX z=false):zEM c=false:=by
 cases hi:zEM c with
 | false=>rfl
 | true =>
  have:=List.all_eq_true.1 (zCg.1 hi).2.2.2.1 z hz
  rw [h] at this;cases this
theorem zGE {α:Type} {p:α→Bool} {l:List α} (h:∀ j z,j<l.length→l[j]?=some z→p z=true):l.all p=true:=by
 rw [List.all_eq_true]
 intro x hx
 obtain ⟨j,hj⟩:=List.mem_iff_getElem?.1 hx
 exact h j x (List.getElem?_eq_some_iff.1 hj).1 hj
theorem zLb {α:Type} {p:α→Bool} {l:List α} {i:Nat} {z:α} (hz:l[i]?=some z) (hp:p z=true) (h:∀ j y,j<i→l[j]?=some y→p y=true):∀ j y,j<i+1→l[j]?=some y→p y=true:=by
 intro j y hj hy
 by_cases e:j=i
 ·subst e;rw [hz] at hy;cases hy;exact hp
 ·exact h j y (by omega) hy
set_option maxHeartbeats 2000000 in
theorem rice_any (c:Cov) (A:Option Addr) (ca:Nat) (B:Option Addr) (cb:Nat) (C:Option Addr) (cc:Nat) (w:World) (h0:zAU w c A B C) (hs:Small c):Gv Tryz.prog 97 [zAI c A ca B cb C cc] w (.bool (zEM c)):=by
 have h3:=hs.t;have h4:=hs.b;have h5:=hs.h
 have hb:=h0.b;have hh:=h0.h
 unfold Gv zAI zH
 (refine zM (n:=106) Tryz.func97 rfl rfl rfl ?_)
 (repeat' (first|((with_reducible refine zG ?_);first|refine zE rfl rfl rfl rfl rfl ?_|refine zC rfl rfl rfl rfl rfl ?_|(refine zK rfl rfl rfl rfl rfl ?_;refine ⟨_,rfl,?_⟩)|refine ze rfl rfl rfl rfl rfl ?_|refine zAf rfl rfl rfl rfl rfl rfl ?_|refine zAT rfl rfl rfl ?_|(refine zQ rfl rfl rfl rfl rfl rfl rfl (fun h=>?_) (fun h=>?_)<;>(dsimp only [cmpP] at h;(try (exfalso;omega))))|(refine zAm rfl rfl rfl rfl rfl rfl (fun _ _ q=>zDb _ _ _ _) (fun h=>?_) (fun h=>?_)<;>(try (exfalso;omega)))|(refine zAm rfl rfl rfl rfl rfl rfl (fun _ _ q=>zD3 c.wear 0 20 _) (fun h=>?_) (fun h=>?_)<;>(try (exfalso;omega)))|(refine zAm rfl rfl rfl rfl rfl rfl (fun _ _ q=>zD3 c.layer 1 100 _) (fun h=>?_) (fun h=>?_)<;>(try (exfalso;omega)))|refine zAh rfl rfl rfl rfl rfl ?_|refine zr rfl rfl rfl rfl rfl ?_|(refine zAM rfl rfl rfl rfl rfl rfl (fun b=>?_)))|(with_reducible first|refine zI ?_|refine zB ?_|refine zD ?_|refine zA ?_|refine zb ?_|refine zP ?_|refine zd ?_|refine zN ?_)|((with_reducible refine zJ ?_ ?_);(· exact rfl))|((with_reducible refine zF ?_ ?_);(· exact rfl))))
 all_goals first|exact zT (by (exact zO.cons (by exact zq.tmp rfl) zO.nil)) () trivial (by rw [show zEM c=false from by cases hi:zEM c with|false=>rfl|true=>(exfalso;obtain ⟨i1,i2,i3,i4,i5,i6,i7,i8,i9⟩:=zCg.1 hi;first|omega|simp_all)];rfl) (fun _ h=>h.sub (by (repeat (first|exact oK1 _|(refine oK2 (by (repeat (first|exact tK1 _ _|apply tK2))) ?_)))))|skip
 refine zu (ι:=Nat) [1] rfl (fun i=>i≤c.beds.length∧∀ j z,j<i→c.beds[j]?=some z→zC0 z=true) (fun i=>[(3,.int .i64 (i:Int))]) (fun _=>[.blk b (zH c A ca B cb C cc)]) (fun i=>c.beds.length - i) 0 ⟨Nat.zero_le _,fun j z h=>by omega⟩ (by (first|exact lK1|(repeat (first|exact lK1|(refine zL rfl ?_))))) (by (repeat (first|exact oK1 _|(refine oK2 (by (repeat (first|exact tK1 _ _|apply tK2))) ?_)))) ?_
 rintro i ⟨hi,hall⟩
 simp only [zAq,List.cons_append,List.nil_append]
 unfold zH
 by_cases hlt:i<c.beds.length
 ·obtain ⟨z,hz⟩:∃ z,c.beds[i]?=some z:=⟨_,List.getElem?_eq_getElem hlt⟩
  have hm:=List.mem_of_getElem? hz
  obtain ⟨bb,o,rfl,hblt,hc⟩:=hb.at_ hlt
  have:InS w bb o zAJ 3 c.beds:=⟨hb⟩
  have:zAR c.beds i z:=⟨hz⟩
  (repeat' (first|((with_reducible refine zG ?_);first|refine zE rfl rfl rfl rfl rfl ?_|refine zC rfl rfl rfl rfl rfl ?_|(refine zK rfl rfl rfl rfl rfl ?_;refine ⟨_,rfl,?_⟩)|refine ze rfl rfl rfl rfl rfl ?_|refine zAf rfl rfl rfl rfl rfl rfl ?_|refine zAT rfl rfl rfl ?_|(refine zQ rfl rfl rfl rfl rfl rfl rfl (fun h=>?_) (fun h=>?_)<;>(dsimp only [cmpP] at h;(try (exfalso;omega))))|(refine zAm rfl rfl rfl rfl rfl rfl (fun _ _ q=>zD3 z.thick 0 2000 _) (fun h=>?_) (fun h=>?_)<;>(try (exfalso;omega)))|(refine zAm rfl rfl rfl rfl rfl rfl (fun _ _ q=>zDb _ _ _ _) (fun h=>?_) (fun h=>?_)<;>(try (exfalso;omega)))|refine zAh rfl rfl rfl rfl rfl ?_|refine zj rfl rfl rfl rfl rfl rfl (by omega) ?_|refine zi rfl rfl rfl rfl rfl rfl rfl (by omega) ?_|refine zr rfl rfl rfl rfl rfl ?_)|(with_reducible first|refine zI ?_|refine zB ?_|refine zD ?_|refine zA ?_|refine zb ?_|refine zP ?_|refine zd ?_|refine zN ?_|refine zk ?_|refine zA3 ?_)|((with_reducible refine zJ ?_ ?_);(· exact rfl))|((with_reducible refine zF ?_ ?_);(· exact rfl))))
  all_goals first|exact zc (i+1) ⟨by omega,zLb hz (by simp_all [zC0];done) hall⟩ (by omega) (by (first|exact lK1|(repeat (first|exact lK1|(refine zL rfl ?_))))) (by (repeat (first|exact oK1 _|(refine oK2 (by (repeat (first|exact tK1 _ _|apply tK2))) ?_))))|exact zT (by (exact zO.cons (by exact zq.tmp rfl) zO.nil)) () trivial (by rw [zPr hm (by simp_all [zC0])];rfl) (fun _ h=>h.sub (by (repeat (first|exact oK1 _|(refine oK2 (by (repeat (first|exact tK1 _ _|apply tK2))) ?_)))))
 ·obtain rfl:i=c.beds.length:=by omega
  have hbeds:=zGE (fun j z hj hz=>hall j z hj hz)
  (repeat' (first|((with_reducible refine zG ?_);first|refine zE rfl rfl rfl rfl rfl ?_|refine zC rfl rfl rfl rfl rfl ?_|(refine zK rfl rfl rfl rfl rfl ?_;refine ⟨_,rfl,?_⟩)|refine ze rfl rfl rfl rfl rfl ?_|(refine zQ rfl rfl rfl rfl rfl rfl rfl (fun h=>?_) (fun h=>?_)<;>(dsimp only [cmpP] at h;(try (exfalso;omega))))|refine zr rfl rfl rfl rfl rfl ?_)|(with_reducible first|refine zI ?_|refine zB ?_|refine zD ?_|refine zA ?_|refine zN ?_|refine zn ?_|refine zR ?_|refine zY ?_)|((with_reducible refine zF ?_ ?_);(· exact rfl))))
  refine zu (ι:=Nat) [1] rfl (fun i=>i≤c.hours.length∧∀ j z,j<i→c.hours[j]?=some z→zBX z=true) (fun i=>[(4,.int .i64 (i:Int))]) (fun _=>[.blk b (zH c A ca B cb C cc)]) (fun i=>c.hours.length - i) 0 ⟨Nat.zero_le _,fun j z h=>by omega⟩ (by (first|exact lK1|(repeat (first|exact lK1|(refine zL rfl ?_))))) (by (repeat (first|exact oK1 _|(refine oK2 (by (repeat (first|exact tK1 _ _|apply tK2))) ?_)))) ?_
  rintro i ⟨hi,hallh⟩
  simp only [zAq,List.cons_append,List.nil_append]
  unfold zH
  by_cases hlt:i<c.hours.length
  ·obtain ⟨z,hz⟩:∃ z,c.hours[i]?=some z:=⟨_,List.getElem?_eq_getElem hlt⟩
   have hm:=List.mem_of_getElem? hz
   obtain ⟨bb,o,rfl,hblt,hc⟩:=hh.at_ hlt
   have:InS w bb o zp 5 c.hours:=⟨hh⟩
   have:zAR c.hours i z:=⟨hz⟩
   (repeat' (first|((with_reducible refine zG ?_);first|refine zE rfl rfl rfl rfl rfl ?_|refine zC rfl rfl rfl rfl rfl ?_|(refine zK rfl rfl rfl rfl rfl ?_;refine ⟨_,rfl,?_⟩)|refine ze rfl rfl rfl rfl rfl ?_|refine zAf rfl rfl rfl rfl rfl rfl ?_|refine zAT rfl rfl rfl ?_|(refine zQ rfl rfl rfl rfl rfl rfl rfl (fun h=>?_) (fun h=>?_)<;>(dsimp only [cmpP] at h;(try (exfalso;omega))))|(refine zAm rfl rfl rfl rfl rfl rfl (fun _ _ q=>zD3 z.melt 0 50 _) (fun h=>?_) (fun h=>?_)<;>(try (exfalso;omega)))|(refine zAm rfl rfl rfl rfl rfl rfl (fun _ _ q=>zDb _ _ _ _) (fun h=>?_) (fun h=>?_)<;>(try (exfalso;omega)))|refine zAh rfl rfl rfl rfl rfl ?_|refine zj rfl rfl rfl rfl rfl rfl (by omega) ?_|refine zi rfl rfl rfl rfl rfl rfl rfl (by omega) ?_|refine zr rfl rfl rfl rfl rfl ?_|(refine zf rfl rfl rfl rfl rfl ?_;refine And.intro rfl (And.intro (by first|decide|exact Nat.le_of_ble_eq_true rfl|(simp;omega)) ⟨_,rfl,?_⟩))|(refine zo rfl rfl rfl rfl (fun b=>?_)))|(with_reducible first|refine zI ?_|refine zB ?_|refine zD ?_|refine zA ?_|refine zb ?_|refine zP ?_|refine zd ?_|refine zN ?_|refine zk ?_|refine zA3 ?_)|((with_reducible refine zJ ?_ ?_);(· exact rfl))|((with_reducible refine zF ?_ ?_);(· exact rfl))))
   all_goals first|exact zc (i+1) ⟨by omega,zLb hz (by simp_all [zBX];done) hallh⟩ (by omega) (by (first|exact lK1|(repeat (first|exact lK1|(refine zL rfl ?_))))) (by (repeat (first|exact oK1 _|(refine oK2 (by (repeat (first|exact tK1 _ _|apply tK2))) ?_))))|exact zT (by (exact zO.cons (by exact zq.tmp rfl) zO.nil)) () trivial (by rw [zOc hm (by simp_all [zBX])];rfl) (fun _ h=>h.sub (by (repeat (first|exact oK1 _|(refine oK2 (by (repeat (first|exact tK1 _ _|apply tK2))) ?_)))))
  ·obtain rfl:i=c.hours.length:=by omega
   have hhours:=zGE (fun j z hj hz=>hallh j z hj hz)
   have e:zEM c=true:=zCg.2 ⟨by omega,by assumption,hbeds,hhours,by assumption,by assumption,by assumption,by assumption,by assumption⟩
   (repeat' (first|((with_reducible refine zG ?_);first|refine zE rfl rfl rfl rfl rfl ?_|refine zC rfl rfl rfl rfl rfl ?_|(refine zK rfl rfl rfl rfl rfl ?_;refine ⟨_,rfl,?_⟩)|refine ze rfl rfl rfl rfl rfl ?_|(refine zQ rfl rfl rfl rfl rfl rfl rfl (fun h=>?_) (fun h=>?_)<;>(dsimp only [cmpP] at h;(try (exfalso;omega))))|refine zr rfl rfl rfl rfl rfl ?_)|(with_reducible first|refine zI ?_|refine zB ?_|refine zD ?_|refine zA ?_|refine zb ?_|refine zn ?_|refine zR ?_|refine zY ?_)|((with_reducible refine zF ?_ ?_);(· exact rfl))))
   exact zT (by (exact zO.cons (by exact zq.tmp rfl) zO.nil)) () trivial (by rw [e];rfl) (fun _ h=>h.sub (by (repeat (first|exact oK1 _|(refine oK2 (by (repeat (first|exact tK1 _ _|apply tK2))) ?_)))))
theorem zN5 (c:Cov) (A:Option Addr) (ca:Nat) (B:Option Addr) (cb:Nat) (C:Option Addr) (cc:Nat) (w:World) (h:zAU w c A B C) (hs:Small c):Gv Tryz.prog 55 [zAI c A ca B cb C cc] w (.int .i64 (zAr c)):=by
 have h3:=hs.t
 have hT:=fun W (hb:Below w.heap.size w W)=>rcheck_n c.t A ca W (h.t.below hb) hs.fit (by omega)
 have hI:=fun W (hb:Below w.heap.size w W)=>rice_any c A ca B cb C cc W (h.below hb) hs
 unfold zAI zH at hI
 unfold Gv zAI zH
 cases hv:valid c.t
 ·have e:zAr c=10:=by simp [zAr,hv]
  rw [show zEs c.t=10 by simp [zEs,hv]] at hT
  rw [e]
  (refine zM (n:=13) Tryz.func55 rfl rfl rfl ?_)
  (repeat' (first|((with_reducible refine zG ?_);first|refine zE rfl rfl rfl rfl rfl ?_|refine zC rfl rfl rfl rfl rfl ?_|(refine zK rfl rfl rfl rfl rfl ?_;refine ⟨_,rfl,?_⟩)|refine ze rfl rfl rfl rfl rfl ?_|(refine zQ rfl rfl rfl rfl rfl rfl rfl (fun h=>?_) (fun h=>?_)<;>(dsimp only [cmpP] at h;(try (exfalso;omega))))|refine zS rfl rfl rfl rfl rfl rfl (fun _ _ q=>hT _ q.below) ?_|(refine zAM rfl rfl rfl rfl rfl rfl (fun b=>?_)))|(with_reducible first|refine zI ?_|refine zB ?_|refine zD ?_|refine zA ?_|refine zb ?_|refine zd ?_)|((with_reducible refine zJ ?_ ?_);(· exact rfl))))
  all_goals exact zT (by (exact zO.cons (by exact zq.tmp rfl) zO.nil)) () trivial rfl (fun _ _=>Own.nil _ _)
 ·rw [zK0 hv] at hT
  cases hi:zEM c
  ·have e:zAr c=20:=by simp [zAr,hv,hi]
   rw [hi] at hI
   rw [e]
   (refine zM (n:=13) Tryz.func55 rfl rfl rfl ?_)
   (repeat' (first|((with_reducible refine zG ?_);first|refine zE rfl rfl rfl rfl rfl ?_|refine zC rfl rfl rfl rfl rfl ?_|(refine zK rfl rfl rfl rfl rfl ?_;refine ⟨_,rfl,?_⟩)|refine ze rfl rfl rfl rfl rfl ?_|(refine zQ rfl rfl rfl rfl rfl rfl rfl (fun h=>?_) (fun h=>?_)<;>(dsimp only [cmpP] at h;(try (exfalso;omega))))|refine zS rfl rfl rfl rfl rfl rfl (fun _ _ q=>hT _ q.below) ?_|refine zS rfl rfl rfl rfl rfl rfl (fun _ _ q=>hI _ q.below) ?_|refine zAh rfl rfl rfl rfl rfl ?_|(refine zAM rfl rfl rfl rfl rfl rfl (fun b=>?_)))|(with_reducible first|refine zI ?_|refine zB ?_|refine zD ?_|refine zA ?_|refine zb ?_|refine zP ?_|refine zd ?_)|((with_reducible refine zJ ?_ ?_);(· exact rfl))|((with_reducible refine zF ?_ ?_);(· exact rfl))))
   all_goals exact zT (by (exact zO.cons (by exact zq.tmp rfl) zO.nil)) () trivial rfl (fun _ _=>Own.nil _ _)
  ·have e:zAr c=0:=by simp [zAr,hv,hi]
   rw [hi] at hI
   rw [e]
   (refine zM (n:=13) Tryz.func55 rfl rfl rfl ?_)
   (repeat' (first|((with_reducible refine zG ?_);first|refine zE rfl rfl rfl rfl rfl ?_|refine zC rfl rfl rfl rfl rfl ?_|(refine zK rfl rfl rfl rfl rfl ?_;refine ⟨_,rfl,?_⟩)|refine ze rfl rfl rfl rfl rfl ?_|(refine zQ rfl rfl rfl rfl rfl rfl rfl (fun h=>?_) (fun h=>?_)<;>(dsimp only [cmpP] at h;(try (exfalso;omega))))|refine zS rfl rfl rfl rfl rfl rfl (fun _ _ q=>hT _ q.below) ?_|refine zS rfl rfl rfl rfl rfl rfl (fun _ _ q=>hI _ q.below) ?_|refine zAh rfl rfl rfl rfl rfl ?_|(refine zAM rfl rfl rfl rfl rfl rfl (fun b=>?_)))|(with_reducible first|refine zI ?_|refine zB ?_|refine zD ?_|refine zA ?_|refine zb ?_|refine zP ?_)|((with_reducible refine zF ?_ ?_);(· exact rfl))))
   all_goals exact zT (by (exact zO.cons (by exact zq.tmp rfl) zO.nil)) () trivial rfl (fun _ _=>Own.nil _ _)
end Go.Proofs.YtdigopgncfhiaaaGreatDoor
