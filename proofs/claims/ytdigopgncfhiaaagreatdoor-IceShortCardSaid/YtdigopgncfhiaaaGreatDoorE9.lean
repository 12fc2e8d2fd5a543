/- E9 -/
import Derived.Test.YtdigopgncfhiaaaGreatDoorE6
import Derived.Test.YtdigopgncfhiaaaGreatDoorE8
set_option linter.unusedSimpArgs false
set_option linter.unusedVariables false
namespace Go.Proofs.YtdigopgncfhiaaaGreatDoor
open Go.RowKit
set_option maxRecDepth 20000
structure Bed where
 thick:Sp
 sun:Int
deriving DecidableEq
structure Hour where
 melt:Sp
 runs:Int
 crew:Int
 cold:Bool
deriving DecidableEq
structure Cov where
 t:List St
 beds:List Bed
 hours:List Hour
 wear:Sp
 layer:Sp
 rate:Int
 limit:Int
 base:Int
instance : Inhabited Bed:=⟨⟨⟨0,0⟩,0⟩⟩
instance : Inhabited Hour:=⟨⟨⟨0,0⟩,0,0,false⟩⟩
def zAd (b:Bed):List Value:=[.int .i64 b.thick.lo,.int .i64 b.thick.hi,.int .i64 b.sun]
def zID (b:Bed):Value:=.agg #[.int .i64 b.thick.lo,.int .i64 b.thick.hi,.int .i64 b.sun]
def zq (h:Hour):List Value:=[.int .i64 h.melt.lo,.int .i64 h.melt.hi,.int .i64 h.runs,.int .i64 h.crew,.bool h.cold]
def zCd (h:Hour):Value:=.agg #[.int .i64 h.melt.lo,.int .i64 h.melt.hi,.int .i64 h.runs,.int .i64 h.crew,.bool h.cold]
theorem one_bed (b:Bed):∀ v∈zAd b,v.oneCell'=true:=by intro v hv;simp [zAd] at hv;rcases hv with rfl|rfl|rfl<;>rfl
theorem one_hour (h:Hour):∀ v∈zq h,v.oneCell'=true:=by intro v hv;simp [zq] at hv;rcases hv with rfl|rfl|rfl|rfl|rfl<;>rfl
instance : zCM zAd 3:=⟨fun _=>rfl,one_bed⟩
instance : zCM zq 5:=⟨fun _=>rfl,one_hour⟩
theorem zEZ {α:Type} {p:α→Bool} {l:List α} {i:Nat} (h:i<l.length) (hp:p l[i]=true) (hb:∀ j y,j<i→l[j]?=some y→p y=false):zC3 p l=i:=by
 have:l.findIdx? p=some i:=List.findIdx?_eq_some_iff_getElem.2 ⟨h,hp,fun j hj=>by
  have:=hb j l[j] hj (List.getElem?_eq_getElem (by omega))
  simp [this]⟩
 unfold zC3;rw [this]
theorem zDu {α:Type} {p:α→Bool} {l:List α} (h:∀ y∈l,p y=false):zC3 p l = -1:=by
 have:l.findIdx? p=none:=by rw [List.findIdx?_eq_none_iff];intro x hx;simp [h x hx]
 unfold zC3;rw [this]
set_option maxHeartbeats 1000000 in
theorem zJd (l:List Int) (A:Option Addr) (cap:Nat) (kf:FuncId) [zZ Tryz.prog kf] (cs:Array Value) (p:Int→Bool) (w:World) (hk:zx encI 1 w A l) (hl:l.length≤1000000)
  (hp:∀ x W,x∈l→Below w.heap.size w W→Gv Tryz.prog kf ([.int .i64 x]++cs.toList) W (.bool (p x))) :
  Gv Tryz.prog 108 [.slice A l.length cap,.func (.func kf) #[] cs] w (.int .i64 (zC3 p l)):=by
 unfold Gv
 (refine zL (n:=19) Tryz.func108 rfl rfl rfl ?_)
 (repeat' (first|((with_reducible refine zG ?_);first|refine zE rfl rfl rfl rfl rfl ?_|refine zC rfl rfl rfl rfl rfl ?_|refine zp rfl rfl rfl rfl rfl ?_)|(with_reducible first|refine zH ?_|refine zB ?_|refine zD ?_|refine zA ?_|refine zQ ?_)))
 refine zw (ι:=Nat) [0,1,7] rfl (fun i=>i≤l.length∧∀ j y,j<i→l[j]?=some y→p y=false) (fun i=>[(8,.int .i64 (i:Int))]) (fun _=>[]) (fun i=>l.length - i) 0 ⟨Nat.zero_le _,fun j y h=>by omega⟩ (by (first|exact lK1|(repeat (first|exact lK1|(refine zM rfl ?_))))) (by (repeat (first|exact oK1 _|(refine oK2 (by (repeat (first|exact tK1 _ _|apply tK2))) ?_)))) ?_
 rintro i ⟨hi,hb⟩
 simp only [zAx,List.cons_append,List.nil_append]
 by_cases hlt:i<l.length
 ·have hx:l[i]?=some l[i]:=by simp [hlt]
  obtain ⟨b,o,rfl,hblt,hc⟩:=hk.at_ hlt
  have:InS w b o encI 1 l:=⟨hk⟩
  have:zAU l i l[i]:=⟨hx⟩
  (repeat' (first|((with_reducible refine zG ?_);first|refine zE rfl rfl rfl rfl rfl ?_|refine zC rfl rfl rfl rfl rfl ?_|(refine zK rfl rfl rfl rfl rfl ?_;refine ⟨_,rfl,?_⟩)|(refine zU rfl rfl rfl rfl rfl rfl rfl (fun h=>?_) (fun h=>?_)<;>(dsimp only [cmpP] at h;(try (exfalso;omega))))|(refine zAY rfl rfl rfl rfl rfl rfl (fun _ _ q=>hp _ _ (List.getElem_mem hlt) q.below) (fun h=>?_) (fun h=>?_)<;>(try (exfalso;omega)))|refine zf rfl rfl rfl rfl rfl rfl (by omega) ?_|refine zb rfl rfl rfl rfl rfl rfl rfl (by omega) ?_)|(with_reducible first|refine zH ?_|refine zB ?_|refine zD ?_|refine zA ?_|refine zc ?_|refine zS ?_|refine zY ?_|refine zQ ?_|refine zh ?_|refine zAK ?_)|((with_reducible refine zI ?_ ?_);(· exact rfl))|((with_reducible refine zF ?_ ?_);(· exact rfl))))
  ·have e1:=zEZ hlt h hb
   exact zV (by (exact zO.cons (by exact zn.tmp rfl) zO.nil)) () trivial (by rw [e1];rfl) (fun _ h=>h.sub (by (repeat (first|exact oK1 _|(refine oK2 (by (repeat (first|exact tK1 _ _|apply tK2))) ?_)))))
  ·refine zi (i+1) ⟨by omega,fun j y hj hy=>?_⟩ (by omega) (by (first|exact lK1|(repeat (first|exact lK1|(refine zM rfl ?_))))) (by (repeat (first|exact oK1 _|(refine oK2 (by (repeat (first|exact tK1 _ _|apply tK2))) ?_))))
   by_cases e:j=i
   ·subst e;rw [hx] at hy;cases hy;exact h
   ·exact hb j y (by omega) hy
 ·obtain rfl:i=l.length:=by omega
  have e1:=zDu (p:=p) (l:=l) (fun y hy=>by
   obtain ⟨j,hj⟩:=List.mem_iff_getElem?.1 hy
   exact hb j y (List.getElem?_eq_some_iff.1 hj).1 hj)
  (repeat' (first|((with_reducible refine zG ?_);first|refine zC rfl rfl rfl rfl rfl ?_|(refine zU rfl rfl rfl rfl rfl rfl rfl (fun h=>?_) (fun h=>?_)<;>(dsimp only [cmpP] at h;(try (exfalso;omega)))))|(with_reducible first|refine zH ?_|refine zB ?_|refine zD ?_|refine zA ?_|refine zc ?_|refine zj ?_|refine zR ?_|refine zW ?_)|((with_reducible refine zF ?_ ?_);(· exact rfl))))
  exact zV (by (exact zO.cons (by exact zn.tmp rfl) zO.nil)) () trivial (by rw [e1];rfl) (fun _ h=>h.sub (by (repeat (first|exact oK1 _|(refine oK2 (by (repeat (first|exact tK1 _ _|apply tK2))) ?_)))))
theorem ci_con (l:List Int) (A:Option Addr) (cap:Nat) (kf:FuncId) [zZ Tryz.prog kf] (cs:Array Value) (p:Int→Bool) (w:World) (hk:zx encI 1 w A l) (hl:l.length≤1000000)
  (hp:∀ x W,x∈l→Below w.heap.size w W→Gv Tryz.prog kf ([.int .i64 x]++cs.toList) W (.bool (p x))) :
  Gv Tryz.prog 102 [.slice A l.length cap,.func (.func kf) #[] cs] w (.bool (l.any p)):=by
 unfold Gv
 have hf:=zEY p l
 (refine zL (n:=9) Tryz.func102 rfl rfl rfl ?_)
 (repeat' (first|((with_reducible refine zG ?_);first|refine zE rfl rfl rfl rfl rfl ?_|refine zC rfl rfl rfl rfl rfl ?_|(refine zU rfl rfl rfl rfl rfl rfl rfl (fun h=>?_) (fun h=>?_)<;>(dsimp only [cmpP] at h;(try (exfalso;omega))))|refine zX rfl rfl rfl rfl rfl rfl (fun _ _ q=>zJd l A cap kf cs p _ (hk.below q.below) hl (fun x W hx hW=>hp x W hx (q.below.trans (hW.mono q.base)))) ?_)|(with_reducible first|refine zH ?_|refine zB ?_|refine zD ?_|refine zA ?_|refine zc ?_)))
 all_goals exact zV (by (exact zO.cons (by exact zn.tmp rfl) zO.nil)) () trivial (by simp only [resV];rw [← hf];simp;omega) (fun _ h=>h.sub (by (repeat (first|exact oK1 _|(refine oK2 (by (repeat (first|exact tK1 _ _|apply tK2))) ?_)))))
set_option maxHeartbeats 1000000 in
theorem zNt (l:List Bed) (A:Option Addr) (cap:Nat) (kf:FuncId) [zZ Tryz.prog kf] (cs:Array Value) (p:Bed→Bool) (w:World) (hk:zx zAd 3 w A l) (hl:l.length≤1000000)
  (hp:∀ x W,x∈l→Below w.heap.size w W→Gv Tryz.prog kf ([zID x]++cs.toList) W (.bool (p x))) :
  Gv Tryz.prog 155 [.slice A l.length cap,.func (.func kf) #[] cs] w (.int .i64 (zC3 p l)):=by
 unfold Gv
 (refine zL (n:=19) Tryz.func155 rfl rfl rfl ?_)
 (repeat' (first|((with_reducible refine zG ?_);first|refine zE rfl rfl rfl rfl rfl ?_|refine zC rfl rfl rfl rfl rfl ?_|refine zp rfl rfl rfl rfl rfl ?_)|(with_reducible first|refine zH ?_|refine zB ?_|refine zD ?_|refine zA ?_|refine zQ ?_)))
 refine zw (ι:=Nat) [0,1,7] rfl (fun i=>i≤l.length∧∀ j y,j<i→l[j]?=some y→p y=false) (fun i=>[(8,.int .i64 (i:Int))]) (fun _=>[]) (fun i=>l.length - i) 0 ⟨Nat.zero_le _,fun j y h=>by omega⟩ (by (first|exact lK1|(repeat (first|exact lK1|(refine zM rfl ?_))))) (by (repeat (first|exact oK1 _|(refine oK2 (by (repeat (first|exact tK1 _ _|apply tK2))) ?_)))) ?_
 rintro i ⟨hi,hb⟩
 simp only [zAx,List.cons_append,List.nil_append]
 by_cases hlt:i<l.length
 ·have hx:l[i]?=some l[i]:=by simp [hlt]
  obtain ⟨b,o,rfl,hblt,hc⟩:=hk.at_ hlt
  have:InS w b o zAd 3 l:=⟨hk⟩
  have:zAU l i l[i]:=⟨hx⟩
  (repeat' (first|((with_reducible refine zG ?_);first|refine zE rfl rfl rfl rfl rfl ?_|refine zC rfl rfl rfl rfl rfl ?_|(refine zK rfl rfl rfl rfl rfl ?_;refine ⟨_,rfl,?_⟩)|(refine zU rfl rfl rfl rfl rfl rfl rfl (fun h=>?_) (fun h=>?_)<;>(dsimp only [cmpP] at h;(try (exfalso;omega))))|(refine zAY rfl rfl rfl rfl rfl rfl (fun _ _ q=>hp _ _ (List.getElem_mem hlt) q.below) (fun h=>?_) (fun h=>?_)<;>(try (exfalso;omega)))|refine zf rfl rfl rfl rfl rfl rfl (by omega) ?_|refine zb rfl rfl rfl rfl rfl rfl rfl (by omega) ?_)|(with_reducible first|refine zH ?_|refine zB ?_|refine zD ?_|refine zA ?_|refine zc ?_|refine zS ?_|refine zY ?_|refine zQ ?_|refine zh ?_|refine zAK ?_)|((with_reducible refine zI ?_ ?_);(· exact rfl))|((with_reducible refine zF ?_ ?_);(· exact rfl))))
  ·have e1:=zEZ hlt h hb
   exact zV (by (exact zO.cons (by exact zn.tmp rfl) zO.nil)) () trivial (by rw [e1];rfl) (fun _ h=>h.sub (by (repeat (first|exact oK1 _|(refine oK2 (by (repeat (first|exact tK1 _ _|apply tK2))) ?_)))))
  ·refine zi (i+1) ⟨by omega,fun j y hj hy=>?_⟩ (by omega) (by (first|exact lK1|(repeat (first|exact lK1|(refine zM rfl ?_))))) (by (repeat (first|exact oK1 _|(refine oK2 (by (repeat (first|exact tK1 _ _|apply tK2))) ?_))))
   by_cases e:j=i
   ·subst e;rw [hx] at hy;cases hy;exact h
   ·exact hb j y (by omega) hy
 ·obtain rfl:i=l.length:=by omega
  have e1:=zDu (p:=p) (l:=l) (fun y hy=>by
   obtain ⟨j,hj⟩:=List.mem_iff_getElem?.1 hy
   exact hb j y (List.getElem?_eq_some_iff.1 hj).1 hj)
  (repeat' (first|((with_reducible refine zG ?_);first|refine zC rfl rfl rfl rfl rfl ?_|(refine zU rfl rfl rfl rfl rfl rfl rfl (fun h=>?_) (fun h=>?_)<;>(dsimp only [cmpP] at h;(try (exfalso;omega)))))|(with_reducible first|refine zH ?_|refine zB ?_|refine zD ?_|refine zA ?_|refine zc ?_|refine zj ?_|refine zR ?_|refine zW ?_)|((with_reducible refine zF ?_ ?_);(· exact rfl))))
  exact zV (by (exact zO.cons (by exact zn.tmp rfl) zO.nil)) () trivial (by rw [e1];rfl) (fun _ h=>h.sub (by (repeat (first|exact oK1 _|(refine oK2 (by (repeat (first|exact tK1 _ _|apply tK2))) ?_)))))
theorem cb_con (l:List Bed) (A:Option Addr) (cap:Nat) (kf:FuncId) [zZ Tryz.prog kf] (cs:Array Value) (p:Bed→Bool) (w:World) (hk:zx zAd 3 w A l) (hl:l.length≤1000000)
  (hp:∀ x W,x∈l→Below w.heap.size w W→Gv Tryz.prog kf ([zID x]++cs.toList) W (.bool (p x))) :
  Gv Tryz.prog 136 [.slice A l.length cap,.func (.func kf) #[] cs] w (.bool (l.any p)):=by
 unfold Gv
 have hf:=zEY p l
 (refine zL (n:=9) Tryz.func136 rfl rfl rfl ?_)
 (repeat' (first|((with_reducible refine zG ?_);first|refine zE rfl rfl rfl rfl rfl ?_|refine zC rfl rfl rfl rfl rfl ?_|(refine zU rfl rfl rfl rfl rfl rfl rfl (fun h=>?_) (fun h=>?_)<;>(dsimp only [cmpP] at h;(try (exfalso;omega))))|refine zX rfl rfl rfl rfl rfl rfl (fun _ _ q=>zNt l A cap kf cs p _ (hk.below q.below) hl (fun x W hx hW=>hp x W hx (q.below.trans (hW.mono q.base)))) ?_)|(with_reducible first|refine zH ?_|refine zB ?_|refine zD ?_|refine zA ?_|refine zc ?_)))
 all_goals exact zV (by (exact zO.cons (by exact zn.tmp rfl) zO.nil)) () trivial (by simp only [resV];rw [← hf];simp;omega) (fun _ h=>h.sub (by (repeat (first|exact oK1 _|(refine oK2 (by (repeat (first|exact tK1 _ _|apply tK2))) ?_)))))
set_option maxHeartbeats 1000000 in
theorem zNs (l:List Hour) (A:Option Addr) (cap:Nat) (kf:FuncId) [zZ Tryz.prog kf] (cs:Array Value) (p:Hour→Bool) (w:World) (hk:zx zq 5 w A l) (hl:l.length≤1000000)
  (hp:∀ x W,x∈l→Below w.heap.size w W→Gv Tryz.prog kf ([zCd x]++cs.toList) W (.bool (p x))) :
  Gv Tryz.prog 156 [.slice A l.length cap,.func (.func kf) #[] cs] w (.int .i64 (zC3 p l)):=by
 unfold Gv
 (refine zL (n:=19) Tryz.func156 rfl rfl rfl ?_)
 (repeat' (first|((with_reducible refine zG ?_);first|refine zE rfl rfl rfl rfl rfl ?_|refine zC rfl rfl rfl rfl rfl ?_|refine zp rfl rfl rfl rfl rfl ?_)|(with_reducible first|refine zH ?_|refine zB ?_|refine zD ?_|refine zA ?_|refine zQ ?_)))
 refine zw (ι:=Nat) [0,1,7] rfl (fun i=>i≤l.length∧∀ j y,j<i→l[j]?=some y→p y=false) (fun i=>[(8,.int .i64 (i:Int))]) (fun _=>[]) (fun i=>l.length - i) 0 ⟨Nat.zero_le _,fun j y h=>by omega⟩ (by (first|exact lK1|(repeat (first|exact lK1|(refine zM rfl ?_))))) (by (repeat (first|exact oK1 _|(refine oK2 (by (repeat (first|exact tK1 _ _|apply tK2))) ?_)))) ?_
 rintro i ⟨hi,hb⟩
 simp only [zAx,List.cons_append,List.nil_append]
 by_cases hlt:i<l.length
 ·have hx:l[i]?=some l[i]:=by simp [hlt]
  obtain ⟨b,o,rfl,hblt,hc⟩:=hk.at_ hlt
  have:InS w b o zq 5 l:=⟨hk⟩
  have:zAU l i l[i]:=⟨hx⟩
  (repeat' (first|((with_reducible refine zG ?_);first|refine zE rfl rfl rfl rfl rfl ?_|refine zC rfl rfl rfl rfl rfl ?_|(refine zK rfl rfl rfl rfl rfl ?_;refine ⟨_,rfl,?_⟩)|(refine zU rfl rfl rfl rfl rfl rfl rfl (fun h=>?_) (fun h=>?_)<;>(dsimp only [cmpP] at h;(try (exfalso;omega))))|(refine zAY rfl rfl rfl rfl rfl rfl (fun _ _ q=>hp _ _ (List.getElem_mem hlt) q.below) (fun h=>?_) (fun h=>?_)<;>(try (exfalso;omega)))|refine zf rfl rfl rfl rfl rfl rfl (by omega) ?_|refine zb rfl rfl rfl rfl rfl rfl rfl (by omega) ?_)|(with_reducible first|refine zH ?_|refine zB ?_|refine zD ?_|refine zA ?_|refine zc ?_|refine zS ?_|refine zY ?_|refine zQ ?_|refine zh ?_|refine zAK ?_)|((with_reducible refine zI ?_ ?_);(· exact rfl))|((with_reducible refine zF ?_ ?_);(· exact rfl))))
  ·have e1:=zEZ hlt h hb
   exact zV (by (exact zO.cons (by exact zn.tmp rfl) zO.nil)) () trivial (by rw [e1];rfl) (fun _ h=>h.sub (by (repeat (first|exact oK1 _|(refine oK2 (by (repeat (first|exact tK1 _ _|apply tK2))) ?_)))))
  ·refine zi (i+1) ⟨by omega,fun j y hj hy=>?_⟩ (by omega) (by (first|exact lK1|(repeat (first|exact lK1|(refine zM rfl ?_))))) (by (repeat (first|exact oK1 _|(refine oK2 (by (repeat (first|exact tK1 _ _|apply tK2))) ?_))))
   by_cases e:j=i
   ·subst e;rw [hx] at hy;cases hy;exact h
   ·exact hb j y (by omega) hy
 ·obtain rfl:i=l.length:=by omega
  have e1:=zDu (p:=p) (l:=l) (fun y hy=>by
   obtain ⟨j,hj⟩:=List.mem_iff_getElem?.1 hy
   exact hb j y (List.getElem?_eq_some_iff.1 hj).1 hj)
  (repeat' (first|((with_reducible refine zG ?_);first|refine zC rfl rfl rfl rfl rfl ?_|(refine zU rfl rfl rfl rfl rfl rfl rfl (fun h=>?_) (fun h=>?_)<;>(dsimp only [cmpP] at h;(try (exfalso;omega)))))|(with_reducible first|refine zH ?_|refine zB ?_|refine zD ?_|refine zA ?_|refine zc ?_|refine zj ?_|refine zR ?_|refine zW ?_)|((with_reducible refine zF ?_ ?_);(· exact rfl))))
  exact zV (by (exact zO.cons (by exact zn.tmp rfl) zO.nil)) () trivial (by rw [e1];rfl) (fun _ h=>h.sub (by (repeat (first|exact oK1 _|(refine oK2 (by (repeat (first|exact tK1 _ _|apply tK2))) ?_)))))
theorem ch_con (l:List Hour) (A:Option Addr) (cap:Nat) (kf:FuncId) [zZ Tryz.prog kf] (cs:Array Value) (p:Hour→Bool) (w:World) (hk:zx zq 5 w A l) (hl:l.length≤1000000)
  (hp:∀ x W,x∈l→Below w.heap.size w W→Gv Tryz.prog kf ([zCd x]++cs.toList) W (.bool (p x))) :
  Gv Tryz.prog 137 [.slice A l.length cap,.func (.func kf) #[] cs] w (.bool (l.any p)):=by
 unfold Gv
 have hf:=zEY p l
 (refine zL (n:=9) Tryz.func137 rfl rfl rfl ?_)
 (repeat' (first|((with_reducible refine zG ?_);first|refine zE rfl rfl rfl rfl rfl ?_|refine zC rfl rfl rfl rfl rfl ?_|(refine zU rfl rfl rfl rfl rfl rfl rfl (fun h=>?_) (fun h=>?_)<;>(dsimp only [cmpP] at h;(try (exfalso;omega))))|refine zX rfl rfl rfl rfl rfl rfl (fun _ _ q=>zNs l A cap kf cs p _ (hk.below q.below) hl (fun x W hx hW=>hp x W hx (q.below.trans (hW.mono q.base)))) ?_)|(with_reducible first|refine zH ?_|refine zB ?_|refine zD ?_|refine zA ?_|refine zc ?_)))
 all_goals exact zV (by (exact zO.cons (by exact zn.tmp rfl) zO.nil)) () trivial (by simp only [resV];rw [← hf];simp;omega) (fun _ h=>h.sub (by (repeat (first|exact oK1 _|(refine oK2 (by (repeat (first|exact tK1 _ _|apply tK2))) ?_)))))
theorem iin_fn (x lo hi:Int) (b c:Nat) (w:World) (h1:InC w b 0 [.int .i64 lo]) (h2:InC w c 0 [.int .i64 hi]):Gv Tryz.prog 103 [.int .i64 x,.pointer (some ⟨b,0,none⟩),.pointer (some ⟨c,0,none⟩)] w (.bool (!inB lo hi x)):=by
 unfold Gv
 (refine zL (n:=13) Tryz.func103 rfl rfl rfl ?_)
 (repeat' (first|((with_reducible refine zG ?_);first|refine zE rfl rfl rfl rfl rfl ?_|refine zC rfl rfl rfl rfl rfl ?_|(refine zK rfl rfl rfl rfl rfl ?_;refine ⟨_,rfl,?_⟩)|refine zz rfl rfl rfl rfl rfl rfl ?_|refine zg rfl rfl rfl ?_|(refine zU rfl rfl rfl rfl rfl rfl rfl (fun h=>?_) (fun h=>?_)<;>(dsimp only [cmpP] at h;(try (exfalso;omega)))))|(with_reducible first|refine zH ?_|refine zB ?_|refine zD ?_|refine zA ?_|refine zc ?_)))
 all_goals exact zV (by (exact zO.cons (by exact zn.tmp rfl) zO.nil)) () trivial (by simp [resV,inB];omega) (fun _ h=>h.sub (by (repeat (first|exact oK1 _|(refine oK2 (by (repeat (first|exact tK1 _ _|apply tK2))) ?_)))))
theorem zLL (lo hi:Int) (l:List Int) (A:Option Addr) (cap:Nat) (w:World) (hk:zx encI 1 w A l) (hl:l.length≤1000000):Gv Tryz.prog 60 [.int .i64 lo,.int .i64 hi,.slice A l.length cap] w (.bool (l.all (inB lo hi))):=by
 unfold Gv
 rw [← zOa]
 (refine zL (n:=11) Tryz.func60 rfl rfl rfl ?_)
 (repeat' (first|((with_reducible refine zG ?_);first|refine zE rfl rfl rfl rfl rfl ?_|refine zC rfl rfl rfl rfl rfl ?_|refine zX rfl rfl rfl rfl rfl rfl (fun _ _ q=>ci_con l A cap _ _ (fun n=>!inB lo hi n) _ (hk.below q.below) hl (fun x W' _ hW'=>iin_fn x lo hi _ _ W' (zAc q.own hW' rfl) (zAc q.own hW' rfl))) ?_|refine zAH rfl rfl rfl rfl rfl ?_|(refine zt rfl rfl rfl rfl rfl rfl (fun b=>?_))|refine zBl rfl rfl rfl rfl rfl rfl ?_)|(with_reducible first|refine zH ?_|refine zB ?_|refine zD ?_|refine zA ?_|refine zc ?_)))
 all_goals exact zV (by (exact zO.cons (by exact zn.tmp rfl) zO.nil)) () trivial rfl (fun _ _=>Own.nil _ _)
theorem iin1 (lo hi a:Int) (c:Nat) (A:Option Addr) (w:World) (hk:zx encI 1 w A [a]):Gv Tryz.prog 60 [.int .i64 lo,.int .i64 hi,.slice A 1 c] w (.bool (inB lo hi a)):=by
 have:=zLL lo hi [a] A c w hk (by simp)
 simpa using this
theorem iin2 (lo hi a b:Int) (c:Nat) (A:Option Addr) (w:World) (hk:zx encI 1 w A [a,b]):Gv Tryz.prog 60 [.int .i64 lo,.int .i64 hi,.slice A 2 c] w (.bool (inB lo hi a && inB lo hi b)):=by
 have:=zLL lo hi [a,b] A c w hk (by simp)
 simpa using this
theorem zCB (s:Sp) (lo hi:Int) (w:World):Gv Tryz.prog 80 [vSp s,.int .i64 lo,.int .i64 hi] w (.bool (zBB s lo hi)):=by
 unfold Gv vSp
 (refine zL (n:=22) Tryz.func80 rfl rfl rfl ?_)
 (repeat' (first|((with_reducible refine zG ?_);first|refine zE rfl rfl rfl rfl rfl ?_|refine zC rfl rfl rfl rfl rfl ?_|(refine zK rfl rfl rfl rfl rfl ?_;refine ⟨_,rfl,?_⟩)|refine za rfl rfl rfl rfl rfl ?_|refine zz rfl rfl rfl rfl rfl rfl ?_|refine zg rfl rfl rfl ?_|(refine zU rfl rfl rfl rfl rfl rfl rfl (fun h=>?_) (fun h=>?_)<;>(dsimp only [cmpP] at h;(try (exfalso;omega))))|(refine zAY rfl rfl rfl rfl rfl rfl (fun _ _ q=>iin2 _ _ _ _ _ _ _ (zGo (enc:=encI) [_,_] (by exact rfl) _ q.below q.own)) (fun h=>?_) (fun h=>?_)<;>skip)|(refine zt rfl rfl rfl rfl rfl rfl (fun b=>?_))|(refine zAD rfl rfl rfl rfl rfl ?_;refine ⟨rfl,_,rfl,fun b=>?_⟩))|(with_reducible first|refine zH ?_|refine zB ?_|refine zD ?_|refine zA ?_|refine zc ?_)))
 all_goals exact zV (by (exact zO.cons (by exact zn.tmp rfl) zO.nil)) () trivial (by first|(simp_all [resV,zBB];done)|(simp_all [resV,zBB];omega)) (fun _ h=>h.sub (by (repeat (first|exact oK1 _|(refine oK2 (by (repeat (first|exact tK1 _ _|apply tK2))) ?_)))))
theorem zEt (n lo hi:Int) (w:World):Gv Tryz.prog 67 [.int .i64 n,.int .i64 lo,.int .i64 hi] w (.bool (inB lo hi n)):=by
 unfold Gv
 (refine zL (n:=15) Tryz.func67 rfl rfl rfl ?_)
 (repeat' (first|((with_reducible refine zG ?_);first|refine zE rfl rfl rfl rfl rfl ?_|refine zC rfl rfl rfl rfl rfl ?_|refine zz rfl rfl rfl rfl rfl rfl ?_|refine zg rfl rfl rfl ?_|(refine zU rfl rfl rfl rfl rfl rfl rfl (fun h=>?_) (fun h=>?_)<;>(dsimp only [cmpP] at h;(try (exfalso;omega)))))|(with_reducible first|refine zH ?_|refine zB ?_|refine zD ?_|refine zA ?_|refine zc ?_)))
 all_goals exact zV (by (exact zO.cons (by exact zn.tmp rfl) zO.nil)) () trivial (by simp [resV,inB];omega) (fun _ h=>h.sub (by (repeat (first|exact oK1 _|(refine oK2 (by (repeat (first|exact tK1 _ _|apply tK2))) ?_)))))
theorem zDJ (s:Sp) (lo hi:Int) (w:World):Gv Tryz.prog 129 [vSp s,.int .i64 lo,.int .i64 hi] w (.bool (zBB s lo hi)):=by
 unfold Gv vSp
 (refine zL (n:=24) Tryz.func129 rfl rfl rfl ?_)
 (repeat' (first|((with_reducible refine zG ?_);first|refine zE rfl rfl rfl rfl rfl ?_|refine zC rfl rfl rfl rfl rfl ?_|(refine zK rfl rfl rfl rfl rfl ?_;refine ⟨_,rfl,?_⟩)|refine za rfl rfl rfl rfl rfl ?_|refine zz rfl rfl rfl rfl rfl rfl ?_|refine zg rfl rfl rfl ?_|(refine zU rfl rfl rfl rfl rfl rfl rfl (fun h=>?_) (fun h=>?_)<;>(dsimp only [cmpP] at h;(try (exfalso;omega))))|(refine zt rfl rfl rfl rfl rfl rfl (fun b=>?_)))|(with_reducible first|refine zH ?_|refine zB ?_|refine zD ?_|refine zA ?_|refine zc ?_)))
 all_goals exact zV (by (exact zO.cons (by exact zn.tmp rfl) zO.nil)) () trivial (by simp [resV,zBB,inB];omega) (fun _ h=>h.sub (by (repeat (first|exact oK1 _|(refine oK2 (by (repeat (first|exact tK1 _ _|apply tK2))) ?_)))))
def zDX (b:Bed):Bool:=zBB b.thick 0 2000 && inB 0 9 b.sun
def zCS (h:Hour):Bool:=zBB h.melt 0 50 && inB 0 60 h.runs && inB 0 12 h.crew
def zDW (c:Cov):Bool:=decide (c.beds.length=c.t.length) && (inB 1 8 c.hours.length && (c.beds.all zDX && (c.hours.all zCS && (zBB c.wear 0 20 && (zBB c.layer 1 100 && (inB 0 100 c.rate && (inB 0 2000 c.limit && inB 0 c.limit c.base)))))))
def zAm (c:Cov):Int:=if valid c.t then (if zDW c then 0 else 20) else 10
theorem ibed_fn (z:Bed) (w:World):Gv Tryz.prog 134 [zID z] w (.bool (!zDX z)):=by
 unfold Gv zID
 (refine zL (n:=14) Tryz.func134 rfl rfl rfl ?_)
 (repeat' (first|((with_reducible refine zG ?_);first|refine zE rfl rfl rfl rfl rfl ?_|refine zC rfl rfl rfl rfl rfl ?_|(refine zK rfl rfl rfl rfl rfl ?_;refine ⟨_,rfl,?_⟩)|refine za rfl rfl rfl rfl rfl ?_|refine zz rfl rfl rfl rfl rfl rfl ?_|refine zg rfl rfl rfl ?_|(refine zAY rfl rfl rfl rfl rfl rfl (fun _ _ q=>zCB z.thick 0 2000 _) (fun h=>?_) (fun h=>?_)<;>(try (exfalso;omega)))|(refine zAY rfl rfl rfl rfl rfl rfl (fun _ _ q=>iin1 _ _ _ _ _ _ (zAt (enc:=encI) (by exact rfl) _ q.below q.own)) (fun h=>?_) (fun h=>?_)<;>(try (exfalso;omega)))|refine zAH rfl rfl rfl rfl rfl ?_|(refine zt rfl rfl rfl rfl rfl rfl (fun b=>?_))|(refine zAD rfl rfl rfl rfl rfl ?_;refine ⟨rfl,_,rfl,fun b=>?_⟩))|(with_reducible first|refine zH ?_|refine zB ?_|refine zD ?_|refine zA ?_|refine zc ?_)))
 all_goals exact zV (by (exact zO.cons (by exact zn.tmp rfl) zO.nil)) () trivial (by simp_all [resV,zDX]) (fun _ h=>h.sub (by (repeat (first|exact oK1 _|(refine oK2 (by (repeat (first|exact tK1 _ _|apply tK2))) ?_)))))
theorem ihour_fn (z:Hour) (w:World):Gv Tryz.prog 135 [zCd z] w (.bool (!zCS z)):=by
 unfold Gv zCd
 (refine zL (n:=21) Tryz.func135 rfl rfl rfl ?_)
 (repeat' (first|((with_reducible refine zG ?_);first|refine zE rfl rfl rfl rfl rfl ?_|refine zC rfl rfl rfl rfl rfl ?_|(refine zK rfl rfl rfl rfl rfl ?_;refine ⟨_,rfl,?_⟩)|refine za rfl rfl rfl rfl rfl ?_|refine zz rfl rfl rfl rfl rfl rfl ?_|refine zg rfl rfl rfl ?_|(refine zAY rfl rfl rfl rfl rfl rfl (fun _ _ q=>zCB z.melt 0 50 _) (fun h=>?_) (fun h=>?_)<;>(try (exfalso;omega)))|(refine zAY rfl rfl rfl rfl rfl rfl (fun _ _ q=>iin1 _ _ _ _ _ _ (zAt (enc:=encI) (by exact rfl) _ q.below q.own)) (fun h=>?_) (fun h=>?_)<;>(try (exfalso;omega)))|refine zAH rfl rfl rfl rfl rfl ?_|(refine zt rfl rfl rfl rfl rfl rfl (fun b=>?_))|(refine zAD rfl rfl rfl rfl rfl ?_;refine ⟨rfl,_,rfl,fun b=>?_⟩))|(with_reducible first|refine zH ?_|refine zB ?_|refine zD ?_|refine zA ?_|refine zc ?_)))
 all_goals exact zV (by (exact zO.cons (by exact zn.tmp rfl) zO.nil)) () trivial (by simp_all [resV,zCS]) (fun _ h=>h.sub (by (repeat (first|exact oK1 _|(refine oK2 (by (repeat (first|exact tK1 _ _|apply tK2))) ?_)))))
def zJ (c:Cov) (A:Option Addr) (ca:Nat) (B:Option Addr) (cb:Nat) (C:Option Addr) (cc:Nat):List Value :=
 [.slice A c.t.length ca,.slice B c.beds.length cb,.slice C c.hours.length cc,.int .i64 c.wear.lo,.int .i64 c.wear.hi,.int .i64 c.layer.lo,.int .i64 c.layer.hi,.int .i64 c.rate,.int .i64 c.limit,.int .i64 c.base]
def zAI (c:Cov) (A:Option Addr) (ca:Nat) (B:Option Addr) (cb:Nat) (C:Option Addr) (cc:Nat):Value:=.agg (zJ c A ca B cb C cc).toArray
structure zAk (w:World) (c:Cov) (A B C:Option Addr):Prop where
 t:zx zA5 9 w A c.t
 b:zx zAd 3 w B c.beds
 h:zx zq 5 w C c.hours
theorem zAk.below {w W:World} {c:Cov} {A B C:Option Addr} (h:zAk w c A B C) (hb:Below w.heap.size w W):zAk W c A B C:=⟨h.t.below hb,h.b.below hb,h.h.below hb⟩
structure Small (c:Cov):Prop where
 fit:zFb c.t
 t:c.t.length≤20
 b:c.beds.length≤20
 h:c.hours.length≤12
theorem zCJ {c:Cov}:zDW c=true↔c.beds.length=c.t.length∧inB 1 8 c.hours.length=true∧c.beds.all zDX=true∧c.hours.all zCS=true∧zBB c.wear 0 20=true∧zBB c.layer 1 100=true∧inB 0 100 c.rate=true∧inB 0 2000 c.limit=true∧inB 0 c.limit c.base=true:=by
 unfold zDW;simp only [Bool.and_eq_true,decide_eq_true_eq]
theorem zMw {α:Type} {p:α→Bool} {l:List α}:(l.any fun x=>!p x) = !l.all p:=by
 induction l with
 | nil=>rfl
 | cons a l ih=>simp [ih]
set_option maxHeartbeats 2000000 in
theorem zJK (c:Cov) (A:Option Addr) (ca:Nat) (B:Option Addr) (cb:Nat) (C:Option Addr) (cc:Nat) (w:World) (h:zAk w c A B C) (hs:Small c):Gv Tryz.prog 106 [zAI c A ca B cb C cc] w (.int .i64 (zAm c)):=by
 have hT:=fun W (hb:Below w.heap.size w W)=>(check_n c.t A ca W (h.t.below hb) hs.fit (by have:=hs.t;omega))
 have h3:=hs.t;have h4:=hs.b;have h5:=hs.h
 have hB:=fun W (hb:Below w.heap.size w W)=>cb_con c.beds B cb 134 #[] (fun b=>!zDX b) W (h.b.below hb) (by omega) (fun x W _ _=>ibed_fn x W)
 have hH:=fun W (hb:Below w.heap.size w W)=>ch_con c.hours C cc 135 #[] (fun b=>!zCS b) W (h.h.below hb) (by omega) (fun x W _ _=>ihour_fn x W)
 rw [zMw] at hB hH
 unfold vT at hT
 unfold Gv zAI zJ
 cases hv:valid c.t
 ·have e:zAm c=10:=by simp [zAm,hv]
  rw [show zDv c.t=10 by simp [zDv,hv]] at hT
  rw [e]
  (refine zL (n:=73) Tryz.func106 rfl rfl rfl ?_)
  (repeat' (first|((with_reducible refine zG ?_);first|refine zE rfl rfl rfl rfl rfl ?_|refine zC rfl rfl rfl rfl rfl ?_|(refine zK rfl rfl rfl rfl rfl ?_;refine ⟨_,rfl,?_⟩)|refine za rfl rfl rfl rfl rfl ?_|(refine zU rfl rfl rfl rfl rfl rfl rfl (fun h=>?_) (fun h=>?_)<;>(dsimp only [cmpP] at h;(try (exfalso;omega))))|refine zX rfl rfl rfl rfl rfl rfl (fun _ _ q=>hT _ q.below) ?_|(refine zt rfl rfl rfl rfl rfl rfl (fun b=>?_)))|(with_reducible first|refine zH ?_|refine zB ?_|refine zD ?_|refine zA ?_|refine zc ?_|refine zY ?_)|((with_reducible refine zI ?_ ?_);(· exact rfl))))
  all_goals exact zV (by (exact zO.cons (by exact zn.tmp rfl) zO.nil)) () trivial rfl (fun _ _=>Own.nil _ _)
 ·rw [zJU hv] at hT
  cases hi:zDW c
  ·have e:zAm c=20:=by simp [zAm,hv,hi]
   rw [e]
   (refine zL (n:=73) Tryz.func106 rfl rfl rfl ?_)
   (repeat' (first|((with_reducible refine zG ?_);first|refine zE rfl rfl rfl rfl rfl ?_|refine zC rfl rfl rfl rfl rfl ?_|(refine zK rfl rfl rfl rfl rfl ?_;refine ⟨_,rfl,?_⟩)|refine za rfl rfl rfl rfl rfl ?_|refine zz rfl rfl rfl rfl rfl rfl ?_|refine zg rfl rfl rfl ?_|(refine zU rfl rfl rfl rfl rfl rfl rfl (fun h=>?_) (fun h=>?_)<;>(dsimp only [cmpP] at h;(try (exfalso;omega))))|refine zX rfl rfl rfl rfl rfl rfl (fun _ _ q=>hT _ q.below) ?_|(refine zAY rfl rfl rfl rfl rfl rfl (fun _ _ q=>hB _ q.below) (fun h=>?_) (fun h=>?_)<;>(try (exfalso;omega)))|(refine zAY rfl rfl rfl rfl rfl rfl (fun _ _ q=>hH _ q.below) (fun h=>?_) (fun h=>?_)<;>(try (exfalso;omega)))|(refine zAY rfl rfl rfl rfl rfl rfl (fun _ _ q=>zCB c.wear 0 20 _) (fun h=>?_) (fun h=>?_)<;>(try (exfalso;omega)))|(refine zAY rfl rfl rfl rfl rfl rfl (fun _ _ q=>zCB c.layer 1 100 _) (fun h=>?_) (fun h=>?_)<;>(try (exfalso;omega)))|(refine zAY rfl rfl rfl rfl rfl rfl (fun _ _ q=>iin1 _ _ _ _ _ _ (zAt (enc:=encI) (by exact rfl) _ q.below q.own)) (fun h=>?_) (fun h=>?_)<;>(try (exfalso;omega)))|refine zAH rfl rfl rfl rfl rfl ?_|refine zp rfl rfl rfl rfl rfl ?_|(refine zt rfl rfl rfl rfl rfl rfl (fun b=>?_))|(refine zAD rfl rfl rfl rfl rfl ?_;refine ⟨rfl,_,rfl,fun b=>?_⟩))|(with_reducible first|refine zH ?_|refine zB ?_|refine zD ?_|refine zA ?_|refine zc ?_|refine zS ?_|refine zY ?_)|((with_reducible refine zI ?_ ?_);(· exact rfl))|((with_reducible refine zF ?_ ?_);(· exact rfl))))
   all_goals first|exact zV (by (exact zO.cons (by exact zn.tmp rfl) zO.nil)) () trivial rfl (fun _ _=>Own.nil _ _)|(exfalso;have:=mt zCJ.2 (by rw [hi];simp);simp_all;done)|(exfalso;have:=mt zCJ.2 (by rw [hi];simp);simp_all;omega)
  ·have e:zAm c=0:=by simp [zAm,hv,hi]
   rw [e]
   obtain ⟨i1,i2,i3,i4,i5,i6,i7,i8,i9⟩:=zCJ.1 hi
   rw [i3] at hB
   rw [i4] at hH
   (refine zL (n:=73) Tryz.func106 rfl rfl rfl ?_)
   (repeat' (first|((with_reducible refine zG ?_);first|refine zE rfl rfl rfl rfl rfl ?_|refine zC rfl rfl rfl rfl rfl ?_|(refine zK rfl rfl rfl rfl rfl ?_;refine ⟨_,rfl,?_⟩)|refine za rfl rfl rfl rfl rfl ?_|refine zz rfl rfl rfl rfl rfl rfl ?_|(refine zU rfl rfl rfl rfl rfl rfl rfl (fun h=>?_) (fun h=>?_)<;>(dsimp only [cmpP] at h;(try (exfalso;omega))))|refine zX rfl rfl rfl rfl rfl rfl (fun _ _ q=>hT _ q.below) ?_|refine zX rfl rfl rfl rfl rfl rfl (fun _ _ q=>hB _ q.below) ?_|refine zX rfl rfl rfl rfl rfl rfl (fun _ _ q=>hH _ q.below) ?_|(refine zX rfl rfl rfl rfl rfl rfl (fun _ _ q=>i5 ▸ zCB c.wear 0 20 _) ?_)|(refine zX rfl rfl rfl rfl rfl rfl (fun _ _ q=>i6 ▸ zCB c.layer 1 100 _) ?_)|(refine zAY rfl rfl rfl rfl rfl rfl (fun _ _ q=>iin1 _ _ _ _ _ _ (zAt (enc:=encI) (by exact rfl) _ q.below q.own)) (fun h=>?_) (fun h=>?_)<;>(try (exfalso;simp_all;done)))|refine zAH rfl rfl rfl rfl rfl ?_|refine zp rfl rfl rfl rfl rfl ?_|(refine zt rfl rfl rfl rfl rfl rfl (fun b=>?_))|(refine zAD rfl rfl rfl rfl rfl ?_;refine ⟨rfl,_,rfl,fun b=>?_⟩))|(with_reducible first|refine zH ?_|refine zB ?_|refine zD ?_|refine zA ?_|refine zc ?_|refine zS ?_)|((with_reducible refine zF ?_ ?_);(· exact rfl))))
   all_goals exact zV (by (exact zO.cons (by exact zn.tmp rfl) zO.nil)) () trivial rfl (fun _ _=>Own.nil _ _)
end Go.Proofs.YtdigopgncfhiaaaGreatDoor
namespace Go.Proofs.YtdigopgncfhiaaaGreatDoor
open Go.RowKit
set_option maxRecDepth 20000
theorem zNY {c:Cov} {z:Bed} (hz:z∈c.beds) (h:zDX z=false):zDW c=false:=by
 cases hi:zDW c with
 | false=>rfl
 | true =>
  have:=List.all_eq_true.1 (zCJ.1 hi).2.2.1 z hz
  rw [h] at this;cases this
theorem zMV {c:Cov} {z:Hour} (hz:z∈c.hours) (h:zCS z=false):zDW c=false:=by
 cases hi:zDW c with
 | false=>rfl
 | true =>
  have:=List.all_eq_true.1 (zCJ.1 hi).2.2.2.1 z hz
  rw [h] at this;cases this
theorem zJh {α:Type} {p:α→Bool} {l:List α} (h:∀ j z,j<l.length→l[j]?=some z→p z=true):l.all p=true:=by
 rw [List.all_eq_true]
 intro x hx
 obtain ⟨j,hj⟩:=List.mem_iff_getElem?.1 hx
 exact h j x (List.getElem?_eq_some_iff.1 hj).1 hj
theorem zJ1 {α:Type} {p:α→Bool} {l:List α} {i:Nat} {z:α} (hz:l[i]?=some z) (hp:p z=true) (h:∀ j y,j<i→l[j]?=some y→p y=true):∀ j y,j<i+1→l[j]?=some y→p y=true:=by
 intro j y hj hy
 by_cases e:j=i
 ·subst e;rw [hz] at hy;cases hy;exact hp
 ·exact h j y (by omega) hy
set_option maxHeartbeats 2000000 in
theorem rice_any (c:Cov) (A:Option Addr) (ca:Nat) (B:Option Addr) (cb:Nat) (C:Option Addr) (cc:Nat) (w:World) (h0:zAk w c A B C) (hs:Small c):Gv Tryz.prog 97 [zAI c A ca B cb C cc] w (.bool (zDW c)):=by
 have h3:=hs.t;have h4:=hs.b;have h5:=hs.h
 have hb:=h0.b;have hh:=h0.h
 unfold Gv zAI zJ
 (refine zL (n:=106) Tryz.func97 rfl rfl rfl ?_)
 (repeat' (first|((with_reducible refine zG ?_);first|refine zE rfl rfl rfl rfl rfl ?_|refine zC rfl rfl rfl rfl rfl ?_|(refine zK rfl rfl rfl rfl rfl ?_;refine ⟨_,rfl,?_⟩)|refine za rfl rfl rfl rfl rfl ?_|refine zz rfl rfl rfl rfl rfl rfl ?_|refine zg rfl rfl rfl ?_|(refine zU rfl rfl rfl rfl rfl rfl rfl (fun h=>?_) (fun h=>?_)<;>(dsimp only [cmpP] at h;(try (exfalso;omega))))|(refine zAY rfl rfl rfl rfl rfl rfl (fun _ _ q=>zEt _ _ _ _) (fun h=>?_) (fun h=>?_)<;>(try (exfalso;omega)))|(refine zAY rfl rfl rfl rfl rfl rfl (fun _ _ q=>zDJ c.wear 0 20 _) (fun h=>?_) (fun h=>?_)<;>(try (exfalso;omega)))|(refine zAY rfl rfl rfl rfl rfl rfl (fun _ _ q=>zDJ c.layer 1 100 _) (fun h=>?_) (fun h=>?_)<;>(try (exfalso;omega)))|refine zAH rfl rfl rfl rfl rfl ?_|refine zp rfl rfl rfl rfl rfl ?_|(refine zt rfl rfl rfl rfl rfl rfl (fun b=>?_)))|(with_reducible first|refine zH ?_|refine zB ?_|refine zD ?_|refine zA ?_|refine zc ?_|refine zS ?_|refine zY ?_|refine zQ ?_)|((with_reducible refine zI ?_ ?_);(· exact rfl))|((with_reducible refine zF ?_ ?_);(· exact rfl))))
 all_goals first|exact zV (by (exact zO.cons (by exact zn.tmp rfl) zO.nil)) () trivial (by rw [show zDW c=false from by cases hi:zDW c with|false=>rfl|true=>(exfalso;obtain ⟨i1,i2,i3,i4,i5,i6,i7,i8,i9⟩:=zCJ.1 hi;first|omega|simp_all)];rfl) (fun _ h=>h.sub (by (repeat (first|exact oK1 _|(refine oK2 (by (repeat (first|exact tK1 _ _|apply tK2))) ?_)))))|skip
 refine zw (ι:=Nat) [1] rfl (fun i=>i≤c.beds.length∧∀ j z,j<i→c.beds[j]?=some z→zDX z=true) (fun i=>[(3,.int .i64 (i:Int))]) (fun _=>[.blk b (zJ c A ca B cb C cc)]) (fun i=>c.beds.length - i) 0 ⟨Nat.zero_le _,fun j z h=>by omega⟩ (by (first|exact lK1|(repeat (first|exact lK1|(refine zM rfl ?_))))) (by (repeat (first|exact oK1 _|(refine oK2 (by (repeat (first|exact tK1 _ _|apply tK2))) ?_)))) ?_
 rintro i ⟨hi,hall⟩
 simp only [zAx,List.cons_append,List.nil_append]
 unfold zJ
 by_cases hlt:i<c.beds.length
 ·obtain ⟨z,hz⟩:∃ z,c.beds[i]?=some z:=⟨_,List.getElem?_eq_getElem hlt⟩
  have hm:=List.mem_of_getElem? hz
  obtain ⟨bb,o,rfl,hblt,hc⟩:=hb.at_ hlt
  have:InS w bb o zAd 3 c.beds:=⟨hb⟩
  have:zAU c.beds i z:=⟨hz⟩
  (repeat' (first|((with_reducible refine zG ?_);first|refine zE rfl rfl rfl rfl rfl ?_|refine zC rfl rfl rfl rfl rfl ?_|(refine zK rfl rfl rfl rfl rfl ?_;refine ⟨_,rfl,?_⟩)|refine za rfl rfl rfl rfl rfl ?_|refine zz rfl rfl rfl rfl rfl rfl ?_|refine zg rfl rfl rfl ?_|(refine zU rfl rfl rfl rfl rfl rfl rfl (fun h=>?_) (fun h=>?_)<;>(dsimp only [cmpP] at h;(try (exfalso;omega))))|(refine zAY rfl rfl rfl rfl rfl rfl (fun _ _ q=>zDJ z.thick 0 2000 _) (fun h=>?_) (fun h=>?_)<;>(try (exfalso;omega)))|(refine zAY rfl rfl rfl rfl rfl rfl (fun _ _ q=>zEt _ _ _ _) (fun h=>?_) (fun h=>?_)<;>(try (exfalso;omega)))|refine zAH rfl rfl rfl rfl rfl ?_|refine zf rfl rfl rfl rfl rfl rfl (by omega) ?_|refine zb rfl rfl rfl rfl rfl rfl rfl (by omega) ?_|refine zp rfl rfl rfl rfl rfl ?_)|(with_reducible first|refine zH ?_|refine zB ?_|refine zD ?_|refine zA ?_|refine zc ?_|refine zS ?_|refine zY ?_|refine zQ ?_|refine zh ?_|refine zAK ?_)|((with_reducible refine zI ?_ ?_);(· exact rfl))|((with_reducible refine zF ?_ ?_);(· exact rfl))))
  all_goals first|exact zi (i+1) ⟨by omega,zJ1 hz (by simp_all [zDX];done) hall⟩ (by omega) (by (first|exact lK1|(repeat (first|exact lK1|(refine zM rfl ?_))))) (by (repeat (first|exact oK1 _|(refine oK2 (by (repeat (first|exact tK1 _ _|apply tK2))) ?_))))|exact zV (by (exact zO.cons (by exact zn.tmp rfl) zO.nil)) () trivial (by rw [zNY hm (by simp_all [zDX])];rfl) (fun _ h=>h.sub (by (repeat (first|exact oK1 _|(refine oK2 (by (repeat (first|exact tK1 _ _|apply tK2))) ?_)))))
 ·obtain rfl:i=c.beds.length:=by omega
  have hbeds:=zJh (fun j z hj hz=>hall j z hj hz)
  (repeat' (first|((with_reducible refine zG ?_);first|refine zE rfl rfl rfl rfl rfl ?_|refine zC rfl rfl rfl rfl rfl ?_|(refine zK rfl rfl rfl rfl rfl ?_;refine ⟨_,rfl,?_⟩)|refine za rfl rfl rfl rfl rfl ?_|(refine zU rfl rfl rfl rfl rfl rfl rfl (fun h=>?_) (fun h=>?_)<;>(dsimp only [cmpP] at h;(try (exfalso;omega))))|refine zp rfl rfl rfl rfl rfl ?_)|(with_reducible first|refine zH ?_|refine zB ?_|refine zD ?_|refine zA ?_|refine zQ ?_|refine zj ?_|refine zR ?_|refine zW ?_)|((with_reducible refine zF ?_ ?_);(· exact rfl))))
  refine zw (ι:=Nat) [1] rfl (fun i=>i≤c.hours.length∧∀ j z,j<i→c.hours[j]?=some z→zCS z=true) (fun i=>[(4,.int .i64 (i:Int))]) (fun _=>[.blk b (zJ c A ca B cb C cc)]) (fun i=>c.hours.length - i) 0 ⟨Nat.zero_le _,fun j z h=>by omega⟩ (by (first|exact lK1|(repeat (first|exact lK1|(refine zM rfl ?_))))) (by (repeat (first|exact oK1 _|(refine oK2 (by (repeat (first|exact tK1 _ _|apply tK2))) ?_)))) ?_
  rintro i ⟨hi,hallh⟩
  simp only [zAx,List.cons_append,List.nil_append]
  unfold zJ
  by_cases hlt:i<c.hours.length
  ·obtain ⟨z,hz⟩:∃ z,c.hours[i]?=some z:=⟨_,List.getElem?_eq_getElem hlt⟩
   have hm:=List.mem_of_getElem? hz
   obtain ⟨bb,o,rfl,hblt,hc⟩:=hh.at_ hlt
   have:InS w bb o zq 5 c.hours:=⟨hh⟩
   have:zAU c.hours i z:=⟨hz⟩
   (repeat' (first|((with_reducible refine zG ?_);first|refine zE rfl rfl rfl rfl rfl ?_|refine zC rfl rfl rfl rfl rfl ?_|(refine zK rfl rfl rfl rfl rfl ?_;refine ⟨_,rfl,?_⟩)|refine za rfl rfl rfl rfl rfl ?_|refine zz rfl rfl rfl rfl rfl rfl ?_|refine zg rfl rfl rfl ?_|(refine zU rfl rfl rfl rfl rfl rfl rfl (fun h=>?_) (fun h=>?_)<;>(dsimp only [cmpP] at h;(try (exfalso;omega))))|(refine zAY rfl rfl rfl rfl rfl rfl (fun _ _ q=>zDJ z.melt 0 50 _) (fun h=>?_) (fun h=>?_)<;>(try (exfalso;omega)))|(refine zAY rfl rfl rfl rfl rfl rfl (fun _ _ q=>zEt _ _ _ _) (fun h=>?_) (fun h=>?_)<;>(try (exfalso;omega)))|refine zAH rfl rfl rfl rfl rfl ?_|refine zf rfl rfl rfl rfl rfl rfl (by omega) ?_|refine zb rfl rfl rfl rfl rfl rfl rfl (by omega) ?_|refine zp rfl rfl rfl rfl rfl ?_|(refine ze rfl rfl rfl rfl rfl ?_;refine And.intro rfl (And.intro (by first|decide|exact Nat.le_of_ble_eq_true rfl|(simp;omega)) ⟨_,rfl,?_⟩))|(refine zm rfl rfl rfl rfl (fun b=>?_)))|(with_reducible first|refine zH ?_|refine zB ?_|refine zD ?_|refine zA ?_|refine zc ?_|refine zS ?_|refine zY ?_|refine zQ ?_|refine zh ?_|refine zAK ?_)|((with_reducible refine zI ?_ ?_);(· exact rfl))|((with_reducible refine zF ?_ ?_);(· exact rfl))))
   all_goals first|exact zi (i+1) ⟨by omega,zJ1 hz (by simp_all [zCS];done) hallh⟩ (by omega) (by (first|exact lK1|(repeat (first|exact lK1|(refine zM rfl ?_))))) (by (repeat (first|exact oK1 _|(refine oK2 (by (repeat (first|exact tK1 _ _|apply tK2))) ?_))))|exact zV (by (exact zO.cons (by exact zn.tmp rfl) zO.nil)) () trivial (by rw [zMV hm (by simp_all [zCS])];rfl) (fun _ h=>h.sub (by (repeat (first|exact oK1 _|(refine oK2 (by (repeat (first|exact tK1 _ _|apply tK2))) ?_)))))
  ·obtain rfl:i=c.hours.length:=by omega
   have hhours:=zJh (fun j z hj hz=>hallh j z hj hz)
   have e:zDW c=true:=zCJ.2 ⟨by omega,by assumption,hbeds,hhours,by assumption,by assumption,by assumption,by assumption,by assumption⟩
   (repeat' (first|((with_reducible refine zG ?_);first|refine zE rfl rfl rfl rfl rfl ?_|refine zC rfl rfl rfl rfl rfl ?_|(refine zK rfl rfl rfl rfl rfl ?_;refine ⟨_,rfl,?_⟩)|refine za rfl rfl rfl rfl rfl ?_|(refine zU rfl rfl rfl rfl rfl rfl rfl (fun h=>?_) (fun h=>?_)<;>(dsimp only [cmpP] at h;(try (exfalso;omega))))|refine zp rfl rfl rfl rfl rfl ?_)|(with_reducible first|refine zH ?_|refine zB ?_|refine zD ?_|refine zA ?_|refine zc ?_|refine zj ?_|refine zR ?_|refine zW ?_)|((with_reducible refine zF ?_ ?_);(· exact rfl))))
   exact zV (by (exact zO.cons (by exact zn.tmp rfl) zO.nil)) () trivial (by rw [e];rfl) (fun _ h=>h.sub (by (repeat (first|exact oK1 _|(refine oK2 (by (repeat (first|exact tK1 _ _|apply tK2))) ?_)))))
theorem zLy (c:Cov) (A:Option Addr) (ca:Nat) (B:Option Addr) (cb:Nat) (C:Option Addr) (cc:Nat) (w:World) (h:zAk w c A B C) (hs:Small c):Gv Tryz.prog 55 [zAI c A ca B cb C cc] w (.int .i64 (zAm c)):=by
 have h3:=hs.t
 have hT:=fun W (hb:Below w.heap.size w W)=>rcheck_n c.t A ca W (h.t.below hb) hs.fit (by omega)
 have hI:=fun W (hb:Below w.heap.size w W)=>rice_any c A ca B cb C cc W (h.below hb) hs
 unfold zAI zJ at hI
 unfold Gv zAI zJ
 cases hv:valid c.t
 ·have e:zAm c=10:=by simp [zAm,hv]
  rw [show zDv c.t=10 by simp [zDv,hv]] at hT
  rw [e]
  (refine zL (n:=13) Tryz.func55 rfl rfl rfl ?_)
  (repeat' (first|((with_reducible refine zG ?_);first|refine zE rfl rfl rfl rfl rfl ?_|refine zC rfl rfl rfl rfl rfl ?_|(refine zK rfl rfl rfl rfl rfl ?_;refine ⟨_,rfl,?_⟩)|refine za rfl rfl rfl rfl rfl ?_|(refine zU rfl rfl rfl rfl rfl rfl rfl (fun h=>?_) (fun h=>?_)<;>(dsimp only [cmpP] at h;(try (exfalso;omega))))|refine zX rfl rfl rfl rfl rfl rfl (fun _ _ q=>hT _ q.below) ?_|(refine zt rfl rfl rfl rfl rfl rfl (fun b=>?_)))|(with_reducible first|refine zH ?_|refine zB ?_|refine zD ?_|refine zA ?_|refine zc ?_|refine zY ?_)|((with_reducible refine zI ?_ ?_);(· exact rfl))))
  all_goals exact zV (by (exact zO.cons (by exact zn.tmp rfl) zO.nil)) () trivial rfl (fun _ _=>Own.nil _ _)
 ·rw [zJU hv] at hT
  cases hi:zDW c
  ·have e:zAm c=20:=by simp [zAm,hv,hi]
   rw [hi] at hI
   rw [e]
   (refine zL (n:=13) Tryz.func55 rfl rfl rfl ?_)
   (repeat' (first|((with_reducible refine zG ?_);first|refine zE rfl rfl rfl rfl rfl ?_|refine zC rfl rfl rfl rfl rfl ?_|(refine zK rfl rfl rfl rfl rfl ?_;refine ⟨_,rfl,?_⟩)|refine za rfl rfl rfl rfl rfl ?_|(refine zU rfl rfl rfl rfl rfl rfl rfl (fun h=>?_) (fun h=>?_)<;>(dsimp only [cmpP] at h;(try (exfalso;omega))))|refine zX rfl rfl rfl rfl rfl rfl (fun _ _ q=>hT _ q.below) ?_|refine zX rfl rfl rfl rfl rfl rfl (fun _ _ q=>hI _ q.below) ?_|refine zAH rfl rfl rfl rfl rfl ?_|(refine zt rfl rfl rfl rfl rfl rfl (fun b=>?_)))|(with_reducible first|refine zH ?_|refine zB ?_|refine zD ?_|refine zA ?_|refine zc ?_|refine zS ?_|refine zY ?_)|((with_reducible refine zI ?_ ?_);(· exact rfl))|((with_reducible refine zF ?_ ?_);(· exact rfl))))
   all_goals exact zV (by (exact zO.cons (by exact zn.tmp rfl) zO.nil)) () trivial rfl (fun _ _=>Own.nil _ _)
  ·have e:zAm c=0:=by simp [zAm,hv,hi]
   rw [hi] at hI
   rw [e]
   (refine zL (n:=13) Tryz.func55 rfl rfl rfl ?_)
   (repeat' (first|((with_reducible refine zG ?_);first|refine zE rfl rfl rfl rfl rfl ?_|refine zC rfl rfl rfl rfl rfl ?_|(refine zK rfl rfl rfl rfl rfl ?_;refine ⟨_,rfl,?_⟩)|refine za rfl rfl rfl rfl rfl ?_|(refine zU rfl rfl rfl rfl rfl rfl rfl (fun h=>?_) (fun h=>?_)<;>(dsimp only [cmpP] at h;(try (exfalso;omega))))|refine zX rfl rfl rfl rfl rfl rfl (fun _ _ q=>hT _ q.below) ?_|refine zX rfl rfl rfl rfl rfl rfl (fun _ _ q=>hI _ q.below) ?_|refine zAH rfl rfl rfl rfl rfl ?_|(refine zt rfl rfl rfl rfl rfl rfl (fun b=>?_)))|(with_reducible first|refine zH ?_|refine zB ?_|refine zD ?_|refine zA ?_|refine zc ?_|refine zS ?_)|((with_reducible refine zF ?_ ?_);(· exact rfl))))
   all_goals exact zV (by (exact zO.cons (by exact zn.tmp rfl) zO.nil)) () trivial rfl (fun _ _=>Own.nil _ _)
end Go.Proofs.YtdigopgncfhiaaaGreatDoor
