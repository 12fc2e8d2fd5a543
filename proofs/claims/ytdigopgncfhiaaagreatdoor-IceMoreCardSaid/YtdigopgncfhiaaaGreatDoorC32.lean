/- C32 -/
import Derived.Test.YtdigopgncfhiaaaGreatDoorC26
import Derived.Test.YtdigopgncfhiaaaGreatDoorC27
set_option linter.unusedSimpArgs false
set_option linter.unusedVariables false
namespace Go.Proofs.YtdigopgncfhiaaaGreatDoor
open Go.RowKit
open Flow (lackF sumL)
set_option maxRecDepth 20000
theorem errI_ofF {c:Cov} (hv:valid c.t=true) (h:zBl c):zAr c=0:=by
 have:zEM c=true:=zCg.2 ⟨h.beds,h.hours,List.all_eq_true.2 fun z hz=>h.bed z hz,List.all_eq_true.2 fun z hz=>h.hour z hz,h.wear,h.layer,h.rate,h.limit,h.base⟩
 unfold zAr
 rw [if_pos hv,if_pos this]
theorem zR4 {c:Cov} (h:zAr c=0):valid c.t=true:=by
 cases hv:valid c.t with
 | true=>rfl
 | false=>unfold zAr at h;rw [hv] at h;simp at h
def zBd (c:Cov) (k:Nat):Cov:={ c with hours:=c.hours.take k }
theorem zHU {c:Cov} {k:Nat} (hk:k≤c.hours.length):(zBd c k).hours.length=k:=by simp [zBd];omega
theorem zMo {c:Cov} {k:Nat} (h:Small c):Small (zBd c k):=⟨h.fit,h.t,h.b,by have:=h.h;simp [zBd];omega⟩
theorem zNf {c:Cov} {k:Nat} (h:zBl c) (h1:1≤k) (h2:k≤c.hours.length):zBl (zBd c k) :=
 ⟨h.bed,fun u hu=>h.hour u (List.mem_of_mem_take hu),h.wear,h.layer,h.rate,h.limit,h.base,h.beds,by
  have:=h.hours
  rw [zAA] at this ⊢
  rw [zHU h2];omega⟩
theorem zPC {c:Cov} {k:Nat} (h:zAr c=0) (h1:1≤k) (h2:k≤c.hours.length):zAr (zBd c k)=0:=errI_ofF (show valid (zBd c k).t=true from zR4 (c:=c) h) (zNf (zA1 h) h1 h2)
theorem zQx {c:Cov} {h k:Nat} (hk:h<k):(zBd c k).hours.getD h default=c.hours.getD h default:=by
 simp only [zBd,List.getD_eq_getElem?_getD,List.getElem?_take_of_lt hk]
theorem zKf {nd nd':Nat→Int} {my my' sm sm':Nat→Bool}:∀ k,(∀ h,h<k→nd h=nd' h∧my h=my' h∧sm h=sm' h)→lackF nd my sm k=lackF nd' my' sm' k
 | 0,_=>rfl
 | k+1,h=>by
  have ih:=zKf (nd:=nd) (nd':=nd') (my:=my) (my':=my') (sm:=sm) (sm':=sm') k (fun i hi=>h i (by omega))
  obtain ⟨h1,h2,h3⟩:=h k (by omega)
  simp only [lackF,ih,h1,h2,h3]
theorem zFV {c:Cov} {i:Nat} (hi:i<c.beds.length) (j:Nat) (hj:j<c.hours.length):((zA2 c).getD i []).getD j 0=(needG c (c.beds.getD i default) (j+1)).2:=by
 unfold zA2
 rw [getD_map (List.getElem?_eq_getElem hi),zAW (List.getElem?_eq_getElem hi)]
 unfold zBo
 rw [getD_map (List.getElem?_range hj)]
theorem zJk {c:Cov} {i:Nat} (hi:i<c.beds.length) (j:Nat):((zC6 c).getD i []).getD j false=(c.hours.map (·.cold)).getD j false:=by
 unfold zC6
 rw [List.getD_eq_getElem?_getD (l:=List.replicate _ _),List.getElem?_replicate,if_pos hi];rfl
end Go.Proofs.YtdigopgncfhiaaaGreatDoor
namespace Go.Proofs.YtdigopgncfhiaaaGreatDoor
open Go.RowKit
open Flow (lackF zBq sumL)
section
variable {nd nd':Nat→Int} {my my' a b:Nat→Bool}
theorem zB4 (k:Nat):zBq my a (k+1)=zBq my a k+(if my k && !a k then 1 else 0):=Flow.zAE _ k
theorem zLA : ∀ k,0≤zBq my a k
 | 0=>Int.le_refl _
 | k+1=>by have:=zLA k;rw [zB4];split<;>omega
theorem zMf (h:∀ k,a k=true→b k=true):∀ k,zBq my b k≤zBq my a k
 | 0=>Int.le_refl _
 | k+1=>by
  have:=zMf h k
  have hk:=h k
  rw [zB4,zB4]
  cases my k<;>cases ha:a k<;>cases hb:b k<;>simp_all<;>omega
theorem zK9 (h1:Nat):∀ d,zBq my (fun k=>a k || b k) (h1+d)+zBq my (fun k=>a k && b k) h1≤zBq my a h1+zBq my b (h1+d)
 | 0=>by
  have key:∀ k,zBq my (fun k=>a k || b k) k+zBq my (fun k=>a k && b k) k=zBq my a k+zBq my b k:=by
   intro k
   induction k with
   | zero=>rfl
   | succ k ih =>
    rw [zB4,zB4,zB4,zB4]
    cases my k<;>cases a k<;>cases b k<;>simp<;>omega
  have:=key h1
  rw [Nat.add_zero];omega
 | d+1=>by
  have:=zK9 h1 d
  rw [← Nat.add_assoc,zB4,zB4]
  cases my (h1+d)<;>cases a (h1+d)<;>cases b (h1+d)<;>simp<;>omega
theorem zDe {x:Int} {k:Nat} (h0:0≤x) (h:∀ j,j<k→nd j - zBq my a j≤x):(lackF nd my a k).1≤x:=by
 rcases Flow.zGb (nd:=nd) (my:=my) (sm:=a) k with e | ⟨j,hj,e⟩
 ·omega
 ·have:=h j hj;omega
theorem zKh {k:Nat} (h:∀ k,a k=true→b k=true):(lackF nd my a k).1≤(lackF nd my b k).1:=by
 refine zDe (Flow.zBS k) fun j hj=>?_
 have h1:=Flow.zBz (nd:=nd) (my:=my) (sm:=b) k j hj
 have h2:=zMf (my:=my) h j
 omega
theorem zRa {k:Nat}:(lackF nd my a k).1+(lackF nd my b k).1≤(lackF nd my (fun j=>a j || b j) k).1+(lackF nd my (fun j=>a j && b j) k).1:=by
 have p1:=Flow.zBS (nd:=nd) (my:=my) (sm:=fun j=>a j && b j) k
 have g1:(lackF nd my a k).1≤(lackF nd my (fun j=>a j || b j) k).1:=zKh fun j h=>by simp [h]
 have g2:(lackF nd my b k).1≤(lackF nd my (fun j=>a j || b j) k).1:=zKh fun j h=>by simp [h]
 rcases Flow.zGb (nd:=nd) (my:=my) (sm:=a) k with e | ⟨i,hi,e⟩
 ·omega
 rcases Flow.zGb (nd:=nd) (my:=my) (sm:=b) k with e2 | ⟨j,hj,e2⟩
 ·omega
 rcases Nat.le_total i j with h|h
 ·have h1:=Flow.zBz (nd:=nd) (my:=my) (sm:=fun j=>a j || b j) k j hj
  have h2:=Flow.zBz (nd:=nd) (my:=my) (sm:=fun j=>a j && b j) k i hi
  have h3:=zK9 (my:=my) (a:=a) (b:=b) i (j - i)
  rw [show i+(j - i)=j by omega] at h3
  omega
 ·have h1:=Flow.zBz (nd:=nd) (my:=my) (sm:=fun j=>a j || b j) k i hi
  have h2:=Flow.zBz (nd:=nd) (my:=my) (sm:=fun j=>a j && b j) k j hj
  have h3:=zK9 (my:=my) (a:=b) (b:=a) j (i - j)
  have e3:(fun k=>b k || a k)=fun k=>a k || b k:=funext fun k=>Bool.or_comm _ _
  have e4:(fun k=>b k && a k)=fun k=>a k && b k:=funext fun k=>Bool.and_comm _ _
  rw [show j+(i - j)=i by omega,e3,e4] at h3
  omega
end
def zDd (nb nh:Nat) (nd:Nat→Nat→Int) (my:Nat→Nat→Bool) (hd:Nat→Int) (m:Nat→Bool):Int:=sumL (List.range nb) (fun i=>(lackF (nd i) (my i) m nh).1) - sumL (List.range nh) (fun h=>if m h then hd h else 0)
def zHl (nb nh:Nat) (nd:Nat→Nat→Int) (my:Nat→Nat→Bool) (hd:Nat→Int):Prop:=∀ m,zDd nb nh nd my hd m≤0
section
variable {nb nh:Nat} {nd nd':Nat→Nat→Int} {my my':Nat→Nat→Bool} {hd hd':Nat→Int} {a b:Nat→Bool}
theorem zPX (h:∀ k,k<nh→a k=b k):zDd nb nh nd my hd a=zDd nb nh nd my hd b:=by
 unfold zDd
 rw [zx nh (fun i hi=>by rw [h i hi])]
 congr 1
 refine zx nb fun i _=>?_
 cases nh with
 | zero=>rfl
 | succ k =>
  have e:=zKf (nd:=nd i) (nd':=nd i) (my:=my i) (my':=my i) (sm:=a) (sm':=b) (k+1) (fun j hj=>⟨rfl,rfl,h j hj⟩)
  rw [e]
theorem zNn {f g:Nat→Int} {i:Nat} (hi:i<nb) (h:∀ j,j<nb→f j+(if j=i then 1 else 0)≤g j):sumL (List.range nb) f+1≤sumL (List.range nb) g:=by
 have h1:sumL (List.range nb) (fun j=>f j+(if j=i then 1 else 0))≤sumL (List.range nb) g:=Flow.zA0 fun j hj=>h j (List.mem_range.1 hj)
 rw [Flow.zBW,Flow.zC3 List.nodup_range (List.mem_range.2 hi)] at h1
 exact h1
theorem can_skip {i h:Nat} (hi:i<nb) (hh:h<nh) (hc:zHl nb nh nd my hd) (h0:∀ k,0≤hd k) (hno:my i h=false∨hd h≤0∨∀ k,k<nh→nd i k≤0):zHl nb nh nd (fun j k=>if j=i∧k=h then false else my j k) hd:=by
 rcases hno with hm|hm|hm
 ·have:(fun j k=>if j=i∧k=h then false else my j k)=my:=by
   funext j k
   by_cases e:j=i∧k=h
   ·rw [if_pos e,e.1,e.2,hm]
   ·rw [if_neg e]
  rw [this];exact hc
 ·intro m
  refine Int.le_trans ?_ (hc fun k=>m k || decide (k=h))
  have e1:sumL (List.range nh) (fun k=>if (m k || decide (k=h)) then hd k else 0)=sumL (List.range nh) (fun k=>if m k then hd k else 0):=zx nh fun k _=>by
   by_cases e:k=h
   ·subst e
    have:=h0 k
    have e2:hd k=0:=by omega
    simp [e2]
   ·simp [e]
  unfold zDd
  rw [e1]
  refine Int.sub_le_sub_right (Flow.zA0 fun j _=>?_) _
  refine zDe (Flow.zBS nh) fun k hk=>?_
  dsimp only
  have h1:=Flow.zBz (nd:=nd j) (my:=my j) (sm:=fun k=>m k || decide (k=h)) nh k hk
  have h2:zBq (my j) (fun k=>m k || decide (k=h)) k≤zBq (fun k=>if j=i∧k=h then false else my j k) m k:=by
   unfold zBq
   refine Flow.zA0 fun q _=>?_
   by_cases e:q=h
   ·subst e;simp;split<;>omega
   ·simp [e]
  omega
 ·intro m
  refine Int.le_trans ?_ (hc m)
  unfold zDd
  refine Int.sub_le_sub_right (Flow.zA0 fun j _=>?_) _
  by_cases e:j=i
  ·subst e
   refine zDe (Flow.zBS nh) fun k hk=>?_
   dsimp only
   have h1:=hm k hk
   have h2:=zLA (my:=fun k=>if j=j∧k=h then false else my j k) (a:=m) k
   have h3:=Flow.zBS (nd:=nd j) (my:=my j) (sm:=m) nh
   omega
  ·have:(fun k=>if j=i∧k=h then false else my j k)=my j:=by funext k;rw [if_neg (fun q=>e q.1)]
   dsimp only
   rw [this];exact Int.le_refl _
theorem can_else {i h:Nat} (hi:i<nb) (hh:h<nh) (hc:zHl nb nh nd my hd) (hno:¬ zHl nb nh (fun j k=>if j=i then max 0 (nd i k - 1) else nd j k) (fun j k=>if j=i∧k=h then false else my j k) (fun k=>if k=h then hd h - 1 else hd k)):zHl nb nh nd (fun j k=>if j=i∧k=h then false else my j k) hd:=by
 have hno:∃ m,0<zDd nb nh (fun j k=>if j=i then max 0 (nd i k - 1) else nd j k) (fun j k=>if j=i∧k=h then false else my j k) (fun k=>if k=h then hd h - 1 else hd k) m:=by
  rcases Classical.em (∃ m,0<zDd nb nh (fun j k=>if j=i then max 0 (nd i k - 1) else nd j k) (fun j k=>if j=i∧k=h then false else my j k) (fun k=>if k=h then hd h - 1 else hd k) m) with h1|h1
  ·exact h1
  ·exact absurd (fun m=>Int.not_lt.1 fun h2=>h1 ⟨m,h2⟩) hno
 obtain ⟨a,ha⟩:=hno
 have hrest:∀ j m,j≠i→(lackF (fun k=>if j=i then max 0 (nd i k - 1) else nd j k) (fun k=>if j=i∧k=h then false else my j k) m nh).1=(lackF (nd j) (my j) m nh).1:=fun j m e=>by
  have e1:(fun k=>if j=i∧k=h then false else my j k)=my j:=by funext k;rw [if_neg (fun q=>e q.1)]
  have e2:(fun k=>if j=i then max 0 (nd i k - 1) else nd j k)=nd j:=by funext k;rw [if_neg e]
  rw [e1,e2]
 have eN:(fun k=>if i=i∧k=h then false else my i k)=fun k=>if k=h then false else my i k:=by funext k;simp
 have eM:(fun k=>if i=i then max 0 (nd i k - 1) else nd i k)=fun k=>max 0 (nd i k - 1):=by funext k;simp
 have hcan:∀ m k,zBq (my i) m k - (if m h then 0 else 1)≤zBq (fun k=>if k=h then false else my i k) m k:=fun m k=>by
  induction k with
  | zero=>simp only [zBq,List.range_zero,sumL];split<;>omega
  | succ k ih =>
   rw [zB4,zB4]
   by_cases e:k=h
   ·subst e
    have h9:zBq (fun q=>if q=k then false else my i q) m k=zBq (my i) m k:=zx k fun q hq=>by
     have e:q≠k:=by omega
     simp [e]
    rw [h9]
    cases m k<;>cases my i k<;>simp<;>omega
   ·simp only [e,if_false]
    omega
 have hone:(lackF (fun k=>max 0 (nd i k - 1)) (fun k=>if k=h then false else my i k) a nh).1≤max 0 ((lackF (nd i) (my i) a nh).1 - (if a h then 1 else 0)):=by
  refine zDe (by omega) fun k hk=>?_
  have h1:=Flow.zBz (nd:=nd i) (my:=my i) (sm:=a) nh k hk
  have h2:=hcan a k
  have h3:=zLA (my:=fun k=>if k=h then false else my i k) (a:=a) k
  split at h2<;>rename_i hah
  ·rw [if_pos hah];omega
  ·rw [if_neg hah];omega
 have hp:=Flow.zBS (nd:=nd i) (my:=my i) (sm:=a) nh
 have hone2:=Int.le_trans hone (show max 0 ((lackF (nd i) (my i) a nh).1 - (if a h then 1 else 0))≤(lackF (nd i) (my i) a nh).1 by split<;>omega)
 have hall:∀ j,j<nb→(lackF (fun k=>if j=i then max 0 (nd i k - 1) else nd j k) (fun k=>if j=i∧k=h then false else my j k) a nh).1≤(lackF (nd j) (my j) a nh).1:=fun j _=>by
  by_cases e:j=i
  ·subst e;rw [eN,eM];exact hone2
  ·rw [hrest j a e];exact Int.le_refl _
 have hsum:=Flow.zA0 (l:=List.range nb) fun j hj=>hall j (List.mem_range.1 hj)
 have hca:=hc a
 unfold zDd at ha hca
 dsimp only at ha
 cases hah:a h with
 | false =>
  have e1:sumL (List.range nh) (fun k=>if a k then (if k=h then hd h - 1 else hd k) else 0)=sumL (List.range nh) (fun k=>if a k then hd k else 0):=zx nh fun k _=>by
   by_cases e:k=h
   ·subst e;rw [hah];rfl
   ·rw [if_neg e]
  rw [e1] at ha
  omega
 | true =>
  have e1:sumL (List.range nh) (fun k=>if a k then (if k=h then hd h - 1 else hd k) else 0)+1=sumL (List.range nh) (fun k=>if a k then hd k else 0):=by
   have h1:sumL (List.range nh) (fun k=>(if a k then (if k=h then hd h - 1 else hd k) else 0)+(if k=h then 1 else 0))=sumL (List.range nh) (fun k=>if a k then hd k else 0):=zx nh fun k _=>by
    by_cases e:k=h
    ·subst e;rw [hah];simp
    ·simp [e]
   rw [Flow.zBW,Flow.zC3 List.nodup_range (List.mem_range.2 hh)] at h1
   exact h1
  rw [hah,if_pos rfl] at hone
  have hl0:(lackF (nd i) (my i) a nh).1=0:=by
   rcases Int.lt_or_le 0 (lackF (nd i) (my i) a nh).1 with h1|h1
   ·have:=zNn (f:=fun j=>(lackF (fun k=>if j=i then max 0 (nd i k - 1) else nd j k) (fun k=>if j=i∧k=h then false else my j k) a nh).1) (g:=fun j=>(lackF (nd j) (my j) a nh).1) hi (fun j hj=>by
     by_cases e:j=i
     ·subst e;rw [if_pos rfl,eN,eM];omega
     ·rw [if_neg e,hrest j a e];omega)
    omega
   ·omega
  have hF0:zDd nb nh nd my hd a=0:=by unfold zDd;omega
  intro m
  have hmm:=hc m
  cases hmh:m h with
  | true =>
   refine Int.le_trans (Int.le_of_eq ?_) hmm
   unfold zDd
   dsimp only
   congr 1
   refine zx nb fun j _=>?_
   have e2:∀ k,zBq (fun k=>if j=i∧k=h then false else my j k) m k=zBq (my j) m k:=fun k=>zx k fun q _=>by
    by_cases e:q=h
    ·subst e;rw [hmh];simp
    ·simp [e]
   refine Int.le_antisymm (zDe (Flow.zBS nh) fun k hk=>?_) (zDe (Flow.zBS nh) fun k hk=>?_)
   ·rw [e2];exact Flow.zBz nh k hk
   ·rw [← e2];exact Flow.zBz nh k hk
  | false =>
   have h2:=hc fun j=>a j || m j
   have h3:=hc fun j=>a j && m j
   -- the stretch itself
   have hi1:(lackF (nd i) (fun k=>if k=h then false else my i k) m nh).1≤(lackF (nd i) (my i) (fun j=>a j || m j) nh).1:=by
    refine zDe (Flow.zBS nh) fun k hk=>?_
    have h4:=Flow.zBz (nd:=nd i) (my:=my i) (sm:=fun j=>a j || m j) nh k hk
    have h5:zBq (my i) (fun j=>a j || m j) k≤zBq (fun k=>if k=h then false else my i k) m k:=Flow.zA0 fun q _=>by
     by_cases e:q=h
     ·subst e;simp [hah]
     ·simp only [e,if_false]
      have e8:∀ x y z:Bool,(if (x && !(y || z))=true then (1:Int) else 0)≤if (x && !z)=true then 1 else 0:=by decide
      exact e8 _ _ _
    omega
   have hi2:=Flow.zBS (nd:=nd i) (my:=my i) (sm:=fun j=>a j && m j) nh
   have hs1:sumL (List.range nb) (fun j=>(lackF (nd j) (my j) a nh).1+(lackF (nd j) (fun k=>if j=i∧k=h then false else my j k) m nh).1)≤sumL (List.range nb) (fun j=>(lackF (nd j) (my j) (fun j=>a j || m j) nh).1+(lackF (nd j) (my j) (fun j=>a j && m j) nh).1):=Flow.zA0 fun j _=>by
    by_cases e:j=i
    ·subst e;rw [eN];omega
    ·have e1:(fun k=>if j=i∧k=h then false else my j k)=my j:=by funext k;rw [if_neg (fun q=>e q.1)]
     rw [e1];exact zRa
   have hs2:sumL (List.range nh) (fun h=>(if a h then hd h else 0)+(if m h then hd h else 0))=sumL (List.range nh) (fun h=>(if (a h || m h) then hd h else 0)+(if (a h && m h) then hd h else 0)):=zx nh fun h _=>by
    cases a h<;>cases m h<;>simp
   rw [Flow.zBW,Flow.zBW] at hs1 hs2
   unfold zDd at hF0 h2 h3 ⊢
   dsimp only at h2 h3 ⊢
   omega
end
end Go.Proofs.YtdigopgncfhiaaaGreatDoor
namespace Go.Proofs.YtdigopgncfhiaaaGreatDoor
open Go.RowKit
open Flow (lackF zBq sumL)
def ndF (s:PS) (i h:Nat):Int:=(s.nds.getD i []).getD h 0
def myF (s:PS) (i h:Nat):Bool:=(s.may.getD i []).getD h false
def hdF (s:PS) (h:Nat):Int:=s.hands.getD h 0
theorem zFD {nb nh h i:Nat} {s:PS} (ok:zCb nb nh h i s):zDG s.nds s.may s.hands=true↔zHl nb nh (ndF s) (myF s) (hdF s):=by
 have key:∀ m:Nat,zKB s.nds s.may s.hands m=zDd nb nh (ndF s) (myF s) (hdF s) m.testBit:=fun m=>by
  unfold zKB zDd zFC
  rw [ok.nl,ok.hl]
  congr 1
  refine zx nb fun j hj=>?_
  rw [show (s.nds.getD j []).length=nh by rw [Flow.zt (by rw [ok.nl];exact hj)];exact (ok.nr _ (List.getElem_mem _)).len]
  rfl
 unfold zDG
 rw [List.all_eq_true]
 constructor
 ·intro h m
  obtain ⟨M,hM,hb⟩:=Flow.zLB m nh
  have:=h M (List.mem_range.2 (by rw [ok.hl];exact hM))
  simp only [Bool.not_eq_true',decide_eq_false_iff_not,key] at this
  rw [zPX (b:=M.testBit) (fun k hk=>(hb k hk).symm)]
  omega
 ·intro h m _
  have:=h m.testBit
  simp only [Bool.not_eq_true',decide_eq_false_iff_not,key]
  omega
theorem zRu {l:List Bool} {h k:Nat}:(l.set h false).getD k false=if k=h then false else l.getD k false:=by
 rw [List.getD_eq_getElem?_getD,List.getElem?_set,List.getD_eq_getElem?_getD]
 by_cases e:h=k
 ·subst e
  rw [if_pos rfl,if_pos rfl]
  split<;>rfl
 ·rw [if_neg e,if_neg (fun q=>e q.symm)]
theorem zRv {l:List Int} {k:Nat}:(zDo l).getD k 0=max 0 (l.getD k 0 - 1):=by
 unfold zDo
 simp only [List.getD_eq_getElem?_getD,List.getElem?_map]
 cases l[k]?<;>simp<;>rfl
section
variable {nb nh h i:Nat} {s:PS}
theorem zH8 (ok:zCb nb nh h i s) (hi:i<nb) (n:List (List Int)) (d:List Int) (o:List (List Int)):myF ⟨n,zDD s h i,d,o⟩=fun j k=>if j=i∧k=h then false else myF s j k:=by
 funext j k
 unfold myF zDD
 dsimp only
 rw [zEq (by rw [ok.ml];exact hi)]
 by_cases e:j=i
 ·subst e
  rw [if_pos rfl,zRu]
  by_cases e2:k=h
  ·rw [if_pos e2,if_pos ⟨rfl,e2⟩]
  ·rw [if_neg e2,if_neg (fun q=>e2 q.2)]
 ·rw [if_neg e,if_neg (fun q=>e q.1)]
theorem zH7 (ok:zCb nb nh h i s) (hi:i<nb) (n:List (List Bool)) (d:List Int) (o:List (List Int)):ndF ⟨zGL s i,n,d,o⟩=fun j k=>if j=i then max 0 (ndF s i k - 1) else ndF s j k:=by
 funext j k
 unfold ndF zGL
 dsimp only
 rw [zEq (by rw [ok.nl];exact hi)]
 by_cases e:j=i
 ·rw [if_pos e,if_pos e,zRv]
 ·rw [if_neg e,if_neg e]
theorem zNG (ok:zCb nb nh h i s) (hh:h<nh) (n:List (List Int)) (m:List (List Bool)) (o:List (List Int)):hdF ⟨n,m,zCP s h,o⟩=fun k=>if k=h then hdF s h - 1 else hdF s k:=by
 funext k
 unfold hdF zCP
 dsimp only
 rw [zEq (by rw [ok.hl];exact hh)]
theorem zQg (ok:zCb nb nh h i s) (k:Nat):0≤hdF s k:=by
 unfold hdF
 rw [List.getD_eq_getElem?_getD]
 cases e:s.hands[k]? with
 | none=>exact Int.le_refl _
 | some x=>exact (ok.hr x (List.mem_of_getElem? e)).1
theorem step_can (ok:zCb nb nh h i s) (hi:i<nb) (hh:h<nh) (hc:zHl nb nh (ndF s) (myF s) (hdF s)):zHl nb nh (ndF (zCN h i s)) (myF (zCN h i s)) (hdF (zCN h i s)):=by
 have hskip:∀ (q:zHl nb nh (ndF s) (fun j k=>if j=i∧k=h then false else myF s j k) (hdF s)),zHl nb nh (ndF ⟨s.nds,zDD s h i,s.hands,s.out⟩) (myF ⟨s.nds,zDD s h i,s.hands,s.out⟩) (hdF ⟨s.nds,zDD s h i,s.hands,s.out⟩):=fun q=>by
  rw [zH8 ok hi];exact q
 unfold zCN
 cases ht:zE3 s h i with
 | false =>
  rw [if_neg (by simp)]
  refine hskip (can_skip hi hh hc (zQg ok) ?_)
  unfold zE3 at ht
  simp only [Bool.and_eq_false_iff,decide_eq_false_iff_not] at ht
  rcases ht with h1|h1|h1
  ·exact .inl h1
  ·exact .inr (.inl (Int.not_lt.1 h1))
  ·refine .inr (.inr fun k hk=>Int.le_trans ?_ (Int.not_lt.1 h1))
   have hl:(s.nds.getD i []).length=nh:=by rw [Flow.zt (by rw [ok.nl];exact hi)];exact (ok.nr _ (List.getElem_mem _)).len
   unfold ndF
   rw [Flow.zt (by rw [hl];exact hk)]
   exact Flow.zJl (List.getElem_mem _)
 | true =>
  rw [if_pos rfl]
  have ok2:zCb nb nh 0 0 ⟨zGL s i,zDD s h i,zCP s h,List.replicate nh []⟩:=⟨(ok.zGz hi).1,(ok.zG2 hi).1,(ok.zEZ hh ht).1,by simp,(ok.zGz hi).2,(ok.zG2 hi).2,(ok.zEZ hh ht).2,fun k=>by
   rw [List.getD_eq_getElem?_getD,List.getElem?_replicate]
   split<;>simp⟩
  cases hb:zDG (zGL s i) (zDD s h i) (zCP s h) with
  | true =>
   rw [if_pos rfl]
   exact (zFD ok2).1 hb
  | false =>
   rw [if_neg (by simp)]
   refine hskip (can_else hi hh hc fun q=>?_)
   rw [← Bool.not_eq_true] at hb
   refine hb ((zFD ok2).2 ?_)
   rw [zH8 ok hi,zH7 ok hi,zNG ok hh]
   exact q
end
def zBe (xss:List (List Int)) (i:Nat) (k:Nat):Int:=sumL (List.range k) fun h=>if (xss.getD h []).contains (i:Int) then 1 else 0
theorem zMZ {xss:List (List Int)} {i k:Nat}:zBe xss i (k+1)=zBe xss i k+(if (xss.getD k []).contains (i:Int) then 1 else 0):=Flow.zAE _ k
theorem zFp {xss:List (List Int)} {i k:Nat}:∀ d,zBe xss i k≤zBe xss i (k+d)
 | 0=>Int.le_refl _
 | d+1=>by have:=zFp (xss:=xss) (i:=i) (k:=k) d;rw [← Nat.add_assoc,zMZ];split<;>omega
structure zHH (nb nh:Nat) (s0:PS) (h i:Nat) (s:PS):Prop where
 can:zHl nb nh (ndF s) (myF s) (hdF s)
 past:∀ j k,j<nb→k<h∨(k=h∧j<i)→myF s j k=false
 cnt:∀ j,j<nb→ndF s j (nh - 1)+zBe s.out j nh=ndF s0 j (nh - 1)
 work:∀ k,k<nh→hdF s k+(s.out.getD k []).length=hdF s0 k
 rows:∀ k,(s.out.getD k []).Pairwise (· < ·)∧∀ x∈s.out.getD k [],∃ j:Nat,x=(j:Int)∧j<nb∧(k<h∨(k=h∧j<i))
section
variable {nb nh h i:Nat} {s s0:PS}
theorem zHH.step (iv:zHH nb nh s0 h i s) (ok:zCb nb nh h i s) (hi:i<nb) (hh:h<nh):zHH nb nh s0 h (i+1) (zCN h i s):=by
 have hcan:=step_can ok hi hh iv.can
 have hpast:∀ (n d o),∀ j k,j<nb→k<h∨(k=h∧j<i+1)→myF ⟨n,zDD s h i,d,o⟩ j k=false:=fun n d o j k hj hk=>by
  rw [zH8 ok hi]
  dsimp only
  by_cases e:j=i∧k=h
  ·rw [if_pos e]
  ·rw [if_neg e];exact iv.past j k hj (by omega)
 have hrows:∀ k,(s.out.getD k []).Pairwise (· < ·)∧∀ x∈s.out.getD k [],∃ j:Nat,x=(j:Int)∧j<nb∧(k<h∨(k=h∧j<i+1)):=fun k=>⟨(iv.rows k).1,fun x hx=>by
  obtain ⟨j,e,h1,h2⟩:=(iv.rows k).2 x hx
  exact ⟨j,e,h1,by omega⟩⟩
 unfold zCN at hcan ⊢
 cases ht:zE3 s h i with
 | false =>
  rw [ht,if_neg (by simp)] at hcan
  rw [if_neg (by simp)]
  exact ⟨hcan,hpast _ _ _,iv.cnt,iv.work,hrows⟩
 | true =>
  rw [ht,if_pos rfl] at hcan
  rw [if_pos rfl]
  cases hb:zDG (zGL s i) (zDD s h i) (zCP s h) with
  | false =>
   rw [hb,if_neg (by simp)] at hcan
   rw [if_neg (by simp)]
   exact ⟨hcan,hpast _ _ _,iv.cnt,iv.work,hrows⟩
  | true =>
   rw [hb,if_pos rfl] at hcan
   rw [if_pos rfl]
   have hout:∀ k,(zIn s h i).getD k []=if k=h then s.out.getD h []++[(i:Int)] else s.out.getD k []:=fun k=>by
    unfold zIn
    rw [zEq (by rw [ok.ol];exact hh)]
   have hlt:∀ x∈s.out.getD h [],x<(i:Int):=fun x hx=>by
    obtain ⟨j,e,_,h2⟩:=(iv.rows h).2 x hx
    omega
   have hin:(s.out.getD h []).contains (i:Int)=false:=by
    rw [Bool.eq_false_iff]
    intro h1
    have:=hlt _ (List.contains_iff_mem.1 h1)
    omega
   unfold zE3 at ht
   simp only [Bool.and_eq_true,decide_eq_true_eq] at ht
   have hmax:0<ndF s i (nh - 1):=by
    have h1:=ht.2.2
    rw [(ok.nr (s.nds.getD i []) (by rw [Flow.zt (by rw [ok.nl];exact hi)];exact List.getElem_mem _)).max (by omega)] at h1
    exact h1
   refine ⟨hcan,hpast _ _ _,fun j hj=>?_,fun k hk=>?_,fun k=>?_⟩
   ·rw [zH7 ok hi]
    dsimp only
    have hc:=iv.cnt j hj
    by_cases e:j=i
    ·subst e
     rw [if_pos rfl]
     have:zBe (zIn s h j) j nh=zBe s.out j nh+1:=by
      have h1:zBe (zIn s h j) j nh=sumL (List.range nh) (fun k=>(if (s.out.getD k []).contains (j:Int) then 1 else 0)+(if k=h then 1 else 0)):=zx nh fun k _=>by
       rw [hout]
       by_cases e:k=h
       ·subst e
        rw [if_pos rfl,if_pos rfl,hin]
        simp
       ·rw [if_neg e,if_neg e,Int.add_zero]
      rw [h1,Flow.zBW,Flow.zC3 List.nodup_range (List.mem_range.2 hh)];rfl
     rw [this];omega
    ·rw [if_neg e]
     have:zBe (zIn s h i) j nh=zBe s.out j nh:=zx nh fun k _=>by
      rw [hout]
      by_cases e2:k=h
      ·subst e2
       rw [if_pos rfl]
       have:((j:Int) == (i:Int))=false:=by simp;omega
       simp [List.contains_eq_mem,List.mem_append]
       congr 1
       simp only [eq_iff_iff]
       constructor
       ·rintro (h1|h1)
        ·exact h1
        ·omega
       ·exact .inl
      ·rw [if_neg e2]
     rw [this];exact hc
   ·rw [zNG ok hh]
    dsimp only
    have hw:=iv.work k hk
    rw [hout]
    by_cases e:k=h
    ·subst e
     rw [if_pos rfl,if_pos rfl,List.length_append]
     simp only [List.length_cons,List.length_nil]
     omega
    ·rw [if_neg e,if_neg e];exact hw
   ·dsimp only
    rw [hout]
    by_cases e:k=h
    ·subst e
     rw [if_pos rfl]
     refine ⟨List.pairwise_append.2 ⟨(iv.rows k).1,List.pairwise_singleton _ _,fun x hx y hy=>?_⟩,fun x hx=>?_⟩
     ·rw [List.mem_singleton.1 hy];exact hlt x hx
     ·rcases List.mem_append.1 hx with h1|h1
      ·exact (hrows k).2 x h1
      ·exact ⟨i,List.mem_singleton.1 h1,hi,.inr ⟨rfl,by omega⟩⟩
    ·rw [if_neg e];exact hrows k
theorem zHH.next (iv:zHH nb nh s0 h nb s):zHH nb nh s0 (h+1) 0 s :=
 ⟨iv.can,fun j k hj hk=>iv.past j k hj (by omega),iv.cnt,iv.work,fun k=>⟨(iv.rows k).1,fun x hx=>by
  obtain ⟨j,e,h1,h2⟩:=(iv.rows k).2 x hx
  exact ⟨j,e,h1,by omega⟩⟩⟩
theorem zG6 (iv:zHH nb nh s0 h 0 s) (ok:zCb nb nh h 0 s) (hh:h<nh):∀ i,i≤nb→zHH nb nh s0 h i (stepsP h i s)
 | 0,_=>iv
 | i+1,hi=>(zG6 iv ok hh i (by omega)).step (zEd ok hh i (by omega)) (by omega) hh
theorem zFa (iv:zHH nb nh s0 0 0 s) (ok:zCb nb nh 0 0 s):∀ h,h≤nh→zHH nb nh s0 h 0 (zB0 nb h s)
 | 0,_=>iv
 | h+1,hh=>(zG6 (zFa iv ok h (by omega)) (zDF ok h (by omega)) (by omega) nb (Nat.le_refl _)).next
end
theorem zET {c:Cov} (h0:zAr c=0) (hs:Small c) (hc:zDG (zA2 c) (zC6 c) (zAp c)=true):zAz c (zm (zAy c).1)=true∧(∀ k,((zAy c).1.getD k []).Pairwise (· < ·)∧∀ x∈(zAy c).1.getD k [],∃ j:Nat,x=(j:Int)∧j<c.beds.length)∧∀ i,i<c.beds.length→zBe (zAy c).1 i c.hours.length=(needG c (c.beds.getD i default) c.hours.length).2:=by
 have hf:=zA1 h0
 have ok0:=zCf hf hs (zD6 hf)
 have hh1:=hf.hours
 rw [zAA] at hh1
 have ok:=zDF ok0 c.hours.length (Nat.le_refl _)
 have iv0:zHH c.beds.length c.hours.length (zAo c) 0 0 (zAo c):=by
  have hz:∀ k,(zAo c).out.getD k []=[]:=fun k=>by
   show (List.replicate c.hours.length []).getD k []=[]
   rw [List.getD_eq_getElem?_getD,List.getElem?_replicate]
   split<;>rfl
  refine ⟨(zFD ok0).1 hc,fun j k _ hk=>by omega,fun j _=>?_,fun k _=>by rw [hz];simp,fun k=>by rw [hz];simp⟩
  have:zBe (zAo c).out j c.hours.length=0:=Flow.zAa fun k _=>by rw [hz];rfl
  rw [this,Int.add_zero]
 have iv:=zFa iv0 ok0 c.hours.length (Nat.le_refl _)
 rw [zD9 h0 hc]
 dsimp only
 generalize zB0 c.beds.length c.hours.length (zAo c)=s at *
 refine ⟨?_,fun k=>⟨(iv.rows k).1,fun x hx=>let ⟨j,e,hj,_⟩:=(iv.rows k).2 x hx;⟨j,e,hj⟩⟩,?_⟩
 ·refine zAc.2 ⟨by simp [zm,ok.ol],fun k u r hu hr=>?_⟩
  have hk:=(List.getElem?_eq_some_iff.1 hu).1
  have e:r.xs=s.out.getD k []:=by
   unfold zm at hr
   rw [List.getElem?_map] at hr
   rw [List.getD_eq_getElem?_getD]
   cases ho:s.out[k]? with
   | none=>rw [ho] at hr;cases hr
   | some x=>rw [ho] at hr;cases hr;rfl
  obtain ⟨h1,h2⟩:=iv.rows k
  have hw:=iv.work k hk
  have hp:=zQg ok k
  have hS:hdF (zAo c) k=zFf u:=by
   show (zAp c).getD k 0=_
   unfold zAp;rw [getD_map hu]
  have hcr:=hf.hour u (List.mem_of_getElem? hu)
  simp only [zBX,Bool.and_eq_true,zAA] at hcr
  unfold zDR
  rw [e]
  simp only [Bool.and_eq_true,Bool.or_eq_true,decide_eq_true_eq,List.all_eq_true,zAA]
  unfold zFf at hS
  refine ⟨⟨⟨?_,?_⟩,fun x hx=>?_⟩,zCq.2 fun q hq=>?_⟩
  ·split at hS<;>omega
  ·split at hS<;>rename_i hcold
   ·exact .inr hcold
   ·exact .inl (by omega)
  ·obtain ⟨j,e2,h3,_⟩:=h2 x hx
   omega
  ·rw [Flow.zt (by omega),Flow.zt hq]
   exact List.pairwise_iff_getElem.1 h1 q (q+1) (by omega) hq (by omega)
 ·intro i hi
  have hcnt:=iv.cnt i hi
  have hS:ndF (zAo c) i (c.hours.length - 1)=(needG c (c.beds.getD i default) c.hours.length).2:=by
   show ((zA2 c).getD i []).getD (c.hours.length - 1) 0=_
   rw [zFV hi _ (by omega),Nat.sub_add_cancel (by omega)]
  have hc9:=iv.can fun _=>false
  unfold zDd at hc9
  rw [Flow.zAa (l:=List.range c.hours.length) (fun _ _=>by simp)] at hc9
  have h1:=Flow.zD7 (l:=List.range c.beds.length) (f:=fun i=>(lackF (ndF s i) (myF s i) (fun _=>false) c.hours.length).1) (a:=i) (fun j _=>Flow.zBS _) (List.mem_range.2 hi)
  have h2:=Flow.zBz (nd:=ndF s i) (my:=myF s i) (sm:=fun _=>false) c.hours.length (c.hours.length - 1) (by omega)
  have h3:zBq (myF s i) (fun _=>false) (c.hours.length - 1)=0:=Flow.zAa fun k hk=>by
   rw [iv.past i k hi (.inl (by have:=List.mem_range.1 hk;omega))];rfl
  have h4:0≤ndF s i (c.hours.length - 1):=by
   have:=ok.nr (s.nds.getD i []) (by rw [Flow.zt (by rw [ok.nl];exact hi)];exact List.getElem_mem _)
   unfold ndF
   rw [Flow.zt (by rw [this.len];omega)]
   exact (this.big _ (List.getElem_mem _)).1
  omega
theorem zHv {xss:List (List Int)} {k:Nat}:((zm xss).getD k default).xs=xss.getD k []:=by
 unfold zm
 rw [List.getD_eq_getElem?_getD,List.getElem?_map,List.getD_eq_getElem?_getD]
 cases xss[k]?<;>rfl
theorem zJ2 {c:Cov} {xss:List (List Int)} {z:Bed} {i:Nat} (hf:zBl c):∀ k,(∀ j,j<k→zA6 c (zm xss) zAZ z i j=false)→(thickN c (zm xss) z i k).lo=(needG c z k).1+zBe xss i k * c.layer.lo
 | 0,_=>by simp [thickN,needG,zBe,sumL]
 | k+1,h=>by
  have ih:=zJ2 (xss:=xss) (z:=z) (i:=i) hf k (fun j hj=>h j (by omega))
  have ht:=of_decide_eq_false (h k (by omega))
  unfold zAZ at ht
  have ha:=(zLC (u:=c.hours.getD k default) hf).1
  have e:(needG c z (k+1)).1=(needG c z k).1 - (zBF c z (c.hours.getD k default)).hi:=rfl
  simp only [thickN,layered,thinned,zHv]
  rw [e,zMZ]
  split
  ·simp only [Int.add_mul,Int.one_mul];omega
  ·simp only [Int.add_zero];omega
theorem lack_iff {x L n:Int} (hL:1≤L) (hn:0≤n):(if 0<x then (x+L - 1) / L else 0)≤n↔x≤n * L:=by
 split
 ·rw [Int.ediv_le_iff_le_mul (by omega)]
  omega
 ·have:=Int.mul_nonneg hn (show 0≤L by omega)
  omega
theorem zKD {c:Cov} {xss:List (List Int)} {z:Bed} {i:Nat} (hf:zBl c):∀ k,(∀ j,j<k→zA6 c (zm xss) zAZ z i j=false)↔∀ j,j<k→(needG c z (j+1)).2≤zBe xss i j
 | 0=>by simp
 | k+1=>by
  have ih:=zKD (xss:=xss) (z:=z) (i:=i) hf k
  have hL:=hf.layer
  simp only [zAF] at hL
  have hcp:∀ k,0≤zBe xss i k:=fun k=>Flow.zBE fun _ _=>by split<;>omega
  have key:(∀ j,j<k→zA6 c (zm xss) zAZ z i j=false)→(∀ j,j<k→(needG c z (j+1)).2≤zBe xss i j)→(zA6 c (zm xss) zAZ z i k=false↔(needG c z (k+1)).2≤zBe xss i k):=fun h1 h2=>by
   have ht:=zJ2 hf k h1
   have hi:=lack_iff (x:=zCl c (c.hours.getD k default) - ((needG c z k).1 - (zBF c z (c.hours.getD k default)).hi)) (L:=c.layer.lo) (n:=zBe xss i k) (by omega) (hcp k)
   have hk:(needG c z k).2≤zBe xss i k:=by
    cases k with
    | zero=>exact hcp 0
    | succ m=>exact Int.le_trans (h2 m (by omega)) (zFp 1)
   unfold zA6 zAZ
   rw [decide_eq_false_iff_not,ht]
   simp only [needG]
   have h9:=hcp k
   split at hi
   ·rw [if_pos (by assumption)];omega
   ·rw [if_neg (by assumption)];omega
  constructor
  ·intro h j hj
   have h1:=fun j hj=>h j (Nat.lt_succ_of_lt hj)
   have h2:=ih.1 h1
   by_cases e:j=k
   ·subst e;exact (key h1 h2).1 (h j hj)
   ·exact h2 j (by omega)
  ·intro h j hj
   have h2:=fun j hj=>h j (Nat.lt_succ_of_lt hj)
   have h1:=ih.2 h2
   by_cases e:j=k
   ·subst e;exact (key h1 h2).2 (h j hj)
   ·exact h1 j (by omega)
theorem zHx {c:Cov} {xss:List (List Int)} (hf:zBl c):(zAg c (zm xss) zAZ).length=0↔∀ i,i<c.beds.length→∀ j,j<c.hours.length→(needG c (c.beds.getD i default) (j+1)).2≤zBe xss i j:=by
 rw [List.length_eq_zero_iff]
 have e1:zAg c (zm xss) zAZ=[]↔∀ i,i<c.beds.length→∀ j,j<c.hours.length→zA6 c (zm xss) zAZ (c.beds.getD i default) i j=false:=by
  unfold zAg
  rw [List.flatMap_eq_nil_iff]
  constructor
  ·intro h i hi j hj
   have:=h j (List.mem_range.2 hj)
   rw [List.map_eq_nil_iff,List.filter_eq_nil_iff] at this
   simpa using this i (List.mem_range.2 hi)
  ·intro h j hj
   rw [List.map_eq_nil_iff,List.filter_eq_nil_iff]
   intro i hi
   rw [h i (List.mem_range.1 hi) j (List.mem_range.1 hj)];simp
 rw [e1]
 exact ⟨fun h i hi=>(zKD hf _).1 (h i hi),fun h i hi=>(zKD hf _).2 (h i hi)⟩
end Go.Proofs.YtdigopgncfhiaaaGreatDoor
