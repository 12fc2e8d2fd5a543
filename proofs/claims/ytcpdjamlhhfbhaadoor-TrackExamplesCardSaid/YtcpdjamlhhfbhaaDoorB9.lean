/- B9 -/
import Derived.Test.YtcpdjamlhhfbhaaDoorB8
import Derived.Test.YtcpdjamlhhfbhaaDoorB1
import Derived.Test.YtcpdjamlhhfbhaaDoorB7
import Derived.Test.YtcpdjamlhhfbhaaDoorB2
import Derived.Test.YtcpdjamlhhfbhaaDoorB6
set_option linter.unusedSimpArgs false
set_option linter.unusedVariables false
namespace Go.Proofs.YtcpdjamlhhfbhaaDoor
def zC0 (n i k:Nat) (M:Mat):Prop:=∀ a b,a<n→b<n→M a b=if (a<i∨(a=i∧b<k))∧a≠b then far else 0
theorem zEb (n:Nat):zC0 n 0 0 (fun _ _=>0):=fun a b ha hb=>by rw [if_neg (by omega)]
theorem zFq {n i k:Nat} {M:Mat} (h:zC0 n i k M) (hne:i≠k):zC0 n i (k+1) (zAv M i k far):=fun a b ha hb=>by
 unfold zAv
 by_cases h1:a=i∧b=k
 ·obtain ⟨rfl,rfl⟩:=h1
  rw [if_pos ⟨rfl,rfl⟩,if_pos (by omega)]
 ·rw [if_neg h1,h a b ha hb]
  by_cases h2:(a<i∨(a=i∧b<k))∧a≠b
  ·rw [if_pos h2,if_pos (by omega)]
  ·rw [if_neg h2,if_neg (by omega)]
theorem zFK {n i:Nat} {M:Mat} (h:zC0 n i i M):zC0 n i (i+1) M:=fun a b ha hb=>by
 rw [h a b ha hb]
 by_cases h2:(a<i∨(a=i∧b<i))∧a≠b
 ·rw [if_pos h2,if_pos (by omega)]
 ·rw [if_neg h2,if_neg (by omega)]
theorem zFr {n i:Nat} {M:Mat} (h:zC0 n i n M):zC0 n (i+1) 0 M:=fun a b ha hb=>by
 rw [h a b ha hb]
 by_cases h2:(a<i∨(a=i∧b<n))∧a≠b
 ·rw [if_pos h2,if_pos (by omega)]
 ·rw [if_neg h2,if_neg (by omega)]
def SpTo (n:Nat) (s:List Sp) (i:Nat) (M:Mat):Prop:=∀ a b,a<n→b<n→M a b=if a=b then 0 else if b=a+1∧a<i then (zCF s a).hi else if a=b+1∧b<i then -(zCF s b).lo else far
theorem zEw {n:Nat} {s:List Sp} {M:Mat} (h:zC0 n n 0 M):SpTo n s 0 M:=fun a b ha hb=>by
 rw [h a b ha hb]
 by_cases e:a=b
 ·rw [if_neg (by omega),if_pos e]
 ·rw [if_pos (by omega),if_neg e,if_neg (by omega),if_neg (by omega)]
theorem zGP {n i:Nat} {s:List Sp} {M:Mat} (h:SpTo n s i M) {x y:Int} (hx:x=(zCF s i).hi) (hy:y = -(zCF s i).lo):SpTo n s (i+1) (zAv (zAv M i (i+1) x) (i+1) i y):=fun a b ha hb=>by
 unfold zAv
 by_cases h1:a=i+1∧b=i
 ·obtain ⟨rfl,rfl⟩:=h1
  rw [if_pos ⟨rfl,rfl⟩,if_neg (by omega),if_neg (by omega),if_pos (by omega),hy]
 rw [if_neg h1]
 by_cases h2:a=i∧b=i+1
 ·obtain ⟨rfl,rfl⟩:=h2
  rw [if_pos ⟨rfl,rfl⟩,if_neg (by omega),if_pos (by omega),hx]
 rw [if_neg h2,h a b ha hb]
 by_cases e:a=b
 ·rw [if_pos e,if_pos e]
 rw [if_neg e,if_neg e]
 by_cases e1:b=a+1∧a<i
 ·rw [if_pos e1,if_pos (by omega)]
 rw [if_neg e1,if_neg (show ¬ (b=a+1∧a<i+1) by omega)]
 by_cases e2:a=b+1∧b<i
 ·rw [if_pos e2,if_pos (show a=b+1∧b<i+1 by omega)]
 rw [if_neg e2,if_neg (show ¬ (a=b+1∧b<i+1) by omega)]
theorem zGQ {n i:Nat} {s:List Sp} {M:Mat} (h:SpTo n s i M) (hi:i+1=n):zCE n M (T0 s):=fun a b ha hb=>by
 rw [h a b ha hb]
 unfold T0
 by_cases e:a=b
 ·rw [if_pos e,if_pos e]
 rw [if_neg e,if_neg e]
 by_cases e1:b=a+1
 ·rw [if_pos e1,if_pos ⟨e1,by omega⟩]
 rw [if_neg e1,if_neg (by omega)]
 by_cases e2:a=b+1
 ·rw [if_pos e2,if_pos ⟨e2,by omega⟩]
 rw [if_neg e2,if_neg (by omega)]
theorem zGT {n:Nat} {M N:Mat} (h:zCE n M N) {i k:Nat} {v u:Int} (hv:v=u):zCE n (zAv M i k v) (zAv N i k u):=fun a b ha hb=>by
 unfold zAv;rw [hv,h a b ha hb]
theorem zFc {n:Nat} {kind:Int} {M N:Mat} {m:Me} (hm:zCh n m) (h:zCE n M N):zCE n (zBD kind M m) (zBD kind N m):=by
 obtain ⟨-,-,h1,h2,h3,-⟩:=hm
 have hf:m.frm.toNat<n:=by omega
 have ht:m.to.toNat<n:=by omega
 unfold zBD
 split
 ·have e:=zGT h (i:=m.frm.toNat) (k:=m.to.toNat) (v:=min (M m.frm.toNat m.to.toNat) m.value.hi) (u:=min (N m.frm.toNat m.to.toNat) m.value.hi) (by rw [h _ _ hf ht])
  exact zGT e (by rw [e _ _ ht hf])
 ·exact h
theorem zFi (kind:Int) (M:Mat) (ms:List Me) (m:Me):meas kind M (ms++[m])=zBD kind (meas kind M ms) m:=by simp [meas]
theorem zDr {n:Nat} {M N:Mat} (h:zCE n M N):∀ x,x≤n→zCE n (zp M x) (zp N x)
 | 0,_=>h
 | x+1,hx=>fun a b ha hb=>by
  have ih:=zDr h x (by omega)
  simp only [zp,zDl]
  rw [ih a b ha hb,ih a x ha (by omega),ih x b (by omega) hb]
theorem zDt {n:Nat} {M N:Mat} (h:zCE n M N) {x:Nat} (hx:x≤n) (hf:fine n M x):fine n N x:=fun y hy i hi=>by
 rw [← zDr h y (by omega) i i hi hi];exact hf y hy i hi
theorem zCE.symm {n:Nat} {M N:Mat} (h:zCE n M N):zCE n N M:=fun a b ha hb=>(h a b ha hb).symm
def BdM (n:Nat) (M:Mat):Prop:=∀ i k,i<n→k<n→-1073741824≤M i k∧M i k≤1073741824
theorem T0_bd {s:List Sp} (hs:zC8 s) (n:Nat):BdM n (T0 s):=fun i k _ _=>by
 unfold T0 far
 have h1:=hs i
 have h2:=hs k
 split
 ·omega
 ·split
  ·omega
  ·split<;>omega
theorem putMe_bd {n:Nat} {kind:Int} {M:Mat} {m:Me} (hm:zCh n m) (h:BdM n M):BdM n (zBD kind M m):=fun i k hi hk=>by
 obtain ⟨-,-,h1,h2,h3,h4,h5,h6⟩:=hm
 have b1:=h m.frm.toNat m.to.toNat (by omega) (by omega)
 have b2:=h m.to.toNat m.frm.toNat (by omega) (by omega)
 have b3:=h i k hi hk
 unfold zBD
 split
 ·simp only [zAv]
  split
  ·split<;>omega
  ·split<;>omega
 ·exact b3
theorem zF6 {n:Nat} {kind:Int}:∀ (ms:List Me) (M:Mat),(∀ m∈ms,zCh n m)→BdM n M→BdM n (meas kind M ms)
 | [],_,_,h=>h
 | m::r,M,hm,h=>zF6 r (zBD kind M m) (fun x hx=>hm x (by simp [hx])) (putMe_bd (hm m (by simp)) h)
def zBF (f:Nat→St→St) (t:List St) (i:Nat):List St:=t.mapIdx fun j s=>if j<i then f j s else s
theorem zAe {f:Nat→St→St} {t:List St} {i j:Nat}:(zBF f t i)[j]?=t[j]?.map fun s=>if j<i then f j s else s:=by simp [zBF]
theorem zDE {f:Nat→St→St} {t:List St} {i:Nat}:(zBF f t i).length=t.length:=by simp [zBF]
theorem zEr {f:Nat→St→St} {t:List St}:zBF f t 0=t:=by
 apply List.ext_getElem?;intro j;rw [zAe];simp
theorem zFZ {f:Nat→St→St} {t:List St} {i:Nat} {z z':St} (h:t[i]?=some z) (hz:z'=f i z):(zBF f t i).set i z'=zBF f t (i+1):=by
 apply List.ext_getElem?;intro j
 rw [List.getElem?_set,zAe,zAe,zDE]
 have hlt:=(List.getElem?_eq_some_iff.1 h).1
 by_cases e:i=j
 ·subst e
  rw [if_pos rfl,if_pos hlt,h]
  simp [hz]
 ·rw [if_neg e]
  congr 1
  funext s
  by_cases h1:j<i
  ·rw [if_pos h1,if_pos (by omega)]
  ·rw [if_neg h1,if_neg (by omega)]
def zEW (D:Mat) (j:Nat):Sp:=⟨-(D (j+1) j),D j (j+1)⟩
def zA8 (D:Mat) (j:Nat) (s:St):St:={ s with long:=zEW D j }
def zBI (D:Mat) (j:Nat) (s:St):St:={ s with fall:=zEW D j }
theorem zDF {F:Mat→Nat→St→St} {n:Nat} {t:List St} {D E:Mat} (hF:∀ j s,j+1<n→F D j s=F E j s) (hn:t.length+1=n) (i:Nat):zBF (F D) t i=zBF (F E) t i:=by
 apply List.ext_getElem?;intro j
 rw [zAe,zAe]
 cases h:t[j]? with
 | none=>rfl
 | some s =>
  have hlt:=(List.getElem?_eq_some_iff.1 h).1
  simp only [Option.map_some]
  rw [hF j s (by omega)]
theorem zDI {n:Nat} {D E:Mat} (h:zCE n D E) {j:Nat} (hj:j+1<n):zEW D j=zEW E j:=by
 unfold zEW;rw [h _ _ hj (by omega),h _ _ (by omega) hj]
def dist (kind:Int) (s:List Sp) (ms:List Me) (n:Nat):Mat:=zp (meas kind (T0 s) ms) n
def zBP (kind:Int) (s:List Sp) (ms:List Me) (n:Nat):Prop:=fine n (meas kind (T0 s) ms) n
theorem zCg {n:Nat} {s:List Sp} {ms ms':List Me} (hm:∀ m∈ms,zCh n m) (hp:∀ m,m∈ms'↔m∈ms) (kind:Int) :
  (zBP kind s ms' n↔zBP kind s ms n)∧(zBP kind s ms' n→zCE n (dist kind s ms' n) (dist kind s ms n)):=by
 have hm':∀ m∈ms',zCh n m:=fun m h=>hm m ((hp m).1 h)
 refine zHZ (zBg ms' _ hm' (zD2 n s)) (zBg ms _ hm (zD2 n s)) (fun E hE hd h=>?_) (fun E hE hd h=>?_)
 ·obtain ⟨h1,h2⟩:=(zBy ms' _ hm').1 h
  exact (zBy ms _ hm).2 ⟨h1,fun m hx=>h2 m ((hp m).2 hx)⟩
 ·obtain ⟨h1,h2⟩:=(zBy ms _ hm).1 h
  exact (zBy ms' _ hm').2 ⟨h1,fun m hx=>h2 m ((hp m).1 hx)⟩
def stage1 (t:List St) (ms:List Me):List St:=zBF (zA8 (dist 1 (longs t) ms (t.length+1))) t t.length
def stage2 (t:List St) (ms:List Me):List St:=zBF (zBI (dist 2 (falls (stage1 t ms)) ms (t.length+1))) (stage1 t ms) t.length
def fine1 (t:List St) (ms:List Me):Prop:=zBP 1 (longs t) ms (t.length+1)
def fine2 (t:List St) (ms:List Me):Prop:=zBP 2 (falls (stage1 t ms)) ms (t.length+1)
open Classical in
noncomputable def zAr (t:List St) (ms:List Me):Bool:=decide (fine1 t ms∧fine2 t ms)
noncomputable def zA3 (t:List St) (ms:List Me):List St:=if zAr t ms then stage2 t ms else []
theorem zDZ {t:List St} {ms:List Me}:(stage1 t ms).length=t.length:=zDE
theorem zG1 {t:List St} {ms:List Me}:(stage2 t ms).length=t.length:=by unfold stage2;rw [zDE,zDZ]
theorem zDM {t:List St} {ms:List Me} (h1:fine1 t ms) (h2:fine2 t ms):zAr t ms=true:=by simp [zAr,h1,h2]
theorem zH0 {t:List St} {ms:List Me} (h1:¬ fine1 t ms):zAr t ms=false:=by simp [zAr,h1]
theorem zFk {t:List St} {ms:List Me} (h1:¬ fine2 t ms):zAr t ms=false:=by simp [zAr,h1]
def gotten (ms:List Me) (seen:List Nat):List Me:=seen.filterMap (ms[·]?)
theorem zEa {ms:List Me} {seen:List Nat} {i:Nat} {m:Me} (h:ms[i]?=some m):gotten ms (seen++[i])=gotten ms seen++[m]:=by simp [gotten,h]
theorem zFH {ms:List Me} {seen:List Nat} (h:∀ i,i<ms.length→i∈seen) (m:Me):m∈gotten ms seen↔m∈ms:=by
 simp only [gotten,List.mem_filterMap]
 constructor
 ·rintro ⟨i,_,hi⟩;exact List.mem_of_getElem? hi
 ·intro hm
  obtain ⟨i,hi,rfl⟩:=List.getElem_of_mem hm
  exact ⟨i,h i hi,by simp [hi]⟩
theorem zDN {ms:List Me} {seen:List Nat} {n:Nat} (h:∀ m∈ms,zCh n m):∀ m∈gotten ms seen,zCh n m:=fun m hm=>by
 simp only [gotten,List.mem_filterMap] at hm
 obtain ⟨i,_,hi⟩:=hm
 exact h m (List.mem_of_getElem? hi)
theorem zDH : ∀ (n:Nat) (l:List Nat),l.Nodup→(∀ x∈l,x<n)→l.length≤n
 | 0,l,_,h=>by
  cases l with
  | nil=>simp
  | cons x r=>have:=h x (by simp);omega
 | n+1,l,hn,h=>by
  have h1:=zDH n (l.erase n) (hn.erase n) (fun x hx=>by
   have h2:=(hn.mem_erase_iff).1 hx
   have:=h x h2.2
   have:=h2.1
   omega)
  have h3:=List.length_erase (a:=n) (l:=l)
  split at h3<;>omega
theorem zE7 {l:List Nat} {i:Nat} (h:l.Nodup) (hi:i ∉ l):(l++[i]).Nodup:=by
 rw [List.nodup_append]
 exact ⟨h,by simp,fun a ha b hb=>by simp at hb;subst hb;rintro rfl;exact hi ha⟩
end Go.Proofs.YtcpdjamlhhfbhaaDoor
namespace Go.Proofs.YtcpdjamlhhfbhaaDoor
open Go.RowKit
set_option maxRecDepth 20000
def stg (t:List St) (ms:List Me):Nat→List St
 | 1=>t
 | 2=>stage1 t ms
 | _=>stage2 t ms
def zBO : Code→Option Code
 | .loop c=>some c
 | .seq a b=>match zBO a with|some c=>some c|none=>zBO b
 | .block _ c=>zBO c
 | .scope c=>zBO c
 | _=>none
abbrev zFC (m b4 b6 b8 n K:Nat):List (Nat × Value):=[(1,.map (some m)),(4,.pointer (some ⟨b4,0,none⟩)),(6,.pointer (some ⟨b6,0,none⟩)),(7,.int .i64 ((n+1:Nat):Int)),(8,.pointer (some ⟨b8,0,none⟩)),(9,.int .i64 (K:Int))]
abbrev zFD (b4 b6 b8 g n c':Nat) (xs:List St):List Ent:=[.blk b4 [.slice none 0 0],.blk b6 [.slice (some ⟨g,0,none⟩) n c'],.blk b8 [.nilFunc,.func (.func 62) #[] #[],.func (.func 63) #[] #[]],.arr zO 9 g xs]
end Go.Proofs.YtcpdjamlhhfbhaaDoor
namespace Go.Proofs.YtcpdjamlhhfbhaaDoor
open Go.RowKit
theorem zDv {α:Type} (l:List α) (i j:Nat) (hi:i≤j) (hj:j<l.length):l.extract i (j+1)=l.extract i j++[l[j]]:=by
 simp only [List.extract_eq_take_drop]
 rw [show j+1 - i=(j - i)+1 by omega,List.take_succ_eq_append_getElem (by simp;omega)]
 simp [show i+(j - i)=j by omega]
theorem zEt (l:List Sp) (x:Sp):zEu (l++[x])=zAT (zEu l) x:=by simp [zEu]
theorem zCT {t:List St} {i j:Nat} (hi:i≤j) (hj:j<t.length):zE t i (j+1)=zAT (zE t i j) t[j].long:=by
 unfold zE
 rw [zDv _ _ _ hi (by simpa [longs] using hj),zEt];simp [longs]
theorem zCW {t:List St} {i j:Nat} (hi:i≤j) (hj:j<t.length):zU t i (j+1)=zAT (zU t i j) t[j].fall:=by
 unfold zU
 rw [zDv _ _ _ hi (by simpa [falls] using hj),zEt];simp [falls]
theorem zBc (t:List St) (i:Nat):zE t i i=⟨0,0⟩:=by simp [zE,zEu,List.extract_eq_take_drop]
theorem zBf (t:List St) (i:Nat):zU t i i=⟨0,0⟩:=by simp [zU,zEu,List.extract_eq_take_drop]
theorem zCq {t : List St} (h : ∀ s ∈ t, zDB s) : ∀ {i j : Nat}, i ≤ j → j ≤ t.length →
    0≤(zE t i j).lo∧(zE t i j).lo≤(zE t i j).hi∧(zE t i j).hi≤30000 * (j - i:Int) ∧
    0≤(zU t i j).lo∧(zU t i j).lo≤(zU t i j).hi∧(zU t i j).hi≤5000 * (j - i:Int):=by
  intro i j hij
  induction j with
  | zero => intro _; obtain rfl : i = 0 := by omega
            simp [zBc,zBf]
  | succ j ih =>
    intro hj
    by_cases hji:i=j+1
    · subst hji;simp [zBc,zBf]
    · have:=ih (by omega) (by omega)
      have ho:=h t[j] (List.getElem_mem (by omega))
      rw [zCT (by omega) (by omega),zCW (by omega) (by omega)]
      have:=ho.l0;have:=ho.l1;have:=ho.l2;have:=ho.f0;have:=ho.f1;have:=ho.f2
      simp only [zAT]
      omega
end Go.Proofs.YtcpdjamlhhfbhaaDoor
namespace Go.Proofs.YtcpdjamlhhfbhaaDoor
open Go.RowKit
set_option maxHeartbeats 2000000 in
theorem zC5 (a:Sp) (more:List Sp) (A:Option Addr) (c:Nat) (w:World) (hm:zS zBH 2 w A more) (ha:near 1000000000000 a) (hn:∀ x∈more,near 1000000000 x) (hl:more.length≤100) :
  zw 35 #[vSp a,.slice A more.length c] w (vSp (more.foldl zAT a)):=by
 unfold zw vSp
 have HM:=Lib.hid hm
 clear hm
 obtain ⟨ha1,ha2,ha3,ha4⟩:=ha
 go_enter Tryd.func35,Tryd.ntmps35
 go_wp2
 go_loopw [9] (fun v wr=>∃ (i:Nat) (s:Sp),i≤more.length∧v = .int .i64 i∧near (1000000000000+1000000000 * i) s∧Blk wr w.heap.size #[.int .i64 s.lo,.int .i64 s.hi]∧Blk wr (w.heap.size+1) #[.int .i64 0,.int .i64 0]∧Below w.heap.size w wr∧Hid (more.foldl zAT a=(more.drop i).foldl zAT s)) (fun v _=>more.length - (intOf v).toNat)
 case atStart=>exact ⟨0,a,Nat.zero_le _,rfl,⟨by omega,by omega,by omega,by omega⟩,(Blk.new _ _ _).alloc _,Blk.new' (by simp),zd (zl _ _) _,by unfold Hid;simp⟩
 case round =>
  obtain ⟨i,s,hi,rfl,⟨n1,n2,n3,n4⟩,hk,hk4,hB,hF⟩:=hrel
  obtain ⟨kc,kf,kl⟩:=hk.facts
  obtain ⟨qc,qf,ql⟩:=hk4.facts
  by_cases hlt:i<more.length
  ·obtain ⟨b,o,rfl,hblt,hc⟩:=(HM.out.below hB).at_ hlt
   have hF':more.foldl zAT a=(more.drop (i+1)).foldl zAT (zAT s more[i]):=by
    rw [hF.out,List.drop_eq_getElem_cons hlt];rfl
   have HF:=Lib.hid hF'
   clear hF' hF
   obtain ⟨x1,x2,x3,x4⟩:=hn more[i] (List.getElem_mem hlt)
   generalize more[i]=x at hc HF x1 x2 x3 x4
   have c0:=hc 0 _ rfl
   have c1:=hc 1 _ rfl
   simp only [Nat.add_zero] at c0
   clear hc
   have hi0:(0:Int)≤i:=by omega
   have hi1:(i:Int)<more.length:=by omega
   go_wp2
   go_roundw
   case rel =>
    refine ⟨i+1,zAT s x,by omega,by go_num,⟨by simp [zAT];omega,by simp [zAT];omega,by simp [zAT];omega,by simp [zAT];omega⟩,?_,?_,?_,HF.out⟩
    ·exact Blk.cast (((hk.zy 0 _).zy 1 _).alloc _) (by simp [zAT])
    ·exact ((hk4.far (p:=⟨_,_,_⟩) (by simp) _).far (p:=⟨_,_,_⟩) (by simp) _).alloc _
    ·exact zd ((hB.setCell (p:=⟨_,_,_⟩) (by simp) _).setCell (p:=⟨_,_,_⟩) (by simp) _) _
   case measure=>simp [intOf];omega
  ·go_wp2
   refine bodyPost_ret (zHA (x:=.int .i64 s.lo) (y:=.int .i64 s.hi) rfl rfl (Blk.cast ((hk4.zy 0 _).zy 1 _) (by simp))) rfl ⟨zAo ?_,?_⟩
   ·rw [hF.out,List.drop_eq_nil_of_le (by omega)];rfl
   ·exact (hB.setCell (p:=⟨_,_,_⟩) (by simp) _).setCell (p:=⟨_,_,_⟩) (by simp) _
end Go.Proofs.YtcpdjamlhhfbhaaDoor
namespace Go.Proofs.YtcpdjamlhhfbhaaDoor
open Go.RowKit
set_option maxRecDepth 20000
attribute [local go_sem] Oper.semAt_some
theorem Blk.on {lo hi g:Nat} {W W':World} {cs:Array Value} (h:Blk W g cs) (ho:On lo hi W W') (h1:lo≤g) (h2:g<hi):Blk W' g cs:=by
 unfold Blk at h ⊢
 obtain ⟨t,h⟩:=h
 exact ⟨t,(ho.block g h1 h2).trans h⟩
theorem zGR {w:World} {g:Nat} {x:Sp} (h:Blk w g #[.int .i64 x.lo,.int .i64 x.hi]):zS zBH 2 w (some ⟨g,0,none⟩) [x]:=by
 intro i y hy
 match i,hy with
 | 0,hy =>
  simp at hy;subst hy
  refine ⟨g,0,rfl,h.lt,fun j v hv=>?_⟩
  rw [h.cell]
  simpa [zBH] using hv
 | i+1,hy=>simp at hy
set_option maxHeartbeats 4000000 in
theorem zEZ (t:List St) (A:Option Addr) (cap frm fb vb:Nat) (ho:∀ s∈t,zDB s) (hfrm:frm≤t.length) (hl:t.length≤100) :
  Iter Tryd.prog 57 #[.pointer (some ⟨fb,0,none⟩),.pointer (some ⟨vb,0,none⟩)] 2 (t.length+1 - frm) (fun k=>#[vSp (zE t frm (frm+k)),vSp (zU t frm (frm+k))])
   (fun W=>Blk W fb #[.int .i64 frm]∧Blk W vb #[.slice A t.length cap]∧zS zO 9 W A t):=by
 intro l J Jx W hJ hJx hD hY h0
 obtain ⟨d1,d2,d3⟩:=hD 0 W h0
 obtain ⟨c1,f1,l1⟩:=d1.facts
 obtain ⟨c2,f2,l2⟩:=d2.facts
 have HS:=Lib.hid d3
 clear d3
 refine callsIn_of_wp Tryd.func57 rfl trivial ?_ rfl
 simp only [Tryd.ntmps57,List.size_toArray,List.length_cons,List.length_nil,Nat.reduceAdd,Nat.reduceSub,Array.replicate_succ,Array.replicate_zero,List.push_toArray,List.append_toArray,List.nil_append,List.cons_append]
 gi_wp2
 gi_loopw [6] (fun v wr=>∃ k:Nat,frm+k≤t.length∧v = .int .i64 (frm+k:Nat)∧J k wr∧Blk wr W.heap.size #[.int .i64 (zE t frm (frm+k)).lo,.int .i64 (zE t frm (frm+k)).hi]∧Blk wr (W.heap.size+1) #[.int .i64 (zU t frm (frm+k)).lo,.int .i64 (zU t frm (frm+k)).hi]∧W.heap.size+2≤wr.heap.size) (fun v _=>t.length - (intOf v).toNat)
 case atStart =>
  refine ⟨0,by omega,rfl,hJ _ _ _ h0 ((zCS _ _ _ _).trans (zCS _ _ _ _)),?_,?_,by simp⟩
  ·simp only [Nat.add_zero,zBc];(refine zAK ?_;repeat (first|(with_reducible refine zB.zAJ (by first|(simp;done)|(simp;omega)|omega) ?_;(first|rfl|(simp;done)))|(with_reducible refine zB.alloc ?_ _)|(with_reducible refine zB.far ?_ _ (by first|(simp;done)|(simp;omega)|omega))|(with_reducible refine zB.zy ?_ (by first|(simp;done)|(simp;omega)|omega))|(with_reducible refine zB.drew ?_)|(with_reducible refine zB.drewN ?_ _)|(refine zB.leaf (by assumption) ?_;(first|rfl|(simp;done)))))
  ·simp only [Nat.add_zero,zBf];(refine zAK ?_;repeat (first|(with_reducible refine zB.zAJ (by first|(simp;done)|(simp;omega)|omega) ?_;(first|rfl|(simp;done)))|(with_reducible refine zB.alloc ?_ _)|(with_reducible refine zB.far ?_ _ (by first|(simp;done)|(simp;omega)|omega))|(with_reducible refine zB.zy ?_ (by first|(simp;done)|(simp;omega)|omega))|(with_reducible refine zB.drew ?_)|(with_reducible refine zB.drewN ?_ _)|(refine zB.leaf (by assumption) ?_;(first|rfl|(simp;done)))))
 case round =>
  obtain ⟨k,hk,rfl,hJk,k4,k5,hsz⟩:=hrel
  obtain ⟨x1,x2,x3⟩:=hD k wr hJk
  obtain ⟨p1,q1,m1⟩:=x1.facts
  obtain ⟨p2,q2,m2⟩:=x2.facts
  obtain ⟨p4,q4,m4⟩:=k4.facts
  obtain ⟨p5,q5,m5⟩:=k5.facts
  have hy:=hY k wr (by omega) hJk hsz
  unfold YieldAt vSp at hy
  obtain ⟨fn,tmps,assign,body,hy,hR⟩:=hy
  gi_wp2
  refine hR.mono ?_
  rintro e W3 (⟨rfl,hJ3,hon⟩ | ⟨rfl,hJx3,hon⟩)
  ·obtain ⟨x1,x2,x3⟩:=hD (k+1) W3 hJ3
   have y4:=k4.on hon (by omega) (by omega)
   have y5:=k5.on hon (by omega) (by omega)
   obtain ⟨r1,s1,n1⟩:=x1.facts
   obtain ⟨r2,s2,n2⟩:=x2.facts
   have hsz3:=hon.size
   have ht0:(0:Int)≤t.length:=by omega
   by_cases hlt:frm+k<t.length
   ·have hi0:(0:Int)≤(frm+k:Nat):=by omega
    have hi1:((frm+k:Nat):Int)<t.length:=by omega
    obtain ⟨b,o,rfl,hblt,hc⟩:=x3.at_ hlt
    have hbW:b<W.heap.size:=by
     obtain ⟨b',o',hb',hlt',_⟩:=HS.out.at_ hlt
     cases hb';exact hlt'
    have bd:=zCq ho (show frm≤frm+k by omega) (show frm+k≤t.length by omega)
    have HL:=Lib.hid (zCT (show frm≤frm+k by omega) hlt)
    have HF:=Lib.hid (zCW (show frm≤frm+k by omega) hlt)
    have hok:=ho t[frm+k] (List.getElem_mem hlt)
    rw [show frm+k+1=frm+(k+1) by omega] at HL HF
    generalize t[frm+k]=s at hc HL HF hok
    generalize zE t frm (frm+k)=p at *
    generalize zU t frm (frm+k)=q at *
    have e1:=hc 1 _ rfl
    have e2:=hc 2 _ rfl
    have e3:=hc 3 _ rfl
    have e4:=hc 4 _ rfl
    clear hc p1 q1 p2 q2 p4 q4 p5 q5 k4 k5 hy hR
    gi_wp2
    refine wpIn_wide.2 ?_
    have hbX:b≠W.heap.size:=by omega
    have hbY:b≠W.heap.size+1:=by omega
    have hvX:vb≠W.heap.size:=by omega
    have hvY:vb≠W.heap.size+1:=by omega
    have hj0:(0:Int)≤frm+k:=by omega
    have hj1:(frm+k:Int)<t.length:=by omega
    obtain ⟨z1,z2,z3⟩:=hok
    refine zDR (fun g=>g=W.heap.size∨g=W.heap.size+1) (fun r=>[oA W.heap.size #[.int .i64 p.lo,.int .i64 p.hi],oA (W.heap.size+1) #[.int .i64 q.lo,.int .i64 q.hi],
     voA 22 (vSp p) W.heap.size #[.int .i64 p.lo,.int .i64 p.hi],vA 23 (.pointer (some ⟨vb,0,none⟩)),vA 24 (.pointer (some ⟨vb,0,none⟩)),vA 25 (.slice (some ⟨b,o,none⟩) t.length cap),vA 26 (.int .i64 (frm+k)),vA 27 (.pointer (some ⟨b,o+(frm+k) * 9,none⟩)),vA 28 (.pointer (some ⟨b,o+(frm+k) * 9+1,none⟩)),vA 29 (vSp s.long),slA 30 1 #[.int .i64 s.long.lo,.int .i64 s.long.hi],voA 31 (vSp (zAT p s.long)) W.heap.size #[.int .i64 p.lo,.int .i64 p.hi],
     voA 32 (vSp q) (W.heap.size+1) #[.int .i64 q.lo,.int .i64 q.hi],vA 33 (.pointer (some ⟨vb,0,none⟩)),vA 34 (.pointer (some ⟨vb,0,none⟩)),vA 35 (.slice (some ⟨b,o,none⟩) t.length cap),vA 36 (.int .i64 (frm+k)),vA 37 (.pointer (some ⟨b,o+(frm+k) * 9,none⟩)),vA 38 (.pointer (some ⟨b,o+(frm+k) * 9+3,none⟩)),vA 39 (vSp s.fall),slA 40 1 #[.int .i64 s.fall.lo,.int .i64 s.fall.hi],voA 41 (vSp (zAT q s.fall)) (W.heap.size+1) #[.int .i64 q.lo,.int .i64 q.hi],
     oA W.heap.size #[.int .i64 (zAT p s.long).lo,.int .i64 (zAT p s.long).hi],oA (W.heap.size+1) #[.int .i64 (zAT q s.fall).lo,.int .i64 (zAT q s.fall).hi]].getD r nA)
     [(0,[0]),(9,[2]),(10,[1]),(19,[12]),(20,[11]),(21,[21])] 2 (fun r=>[W.heap.size+r]) 24 (by rfl) (by kernel_rfl) (by kernel_rfl) ?_ ?_ ?_ ?_ ?_ ?_
    ·intro r hr
     match r,hr with
     | 0,_=>exact zFg rfl y4
     | 1,_=>exact zFg rfl y5
    ·intro r hr b hb
     simp at hb
     subst hb
     exact ⟨by omega,by omega⟩
    ·intro r r' hr hr' hne b hb hb'
     simp at hb hb'
     omega
    ·(repeat (first|exact zAz.nil|(refine zAz.cons (zHg (by rintro _ ⟨⟩<;>exact ⟨by decide,by kernel_rfl⟩)) ?_)))
    ·(refine (zAF.cons ?_ (zAF.cons ?_ (zAF.cons ?_ (zAF.cons ?_ (zAF.cons ?_ (zAF.cons ?_ (zAF.cons ?_ (zAF.cons ?_ (zAF.cons ?_ (zAF.cons ?_ (zAF.cons ?_ (zAF.cons ?_ (zAF.cons ?_ (zAF.cons ?_ (zAF.cons ?_ (zAF.cons ?_ (zAF.cons ?_ (zAF.cons ?_ (zAF.cons ?_ (zAF.cons ?_ (zAF.cons ?_ (zAF.cons ?_ zAF.nil)))))))))))))))))))))))
     all_goals (refine OpOk.of (fun a v S hs hC hr hav K hK=>?_);have cC:=hC.cells.1;have fC:=hC.cells.2;have HS:=Lib.hid hs;have HK:=Lib.hid hC)
     ·have q4:=(hr 4 (by kernel_rfl))
      (have h0:=hav 0 (by kernel_rfl);(try dsimp only at h0);replace h0:=zEH h0;obtain ⟨hS0,hB0⟩:=h0;have k0:=hB0.cell;have f0:=hB0.frozen)
      (clear hr hav hs hC;simp [Array.getD_eq_getD_getElem?,vSp] at q4;go_simp)
      refine hK _ _ (zFe 0 (by kernel_rfl) (zFw (zr (by rw [HS.out];exact Nat.lt_of_sub_ne_zero (by simp))) hS0 hB0))
     ·(have q2:=(hr 2 (by kernel_rfl));clear hr hav hs hC;simp [Array.getD_eq_getD_getElem?,vSp] at q2;go_simp);(refine hK _ _ (zAP (zBQ (zr (by rw [HS.out];exact Nat.lt_of_sub_ne_zero (by simp))))))
     ·(have u3:=(hav 3 (by kernel_rfl));(try dsimp only at u3);replace u3:=zt u3;clear hr hav hs hC;simp [Array.getD_eq_getD_getElem?,vSp] at u3;go_simp);(refine hK _ _ (zAP (zBQ (zr (by rw [HS.out];exact Nat.lt_of_sub_ne_zero (by simp))))))
     ·(have u4:=(hav 4 (by kernel_rfl));(try dsimp only at u4);replace u4:=zt u4;clear hr hav hs hC;simp [Array.getD_eq_getD_getElem?,vSp] at u4;go_simp);(refine hK _ _ (zAP (zBQ (zr (by rw [HS.out];exact Nat.lt_of_sub_ne_zero (by simp))))))
     ·(have q6:=(hr 6 (by kernel_rfl));clear hr hav hs hC;simp [Array.getD_eq_getD_getElem?,vSp] at q6;go_simp);(refine hK _ _ (zAP (zBQ (zr (by rw [HS.out];exact Nat.lt_of_sub_ne_zero (by simp))))))
     ·(have u5:=(hav 5 (by kernel_rfl));(try dsimp only at u5);replace u5:=zt u5;have u6:=(hav 6 (by kernel_rfl));(try dsimp only at u6);replace u6:=zt u6;clear hr hav hs hC;simp [Array.getD_eq_getD_getElem?,vSp] at u5;simp [Array.getD_eq_getD_getElem?,vSp] at u6;go_simp);(refine hK _ _ (zAP (zBQ (zr (by rw [HS.out];exact Nat.lt_of_sub_ne_zero (by simp))))))
     ·(have u7:=(hav 7 (by kernel_rfl));(try dsimp only at u7);replace u7:=zt u7;clear hr hav hs hC;simp [Array.getD_eq_getD_getElem?,vSp] at u7;go_simp);(refine hK _ _ (zAP (zBQ (zr (by rw [HS.out];exact Nat.lt_of_sub_ne_zero (by simp))))))
     ·(have u8:=(hav 8 (by kernel_rfl));(try dsimp only at u8);replace u8:=zt u8;clear hr hav hs hC;simp [Array.getD_eq_getD_getElem?,vSp] at u8;go_simp);(refine hK _ _ (zAP (zBQ (zr (by rw [HS.out];exact Nat.lt_of_sub_ne_zero (by simp))))))
     ·(have u9:=(hav 9 (by kernel_rfl));(try dsimp only at u9);replace u9:=zt u9;clear hr hav hs hC;simp [Array.getD_eq_getD_getElem?,vSp] at u9;go_simp)
      refine hK _ _ (zE2 ?_)
      exact slA_in (zr (by rw [HS.out];exact Nat.lt_of_sub_ne_zero (by simp))) (Blk.new' rfl)
     ·(have h2:=hav 2 (by kernel_rfl);(try dsimp only at h2);replace h2:=zEj h2;obtain ⟨u2,hS2,hB2⟩:=h2;have k2:=hB2.cell;have f2:=hB2.frozen)
      (have h10:=hav 10 (by kernel_rfl);(try dsimp only at h10);replace h10:=zEl h10;obtain ⟨b10,hS10,u10,hB10⟩:=h10;have k10:=hB10.cell;have f10:=hB10.frozen)
      have hc:=zC5 p [s.long] (some ⟨b10,0,none⟩) 1 v (zGR hB10) ⟨by omega,by omega,by omega,by omega⟩ (by simp [near];omega) (by simp)
      unfold zw vSp at hc
      simp only [List.length_cons,List.length_nil,Nat.zero_add] at hc
      (clear hr hav hs hC;simp [Array.getD_eq_getD_getElem?,vSp] at u2;simp [Array.getD_eq_getD_getElem?,vSp] at u10;go_simp)
      go_at_call 35
      refine hc.mono ?_
      rintro e w1 ⟨rfl,hb1⟩
      refine hK _ _ (zDW 2 (by kernel_rfl) hb1 (zFw (zr (by rw [HS.out];exact Nat.lt_of_sub_ne_zero (by simp))) hS2 (hB2.past hb1)))
     ·have q5:=(hr 5 (by kernel_rfl))
      (have h1:=hav 1 (by kernel_rfl);(try dsimp only at h1);replace h1:=zEH h1;obtain ⟨hS1,hB1⟩:=h1;have k1:=hB1.cell;have f1:=hB1.frozen)
      (clear hr hav hs hC;simp [Array.getD_eq_getD_getElem?,vSp] at q5;go_simp)
      refine hK _ _ (zFe 1 (by kernel_rfl) (zFw (zr (by rw [HS.out];exact Nat.lt_of_sub_ne_zero (by simp))) hS1 hB1))
     ·(have q2:=(hr 2 (by kernel_rfl));clear hr hav hs hC;simp [Array.getD_eq_getD_getElem?,vSp] at q2;go_simp);(refine hK _ _ (zAP (zBQ (zr (by rw [HS.out];exact Nat.lt_of_sub_ne_zero (by simp))))))
     ·(have u13:=(hav 13 (by kernel_rfl));(try dsimp only at u13);replace u13:=zt u13;clear hr hav hs hC;simp [Array.getD_eq_getD_getElem?,vSp] at u13;go_simp);(refine hK _ _ (zAP (zBQ (zr (by rw [HS.out];exact Nat.lt_of_sub_ne_zero (by simp))))))
     ·(have u14:=(hav 14 (by kernel_rfl));(try dsimp only at u14);replace u14:=zt u14;clear hr hav hs hC;simp [Array.getD_eq_getD_getElem?,vSp] at u14;go_simp);(refine hK _ _ (zAP (zBQ (zr (by rw [HS.out];exact Nat.lt_of_sub_ne_zero (by simp))))))
     ·(have q6:=(hr 6 (by kernel_rfl));clear hr hav hs hC;simp [Array.getD_eq_getD_getElem?,vSp] at q6;go_simp);(refine hK _ _ (zAP (zBQ (zr (by rw [HS.out];exact Nat.lt_of_sub_ne_zero (by simp))))))
     ·(have u15:=(hav 15 (by kernel_rfl));(try dsimp only at u15);replace u15:=zt u15;have u16:=(hav 16 (by kernel_rfl));(try dsimp only at u16);replace u16:=zt u16;clear hr hav hs hC;simp [Array.getD_eq_getD_getElem?,vSp] at u15;simp [Array.getD_eq_getD_getElem?,vSp] at u16;go_simp);(refine hK _ _ (zAP (zBQ (zr (by rw [HS.out];exact Nat.lt_of_sub_ne_zero (by simp))))))
     ·(have u17:=(hav 17 (by kernel_rfl));(try dsimp only at u17);replace u17:=zt u17;clear hr hav hs hC;simp [Array.getD_eq_getD_getElem?,vSp] at u17;go_simp);(refine hK _ _ (zAP (zBQ (zr (by rw [HS.out];exact Nat.lt_of_sub_ne_zero (by simp))))))
     ·(have u18:=(hav 18 (by kernel_rfl));(try dsimp only at u18);replace u18:=zt u18;clear hr hav hs hC;simp [Array.getD_eq_getD_getElem?,vSp] at u18;go_simp);(refine hK _ _ (zAP (zBQ (zr (by rw [HS.out];exact Nat.lt_of_sub_ne_zero (by simp))))))
     ·(have u19:=(hav 19 (by kernel_rfl));(try dsimp only at u19);replace u19:=zt u19;clear hr hav hs hC;simp [Array.getD_eq_getD_getElem?,vSp] at u19;go_simp)
      refine hK _ _ (zE2 ?_)
      exact slA_in (zr (by rw [HS.out];exact Nat.lt_of_sub_ne_zero (by simp))) (Blk.new' rfl)
     ·(have h12:=hav 12 (by kernel_rfl);(try dsimp only at h12);replace h12:=zEj h12;obtain ⟨u12,hS12,hB12⟩:=h12;have k12:=hB12.cell;have f12:=hB12.frozen)
      (have h20:=hav 20 (by kernel_rfl);(try dsimp only at h20);replace h20:=zEl h20;obtain ⟨b20,hS20,u20,hB20⟩:=h20;have k20:=hB20.cell;have f20:=hB20.frozen)
      have hc:=zC5 q [s.fall] (some ⟨b20,0,none⟩) 1 v (zGR hB20) ⟨by omega,by omega,by omega,by omega⟩ (by simp [near];omega) (by simp)
      unfold zw vSp at hc
      simp only [List.length_cons,List.length_nil,Nat.zero_add] at hc
      (clear hr hav hs hC;simp [Array.getD_eq_getD_getElem?,vSp] at u12;simp [Array.getD_eq_getD_getElem?,vSp] at u20;go_simp)
      go_at_call 35
      refine hc.mono ?_
      rintro e w1 ⟨rfl,hb1⟩
      refine hK _ _ (zDW 12 (by kernel_rfl) hb1 (zFw (zr (by rw [HS.out];exact Nat.lt_of_sub_ne_zero (by simp))) hS12 (hB12.past hb1)))
     ·have q4:=(hr 4 (by kernel_rfl))
      (have h11:=hav 11 (by kernel_rfl);(try dsimp only at h11);replace h11:=zEj h11;obtain ⟨u11,hS11,hB11⟩:=h11;have k11:=hB11.cell;have f11:=hB11.frozen)
      (clear hr hav hs hC;simp [Array.getD_eq_getD_getElem?,vSp] at q4;simp [Array.getD_eq_getD_getElem?,vSp] at u11;go_simp)
      (refine hK undef _ (zE1 11 (by kernel_rfl) rfl rfl rfl (by simp) (by intro b hb;rw [hS11] at hb;first|exact Below.heap_setCell _ _ _ _ (by simpa using hb)|exact (Below.heap_setCell _ _ _ _ (by simpa using hb)).trans (Below.heap_setCell _ _ _ _ (by simpa using hb))) (zFg hS11 ?_));(refine zAK ?_;repeat (first|(with_reducible refine zB.zAJ (by first|(simp;done)|(simp;omega)|omega) ?_;(first|rfl|(simp [zAT];done)))|(with_reducible refine zB.alloc ?_ _)|(with_reducible refine zB.far ?_ _ (by first|(simp;done)|(simp;omega)|omega))|(with_reducible refine zB.zy ?_ (by first|(simp;done)|(simp;omega)|omega))|(with_reducible refine zB.drew ?_)|(with_reducible refine zB.drewN ?_ _)|(refine zB.leaf (by assumption) ?_;(first|rfl|(simp [zAT];done))))))
     ·have q5:=(hr 5 (by kernel_rfl))
      (have h21:=hav 21 (by kernel_rfl);(try dsimp only at h21);replace h21:=zEj h21;obtain ⟨u21,hS21,hB21⟩:=h21;have k21:=hB21.cell;have f21:=hB21.frozen)
      (clear hr hav hs hC;simp [Array.getD_eq_getD_getElem?,vSp] at q5;simp [Array.getD_eq_getD_getElem?,vSp] at u21;go_simp)
      (refine hK undef _ (zE1 21 (by kernel_rfl) rfl rfl rfl (by simp) (by intro b hb;rw [hS21] at hb;first|exact Below.heap_setCell _ _ _ _ (by simpa using hb)|exact (Below.heap_setCell _ _ _ _ (by simpa using hb)).trans (Below.heap_setCell _ _ _ _ (by simpa using hb))) (zFg hS21 ?_));(refine zAK ?_;repeat (first|(with_reducible refine zB.zAJ (by first|(simp;done)|(simp;omega)|omega) ?_;(first|rfl|(simp [zAT];done)))|(with_reducible refine zB.alloc ?_ _)|(with_reducible refine zB.far ?_ _ (by first|(simp;done)|(simp;omega)|omega))|(with_reducible refine zB.zy ?_ (by first|(simp;done)|(simp;omega)|omega))|(with_reducible refine zB.drew ?_)|(with_reducible refine zB.drewN ?_ _)|(refine zB.leaf (by assumption) ?_;(first|rfl|(simp [zAT];done))))))
    ·intro a v S hs hd hrest hC hav
     (have h3:=hav 3 (by kernel_rfl);(try dsimp only at h3);have u3:=zt h3;have h4:=hav 4 (by kernel_rfl);(try dsimp only at h4);have u4:=zt h4;have h5:=hav 5 (by kernel_rfl);(try dsimp only at h5);have u5:=zt h5;have h6:=hav 6 (by kernel_rfl);(try dsimp only at h6);have u6:=zt h6;have h7:=hav 7 (by kernel_rfl);(try dsimp only at h7);have u7:=zt h7;have h8:=hav 8 (by kernel_rfl);(try dsimp only at h8);have u8:=zt h8;have h9:=hav 9 (by kernel_rfl);(try dsimp only at h9);have u9:=zt h9;have h10:=hav 10 (by kernel_rfl);(try dsimp only at h10);obtain ⟨b10,hS10,u10,hB10⟩:=zEl h10;have h13:=hav 13 (by kernel_rfl);(try dsimp only at h13);have u13:=zt h13;have h14:=hav 14 (by kernel_rfl);(try dsimp only at h14);have u14:=zt h14;have h15:=hav 15 (by kernel_rfl);(try dsimp only at h15);have u15:=zt h15;have h16:=hav 16 (by kernel_rfl);(try dsimp only at h16);have u16:=zt h16;have h17:=hav 17 (by kernel_rfl);(try dsimp only at h17);have u17:=zt h17;have h18:=hav 18 (by kernel_rfl);(try dsimp only at h18);have u18:=zt h18;have h19:=hav 19 (by kernel_rfl);(try dsimp only at h19);have u19:=zt h19;have h20:=hav 20 (by kernel_rfl);(try dsimp only at h20);obtain ⟨b20,hS20,u20,hB20⟩:=zEl h20;have h22:=hav 22 (by kernel_rfl);(try dsimp only at h22);obtain ⟨hS22,hB22⟩:=zEH h22;have h23:=hav 23 (by kernel_rfl);(try dsimp only at h23);obtain ⟨hS23,hB23⟩:=zEH h23)
     (obtain ⟨x41,ux41⟩:∃ x,a.tmps.getD 41 undef=x:=⟨_,rfl⟩;obtain ⟨x32,ux32⟩:∃ x,a.tmps.getD 32 undef=x:=⟨_,rfl⟩;obtain ⟨x31,ux31⟩:∃ x,a.tmps.getD 31 undef=x:=⟨_,rfl⟩;obtain ⟨x22,ux22⟩:∃ x,a.tmps.getD 22 undef=x:=⟨_,rfl⟩;have hfr:=zHh hs hd hrest _ (by kernel_rfl) (by simp) (z9 ux22 (z9 u3 (z9 u4 (z9 u5 (z9 u6 (z9 u7 (z9 u8 (z9 u9 (z9 u10 (z9 ux31 (z9 ux32 (z9 u13 (z9 u14 (z9 u15 (z9 u16 (z9 u17 (z9 u18 (z9 u19 (z9 u20 (z9 ux41 wr_nil))))))))))))))))))));simp only [List.foldl_cons,List.foldl_nil] at hfr;subst hfr)
     gi_wp2
     go_roundw
     case rel =>
      refine ⟨k+1,by omega,by go_num,hJ _ _ _ hJ3 ⟨hC.os,hC.tape,hC.output,hC.size,fun j hj hn=>hC.block j hj (by rintro (h|h)<;>exact hn (by omega))⟩,?_,?_,by have:=hC.size;omega⟩
      ·rw [HL.out];exact hB22
      ·rw [HF.out];exact hB23
     case measure=>simp [intOf];omega
   ·obtain rfl:k=t.length - frm:=by omega
    gi_wp2
    go_end0
    exact ⟨⟨_,rfl⟩,.inl (by rw [show t.length+1 - frm=t.length - frm+1 by omega];exact hJ3)⟩
  ·gi_wp2
   go_end0
   exact ⟨⟨_,rfl⟩,.inr ⟨k,by omega,hJx3⟩⟩
end Go.Proofs.YtcpdjamlhhfbhaaDoor
namespace Go.Proofs.YtcpdjamlhhfbhaaDoor
open Go.RowKit
set_option maxRecDepth 20000
attribute [local go_sem] Oper.semAt_some
def Gets {α:Type} (base:Nat) (enc:α→List Value) (k:Nat) (w:World) (v:Value) (xs:List α):Prop:=∃ A c,v = .slice A xs.length c∧zS enc k w A xs∧∀ b o,A=some ⟨b,o,none⟩→base≤b∧b<w.heap.size
theorem Gets.nil {α:Type} {base:Nat} {enc:α→List Value} {k:Nat} {w:World}:Gets base enc k w (.slice none 0 0) ([]:List α):=⟨none,0,rfl,zS.nil,by simp⟩
theorem Row.gets {α:Type} {enc:α→List Value} {k:Nat} {e:TypeId} {base:Nat} {w:World} {v:Value} {xs:List α} (h:Row enc k e base w v xs) (henc:∀ x,(enc x).length=k) {base':Nat} (hb:base'≤base):Gets base' enc k w v xs:=by
 obtain ⟨A,c,rfl,hs⟩:=h.slAt henc
 refine ⟨A,c,rfl,hs,?_⟩
 rintro b o rfl
 have:=h.lt b rfl
 omega
theorem zEq (A:Option Addr) (n c:Nat) (f:Int) (w:World) :
  Calls Tryd.prog 39 #[.agg #[.slice A n c],.int .i64 f] w fun e w'=>e = .returned (.func (.func 57) #[] #[.pointer (some ⟨w.heap.size+1,0,none⟩),.pointer (some ⟨w.heap.size,0,none⟩)])∧w'=(w.alloc (.cells #[.slice A n c] 65)).alloc (.cells #[.int .i64 f] 3):=by
 go_enter Tryd.func39,Tryd.ntmps39
 go_wp2
 go_ret
 exact ⟨rfl,rfl⟩
def zCj (t:List St):List Sp:=if valid t then marks t else []
set_option maxHeartbeats 4000000 in
theorem zEJ (t:List St) (A:Option Addr) (cap:Nat) (w:World) (ht:zS zO 9 w A t) (hf:zCb t) (hl:t.length≤1000000) :
  Does 18 #[vT A t.length cap] w (fun u w'=>∃ v,u = .tuple #[v,.int .i64 (zBY t)]∧Gets w.heap.size zBH 2 w' v (zCj t)):=by
 unfold Does vT
 have HT:=Lib.hid ht
 clear ht
 refine (callsIn_wide (n:=10)).1 ?_
 refine callsIn_of_wp_marks Tryd.func18 rfl trivial ?_ rfl
 refine wpIn_wide.2 ?_
 simp only [Tryd.ntmps18,List.size_toArray,List.length_cons,List.length_nil,Nat.reduceAdd,Nat.reduceSub,Array.replicate_succ,Array.replicate_zero,List.push_toArray,List.append_toArray,List.nil_append,List.cons_append]
 have ho:=zE6 t A cap (w.alloc (.cells #[.slice A t.length cap] 37)) (HT.out.alloc _) hf hl
 unfold zw vT at ho
 cases hv:valid t
 ·have he:zBY t=10:=by simp [zBY,hv]
  rw [he] at ho ⊢
  go_wp2_with (go_at_call 26;refine ho.mono ?_;rintro e w1 ⟨rfl,hb1⟩)
  refine zGf (v:=.tuple #[.slice none 0 0,.int .i64 10]) (by simp [results,go_sem]) ⟨_,rfl,zd (zu (zl _ _) hb1) _,_,rfl,?_⟩
  simp only [zCj,hv]
  exact Gets.nil
 ·have he:zBY t=0:=by simp [zBY,hv]
  rw [he] at ho ⊢
  go_wp2_with (first|(go_at_call 26;refine ho.mono ?_;rintro e w1 ⟨rfl,hb1⟩)|(go_at_call 39;refine (zEq _ _ _ _ _).mono ?_;rintro e w2 ⟨rfl,rfl⟩))
  have hB0:Below w.heap.size w w1:=zu (zl _ _) hb1
  have hs1:w.heap.size<w1.heap.size:=by have:=hb1.size;simp at this;omega
  generalize hW:((((w1.alloc (.cells #[.slice A t.length cap] 65)).alloc (.cells #[.slice none 0 0] 52)).alloc (.cells #[.slice A t.length cap] 65)).alloc (.cells #[.int .i64 0] 3))=W
  have z6:Blk W (w1.heap.size+1) #[.slice none 0 0]:=by rw [← hW];(refine zAK ?_;repeat (first|(with_reducible refine zB.zAJ (by first|(simp;done)|(simp;omega)|omega) ?_;(first|rfl|(simp;done)))|(with_reducible refine zB.alloc ?_ _)|(with_reducible refine zB.far ?_ _ (by first|(simp;done)|(simp;omega)|omega))|(with_reducible refine zB.zy ?_ (by first|(simp;done)|(simp;omega)|omega))|(with_reducible refine zB.drew ?_)|(with_reducible refine zB.drewN ?_ _)|(refine zB.leaf (by assumption) ?_;(first|rfl|(simp;done)))))
  have z7:Blk W (w1.heap.size+2) #[.slice A t.length cap]:=by rw [← hW];(refine zAK ?_;repeat (first|(with_reducible refine zB.zAJ (by first|(simp;done)|(simp;omega)|omega) ?_;(first|rfl|(simp;done)))|(with_reducible refine zB.alloc ?_ _)|(with_reducible refine zB.far ?_ _ (by first|(simp;done)|(simp;omega)|omega))|(with_reducible refine zB.zy ?_ (by first|(simp;done)|(simp;omega)|omega))|(with_reducible refine zB.drew ?_)|(with_reducible refine zB.drewN ?_ _)|(refine zB.leaf (by assumption) ?_;(first|rfl|(simp;done)))))
  have z8:Blk W (w1.heap.size+3) #[.int .i64 0]:=by rw [← hW];(refine zAK ?_;repeat (first|(with_reducible refine zB.zAJ (by first|(simp;done)|(simp;omega)|omega) ?_;(first|rfl|(simp;done)))|(with_reducible refine zB.alloc ?_ _)|(with_reducible refine zB.far ?_ _ (by first|(simp;done)|(simp;omega)|omega))|(with_reducible refine zB.zy ?_ (by first|(simp;done)|(simp;omega)|omega))|(with_reducible refine zB.drew ?_)|(with_reducible refine zB.drewN ?_ _)|(refine zB.leaf (by assumption) ?_;(first|rfl|(simp;done)))))
  have hB:Below w.heap.size w W:=by rw [← hW];(repeat (first|(with_reducible refine zd ?_ _)|(with_reducible refine za ?_ (by first|(simp;done)|(simp;omega)|omega))|(with_reducible refine zn ?_)|(with_reducible refine below_drewN ?_ _)|(with_reducible assumption)|(with_reducible exact Below.refl _ _)))
  have hs:W.heap.size=w1.heap.size+4:=by rw [← hW];simp
  refine (wpIn_wide (n:=10)).1 ?_
  have hlen:=zAl hv
  refine zEG (gf:=57) (lb:=#[.pointer (some ⟨w1.heap.size+3,0,none⟩),.pointer (some ⟨w1.heap.size+2,0,none⟩)]) rfl (enters Tryd.func57 rfl rfl) (zEZ t A cap 0 _ _ (zAi hv) (Nat.zero_le _) (by omega)) (fun _=>rfl)
   (fun k W'=>∃ v,Row zBH 2 23 (W.heap.size+4) W' v ((List.range k).map (mark t))∧Blk W' (w1.heap.size+1) #[v]∧Blk W' (w1.heap.size+2) #[.slice A t.length cap]∧Blk W' (w1.heap.size+3) #[.int .i64 0]∧Below w.heap.size w W')
   (fun _ _ _=>False) ?_ (fun _ _ _ _ h _=>h) ?_ ?_ ?_ ?_ (fun _ _ _ _ h=>h.elim)
  ·rintro k W1 W2 ⟨v,h1,h2,h3,h4,h5⟩ ho
   exact ⟨v,h1.off ho (by omega),h2.off ho (by omega),h3.off ho (by omega),h4.off ho (by omega),zBL h5 ho (by have:=hB.size;omega) h5.size⟩
  ·rintro k W' ⟨v,h1,h2,h3,h4,h5⟩
   exact ⟨h4,h3,HT.out.below h5⟩
  ·exact ⟨_,Row.nil,z6,z7,z8,hB⟩
  ·intro l k W' hk ⟨v,h1,h2,h3,h4,h5⟩ hsz K hK
   clear hW z6 z7 z8 hB ho hb1
   obtain ⟨c6,f6,l6⟩:=h2.facts
   unfold vSp
   gi_wp2
   refine hK _ _ (zC7 _ _ hsz) (fun W2 ho=>?_)
   clear hK c6 f6 l6
   have hw2:=hB0.size
   have hsz2:=ho.size
   have y7:Blk W2 W'.heap.size #[.int .i64 (zE t 0 k).lo,.int .i64 (zE t 0 k).hi]:=(Blk.new _ _ _).off' ho (by omega)
   have y1:=(h1.alloc (.cells #[.int .i64 (zE t 0 k).lo,.int .i64 (zE t 0 k).hi] 23)).off ho (by omega)
   have y2:=(h2.alloc (.cells #[.int .i64 (zE t 0 k).lo,.int .i64 (zE t 0 k).hi] 23)).off ho (by omega)
   have y3:=(h3.alloc (.cells #[.int .i64 (zE t 0 k).lo,.int .i64 (zE t 0 k).hi] 23)).off ho (by omega)
   have y4:=(h4.alloc (.cells #[.int .i64 (zE t 0 k).lo,.int .i64 (zE t 0 k).hi] 23)).off ho (by omega)
   have y5:=zBL (zd h5 (.cells #[.int .i64 (zE t 0 k).lo,.int .i64 (zE t 0 k).hi] 23)) ho (by omega) (by simp;omega)
   simp at hsz2
   clear ho h1 h2 h3 h4 h5
   obtain ⟨c6,f6,l6⟩:=y2.facts
   obtain ⟨c7,f7,l7⟩:=y7.facts
   have Y1:=Lib.hid y1
   clear y1
   gi_wp2_with (gi_at_builtin;refine zFW zHb rfl _ _ rfl (base:=W.heap.size+4) rfl (Y1.out.alloc _) (mark t k) rfl one_sp rfl (Blk.new' rfl) ?c1 ?c2 ?c3 ?_)
   case c1=>unfold maxLen;simp;omega
   case c2=>simp;omega
   case c3=>simp;omega
   intro v' w' r1 r2
   obtain ⟨A',c',rfl⟩:=r1.form
   have x2:=(y2.alloc (.cells #[.int .i64 (zE t 0 k).lo,.int .i64 (zE t 0 k).hi] 23)).grown r2 (Y1.out.zHC (by omega))
   have x3:=(y3.alloc (.cells #[.int .i64 (zE t 0 k).lo,.int .i64 (zE t 0 k).hi] 23)).grown r2 (Y1.out.zHC (by omega))
   have x4:=(y4.alloc (.cells #[.int .i64 (zE t 0 k).lo,.int .i64 (zE t 0 k).hi] 23)).grown r2 (Y1.out.zHC (by omega))
   have x5:=zGu (zd y5 (.cells #[.int .i64 (zE t 0 k).lo,.int .i64 (zE t 0 k).hi] 23)) r2 (fun g hg=>by have:=(Y1.out.lt g hg).1;omega) (by simp;omega)
   have hon:On W.heap.size (W.heap.size+2+2) W2 w':=(zC7 W2 _ (by omega)).trans (on_grown r2 (by simp;omega) (fun g hg=>by have:=(Y1.out.lt g hg).1;omega))
   obtain ⟨e6,g6,m6⟩:=x2.facts
   have R1:=Lib.hid r1
   clear r1 r2 y2 y3 y4 y5 y7 c6 f6 c7 f7 l6 l7
   gi_wp2
   refine ⟨hon.trans (zB2 _ _ (by simp;omega)),.slice A' (k+1) c',?_,?_,?_,?_,?_⟩
   ·have q:=R1.out
    simp only [List.length_append,List.length_map,List.length_range,List.length_cons,List.length_nil,Nat.zero_add] at q
    rw [hs,List.range_succ,List.map_append]
    exact q.setCell _ (by first|(simp;omega)|simp|omega)
   ·exact (x2.zy 0 _).cast (by simp)
   ·exact x3.far (by simp) _
   ·exact x4.far (by simp) _
   ·exact x5.setCell (by simp;omega) _
  ·rintro W' ⟨v,h1,h2,h3,h4,h5⟩ hD hsz
   obtain ⟨c6,f6,l6⟩:=h2.facts
   go_wp2
   have ho:=zAj W' (.deferred none) (lo:=W.heap.size) (hi:=W.heap.size+1) (Nat.le_refl _) (by omega)
   refine zCk hD (v:=.tuple #[v,.int .i64 0]) (by simp [results,go_sem]) ⟨_,rfl,zBL h5 ho hB.size h5.size,v,rfl,?_⟩
   have hr:=(h1.off ho (by omega)).gets len_sp (base':=w.heap.size) (by have:=hB.size;omega)
   rw [show t.length+1 - 0=t.length+1 by omega] at hr
   simpa [zCj,hv,marks] using hr
end Go.Proofs.YtcpdjamlhhfbhaaDoor
namespace Go.Proofs.YtcpdjamlhhfbhaaDoor
open Go.RowKit
set_option maxRecDepth 20000
theorem zE8 {α:Type} {enc:α→List Value} {k:Nat} {xs:List α} {V:Value→Value} {f:FuncId} {args:List Value} {w:World} (h:Does f args.toArray w fun u w'=>∃ v,u=V v∧Gets w.heap.size enc k w' v xs):zAh enc k xs V Tryd.prog f args w:=by
 unfold zAh
 refine Ret.of (Calls.mono h ?_)
 rintro e w' ⟨u,rfl,hb,v,rfl,A,c,rfl,hs,hbd⟩
 refine ⟨(A,c),trivial,rfl,hb,?_,?_,by simp⟩
 ·intro e he
  simp only [List.mem_singleton] at he
  subst he
  exact hs
 ·intro e he b hb'
  simp only [List.mem_singleton] at he
  subst he
  obtain ⟨o,hA⟩:=hb'
  exact hbd b o hA
theorem zHx (t:List St):(marks t).length=t.length+1:=by simp [marks]
theorem zHE {t:List St} (h:valid t=true):zCj t=marks t:=by simp [zCj,h]
theorem zHy {t:List St} (h:valid t=false):zCj t=[]:=by simp [zCj,h]
end Go.Proofs.YtcpdjamlhhfbhaaDoor
namespace Go.Proofs.YtcpdjamlhhfbhaaDoor
open Go.RowKit
set_option maxRecDepth 20000
def placeP (m:List Sp) (a:Int) (i:Nat) (x:Sp):Bool:=decide (x.lo≤a) && (decide (i+1=m.length) || (match m[i+1]? with|some y=>decide (a<y.hi)|none=>false))
theorem InC.one {w:World} {b:Nat} {v:Value} (h:w.cell? ⟨b,0,none⟩=some v):InC w b 0 [v]:=⟨fun j u hj=>by
 match j,hj with
 | 0,hj=>simp at hj;subst hj;exact h⟩
set_option maxHeartbeats 1000000 in
theorem zHB (m:List Sp) (A:Option Addr) (cap:Nat) (a:Int) (i:Nat) (x:Sp) (b1 b2:Nat) (w:World) (hk:zS zBH 2 w A m) (hi:i<m.length) (hl:m.length≤1001)
  (h1:w.cell? ⟨b1,0,none⟩=some (.int .i64 a)) (h2:w.cell? ⟨b2,0,none⟩=some (.slice A m.length cap)) :
  Gv Tryd.prog 37 [.int .i64 (i:Int),vSp x,.pointer (some ⟨b1,0,none⟩),.pointer (some ⟨b2,0,none⟩)] w (.bool (placeP m a i x)):=by
 unfold Gv vSp
 have i1:=InC.one h1
 have i2:=InC.one h2
 (refine zH (n:=28) Tryd.func37 rfl rfl rfl ?_)
 by_cases hn:i+1<m.length
 ·obtain ⟨b,o,rfl,hblt,hc⟩:=hk.at_ hn
  have:InS w b o zBH 2 m:=⟨hk⟩
  have:zCG m (i+1) m[i+1]:=⟨by simp [hn]⟩
  have hp:placeP m a i x=(decide (x.lo≤a) && decide (a<m[i+1].hi)):=by
   have h9:decide (i+1=m.length)=false:=by simp;omega
   simp [placeP,hn,h9]
  rw [hp]
  (repeat' (first|((with_reducible refine zI ?_);first|refine zD rfl rfl rfl ?_|(refine zAD rfl rfl rfl rfl (fun b=>?_)))|(with_reducible first|refine zJ ?_|refine zC ?_|refine zG ?_|refine zA ?_)))
  (refine zHN (by kernel_rfl) (by kernel_rfl) (by kernel_rfl) ?_)
  (repeat' (first|((with_reducible refine isOpsQ ?_);first|refine zBm (zA5 rfl rfl) rfl ?_|refine zBm (zAA rfl rfl (by exact rfl)) rfl ?_|refine zBm (zAb rfl rfl) rfl ?_|refine zBm (zDc rfl rfl rfl) rfl ?_|refine zBm (zCA rfl rfl) rfl ?_|refine zDm rfl rfl rfl ?_|(refine q_cmp rfl rfl rfl rfl rfl (fun h=>?_) (fun h=>?_)<;>(dsimp only [cmpP] at h;(try (exfalso;omega))))|refine zBm (zEN rfl rfl rfl (by omega)) rfl ?_|refine zBm (zBU rfl rfl rfl rfl (by omega)) rfl ?_|refine zBm (zGp rfl rfl) rfl ?_)|(with_reducible refine q_nil ?_)))
  all_goals
   (repeat' (first|(with_reducible first|refine zA ?_|refine zg ?_)))
   exact zP (by exact rTm rfl) () trivial (by simp [resV, *]) (fun _ h=>h.sub (by (repeat constructor)))
 ·have hp:placeP m a i x=decide (x.lo≤a):=by simp [placeP];intro _;left;omega
  rw [hp]
  (repeat' (first|((with_reducible refine zI ?_);first|refine zD rfl rfl rfl ?_|(refine zAD rfl rfl rfl rfl (fun b=>?_)))|(with_reducible first|refine zJ ?_|refine zC ?_|refine zG ?_|refine zA ?_)))
  (refine zHN (by kernel_rfl) (by kernel_rfl) (by kernel_rfl) ?_)
  (repeat' (first|((with_reducible refine isOpsQ ?_);first|refine zBm (zA5 rfl rfl) rfl ?_|refine zBm (zAA rfl rfl (by exact rfl)) rfl ?_|refine zBm (zAb rfl rfl) rfl ?_|refine zBm (zDc rfl rfl rfl) rfl ?_|refine zBm (zCA rfl rfl) rfl ?_|refine zDm rfl rfl rfl ?_|(refine q_cmp rfl rfl rfl rfl rfl (fun h=>?_) (fun h=>?_)<;>(dsimp only [cmpP] at h;(try (exfalso;omega))))|refine zBm (zEN rfl rfl rfl (by omega)) rfl ?_|refine zBm (zGp rfl rfl) rfl ?_)|(with_reducible refine q_nil ?_)))
  all_goals
   (repeat' (first|(with_reducible first|refine zA ?_|refine zg ?_)))
   exact zP (by exact rTm rfl) () trivial (by simp [resV, *]) (fun _ h=>h.sub (by (repeat constructor)))
end Go.Proofs.YtcpdjamlhhfbhaaDoor
namespace Go.Proofs.YtcpdjamlhhfbhaaDoor
open Go.RowKit
set_option maxRecDepth 20000
def zBs (t:List St) (a:Int):List Int:=if valid t && inB 0 360000 a then picks (placeP (marks t) a) (marks t) else []
def zEg (t:List St) (a:Int):Int:=if valid t then (if inB 0 360000 a then 0 else 2) else 10
set_option maxHeartbeats 1000000 in
theorem zFf (t:List St) (A:Option Addr) (cap:Nat) (a:Int) (w:World) (ht:zS zO 9 w A t) (hf:zCb t) (hl:t.length≤1000) :
  zAh encI 1 (zBs t a) (fun v=>.tuple #[v,.int .i64 (zEg t a)]) Tryd.prog 14 [vT A t.length cap,.int .i64 a] w:=by
 unfold zAh vT
 have h1:=fun W (h:Below w.heap.size w W)=>zE8 (args:=[vT A t.length cap]) (zEJ t A cap W (ht.below h) hf (by omega))
 unfold vT at h1
 (refine zH (n:=23) Tryd.func14 rfl rfl rfl ?_)
 cases hv:valid t
 ·have e1:zBs t a=[]:=by simp [zBs,hv]
  have e2:zEg t a=10:=by simp [zEg,hv]
  rw [e1,e2]
  rw [zHy hv,zBz hv] at h1
  (repeat' (first|((with_reducible refine zI ?_);first|refine zF rfl rfl rfl ?_|refine zD rfl rfl rfl ?_|(refine zf rfl rfl rfl ?_;refine ⟨_,rfl,?_⟩)|(refine zT rfl rfl rfl rfl rfl (fun h=>?_) (fun h=>?_)<;>(dsimp only [cmpP] at h;(try (exfalso;omega))))|refine zz rfl rfl rfl rfl (fun _ _ q=>h1 _ q.below) (fun A' c'=>?_)|refine zZ rfl rfl rfl rfl ?_|(refine zQ rfl rfl rfl rfl rfl ?_;refine ⟨rfl,by first|decide|exact Nat.le_of_ble_eq_true rfl|(simp;omega),_,rfl,?_⟩)|(refine zV rfl rfl (fun b=>?_))|(refine zAD rfl rfl rfl rfl (fun b=>?_)))|(with_reducible first|refine zJ ?_|refine zC ?_|refine zG ?_|refine zA ?_|refine zg ?_|refine zq ?_)|((with_reducible refine zM ?_ ?_);(· exact rfl))))
  exact zP (by (exact zY.cons (by exact zAW.tmp rfl) (zY.cons (by exact zAW.tmp rfl) zY.nil))) (none,0) trivial rfl (fun _ h=>zBK h)
 ·rw [zHE hv,zBG hv] at h1
  have hml:=zHx t
  (repeat' (first|((with_reducible refine zI ?_);first|refine zF rfl rfl rfl ?_|refine zD rfl rfl rfl ?_|(refine zf rfl rfl rfl ?_;refine ⟨_,rfl,?_⟩)|(refine zT rfl rfl rfl rfl rfl (fun h=>?_) (fun h=>?_)<;>(dsimp only [cmpP] at h;(try (exfalso;omega))))|refine zz rfl rfl rfl rfl (fun _ _ q=>h1 _ q.below) (fun A' c'=>?_)|(refine zBj rfl rfl rfl rfl (fun _ _ q=>in1 _ _ _ _ _ _ (zAu (enc:=encI) (by exact rfl) _ q.below q.own)) (fun h=>?_) (fun h=>?_)<;>(simp only [zAS,zCl] at h;(try (exfalso;omega))))|refine zz rfl rfl rfl rfl (fun _ _ q=>(pickSp (marks t) _ _ _ _ (placeP (marks t) a) _ (zAp q.own (Below.refl _ _)) (by omega) (fun i x W hx hW=>zHB (marks t) _ _ a i x _ _ W (zAp q.own hW) (List.getElem?_eq_some_iff.1 hx).1 (by omega) (zHd q.own hW rfl) (zHd q.own hW rfl)))) (fun A' c'=>?_)|refine zZ rfl rfl rfl rfl ?_|refine zCR rfl rfl rfl ?_|(refine zQ rfl rfl rfl rfl rfl ?_;refine ⟨rfl,by first|decide|exact Nat.le_of_ble_eq_true rfl|(simp;omega),_,rfl,?_⟩)|(refine zV rfl rfl (fun b=>?_))|(refine zAD rfl rfl rfl rfl (fun b=>?_))|(refine zi rfl rfl rfl ?_;refine ⟨rfl,_,rfl,fun b=>?_⟩)|refine zA0 rfl rfl rfl rfl ?_)|(with_reducible first|refine zJ ?_|refine zC ?_|refine zG ?_|refine zA ?_|refine zg ?_|refine ze ?_|refine zq ?_)|((with_reducible refine zM ?_ ?_);(· exact rfl))|((with_reducible refine zL ?_ ?_);(· exact rfl))))
  ·have hi:=zAS.2 h
   have e1:zBs t a=picks (placeP (marks t) a) (marks t):=by simp [zBs,hv,hi]
   have e2:zEg t a=0:=by simp [zEg,hv,hi]
   rw [e1,e2]
   exact zP (by (exact zY.cons (by exact zAW.tmp rfl) (zY.cons (by exact zAW.tmp rfl) zY.nil))) (_,_) trivial rfl (fun _ h=>h.sub (by (repeat constructor)))
  ·have hi:=zCl.2 h
   have e1:zBs t a=[]:=by simp [zBs,hi]
   have e2:zEg t a=2:=by simp [zEg,hv,hi]
   rw [e1,e2]
   exact zP (by (exact zY.cons (by exact zAW.tmp rfl) (zY.cons (by exact zAW.tmp rfl) zY.nil))) (none,0) trivial rfl (fun _ h=>zBK h)
end Go.Proofs.YtcpdjamlhhfbhaaDoor
