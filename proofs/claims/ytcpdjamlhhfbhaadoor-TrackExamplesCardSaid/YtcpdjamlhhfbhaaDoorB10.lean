/- B10 -/
import Derived.Test.YtcpdjamlhhfbhaaDoorB7
import Derived.Test.YtcpdjamlhhfbhaaDoorB8
import Derived.Test.YtcpdjamlhhfbhaaDoorB9
import Derived.Test.YtcpdjamlhhfbhaaDoorB5
import Derived.Test.YtcpdjamlhhfbhaaDoorB6
import Derived.Test.YtcpdjamlhhfbhaaDoorB2
import Derived.Laws.MakeOwn
set_option linter.unusedSimpArgs false
set_option linter.unusedVariables false
namespace Go.Proofs.YtcpdjamlhhfbhaaDoor
open Go.RowKit
theorem zCc {α:Type} {a b:List α} {i:Nat} (h:a.take i=b.take i) (hl:a.length=b.length) (hi:a.length≤i):a=b:=by
 rwa [List.take_of_length_le hi,List.take_of_length_le (by omega)] at h
theorem zBw {α:Type} {a b:List α} {i:Nat} (h:a.take i=b.take i) (ha:i<a.length) (hb:i<b.length) (he:a[i]=b[i]):a.take (i+1)=b.take (i+1):=by
 rw [List.take_succ_eq_append_getElem ha,List.take_succ_eq_append_getElem hb,h,he]
theorem zBh {α:Type} {a b:List α} {i:Nat} (ha:i<a.length) (hb:i<b.length) (he:a[i]≠b[i]):a≠b:=by
 rintro rfl;exact he rfl
set_option maxHeartbeats 1000000 in
theorem zG5 (a b:List Sp) (A B:Option Addr) (c d:Nat) (w:World) (ha:zS zBH 2 w A a) (hb:zS zBH 2 w B b) (hla:a.length≤1000000) (hlb:b.length≤1000000) :
  zw 23 #[.slice A a.length c,.slice B b.length d] w (.bool (decide (a=b))):=by
 unfold zw
 have HA:=Lib.hid ha
 have HB:=Lib.hid hb
 clear ha hb
 by_cases hl:a.length=b.length
 ·have hL:=Lib.hid hl
  have hlt0:b.length≤a.length:=by omega
  have hlt1:a.length≤b.length:=by omega
  clear hl
  go_enter Tryd.func23,Tryd.ntmps23
  go_wp2
  go_loopw [5] (fun v wr=>∃ i:Nat,i≤a.length∧v = .int .i64 i∧Below w.heap.size w wr∧Hid (a.take i=b.take i)) (fun v _=>a.length - (intOf v).toNat)
  case atStart=>exact ⟨0,Nat.zero_le _,rfl,Below.refl _ _,by unfold Hid;simp⟩
  case round =>
   obtain ⟨i,hi,rfl,hBw,hF⟩:=hrel
   by_cases hlt:i<a.length
   ·have hltb:i<b.length:=by omega
    obtain ⟨b1,o1,rfl,hb1,hc1⟩:=(HA.out.below hBw).at_ hlt
    obtain ⟨b2,o2,rfl,hb2,hc2⟩:=(HB.out.below hBw).at_ hltb
    have c1:=hc1 0 _ rfl
    have c2:=hc1 1 _ rfl
    have c3:=hc2 0 _ rfl
    have c4:=hc2 1 _ rfl
    simp only [Nat.add_zero] at c1 c3
    clear hc1 hc2
    have hi0:(0:Int)≤i:=by omega
    have hi1:(i:Int)<a.length:=by omega
    have hi2:(i:Int)<b.length:=by omega
    by_cases he:a[i]=b[i]
    ·have hq:zB7 ⟨a[i].lo,a[i].hi⟩ ⟨b[i].lo,b[i].hi⟩=true:=by unfold zB7;exact decide_eq_true he
     have HE:=Lib.hid he
     clear he
     go_wp2_with fail
     go_quiet (fail)
     go_wp2
     go_roundw
     case rel=>exact ⟨i+1,by omega,by go_num,below_drewN hBw _,zBw hF.out hlt hltb HE.out⟩
     case measure=>simp [intOf];omega
    ·have hq:zB7 ⟨a[i].lo,a[i].hi⟩ ⟨b[i].lo,b[i].hi⟩=false:=by unfold zB7;exact decide_eq_false he
     have HE:=Lib.hid he
     clear he
     go_wp2_with fail
     go_quiet (fail)
     go_wp2
     go_ret
     exact ⟨zAo (by simp [zBh hlt hltb HE.out]),below_drewN hBw _⟩
   ·go_wp2
    go_ret
    exact ⟨zAo (by rw [zCc hF.out hL.out (by omega)];simp),hBw⟩
 ·go_enter Tryd.func23,Tryd.ntmps23
  go_wp2
  go_ret
  exact ⟨zAo (by simp;rintro rfl;exact hl rfl),Below.refl _ _⟩
end Go.Proofs.YtcpdjamlhhfbhaaDoor
namespace Go.Proofs.YtcpdjamlhhfbhaaDoor
open Go.RowKit
set_option maxRecDepth 20000
set_option maxHeartbeats 1000000 in
theorem zHs (a b:List Int) (A B:Option Addr) (c d:Nat) (w:World) (ha:zS encI 1 w A a) (hb:zS encI 1 w B b) (hla:a.length≤1000000) (hlb:b.length≤1000000) :
  zw 24 #[.slice A a.length c,.slice B b.length d] w (.bool (decide (a=b))):=by
 unfold zw
 have HA:=Lib.hid ha
 have HB:=Lib.hid hb
 clear ha hb
 by_cases hl:a.length=b.length
 ·have hL:=Lib.hid hl
  have hlt0:b.length≤a.length:=by omega
  have hlt1:a.length≤b.length:=by omega
  clear hl
  go_enter Tryd.func24,Tryd.ntmps24
  go_wp2
  go_loopw [5] (fun v wr=>∃ i:Nat,i≤a.length∧v = .int .i64 i∧Below w.heap.size w wr∧Hid (a.take i=b.take i)) (fun v _=>a.length - (intOf v).toNat)
  case atStart=>exact ⟨0,Nat.zero_le _,rfl,Below.refl _ _,by unfold Hid;simp⟩
  case round =>
   obtain ⟨i,hi,rfl,hBw,hF⟩:=hrel
   by_cases hlt:i<a.length
   ·have hltb:i<b.length:=by omega
    obtain ⟨b1,o1,rfl,hb1,hc1⟩:=(HA.out.below hBw).at_ hlt
    obtain ⟨b2,o2,rfl,hb2,hc2⟩:=(HB.out.below hBw).at_ hltb
    have c1:=hc1 0 _ rfl
    have c3:=hc2 0 _ rfl
    simp only [Nat.add_zero,Nat.mul_one] at c1 c3
    clear hc1 hc2
    have hi0:(0:Int)≤i:=by omega
    have hi1:(i:Int)<a.length:=by omega
    have hi2:(i:Int)<b.length:=by omega
    by_cases he:a[i]=b[i]
    ·have hq:a[i]=b[i]:=he
     have HE:=Lib.hid he
     clear he
     go_wp2_with fail
     go_quiet (fail)
     go_wp2
     go_roundw
     case rel=>exact ⟨i+1,by omega,by go_num,below_drewN hBw _,zBw hF.out hlt hltb HE.out⟩
     case measure=>simp [intOf];omega
    ·have hq:¬ a[i]=b[i]:=he
     have HE:=Lib.hid he
     clear he
     go_wp2_with fail
     go_quiet (fail)
     go_wp2
     go_ret
     exact ⟨zAo (by simp [zBh hlt hltb HE.out]),below_drewN hBw _⟩
   ·go_wp2
    go_ret
    exact ⟨zAo (by rw [zCc hF.out hL.out (by omega)];simp),hBw⟩
 ·go_enter Tryd.func24,Tryd.ntmps24
  go_wp2
  go_ret
  exact ⟨zAo (by simp;rintro rfl;exact hl rfl),Below.refl _ _⟩
open Go.RowKit
set_option maxRecDepth 20000
set_option maxHeartbeats 4000000 in
theorem same_any (a b:List St) (A B:Option Addr) (c d:Nat) (w:World) (ha:zS zO 9 w A a) (hb:zS zO 9 w B b) (hla:a.length≤1000000) (hlb:b.length≤1000000) :
  zw 25 #[vT A a.length c,vT B b.length d] w (.bool (decide (a=b))):=by
 unfold zw vT
 have HA:=Lib.hid ha
 have HB:=Lib.hid hb
 clear ha hb
 by_cases hl:a.length=b.length
 ·have hL:=Lib.hid hl
  have hlt0:b.length≤a.length:=by omega
  have hlt1:a.length≤b.length:=by omega
  clear hl
  go_enter Tryd.func25,Tryd.ntmps25
  go_wp2
  go_loopw [5] (fun v wr=>∃ i:Nat,i≤a.length∧v = .int .i64 i∧Blk wr w.heap.size #[.slice A a.length c]∧Blk wr (w.heap.size+1) #[.slice B b.length d]∧Below w.heap.size w wr∧Hid (a.take i=b.take i)) (fun v _=>a.length - (intOf v).toNat)
  case atStart=>exact ⟨0,Nat.zero_le _,rfl,(by (refine zAK ?_;repeat (first|(with_reducible refine zB.zAJ (by first|(simp;done)|(simp;omega)|omega) ?_;(first|rfl|(simp;done)))|(with_reducible refine zB.alloc ?_ _)|(with_reducible refine zB.far ?_ _ (by first|(simp;done)|(simp;omega)|omega))|(with_reducible refine zB.zy ?_ (by first|(simp;done)|(simp;omega)|omega))|(with_reducible refine zB.drew ?_)|(with_reducible refine zB.drewN ?_ _)|(refine zB.leaf (by assumption) ?_;(first|rfl|(simp;done)))))),(by (refine zAK ?_;repeat (first|(with_reducible refine zB.zAJ (by first|(simp;done)|(simp;omega)|omega) ?_;(first|rfl|(simp;done)))|(with_reducible refine zB.alloc ?_ _)|(with_reducible refine zB.far ?_ _ (by first|(simp;done)|(simp;omega)|omega))|(with_reducible refine zB.zy ?_ (by first|(simp;done)|(simp;omega)|omega))|(with_reducible refine zB.drew ?_)|(with_reducible refine zB.drewN ?_ _)|(refine zB.leaf (by assumption) ?_;(first|rfl|(simp;done)))))),(by (repeat (first|(with_reducible refine zd ?_ _)|(with_reducible refine za ?_ (by first|(simp;done)|(simp;omega)|omega))|(with_reducible refine zn ?_)|(with_reducible refine below_drewN ?_ _)|(with_reducible assumption)|(with_reducible exact Below.refl _ _)))),by unfold Hid;simp⟩
  case round =>
   obtain ⟨i,hi,rfl,k0,k1,hBw,hF⟩:=hrel
   obtain ⟨x0,f0,l0⟩:=k0.facts
   obtain ⟨x1,f1,l1⟩:=k1.facts
   by_cases hlt:i<a.length
   ·have hltb:i<b.length:=by omega
    obtain ⟨b1,o1,rfl,hb1,hc1⟩:=(HA.out.below hBw).at_ hlt
    obtain ⟨b2,o2,rfl,hb2,hc2⟩:=(HB.out.below hBw).at_ hltb
    have e0:=hc1 0 _ rfl
    have e1:=hc1 1 _ rfl
    have e2:=hc1 2 _ rfl
    have e3:=hc1 3 _ rfl
    have e4:=hc1 4 _ rfl
    have e5:=hc1 5 _ rfl
    have e6:=hc1 6 _ rfl
    have e7:=hc1 7 _ rfl
    have e8:=hc1 8 _ rfl
    have g0:=hc2 0 _ rfl
    have g1:=hc2 1 _ rfl
    have g2:=hc2 2 _ rfl
    have g3:=hc2 3 _ rfl
    have g4:=hc2 4 _ rfl
    have g5:=hc2 5 _ rfl
    have g6:=hc2 6 _ rfl
    have g7:=hc2 7 _ rfl
    have g8:=hc2 8 _ rfl
    simp only [Nat.add_zero] at e0 g0
    clear hc1 hc2
    have hi0:(0:Int)≤i:=by omega
    have hi1:(i:Int)<a.length:=by omega
    have hi2:(i:Int)<b.length:=by omega
    have hq:eqSt ⟨a[i].id,⟨a[i].long.lo,a[i].long.hi⟩,⟨a[i].fall.lo,a[i].fall.hi⟩,⟨a[i].radius.lo,a[i].radius.hi⟩,a[i].side,a[i].wall⟩ ⟨b[i].id,⟨b[i].long.lo,b[i].long.hi⟩,⟨b[i].fall.lo,b[i].fall.hi⟩,⟨b[i].radius.lo,b[i].radius.hi⟩,b[i].side,b[i].wall⟩=decide (a[i]=b[i]):=by unfold eqSt;rfl
    by_cases he:a[i]=b[i]
    ·rw [decide_eq_true he] at hq
     have HE:=Lib.hid he
     clear he
     go_wp2_with fail
     go_quiet (fail)
     go_wp2
     go_roundw
     case rel=>exact ⟨i+1,by omega,by go_num,(by (refine zAK ?_;repeat (first|(with_reducible refine zB.zAJ (by first|(simp;done)|(simp;omega)|omega) ?_;(first|rfl|(simp;done)))|(with_reducible refine zB.alloc ?_ _)|(with_reducible refine zB.far ?_ _ (by first|(simp;done)|(simp;omega)|omega))|(with_reducible refine zB.zy ?_ (by first|(simp;done)|(simp;omega)|omega))|(with_reducible refine zB.drew ?_)|(with_reducible refine zB.drewN ?_ _)|(refine zB.leaf (by assumption) ?_;(first|rfl|(simp;done)))))),(by (refine zAK ?_;repeat (first|(with_reducible refine zB.zAJ (by first|(simp;done)|(simp;omega)|omega) ?_;(first|rfl|(simp;done)))|(with_reducible refine zB.alloc ?_ _)|(with_reducible refine zB.far ?_ _ (by first|(simp;done)|(simp;omega)|omega))|(with_reducible refine zB.zy ?_ (by first|(simp;done)|(simp;omega)|omega))|(with_reducible refine zB.drew ?_)|(with_reducible refine zB.drewN ?_ _)|(refine zB.leaf (by assumption) ?_;(first|rfl|(simp;done)))))),below_drewN hBw _,zBw hF.out hlt hltb HE.out⟩
     case measure=>simp [intOf];omega
    ·rw [decide_eq_false he] at hq
     have HE:=Lib.hid he
     clear he
     go_wp2_with fail
     go_quiet (fail)
     go_wp2
     go_ret
     exact ⟨zAo (by simp [zBh hlt hltb HE.out]),below_drewN hBw _⟩
   ·go_wp2
    go_ret
    exact ⟨zAo (by rw [zCc hF.out hL.out (by omega)];simp),hBw⟩
 ·go_enter Tryd.func25,Tryd.ntmps25
  go_wp2
  go_ret
  exact ⟨zAo (by simp;rintro rfl;exact hl rfl),(by (repeat (first|(with_reducible refine zd ?_ _)|(with_reducible refine za ?_ (by first|(simp;done)|(simp;omega)|omega))|(with_reducible refine zn ?_)|(with_reducible refine below_drewN ?_ _)|(with_reducible assumption)|(with_reducible exact Below.refl _ _))))⟩
end Go.Proofs.YtcpdjamlhhfbhaaDoor
namespace Go.Proofs.YtcpdjamlhhfbhaaDoor
open Go.RowKit
set_option maxRecDepth 20000
def zX : List St:=[⟨3,⟨4000,4100⟩,⟨400,420⟩,⟨0,0⟩,0,0⟩,⟨5,⟨2000,2200⟩,⟨150,160⟩,⟨1500,1600⟩,1,0⟩,⟨8,⟨3000,3000⟩,⟨300,330⟩,⟨0,0⟩,0,0⟩]
theorem u_ow {w0:World} {n:Nat} {d:List Deferred} {R:List (Nat × Value)} {H H':List Ent} {X:Act→World→Prop} (hs:∀ w,Own w0.heap.size w H→Own w0.heap.size w H') (h:U w0 n d R H' X):U w0 n d R H X:=fun a w q=>h a w (q.heap q.below (hs w q.own))
theorem Own.blk_arr {α:Type} {enc:α→List Value} {k g base:Nat} {cs:List Value} {xs:List α} {H H':List Ent} {w:World} (ht:Take H (.blk g cs) H') (he:cs=xs.flatMap enc) (h:Own base w H):Own base w (.arr enc k g xs::H') :=
 (h.take ht).recast (fun hp=>⟨[],by rw [List.append_nil,← he];exact hp⟩) (fun b hb=>hb)
theorem zFQ {α:Type} {enc:α→List Value} {k g base:Nat} [ei:zDh enc k] {xs:List α} {H H':List Ent} {w:World} (ho:Own base w H) (ht:Take H (.arr enc k g xs) H'):zS enc k w (some ⟨g,0,none⟩) xs:=(ho.zDg ht).here (.sl enc k (some ⟨g,0,none⟩) xs) (by simp)
theorem zCK (w:World):Ret Tryd.prog 11 [] w (fun g:Nat=>.agg #[.slice (some ⟨g,0,none⟩) 3 3]) (fun g=>[.arr zO 9 g zX]) (fun _=>True):=by
 (refine zH (n:=13) Tryd.func11 rfl rfl rfl ?_)
 (repeat' (first|((with_reducible refine zI ?_);first|refine zN rfl rfl rfl rfl (fun _ _ q=>zBA _ _ _) ?_|(refine zQ rfl rfl rfl rfl rfl ?_;refine ⟨rfl,by first|decide|exact Nat.le_of_ble_eq_true rfl|(simp;omega),_,rfl,?_⟩)|(refine zV rfl rfl (fun b=>?_))|(refine zAH rfl rfl rfl ?_;refine ⟨_,rfl,?_⟩)|(refine zi rfl rfl rfl ?_;refine ⟨rfl,_,rfl,fun b=>?_⟩))|(with_reducible first|refine zJ ?_|refine zC ?_|refine zG ?_|refine zA ?_|refine zg ?_)))
 exact zP (by (exact zY.cons (by exact res1c rfl (by exact rfl)) zY.nil)) b trivial rfl (fun _ h=>(h.blk_arr (g:=b) (xs:=zX) (enc:=zO) (k:=9) (by (repeat constructor)) rfl).sub (by (repeat constructor)))
theorem zAf : valid zX=true:=by decide
def zAI : Me:=⟨1,0,2,⟨6250,6400⟩⟩
theorem zEL (w:World):Gv Tryd.prog 9 [] w (vMe zAI):=by
 unfold Gv
 (refine zH (n:=3) Tryd.func9 rfl rfl rfl ?_)
 (repeat' (first|((with_reducible refine zI ?_);first|refine zN rfl rfl rfl rfl (fun _ _ q=>zBA _ _ _) ?_|(refine zQ rfl rfl rfl rfl rfl ?_;refine ⟨rfl,by first|decide|exact Nat.le_of_ble_eq_true rfl|(simp;omega),_,rfl,?_⟩)|(refine zV rfl rfl (fun b=>?_))|(refine zAH rfl rfl rfl ?_;refine ⟨_,rfl,?_⟩))|(with_reducible first|refine zJ ?_|refine zC ?_|refine zG ?_|refine zA ?_|refine zg ?_)))
 exact zP (by (exact zY.cons (by exact res1c rfl (by exact rfl)) zY.nil)) () trivial rfl (fun _ h=>h.sub (by (repeat constructor)))
end Go.Proofs.YtcpdjamlhhfbhaaDoor
namespace Go.Proofs.YtcpdjamlhhfbhaaDoor
set_option maxRecDepth 20000
def runL : List St:=[⟨3,⟨4050,4100⟩,⟨400,420⟩,⟨0,0⟩,0,0⟩,⟨5,⟨2150,2200⟩,⟨150,160⟩,⟨1500,1600⟩,1,0⟩,⟨8,⟨3000,3000⟩,⟨300,330⟩,⟨0,0⟩,0,0⟩]
theorem zH4 : fine1 zX [zAI]:=by unfold fine1 zBP fine;decide +kernel
theorem zH3 : fine2 zX [zAI]:=by unfold fine2 zBP fine;decide +kernel
theorem zGe : zAr zX [zAI]=true∧zA3 zX [zAI]=runL:=by
 have h:=zDM zH4 zH3
 refine ⟨h,?_⟩
 unfold zA3
 rw [h]
 show stage2 zX [zAI]=runL
 decide +kernel
theorem zDp : zB4 zX.length [zAI]=true:=by decide
end Go.Proofs.YtcpdjamlhhfbhaaDoor
namespace Go.Proofs.YtcpdjamlhhfbhaaDoor
open Go.RowKit
set_option maxRecDepth 20000
theorem zAa : zCb zX:=by
 intro s hs
 simp only [zX,List.mem_cons,List.not_mem_nil,or_false] at hs
 rcases hs with rfl|rfl|rfl<;>decide
theorem ints_s (a:List Int) (A B:Option Addr) (c d:Nat) (w:World) (ha:zS encI 1 w A a) (hb:zS encI 1 w B a) (hl:a.length≤1000000):Gv Tryd.prog 24 [.slice A a.length c,.slice B a.length d] w (.bool true) :=
 ((zHs a a A B c d w ha hb hl hl).of (by simp)).gv
set_option maxHeartbeats 1000000 in
theorem zDa (a:Int) (want:List Int) (B:Option Addr) (c:Nat) (w:World) (hB:zS encI 1 w B want) (h:zBs zX a=want) (he:zEg zX a=0) (hl:want.length≤100) :
  Gv Tryd.prog 7 [.int .i64 a,.slice B want.length c] w (.bool true):=by
 unfold Gv
 have h2:=fun W A cap (ht:zS zO 9 W A zX)=>zFf zX A cap a W ht zAa (by decide)
 rw [h,he] at h2
 unfold vT at h2
 (refine zH (n:=20) Tryd.func7 rfl rfl rfl ?_)
 (repeat' (first|((with_reducible refine zI ?_);first|refine zF rfl rfl rfl ?_|refine zD rfl rfl rfl ?_|refine zBS rfl rfl rfl rfl ?_|(refine zT rfl rfl rfl rfl rfl (fun h=>?_) (fun h=>?_)<;>(dsimp only [cmpP] at h;(try (exfalso;omega))))|(refine zBJ rfl rfl rfl rfl (fun _ _ q=>zCK _) ?_;rintro gr -;dsimp only [List.cons_append,List.nil_append];refine u_ow (fun _ h=>h.zDg (Take.here _ _)) ?_)|refine zz rfl rfl rfl rfl (fun _ _ q=>h2 _ _ _ (zAp q.own (Below.refl _ _))) (fun A' c'=>?_)|refine zN rfl rfl rfl rfl (fun _ _ q=>ints_s want _ _ _ _ _ (zAp q.own (Below.refl _ _)) (hB.below q.below) (by omega)) ?_|refine zZ rfl rfl rfl rfl ?_)|(with_reducible first|refine zJ ?_|refine zC ?_|refine zG ?_|refine zA ?_|refine zg ?_)))
 exact zP (by exact rTm rfl) () trivial rfl (fun _ h=>h.sub (by (repeat constructor)))
end Go.Proofs.YtcpdjamlhhfbhaaDoor
namespace Go.Proofs.YtcpdjamlhhfbhaaDoor
variable {ro : Option Nat}
open Go.RowKit
class Ctb (α:Type):Prop where ex:∃ f:Nat→α,∀ z,∃ n,f n=z
def zCH : Nat→Nat × Nat
 | 0=>(0,0)
 | n+1=>match zCH n with
  | (0,b)=>(b+1,0)
  | (a+1,b)=>(a,b+1)
theorem zD5 : ∀ s b,b≤s→∃ n,zCH n=(s - b,b)
  | 0, b, h => ⟨0, by obtain rfl : b = 0 := by omega
                      rfl⟩
  | s+1,0,_=>by
    obtain ⟨n,hn⟩:=zD5 s s (Nat.le_refl _)
    refine ⟨n+1,?_⟩
    simp only [zCH,hn,Nat.sub_self]
    rfl
  | s+1,b+1,h=>by
    obtain ⟨n,hn⟩:=zD5 (s+1) b (by omega)
    refine ⟨n+1,?_⟩
    rw [show s+1 - b=(s - b)+1 by omega] at hn
    simp only [zCH,hn]
    rw [show s+1 - (b+1)=s - b by omega]
theorem zD6 (p:Nat × Nat):∃ n,zCH n=p:=by
 obtain ⟨a,b⟩:=p
 obtain ⟨n,hn⟩:=zD5 (a+b) b (by omega)
 exact ⟨n,by rw [hn,Nat.add_sub_cancel]⟩
instance : Ctb Nat:=⟨id,fun z=>⟨z,rfl⟩⟩
instance : Ctb Unit:=⟨fun _=>(),fun _=>⟨0,rfl⟩⟩
instance ctb_prod {α β:Type} [i:Ctb α] [j:Ctb β]:Ctb (α × β):=by
 obtain ⟨f,hf⟩:=i.ex
 obtain ⟨g,hg⟩:=j.ex
 refine ⟨fun n=>(f (zCH n).1,g (zCH n).2),fun z=>?_⟩
 obtain ⟨a,ha⟩:=hf z.1
 obtain ⟨b,hb⟩:=hg z.2
 obtain ⟨n,hn⟩:=zD6 (a,b)
 exact ⟨n,by simp only [hn,ha,hb]⟩
instance ctb_opt {α:Type} [i:Ctb α]:Ctb (Option α):=by
 obtain ⟨f,hf⟩:=i.ex
 refine ⟨fun n=>match n with | 0=>none|n+1=>some (f n),fun z=>?_⟩
 cases z with
 | none=>exact ⟨0,rfl⟩
 | some a=>obtain ⟨n,hn⟩:=hf a;exact ⟨n+1,by simp only [hn]⟩
theorem zHc {α β:Type} (h:α→β) (hs:∀ z,∃ x,h x=z) [i:Ctb α]:Ctb β:=by
 obtain ⟨f,hf⟩:=i.ex
 refine ⟨fun n=>h (f n),fun z=>?_⟩
 obtain ⟨x,rfl⟩:=hs z
 obtain ⟨n,rfl⟩:=hf x
 exact ⟨n,rfl⟩
instance : Ctb Int:=zHc (α:=Nat × Nat) (fun p=>(p.1:Int) - p.2) fun z=>⟨(z.toNat,(-z).toNat),by simp only;omega⟩
instance : Ctb Addr:=zHc (α:=Nat × Nat × Option Nat) (fun p=>⟨p.1,p.2.1,p.2.2⟩) fun z=>⟨(z.block,z.off,z.spot),rfl⟩
instance ctb_list {α:Type} [i:Ctb α]:Ctb (List α):=by
 obtain ⟨f,hf⟩:=i.ex
 have key:∀ l:List α,∃ n,(fun n=>(Nat.rec (fun _=>[]) (fun _ g c=>f (zCH c).1::g (zCH c).2) (zCH n).1:Nat→List α) (zCH n).2) n=l:=by
  have h2:∀ l:List α,∃ c,(Nat.rec (fun _=>[]) (fun _ g c=>f (zCH c).1::g (zCH c).2) l.length:Nat→List α) c=l:=by
   intro l
   induction l with
   | nil=>exact ⟨0,rfl⟩
   | cons x l ih =>
    obtain ⟨c,hc⟩:=ih
    obtain ⟨n,hn⟩:=hf x
    obtain ⟨m,hm⟩:=zD6 (n,c)
    refine ⟨m,?_⟩
    show f (zCH m).1::_=_
    rw [hm,hn]
    exact congrArg _ hc
  intro l
  obtain ⟨c,hc⟩:=h2 l
  obtain ⟨n,hn⟩:=zD6 (l.length,c)
  exact ⟨n,by simp only [hn];exact hc⟩
 exact ⟨_,key⟩
noncomputable def deC (α:Type) [i:Ctb α]:Nat→α:=i.ex.choose
theorem deC_any {α:Type} [i:Ctb α] (z:α):∃ n,deC α n=z:=i.ex.choose_spec z
def Ent.fact (q:Prop):Ent:=⟨fun _=>False,fun _=>q,fun _ _ _ _ h=>h⟩
theorem own_fact {base:Nat} {w:World} {H:List Ent} {q:Prop} (hq:q) (h:Own base w H):Own base w (.fact q::H) :=
 ⟨fun e he=>by
  rcases List.mem_cons.1 he with rfl|he
  ·exact hq
  ·exact h.here e he,fun e he b hb=>by
  rcases List.mem_cons.1 he with rfl|he
  ·cases hb
  ·exact h.foot e he b hb,List.pairwise_cons.2 ⟨(fun f _ b hb=>by cases hb),h.apart⟩⟩
end Go.Proofs.YtcpdjamlhhfbhaaDoor
namespace Go.Proofs.YtcpdjamlhhfbhaaDoor.Two
variable {ro : Option Nat}
open Go.RowKit
section
variable {S : List (Nat × Nat)} {I:List (Nat × Nat × Nat × List Ent)} {P:Program} {w0:World} {n:Nat} {d:List Deferred} {R R0:List (Nat × Value)} {H H' H0:List Ent} {Q:Exit→Act→World→Prop} {ops:Array Oper} {bs:List (List Bool)} {b:List Bool} {k:Nat} {o:Oper} {rest:List Oper} {T:List Rw} {t:Tmp} {Hk:zAC→List Ent} {x y:Operand} {v:Value}
theorem zHM {α:Type} [Ctb α] {V:α→Value} {E:α→List Ent} {p:α→Prop} {f:FuncId} {fx:Operand} {xs:Array Operand} {ts:Array TypeId} {vs:zAC→List Value} {cap:Array Value} (hop:o.op = .call ⟨.value fx,xs,ts⟩) (hw:∀ G,want (Rk R0 ops b o T G) ops o=some true) (hd:o.dst=some t) (hf:∀ G,evR (Rk R0 ops b o T G) fx=some (.func (.func f) #[] cap)) (hx:∀ G,evs (Rk R0 ops b o T G) xs.toList=some (vs G)) [ci:zR P f]
  (hc:∀ G a w,Kn w0 n d (Rk R0 ops b o T G) (Hk G) a w→Ret P f (vs G++cap.toList) w V E p) (h:zAG ro S I P w0 n d ops R0 H0 Q bs (k+1) rest (⟨k,some t,fun G=>(V (deC α (G k).g),.fact (p (deC α (G k).g))::E (deC α (G k).g))⟩::T)):CAt ro S I P w0 n d ops R0 H0 Q b bs k o rest T Hk:=by
 refine zDz (f:=fun G=>(V (deC α (G k).g),.fact (p (deC α (G k).g))::E (deC α (G k).g))) (fun G G' hG=>by simp only [hG k (.inl rfl)]) (fun G a w q K hK=>?_) (by rw [hd];exact h)
 rw [zA7 q (hw G),if_pos rfl]
 unfold Oper.wp execOp;rw [hop]
 have e1:xs.map a.eval=(vs G).toArray:=by apply Array.ext';simpa using q.evs (hx G)
 have e2:(vs G).toArray++cap=(vs G++cap.toList).toArray:=by apply Array.ext';simp
 simp only [resolve,q.ev (hf G),e1,Deferred.ofValue,Sem.run_bind,Sem.run_pure,Result.andThen_ok,invoke,Array.empty_append,e2,ci.ent,Oper.upon_enter]
 refine Calls.mono (hc G a w q).calls ?_
 rintro e w' ⟨z,hp,rfl,hb,hE⟩
 obtain ⟨m,hm⟩:=deC_any z
 exact hK _ _ _ ⟨⟨m,none,0⟩,by simp only [upW,if_true,hm]⟩ hb (own_fact hp hE)
end
end Go.Proofs.YtcpdjamlhhfbhaaDoor.Two
namespace Go.Proofs.YtcpdjamlhhfbhaaDoor
variable {ro : Option Nat}
open Go.RowKit
set_option maxRecDepth 20000
theorem all_any (l:List Me) (B:Option Addr) (c:Nat) (w:World):Ret Tryd.prog 50 [.slice B l.length c] w (fun g:Nat=>.func (.func 61) #[] #[.pointer (some ⟨g,0,none⟩)]) (fun g=>[.blk g [.slice B l.length c]]) (fun _=>True):=by
 (refine zH (n:=4) Tryd.func50 rfl rfl rfl ?_)
 (repeat' (first|((with_reducible refine zI ?_);first|refine zD rfl rfl rfl ?_|(refine zAD rfl rfl rfl rfl (fun b=>?_))|refine zA0 rfl rfl rfl rfl ?_)|(with_reducible first|refine zJ ?_|refine zC ?_|refine zG ?_|refine zA ?_|refine zg ?_)))
 exact zP (by exact rTm rfl) b trivial rfl (fun _ h=>h.sub (by (repeat constructor)))
open Go.RowKit
set_option maxRecDepth 20000
attribute [local go_sem] Oper.semAt_some
set_option maxHeartbeats 2000000 in
theorem zID (l:List Me) (B:Option Addr) (c bx:Nat) (hll:l.length≤1000000) :
  Iter Tryd.prog 61 #[.pointer (some ⟨bx,0,none⟩)] 0 l.length (fun k=>#[.int .i64 (k:Int),vMe (l.getD k ⟨0,0,0,⟨0,0⟩⟩)])
   (fun W=>Blk W bx #[.slice B l.length c]∧zS zAt 5 W B l):=by
 intro q J Jx W hJ hJx hD hY h0
 obtain ⟨d1,d2⟩:=hD 0 W h0
 obtain ⟨c1,f1,l1⟩:=d1.facts
 have HS:=Lib.hid d2
 clear d2
 refine callsIn_of_wp Tryd.func61 rfl trivial ?_ rfl
 simp only [Tryd.ntmps61,List.size_toArray,List.length_cons,List.length_nil,Nat.reduceAdd,Nat.reduceSub,Array.replicate_succ,Array.replicate_zero,List.push_toArray,List.append_toArray,List.nil_append,List.cons_append]
 gi_wp2
 gi_loopw [7] (fun v wr=>∃ k:Nat,k≤l.length∧v = .int .i64 (k:Nat)∧J k wr∧W.heap.size≤wr.heap.size) (fun v _=>l.length - (intOf v).toNat)
 case atStart =>
  exact ⟨0,by omega,rfl,h0,by omega⟩
 case round =>
  obtain ⟨k,hk,rfl,hJk,hsz⟩:=hrel
  obtain ⟨x1,x2⟩:=hD k wr hJk
  obtain ⟨p1,q1,m1⟩:=x1.facts
  by_cases hlt:k<l.length
  ·have hi0:(0:Int)≤(k:Int):=by omega
   have hi1:(k:Int)<l.length:=by omega
   obtain ⟨b,o,rfl,hblt,hc⟩:=x2.at_ hlt
   have hg:l.getD k ⟨0,0,0,⟨0,0⟩⟩=l[k]:=by simp [List.getD_eq_getElem?_getD,hlt]
   generalize l[k]=m at hc hg
   have e0:=hc 0 _ rfl
   have e1:=hc 1 _ rfl
   have e2:=hc 2 _ rfl
   have e3:=hc 3 _ rfl
   have e4:=hc 4 _ rfl
   clear hc
   rw [Nat.add_zero] at e0
   have hJ2:=hJ k _ _ hJk (zCS W.heap.size (W.heap.size+0) wr (.cells #[.int .u8 m.kind,.int .i64 m.frm,.int .i64 m.to,.int .i64 m.value.lo,.int .i64 m.value.hi] 26))
   have hy:=hY k _ hlt hJ2 (by simp;omega)
   rw [hg] at hy
   unfold YieldAt vMe at hy
   obtain ⟨fn,tmps,assign,body,hy,hR⟩:=hy
   gi_wp2
   refine hR.mono ?_
   rintro e W3 (⟨rfl,hJ3,hon⟩ | ⟨rfl,hJx3,hon⟩)
   ·have hsz3:=hon.size
    gi_wp2
    go_roundw
    case rel=>exact ⟨k+1,by omega,by go_num,hJ3,by simp at hsz3;omega⟩
    case measure=>simp [intOf];omega
   ·gi_wp2
    (try simp only [Exit.inBlock,Exit.then]);refine bodyPost_ret (results_none rfl _ _ _) rfl ?_
    exact ⟨⟨_,rfl⟩,.inr ⟨k,by omega,hJx3⟩⟩
  ·obtain rfl:k=l.length:=by omega
   gi_wp2
   go_end0
   exact ⟨⟨_,rfl⟩,.inl hJk⟩
theorem zH8 {l:List Me} {k:Nat} (h:k<l.length):(zh (KB.id k) (l.take k)).push ⟨.int .i64 (k:Int),vMe (l.getD k ⟨0,0,0,⟨0,0⟩⟩),k⟩=zh (KB.id (k+1)) (l.take (k+1)):=by
 apply Array.ext'
 have hg:l.getD k ⟨0,0,0,⟨0,0⟩⟩=l[k]:=by simp [List.getD_eq_getElem?_getD,h]
 have e:(KB.id (k+1))=(KB.id (k+1)):=rfl
 simp only [zh,zDx,Array.toList_push,hg]
 rw [← List.take_append_getElem h,List.mapIdx_append]
 have h9:min k l.length=k:=by omega
 simp [zBp,KB.id,h9]
 rfl
theorem zFV {l:List Me} {m k:Nat} {W:World} (hk:k<l.length) (hm:W.heap[m]?=some (.map (zh (KB.id k) (l.take k)) k)) :
  (Instr.mapUpdate 71 (.map (some m)) (.int .i64 (k:Int)) (vMe (l.getD k ⟨0,0,0,⟨0,0⟩⟩))).run Tryd.prog W = .ok () (Go.ChangeMaps.setBlock W m (.map (zh (KB.id (k+1)) (l.take (k+1))) (k+1))):=by
 have hkt:Tryd.prog.underlying 3=some (.int .i64):=by rfl
 have i1:Tryd.prog.underlying 71=some (.map 3 26):=by rfl
 have e1:=run_underlying i1 W
 have e2:=zBb (P:=Tryd.prog) (w:=W) (e:=false) (N:=9999) (i:=(k:Int)) hkt
 have hn:∀ e∈(zh (KB.id k) (l.take k)).toList,∃ j,e.key = .int .i64 j∧j≠(k:Int):=fun e he=>by
  obtain ⟨i,me,hi,rfl⟩:=zB8.1 he
  have:=(List.getElem?_eq_some_iff.1 hi).1
  simp only [List.length_take] at this
  exact ⟨(i:Int),rfl,by omega⟩
 have e3:(Instr.findKey 3 (.int .i64 (k:Int)) (zh (KB.id k) (l.take k)).toList).run Tryd.prog W = .ok none W:=by
  have:=run_underlying hkt W
  simp [Instr.findKey,Sem.run_bind,this,zCp _ 0 hn]
 rw [← zH8 hk]
 simp [Instr.mapUpdate,Sem.run_bind,e1,getObj,Sem.run,hm,e2,e3,setObj,Go.ChangeMaps.setBlock]
structure Sd (m:Nat) (w W:World):Prop where
 os:W.os=w.os
 tape:W.tape=w.tape
 output:W.output=w.output
 size:w.heap.size≤W.heap.size
 block:∀ b,b<w.heap.size→b≠m→W.heap[b]?=w.heap[b]?
set_option maxHeartbeats 2000000 in
theorem zHG (l:List Me) (B:Option Addr) (c bx m:Nat) (w:World) (hll:l.length≤1000000) (hm:w.heap[m]?=some (.map #[] 0)) (hbx:Blk w bx #[.slice B l.length c]) (hs:zS zAt 5 w B l) (h1:bx≠m) (h2:∀ b o,B=some ⟨b,o,none⟩→b≠m) :
  Calls Tryd.prog 60 #[.map (some m),.func (.func 61) #[] #[.pointer (some ⟨bx,0,none⟩)]] w fun e w'=>e = .returned (.tuple #[])∧Sd m w w'∧w'.heap[m]?=some (.map (zh (KB.id l.length) l) l.length):=by
 have HS:=Lib.hid hs
 clear hs
 have hml:m<w.heap.size:=(Array.getElem?_eq_some_iff.1 hm).1
 refine (callsIn_wide (n:=10)).1 ?_
 refine callsIn_of_wp_marks Tryd.func60 rfl trivial ?_ rfl
 refine wpIn_wide.2 ?_
 simp only [Tryd.ntmps60,List.size_toArray,List.length_cons,List.length_nil,Nat.reduceAdd,Nat.reduceSub,Array.replicate_succ,Array.replicate_zero,List.push_toArray,List.append_toArray,List.nil_append,List.cons_append]
 go_wp2
 generalize hW:w.alloc (.cells #[.map (some m)] 71)=W
 have z1:Blk W w.heap.size #[.map (some m)]:=by rw [← hW];(refine zAK ?_;repeat (first|(with_reducible refine zB.zAJ (by first|(simp;done)|(simp;omega)|omega) ?_;(first|rfl|(simp;done)))|(with_reducible refine zB.alloc ?_ _)|(with_reducible refine zB.far ?_ _ (by first|(simp;done)|(simp;omega)|omega))|(with_reducible refine zB.zy ?_ (by first|(simp;done)|(simp;omega)|omega))|(with_reducible refine zB.drew ?_)|(with_reducible refine zB.drewN ?_ _)|(refine zB.leaf (by assumption) ?_;(first|rfl|(simp;done)))))
 have hSd:Sd m w W:=by rw [← hW];exact ⟨rfl,rfl,rfl,by simp,fun b hb _=>Below.heap_alloc _ _ _ hb⟩
 have hm1:W.heap[m]?=some (.map #[] 0):=by rw [← hW];exact (Below.heap_alloc _ _ _ hml).trans hm
 have hs1:W.heap.size=w.heap.size+1:=by rw [← hW];simp
 refine (wpIn_wide (n:=10)).1 ?_
 refine zEG (gf:=61) (lb:=#[.pointer (some ⟨bx,0,none⟩)]) rfl (enters Tryd.func61 rfl rfl) (zID l B c bx hll) (fun _=>rfl)
   (fun k W'=>Blk W' w.heap.size #[.map (some m)]∧Sd m w W'∧W'.heap[m]?=some (.map (zh (KB.id k) (l.take k)) k))
   (fun _ _ _=>False) ?_ ?_ ?_ ?_ ?_ ?_ ?_
 ·rintro k W1 W2 ⟨a1,a2,a3⟩ ho
  have h5:=a2.size
  exact ⟨a1.off ho (by omega),⟨ho.os.trans a2.os,ho.tape.trans a2.tape,ho.output.trans a2.output,by have:=ho.size;omega,fun b hb hn=>(ho.block b (by omega) (by omega)).trans (a2.block b hb hn)⟩,(ho.block m (by omega) (by omega)).trans a3⟩
 ·exact fun _ _ _ _ h _=>h
 ·rintro k W' ⟨a1,a2,a3⟩
  refine ⟨?_,fun i x hx=>?_⟩
  ·have hl:=hbx.lt
   unfold Blk at hbx ⊢
   obtain ⟨t,ht⟩:=hbx
   exact ⟨t,(a2.block bx hl h1).trans ht⟩
  ·obtain ⟨b,o,hb,hlt,hc⟩:=HS.out i x hx
   have e:=a2.block b hlt (h2 b o hb)
   refine ⟨b,o,hb,by have:=a2.size;omega,fun j v hv=>?_⟩
   have:=hc j v hv
   simpa [World.cell?,e] using this
 ·exact ⟨z1,hSd,hm1⟩
 ·intro q k W' hk ⟨a1,a2,a3⟩ hsz K hK
  clear hW z1 hSd hm1
  have hrun:=fun (W:World) (h:W.heap[m]?=some (Obj.map (zh (KB.id k) (l.take k)) k))=>zFV hk h
  generalize l.getD k ⟨0,0,0,⟨0,0⟩⟩=me at *
  unfold vMe at *
  gi_wp2
  refine hK _ _ (zC7 _ _ (by omega)) (fun W2 ho2=>?_)
  have hsz2:=ho2.size
  have hsz':W'.heap.size+1≤W2.heap.size:=by simpa using hsz2
  have y0:Blk W2 w.heap.size #[.map (some m)]:=Blk.off (by (refine zAK ?_;repeat (first|(with_reducible refine zB.zAJ (by first|(simp;done)|(simp;omega)|omega) ?_;(first|rfl|(simp;done)))|(with_reducible refine zB.alloc ?_ _)|(with_reducible refine zB.far ?_ _ (by first|(simp;done)|(simp;omega)|omega))|(with_reducible refine zB.zy ?_ (by first|(simp;done)|(simp;omega)|omega))|(with_reducible refine zB.drew ?_)|(with_reducible refine zB.drewN ?_ _)|(refine zB.leaf (by assumption) ?_;(first|rfl|(simp;done)))))) ho2 (by omega)
  have yM:Blk W2 W'.heap.size #[.int .u8 me.kind,.int .i64 me.frm,.int .i64 me.to,.int .i64 me.value.lo,.int .i64 me.value.hi]:=Blk.off' (by (refine zAK ?_;repeat (first|(with_reducible refine zB.zAJ (by first|(simp;done)|(simp;omega)|omega) ?_;(first|rfl|(simp;done)))|(with_reducible refine zB.alloc ?_ _)|(with_reducible refine zB.far ?_ _ (by first|(simp;done)|(simp;omega)|omega))|(with_reducible refine zB.zy ?_ (by first|(simp;done)|(simp;omega)|omega))|(with_reducible refine zB.drew ?_)|(with_reducible refine zB.drewN ?_ _)|(refine zB.leaf (by assumption) ?_;(first|rfl|(simp;done)))))) ho2 (by omega)
  have y3:W2.heap[m]?=some (.map (zh (KB.id k) (l.take k)) k):=(ho2.block m (by simp;omega) (by omega)).trans ((Below.heap_alloc _ _ _ (by omega)).trans a3)
  have y2:Sd m w W2:=by
   have:=a2.size
   exact ⟨ho2.os.trans a2.os,ho2.tape.trans a2.tape,ho2.output.trans a2.output,by omega,fun b hb hn=>(ho2.block b (by simp;omega) (by omega)).trans ((Below.heap_alloc _ _ _ (by omega)).trans (a2.block b hb hn))⟩
  clear ho2 hsz2 a1 a2 a3 hK
  have hr:=hrun W2 y3
  obtain ⟨c0,f0,l0⟩:=y0.facts
  obtain ⟨cM,fM,lM⟩:=yM.facts
  gi_wp2
  refine ⟨⟨rfl,rfl,rfl,by simp [Go.ChangeMaps.setBlock],fun b h3 h4=>?_⟩,?_,⟨y2.os,y2.tape,y2.output,by simpa [Go.ChangeMaps.setBlock] using y2.size,fun b hb hn=>?_⟩,?_⟩
  ·simp only [Go.ChangeMaps.setBlock];rw [Array.getElem?_setIfInBounds_ne (by omega)]
  ·unfold Blk at y0 ⊢
   obtain ⟨t,ht⟩:=y0
   exact ⟨t,by simp only [Go.ChangeMaps.setBlock];rw [Array.getElem?_setIfInBounds_ne (by omega)];exact ht⟩
  ·simp only [Go.ChangeMaps.setBlock];rw [Array.getElem?_setIfInBounds_ne (fun e=>hn e.symm)];exact y2.block b hb hn
  ·have:m<W2.heap.size:=by omega
   simp [Go.ChangeMaps.setBlock,this]
 ·rintro W' ⟨a1,a2,a3⟩ hD hsz
  rw [List.take_length] at a3
  have hws:W.heap.size<W'.heap.size:=(Array.getElem?_eq_some_iff.1 hD).1
  have ho:=zAj W' (.deferred none) (lo:=W.heap.size) (hi:=W.heap.size+1) (Nat.le_refl _) (by omega)
  exact zCk hD (results_none rfl _ _ _) ⟨rfl,⟨ho.os.trans a2.os,ho.tape.trans a2.tape,ho.output.trans a2.output,by have:=ho.size;have:=a2.size;omega,fun b hb hn=>(ho.block b (by omega) (by omega)).trans (a2.block b hb hn)⟩,(ho.block m (by omega) (by omega)).trans a3⟩
 ·exact fun _ _ _ _ h=>h.elim
end Go.Proofs.YtcpdjamlhhfbhaaDoor
namespace Go.Proofs.YtcpdjamlhhfbhaaDoor
variable {ro : Option Nat}
open Go.RowKit
set_option maxRecDepth 20000
theorem zHu {α:Type} {p:Nat→α→Bool} {l:List α} {i:Nat} {x:α} (h:l[i]?=some x) (hp:p i x=true):0<(picks p l).length:=by
 unfold picks z0
 rw [List.length_map,List.length_pos_iff_exists_mem]
 exact ⟨i,List.mem_filter.2 ⟨List.mem_range.2 (List.getElem?_eq_some_iff.1 h).1,by simp [zCe,h,hp]⟩⟩
theorem zE3 {α:Type} {p:Nat→α→Bool} {l:List α} (h:∀ i x,l[i]?=some x→p i x=false):picks p l=[]:=by
 unfold picks z0
 rw [List.map_eq_nil_iff,List.filter_eq_nil_iff]
 intro i hi
 cases hx:l[i]? with
 | none=>simp [zCe,hx]
 | some x=>simp [zCe,hx,h i x hx]
theorem insert_F (l:List Me) (B:Option Addr) (c bx m:Nat) (w:World) (hll:l.length≤1000000) (hm:w.heap[m]?=some (.map #[] 0)) (hbx:Blk w bx #[.slice B l.length c]) (hs:zS zAt 5 w B l) (h1:bx≠m) (h2:∀ b o,B=some ⟨b,o,none⟩→b≠m) :
  zEi Tryd.prog 60 [.map (some m),.func (.func 61) #[] #[.pointer (some ⟨bx,0,none⟩)]] w [.map m #[] 0] (fun _:Unit=>.tuple #[]) (fun _=>[.map m (zh (KB.id l.length) l) l.length]) (fun _=>True):=by
 have hml:m<w.heap.size:=(Array.getElem?_eq_some_iff.1 hm).1
 refine zEi.of (Calls.mono (zHG l B c bx m w hll hm hbx hs h1 h2) ?_)
 rintro e w' ⟨rfl,a,b⟩
 refine ⟨(),trivial,rfl,⟨a.os,a.tape,a.output,a.size⟩,fun k hk hn=>a.block k hk (fun e=>hn (by subst e;exact ⟨_,List.mem_singleton.2 rfl,rfl⟩)),⟨fun e he=>?_,fun e he k hk=>?_,by simp⟩,fun k hk=>.inl ?_⟩
 ·simp only [List.mem_singleton] at he;subst he;exact b
 ·simp only [List.mem_singleton] at he;subst he;cases hk;have:=a.size;exact ⟨Nat.zero_le _,by omega⟩
 ·obtain ⟨e,he,hS⟩:=hk
  simp only [List.mem_singleton] at he;subst he
  exact ⟨_,List.mem_singleton.2 rfl,hS⟩
theorem zGs (l:List Me) (B:Option Addr) (c bx:Nat) (w:World) (hll:l.length≤1000000) (hbx:Blk w bx #[.slice B l.length c]) (hs:zS zAt 5 w B l) (hB:∀ b o,B=some ⟨b,o,none⟩→b<w.heap.size) :
  Ret Tryd.prog 49 [.func (.func 61) #[] #[.pointer (some ⟨bx,0,none⟩)]] w (fun m:Nat=>.map (some m)) (fun m=>[.map m (zh (KB.id l.length) l) l.length]) (fun _=>True):=by
 have hbl:=hbx.lt
 (refine zH (n:=9) Tryd.func49 rfl rfl rfl ?_)
 (repeat' (first|((with_reducible refine zI ?_);first|refine zF rfl rfl rfl ?_|refine zD rfl rfl rfl ?_|(refine zHm rfl rfl (fun m=>?_)))|(with_reducible first|refine zJ ?_|refine zC ?_|refine zG ?_|refine zA ?_)))
 refine zF0 [.map m #[] 0] [] rfl rfl rfl rfl (by (repeat constructor)) (fun a W q=>insert_F l B c bx m W hll (q.own.here (.map m #[] 0) (by simp)) (hbx.past q.below) (hs.below q.below) (by have:=(q.own.foot (.map m #[] 0) (by simp) m rfl).1;omega) (fun b o e=>by have:=hB b o e;have:=(q.own.foot (.map m #[] 0) (by simp) m rfl).1;omega)) (fun _ _=>?_)
 (repeat' (first|((with_reducible refine zI ?_);first|refine zF rfl rfl rfl ?_|refine zD rfl rfl rfl ?_)|(with_reducible first|refine zJ ?_|refine zC ?_|refine zG ?_|refine zA ?_|refine zg ?_)))
 exact zP (by exact rTm rfl) m trivial rfl (fun _ h=>h.sub (by (repeat constructor)))
theorem zEY (t:List St) (A:Option Addr) (cap:Nat) (l:List Me) (B:Option Addr) (c:Nat) (w:World) (ht:zS zO 9 w A t) (hs:zS zAt 5 w B l) (hf:zCb t) (hfm:zGy l) (hl:t.length≤1000) (hll:l.length≤1000) (h:valid t=false) :
  Gv Tryd.prog 29 [.agg #[.slice A t.length cap],.slice B l.length c] w (.tuple #[.agg #[.slice A t.length cap],.map none,.int .i64 10]):=by
 unfold Gv
 have h1:=fun W (hB:Below w.heap.size w W)=>zE5 t A cap W (ht.below hB) hf (by omega)
 simp only [zBz h] at h1
 (refine zH (n:=35) Tryd.func29 rfl rfl rfl ?_)
 (repeat' (first|((with_reducible refine zI ?_);first|refine zF rfl rfl rfl ?_|refine zD rfl rfl rfl ?_|(refine zf rfl rfl rfl ?_;refine ⟨_,rfl,?_⟩)|(refine zT rfl rfl rfl rfl rfl (fun h=>?_) (fun h=>?_)<;>(dsimp only [cmpP] at h;(try (exfalso;omega))))|refine zN rfl rfl rfl rfl (fun _ _ q=>h1 _ q.below) ?_|refine zZ rfl rfl rfl rfl ?_|(refine zQ rfl rfl rfl rfl rfl ?_;refine ⟨rfl,by first|decide|exact Nat.le_of_ble_eq_true rfl|(simp;omega),_,rfl,?_⟩)|(refine zV rfl rfl (fun b=>?_))|(refine zAD rfl rfl rfl rfl (fun b=>?_)))|(with_reducible first|refine zJ ?_|refine zC ?_|refine zG ?_|refine zA ?_|refine zg ?_|refine zq ?_)|((with_reducible refine zM ?_ ?_);(· exact rfl))))
 exact zP (by (exact zY.cons (by exact res1c rfl (by exact rfl)) (zY.cons (by exact zAW.tmp rfl) (zY.cons (by exact zAW.tmp rfl) zY.nil)))) () trivial rfl (fun _ h=>h.sub (by (repeat constructor)))
set_option maxHeartbeats 1000000 in
theorem zDo (t:List St) (A:Option Addr) (cap:Nat) (l:List Me) (B:Option Addr) (c:Nat) (w:World) (ht:zS zO 9 w A t) (hs:zS zAt 5 w B l) (hf:zCb t) (hfm:zGy l) (hl:t.length≤1000) (hll:l.length≤1000) (h:valid t=true) (hm:zB4 t.length l=false) :
  Gv Tryd.prog 29 [.agg #[.slice A t.length cap],.slice B l.length c] w (.tuple #[.agg #[.slice A t.length cap],.map none,.int .i64 11]):=by
 unfold Gv
 have h1:=fun W (hB:Below w.heap.size w W)=>zE5 t A cap W (ht.below hB) hf (by omega)
 simp only [zBG h] at h1
 have hp:¬ 12<l.length→0<(picks (fun _ m=>!zDb t.length m) l).length:=fun h12=>by
  simp only [zB4,Bool.and_eq_false_iff,decide_eq_false_iff_not,Nat.not_le,h12,false_or] at hm
  obtain ⟨x,hx,hx2⟩:=List.all_eq_false.1 hm
  obtain ⟨i,hi,rfl⟩:=List.getElem_of_mem hx
  exact zHu (i:=i) (x:=l[i]) (by simp [hi]) (by simpa using hx2)
 (refine zH (n:=35) Tryd.func29 rfl rfl rfl ?_)
 (repeat' (first|((with_reducible refine zI ?_);first|refine zF rfl rfl rfl ?_|refine zD rfl rfl rfl ?_|(refine zf rfl rfl rfl ?_;refine ⟨_,rfl,?_⟩)|refine zBS rfl rfl rfl rfl ?_|refine zBu rfl rfl rfl ?_|(refine zT rfl rfl rfl rfl rfl (fun h=>?_) (fun h=>?_)<;>(dsimp only [cmpP] at h;(try (exfalso;omega))))|refine zN rfl rfl rfl rfl (fun _ _ q=>h1 _ q.below) ?_|refine zz rfl rfl rfl rfl (fun _ _ q=>pickMe l B c _ _ (fun _ m=>!zDb t.length m) _ (hs.below q.below) (by omega) (fun i x W hi hB=>zDX t A cap i x _ W (by omega) (hfm x (List.mem_of_getElem? hi)) (zBW q.own hB))) (fun A' c'=>?_)|refine zZ rfl rfl rfl rfl ?_|refine zAx rfl rfl rfl ?_|(refine zQ rfl rfl rfl rfl rfl ?_;refine ⟨rfl,by first|decide|exact Nat.le_of_ble_eq_true rfl|(simp;omega),_,rfl,?_⟩)|(refine zV rfl rfl (fun b=>?_))|(refine zAD rfl rfl rfl rfl (fun b=>?_))|refine zA0 rfl rfl rfl rfl ?_)|(with_reducible first|refine zJ ?_|refine zC ?_|refine zG ?_|refine zA ?_|refine zg ?_|refine ze ?_|refine zq ?_)|((with_reducible refine zM ?_ ?_);(· exact rfl))|((with_reducible refine zL ?_ ?_);(· exact rfl))))
 all_goals exact zP (by (exact zY.cons (by exact res1c rfl (by exact rfl)) (zY.cons (by exact zAW.tmp rfl) (zY.cons (by exact zAW.tmp rfl) zY.nil)))) () trivial rfl (fun _ h=>h.sub (by (repeat constructor)))
theorem blk_of {base b:Nat} {cs:List Value} {H H':List Ent} {w:World} (ho:Own base w H) [i:zCz H b cs H']:Blk w b cs.toArray:=ho.here _ i.tk.mem
set_option maxHeartbeats 1000000 in
theorem zBx (t:List St) (A:Option Addr) (cap:Nat) (l:List Me) (B:Option Addr) (c:Nat) (w:World) (ht:zS zO 9 w A t) (hs:zS zAt 5 w B l) (hB:∀ b o,B=some ⟨b,o,none⟩→b<w.heap.size) (hf:zCb t) (hfm:zGy l) (hl:t.length≤1000) (hll:l.length≤1000) (h:valid t=true) (hm:zB4 t.length l=true) :
  Ret Tryd.prog 29 [.agg #[.slice A t.length cap],.slice B l.length c] w (fun m:Nat=>.tuple #[.agg #[.slice A t.length cap],.map (some m),.int .i64 0]) (fun m=>[.map m (zh (KB.id l.length) l) l.length]) (fun _=>True):=by
 have h1:=fun W (hB:Below w.heap.size w W)=>zE5 t A cap W (ht.below hB) hf (by omega)
 simp only [zBG h] at h1
 simp only [zB4,Bool.and_eq_true,decide_eq_true_eq] at hm
 obtain ⟨hm1,hm2⟩:=hm
 have hp:picks (fun _ m=>!zDb t.length m) l=[]:=zE3 fun i x hx=>by
  have:=List.all_eq_true.1 hm2 x (List.mem_of_getElem? hx)
  simp [this]
 have hp0:(picks (fun _ m=>!zDb t.length m) l).length=0:=by rw [hp];rfl
 (refine zH (n:=35) Tryd.func29 rfl rfl rfl ?_)
 (repeat' (first|((with_reducible refine zI ?_);first|refine zF rfl rfl rfl ?_|refine zD rfl rfl rfl ?_|(refine zf rfl rfl rfl ?_;refine ⟨_,rfl,?_⟩)|refine zBS rfl rfl rfl rfl ?_|(refine zT rfl rfl rfl rfl rfl (fun h=>?_) (fun h=>?_)<;>(dsimp only [cmpP] at h;(try (exfalso;omega))))|refine zN rfl rfl rfl rfl (fun _ _ q=>h1 _ q.below) ?_|refine zz rfl rfl rfl rfl (fun _ _ q=>pickMe l B c _ _ (fun _ m=>!zDb t.length m) _ (hs.below q.below) (by omega) (fun i x W hi hB=>zDX t A cap i x _ W (by omega) (hfm x (List.mem_of_getElem? hi)) (zBW q.own hB))) (fun A' c'=>?_)|refine zZ rfl rfl rfl rfl ?_|refine zAx rfl rfl rfl ?_|(refine zQ rfl rfl rfl rfl rfl ?_;refine ⟨rfl,by first|decide|exact Nat.le_of_ble_eq_true rfl|(simp;omega),_,rfl,?_⟩)|(refine zV rfl rfl (fun b=>?_))|(refine zAD rfl rfl rfl rfl (fun b=>?_))|refine zA0 rfl rfl rfl rfl ?_)|(with_reducible first|refine zJ ?_|refine zC ?_|refine zG ?_|refine zA ?_|refine ze ?_)|((with_reducible refine zL ?_ ?_);(· exact rfl))))
 (refine Two.zAU [] [] [] rfl (show ([]:List Nat).Nodup by decide) (fun _ h=>h) (by kernel_rfl) [[],[Y],[Z,Y],[Z,Z,Y],[Z,Z,Z,Z],[Z,Z,Z,Z,Z],[Z,Z,Z,Z,Z,Z]] (by kernel_rfl) (by kernel_rfl) (by kernel_rfl) (by kernel_rfl) (by kernel_rfl) ?_)
 (repeat' (first|(((with_reducible refine Two.zB0 ?_ ?_);(· exact rfl);refine ⟨_,fun G=>(by (try simp (decide:=true) only [Two.vis,Two.see,fltT,zc,Nat.reduceAdd,Nat.reduceSub,if_true,if_false,List.set_cons_zero,List.set_cons_succ,List.set_nil,List.nil_append,List.cons_append]);rfl),?_⟩);first|refine Two.zK _ (fun _=>zA5 rfl rfl) (fun _=>rfl) rfl (by intro G G' h;simp (decide:=true) only [h]) ?_|refine Two.zK _ (fun _=>zAA rfl rfl (by exact rfl)) (fun _=>rfl) rfl (by intro G G' h;simp (decide:=true) only [h]) ?_|refine Two.zHM (α:=Nat) rfl (fun _=>rfl) rfl (fun _=>rfl) (fun _=>rfl) (fun _ _ _ _=>all_any l B c _) ?_|refine Two.zHM (α:=Nat) rfl (fun _=>rfl) rfl (fun _=>rfl) (fun _=>rfl) (fun G a W q=>zGs l B c _ W (by omega) (blk_of q.own) (hs.below q.below) (fun b o e=>Nat.lt_of_lt_of_le (hB b o e) q.below.size)) ?_)|((with_reducible refine Two.zBE ?_ ?_);(· exact rfl))))
 (intro G;simp only [regsT,zc,Two.zAR,Two.ini,List.nil_append,List.cons_append])
 (repeat' (first|((with_reducible refine zI ?_);first|refine zD rfl rfl rfl ?_|(refine zQ rfl rfl rfl rfl rfl ?_;refine ⟨rfl,by first|decide|exact Nat.le_of_ble_eq_true rfl|(simp;omega),_,rfl,?_⟩))|(with_reducible first|refine zG ?_|refine zA ?_|refine zg ?_)))
 exact zP (by (exact zY.cons (by exact res1c rfl (by exact rfl)) (zY.cons (by exact zAW.tmp rfl) (zY.cons (by exact zAW.tmp rfl) zY.nil)))) (deC Nat (G 3).g) trivial rfl (fun _ h=>h.sub (by (repeat constructor)))
end Go.Proofs.YtcpdjamlhhfbhaaDoor
namespace Go.Proofs.YtcpdjamlhhfbhaaDoor
variable {ro : Option Nat}
open Go.RowKit
set_option maxRecDepth 20000
def rowC (n:Nat) (M:Mat) (i:Nat):List Value:=(List.range n).map fun j=>.int .i64 (M i j)
def tabC (n k:Nat) (gs:Nat→Nat):List Value:=(List.range n).map fun i=>if i<k then .slice (some ⟨gs i,0,none⟩) n n else .slice none 0 0
structure Grid (ab:Nat) (gs:Nat→Nat) (n k:Nat) (M:Mat) (w:World):Prop where
 tab:Blk w ab (tabC n k gs).toArray
 row:∀ i,i<k→Blk w (gs i) (rowC n M i).toArray
 inj:∀ i j,i<k→j<k→gs i=gs j→i=j
 ne:∀ i,i<k→gs i≠ab
 le:k≤n
def Ent.grid (ab:Nat) (gs:Nat→Nat) (n k:Nat) (M:Mat):Ent :=
 ⟨fun b=>b=ab∨∃ i,i<k∧gs i=b,Grid ab gs n k M,fun _ _ _ h hp=>⟨hp.tab.same (h ab (.inl rfl)),fun i hi=>(hp.row i hi).same (h _ (.inr ⟨i,hi,rfl⟩)),hp.inj,hp.ne,hp.le⟩⟩
class TakeG (H:List Ent) (ab:Nat) (gs:outParam (Nat→Nat)) (n k:outParam Nat) (M:outParam Mat) (H':outParam (List Ent)):Prop where tk:Take H (.grid ab gs n k M) H'
instance (priority := high) takeG_here {H:List Ent} {ab:Nat} {gs:Nat→Nat} {n k:Nat} {M:Mat}:TakeG (.grid ab gs n k M::H) ab gs n k M H:=⟨Take.here _ _⟩
instance takeG_there {H H':List Ent} {e:Ent} {ab:Nat} {gs:Nat→Nat} {n k:Nat} {M:Mat} [i:TakeG H ab gs n k M H']:TakeG (e::H) ab gs n k M (e::H'):=⟨Take.there _ i.tk⟩
class TakeR (H:List Ent) (gs:Nat→Nat) (ab:outParam Nat) (n k:outParam Nat) (M:outParam Mat) (H':outParam (List Ent)):Prop where tk:Take H (.grid ab gs n k M) H'
instance (priority := high) takeR_here {H:List Ent} {ab:Nat} {gs:Nat→Nat} {n k:Nat} {M:Mat}:TakeR (.grid ab gs n k M::H) gs ab n k M H:=⟨Take.here _ _⟩
instance takeR_there {H H':List Ent} {e:Ent} {ab:Nat} {gs:Nat→Nat} {n k:Nat} {M:Mat} [i:TakeR H gs ab n k M H']:TakeR (e::H) gs ab n k M (e::H'):=⟨Take.there _ i.tk⟩
class RowI (I k:Nat):Prop where lt:I<k
theorem rowC_get {n:Nat} {M:Mat} {i j:Nat} (h:j<n):(rowC n M i)[j]?=some (.int .i64 (M i j)):=by
 unfold rowC;rw [List.getElem?_map,List.getElem?_range h];rfl
theorem tabC_get {n k:Nat} {gs:Nat→Nat} {i:Nat} (h:i<n):(tabC n k gs)[i]?=some (if i<k then .slice (some ⟨gs i,0,none⟩) n n else .slice none 0 0):=by
 unfold tabC;rw [List.getElem?_map,List.getElem?_range h];rfl
section
variable {P : Program} {w0:World} {n:Nat} {d:List Deferred} {R:List (Nat × Value)} {H H':List Ent} {Q:Exit→Act→World→Prop} {ops:Array Oper} {rest:List Oper} {o:Oper} {t:Tmp} {x y:Operand} {v:Value} {X:Act→World→Prop}
instance (priority := high) srcI_tab {ab I n k:Nat} {gs:Nat→Nat} {M:Mat} [i:TakeG H ab gs n k M H'] [r:RowI I k]:zES w0 H ab (0+I * 1) [.slice (some ⟨gs I,0,none⟩) n n]:=⟨fun w hb ho j v hv=>by
 have hg:Grid ab gs n k M w:=ho.here _ i.tk.mem
 match j,hv with
 | 0,hv =>
  simp only [List.getElem?_cons_zero,Option.some.injEq] at hv
  subst hv
  have hlt:=r.lt
  have hle:=hg.le
  rw [hg.tab.cell]
  have:=tabC_get (k:=k) (gs:=gs) (show I<n by omega)
  rw [if_pos hlt] at this
  simpa using this⟩
instance (priority := high) srcI_row {I K n k ab:Nat} {gs:Nat→Nat} {M:Mat} [i:TakeR H gs ab n k M H'] [r:RowI I k] [r2:RowI K n]:zES w0 H (gs I) (0+K * 1) [.int .i64 (M I K)]:=⟨fun w hb ho j v hv=>by
 have hg:Grid ab gs n k M w:=ho.here _ i.tk.mem
 match j,hv with
 | 0,hv =>
  simp only [List.getElem?_cons_zero,Option.some.injEq] at hv
  subst hv
  rw [(hg.row I r.lt).cell]
  have:=rowC_get (M:=M) (i:=I) r2.lt
  simpa using this⟩
end
end Go.Proofs.YtcpdjamlhhfbhaaDoor
namespace Go.Proofs.YtcpdjamlhhfbhaaDoor
open Go.RowKit
set_option maxRecDepth 20000
def hullD (kind:Int) (s:List Sp) (ms:List Me):Mat:=meas kind (R0 s) ms
open Classical in
noncomputable def zFo (kind:Int) (s:List Sp) (ms:List Me):Bool:=decide (fine (s.length+1) (hullD kind s ms) (s.length+1))
end Go.Proofs.YtcpdjamlhhfbhaaDoor
namespace Go.Proofs.YtcpdjamlhhfbhaaDoor
variable {ro : Option Nat}
open Go.RowKit
set_option maxRecDepth 20000
def zHS (D E:Mat) (j:Nat) (s:St):St:={ s with long:=zEW D j,fall:=zEW E j }
noncomputable def rnB (t:List St) (ms:List Me):Bool:=zFo 1 (longs t) ms && zFo 2 (falls t) ms
noncomputable def hullE (kind:Int) (s:List Sp) (ms:List Me):Mat:=zp (hullD kind s ms) (s.length+1)
noncomputable def rnL (t:List St) (ms:List Me):List St:=zBF (zHS (hullE 1 (longs t) ms) (hullE 2 (falls t) ms)) t t.length
noncomputable def rnT (t:List St) (ms:List Me):List St:=if rnB t ms then rnL t ms else []
theorem zFj {t:List St}:(longs t).length=t.length:=by simp [longs]
theorem zFs {t:List St}:(falls t).length=t.length:=by simp [falls]
theorem zGY {t:List St} {f:St→Sp} (h:∀ s∈t,0≤(f s).lo∧(f s).lo≤(f s).hi∧(f s).hi≤30000):zC8 (t.map f):=fun i=>by
 unfold zCF
 rw [List.getD_eq_getElem?_getD,List.getElem?_map]
 cases hi:t[i]? with
 | none=>simp
 | some z=>simpa using h z (List.mem_of_getElem? hi)
theorem zGZ {t:List St} (h:∀ s∈t,zDB s):zC8 (longs t):=zGY fun s hs=>by have:=(h s hs).l0;have:=(h s hs).l1;have:=(h s hs).l2;omega
theorem zGa {t:List St} (h:∀ s∈t,zDB s):zC8 (falls t):=zGY fun s hs=>by have:=(h s hs).f0;have:=(h s hs).f1;have:=(h s hs).f2;omega
end Go.Proofs.YtcpdjamlhhfbhaaDoor
namespace Go.Proofs.YtcpdjamlhhfbhaaDoor
open Go.RowKit
set_option maxRecDepth 20000
noncomputable def zBT (t:List St) (ms:List Me):Int:=if valid t then (if zB4 t.length ms then (if rnB t ms then 0 else 8) else 11) else 10
noncomputable def nT (t:List St) (ms:List Me):List St:=if valid t && zB4 t.length ms then rnT t ms else []
theorem zB3 {n:Nat} {l:List Me} (h:zB4 n l=true):(∀ m∈l,zDb n m=true)∧l.length≤12:=by
 simp only [zB4,Bool.and_eq_true,decide_eq_true_eq] at h
 exact ⟨fun m hm=>List.all_eq_true.1 h.2 m hm,h.1⟩
theorem zFn {kind:Int} {s:List Sp} {ms:List Me}:zFo kind s ms=true↔fine (s.length+1) (hullD kind s ms) (s.length+1):=by simp [zFo]
theorem zAs {t:List St} {ms:List Me}:falls (stage1 t ms)=falls t:=by
 unfold falls stage1
 apply List.ext_getElem?
 intro j
 rw [List.getElem?_map,List.getElem?_map,zAe]
 cases t[j]? with
 | none=>rfl
 | some z=>by_cases h:j<t.length<;>simp [h,zA8]
theorem zBB {t:List St} {ms:List Me} (hv:valid t=true) (hm:zB4 t.length ms=true):zAr t ms=rnB t ms∧zA3 t ms=rnT t ms:=by
 have ho:=zAi hv
 have hlen:=zAl hv
 have hokm:∀ m∈ms,zCh (t.length+1) m:=fun m h=>zB1 ((zB3 hm).1 m h)
 have a1:=zEX (zGZ ho) (show t.length+1≤13 by omega) hokm (fun _=>Iff.rfl) 1
 have a2:=zEX (zGa ho) (show t.length+1≤13 by omega) hokm (fun _=>Iff.rfl) 2
 have b1:fine1 t ms↔zFo 1 (longs t) ms=true:=by rw [zFn,zFj];exact a1.1
 have b2:fine2 t ms↔zFo 2 (falls t) ms=true:=by
  rw [zFn,zFs]
  unfold fine2 zBP
  rw [zAs];exact a2.1
 have e:zAr t ms=rnB t ms:=by
  rw [Bool.eq_iff_iff]
  simp only [zAr,rnB,decide_eq_true_eq,Bool.and_eq_true,b1,b2]
 refine ⟨e,?_⟩
 unfold zA3 rnT
 rw [e]
 cases hB:rnB t ms with
 | false=>rfl
 | true =>
  simp only [if_true]
  simp only [rnB,Bool.and_eq_true] at hB
  have f1:=a1.2 (b1.2 hB.1)
  have f2:=a2.2 (by have:=b2.2 hB.2;unfold fine2 zBP at this;rw [zAs] at this;exact this)
  unfold stage2 rnL
  rw [zAs]
  apply List.ext_getElem?
  intro j
  rw [zAe,zAe]
  unfold stage1
  rw [zAe]
  cases hj:t[j]? with
  | none=>rfl
  | some z =>
   have hlt:=(List.getElem?_eq_some_iff.1 hj).1
   simp only [Option.map_some,hlt,if_true,zBI,zA8,zHS,zEW,hullE,hullD,dist,zFj,zFs]
   rw [f1 (j+1) j (by omega) (by omega),f1 j (j+1) (by omega) (by omega),f2 (j+1) j (by omega) (by omega),f2 j (j+1) (by omega) (by omega)]
theorem zHD {t:List St} {ms:List Me} (h1:valid t=true) (h2:zB4 t.length ms=true):nT t ms=rnT t ms:=by simp [nT,h1,h2]
theorem nT_no {t:List St} {ms:List Me} (h:zBT t ms≠0):nT t ms=[]:=by
 unfold nT rnT
 unfold zBT at h
 cases h1:valid t<;>cases h2:zB4 t.length ms<;>simp [h1,h2] at h ⊢
 simp [h]
end Go.Proofs.YtcpdjamlhhfbhaaDoor
