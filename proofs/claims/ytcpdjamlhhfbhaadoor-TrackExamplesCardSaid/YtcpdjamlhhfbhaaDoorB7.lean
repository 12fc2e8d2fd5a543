/- B7 -/
import Derived.Test.YtcpdjamlhhfbhaaDoorB1
import Derived.Test.YtcpdjamlhhfbhaaDoorB6
import Derived.Test.YtcpdjamlhhfbhaaDoorB5
set_option linter.unusedSimpArgs false
set_option linter.unusedVariables false
namespace Go.Proofs.YtcpdjamlhhfbhaaDoor
open Go.RowKit
theorem guardSp : Tryd.prog.eqGuardType Tryd.prog.depth 23=false:=by kernel_rfl
theorem guardSt : Tryd.prog.eqGuardType Tryd.prog.depth 62=false:=by kernel_rfl
theorem guardMe : Tryd.prog.eqGuardType Tryd.prog.depth 26=false:=by kernel_rfl
theorem heldSp : Tryd.prog.stoodInHeld 23=false:=by kernel_rfl
theorem heldSt : Tryd.prog.stoodInHeld 62=false:=by kernel_rfl
theorem heldMe : Tryd.prog.stoodInHeld 26=false:=by kernel_rfl
theorem eqSp_mk (a b c d:Int):zB7 ⟨a,b⟩ ⟨c,d⟩=(a == c && b == d):=by
 unfold zB7;rw [Bool.eq_iff_iff];simp
theorem eqSt_mk (i j:Int) (a b c d e f:Sp) (m n p q:Int):eqSt ⟨i,a,b,c,m,p⟩ ⟨j,d,e,f,n,q⟩=(i == j && (zB7 a d && (zB7 b e && (zB7 c f && (m == n && p == q))))):=by
 unfold eqSt zB7;rw [Bool.eq_iff_iff];simp
theorem eqMe_mk (k l f g t u:Int) (a b:Sp):eqMe ⟨k,f,t,a⟩ ⟨l,g,u,b⟩=(k == l && (f == g && (t == u && zB7 a b))):=by
 unfold eqMe zB7;rw [Bool.eq_iff_iff];simp
@[go_sem] theorem gd_sp (op:BinOp) (x y:Operand) (xs ys:Array Value) (w:World):(eqGuard op 23 x y (.agg xs) (.agg ys)).run Tryd.prog w = .ok () w:=run_eqGuard_agg _ _ _ _ _ _ _ guardSp
@[go_sem] theorem gd_st (op:BinOp) (x y:Operand) (xs ys:Array Value) (w:World):(eqGuard op 62 x y (.agg xs) (.agg ys)).run Tryd.prog w = .ok () w:=run_eqGuard_agg _ _ _ _ _ _ _ guardSt
@[go_sem] theorem gd_me (op:BinOp) (x y:Operand) (xs ys:Array Value) (w:World):(eqGuard op 26 x y (.agg xs) (.agg ys)).run Tryd.prog w = .ok () w:=run_eqGuard_agg _ _ _ _ _ _ _ guardMe
theorem zCI (d:Nat) (a b a' b':Int) (w:World):(Op.equalIn (d+2) 23 (.agg #[.int .i64 a,.int .i64 b]) (.agg #[.int .i64 a',.int .i64 b'])).run Tryd.prog w = .ok (zB7 ⟨a,b⟩ ⟨a',b'⟩) w:=by
 rw [run_equalIn_agg _ _ _ _ _ (by simp [go_sem]) heldSp,eqSp_mk]
 by_cases h1:a=a'<;>by_cases h2:b=b'<;>simp [go_sem,h1,h2]
@[go_sem ↓] theorem zG7 (a b a' b':Int) (w:World):(binOp .eql 23 (.agg #[.int .i64 a,.int .i64 b]) (.agg #[.int .i64 a',.int .i64 b'])).run Tryd.prog w = .ok (.bool (zB7 ⟨a,b⟩ ⟨a',b'⟩)) w:=by
 rw [run_eql_struct,zCI];rfl
@[go_sem ↓] theorem zG6 (a b a' b':Int) (w:World):(binOp .neq 23 (.agg #[.int .i64 a,.int .i64 b]) (.agg #[.int .i64 a',.int .i64 b'])).run Tryd.prog w = .ok (.bool (!zB7 ⟨a,b⟩ ⟨a',b'⟩)) w:=by
 rw [run_neq_struct,zCI];rfl
theorem zC3 (d:Nat) (s t:St) (w:World):(Op.equalIn (d+3) 62 (vSt s) (vSt t)).run Tryd.prog w = .ok (eqSt s t) w:=by
 obtain ⟨i,⟨a1,a2⟩,⟨b1,b2⟩,⟨c1,c2⟩,m,p⟩:=s
 obtain ⟨j,⟨d1,d2⟩,⟨e1,e2⟩,⟨f1,f2⟩,n,q⟩:=t
 unfold vSt
 rw [run_equalIn_agg _ _ _ _ _ (by simp [go_sem]) heldSt,eqSt_mk]
 simp [go_sem,zCI]
 generalize zB7 ⟨a1,a2⟩ ⟨d1,d2⟩=x1
 generalize zB7 ⟨b1,b2⟩ ⟨e1,e2⟩=x2
 generalize zB7 ⟨c1,c2⟩ ⟨f1,f2⟩=x3
 by_cases h1:i=j<;>by_cases h2:m=n<;>by_cases h3:p=q<;>cases x1<;>cases x2<;>cases x3<;>simp [h1,h2,h3]
theorem zEV (d:Nat) (s t:Me) (w:World):(Op.equalIn (d+3) 26 (vMe s) (vMe t)).run Tryd.prog w = .ok (eqMe s t) w:=by
 obtain ⟨i,a,b,c1,c2⟩:=s
 obtain ⟨j,d,e,f1,f2⟩:=t
 unfold vMe
 rw [run_equalIn_agg _ _ _ _ _ (by simp [go_sem]) heldMe,eqMe_mk]
 simp [go_sem,zCI]
 generalize zB7 ⟨c1,c2⟩ ⟨f1,f2⟩=x3
 by_cases h1:i=j<;>by_cases h2:a=d<;>by_cases h3:b=e<;>cases x3<;>simp [h1,h2,h3]
@[go_sem ↓] theorem run_eql_st (i j m n p q a1 a2 b1 b2 c1 c2 d1 d2 e1 e2 f1 f2:Int) (w:World):(binOp .eql 62 (.agg #[.int .i64 i,.int .i64 a1,.int .i64 a2,.int .i64 b1,.int .i64 b2,.int .i64 c1,.int .i64 c2,.int .u8 m,.int .i64 p]) (.agg #[.int .i64 j,.int .i64 d1,.int .i64 d2,.int .i64 e1,.int .i64 e2,.int .i64 f1,.int .i64 f2,.int .u8 n,.int .i64 q])).run Tryd.prog w = .ok (.bool (eqSt ⟨i,⟨a1,a2⟩,⟨b1,b2⟩,⟨c1,c2⟩,m,p⟩ ⟨j,⟨d1,d2⟩,⟨e1,e2⟩,⟨f1,f2⟩,n,q⟩)) w:=by
 have:=zC3 9997 ⟨i,⟨a1,a2⟩,⟨b1,b2⟩,⟨c1,c2⟩,m,p⟩ ⟨j,⟨d1,d2⟩,⟨e1,e2⟩,⟨f1,f2⟩,n,q⟩ w
 unfold vSt at this
 rw [run_eql_struct,this];rfl
@[go_sem ↓] theorem run_neq_st (i j m n p q a1 a2 b1 b2 c1 c2 d1 d2 e1 e2 f1 f2:Int) (w:World):(binOp .neq 62 (.agg #[.int .i64 i,.int .i64 a1,.int .i64 a2,.int .i64 b1,.int .i64 b2,.int .i64 c1,.int .i64 c2,.int .u8 m,.int .i64 p]) (.agg #[.int .i64 j,.int .i64 d1,.int .i64 d2,.int .i64 e1,.int .i64 e2,.int .i64 f1,.int .i64 f2,.int .u8 n,.int .i64 q])).run Tryd.prog w = .ok (.bool (!eqSt ⟨i,⟨a1,a2⟩,⟨b1,b2⟩,⟨c1,c2⟩,m,p⟩ ⟨j,⟨d1,d2⟩,⟨e1,e2⟩,⟨f1,f2⟩,n,q⟩)) w:=by
 have:=zC3 9997 ⟨i,⟨a1,a2⟩,⟨b1,b2⟩,⟨c1,c2⟩,m,p⟩ ⟨j,⟨d1,d2⟩,⟨e1,e2⟩,⟨f1,f2⟩,n,q⟩ w
 unfold vSt at this
 rw [run_neq_struct,this];rfl
@[go_sem ↓] theorem run_eql_me (k l f g t u a1 a2 d1 d2:Int) (w:World):(binOp .eql 26 (.agg #[.int .u8 k,.int .i64 f,.int .i64 t,.int .i64 a1,.int .i64 a2]) (.agg #[.int .u8 l,.int .i64 g,.int .i64 u,.int .i64 d1,.int .i64 d2])).run Tryd.prog w = .ok (.bool (eqMe ⟨k,f,t,⟨a1,a2⟩⟩ ⟨l,g,u,⟨d1,d2⟩⟩)) w:=by
 have:=zEV 9997 ⟨k,f,t,⟨a1,a2⟩⟩ ⟨l,g,u,⟨d1,d2⟩⟩ w
 unfold vMe at this
 rw [run_eql_struct,this];rfl
@[go_sem ↓] theorem run_neq_me (k l f g t u a1 a2 d1 d2:Int) (w:World):(binOp .neq 26 (.agg #[.int .u8 k,.int .i64 f,.int .i64 t,.int .i64 a1,.int .i64 a2]) (.agg #[.int .u8 l,.int .i64 g,.int .i64 u,.int .i64 d1,.int .i64 d2])).run Tryd.prog w = .ok (.bool (!eqMe ⟨k,f,t,⟨a1,a2⟩⟩ ⟨l,g,u,⟨d1,d2⟩⟩)) w:=by
 have:=zEV 9997 ⟨k,f,t,⟨a1,a2⟩⟩ ⟨l,g,u,⟨d1,d2⟩⟩ w
 unfold vMe at this
 rw [run_neq_struct,this];rfl
theorem zDK {w:World} {g:Nat} {x y:Value} (hk:Blk w g #[x,y]):(loadVar 23 ⟨g,0,none⟩).run Tryd.prog w = .ok (.agg #[x,y]) w:=by
 have h0:=hk.cell 0
 have h1:=hk.cell 1
 simp at h0 h1
 simp [go_sem,h0,h1]
theorem zHA {fn:Func} {t:Tmp} {tmps:Array Value} {w:World} {g:Nat} {x y:Value} (hr:fn.results=#[.cell t 23]) (hp:tmps.getD t undef = .pointer (some ⟨g,0,none⟩)) (hk:Blk w g #[x,y]) :
  (results fn tmps).run Tryd.prog w = .ok (.agg #[x,y]) w:=by
 simp [results,hr,-Array.getD_eq_getD_getElem?,hp,asAddr,zDK hk]
theorem zGV {fn:Func} {t u:Tmp} {tmps:Array Value} {w:World} {g g':Nat} {x y x' y':Value} (hr:fn.results=#[.cell t 23,.cell u 23]) (hp:tmps.getD t undef = .pointer (some ⟨g,0,none⟩)) (hk:Blk w g #[x,y]) (hp':tmps.getD u undef = .pointer (some ⟨g',0,none⟩)) (hk':Blk w g' #[x',y']) :
  (results fn tmps).run Tryd.prog w = .ok (.tuple #[.agg #[x,y],.agg #[x',y']]) w:=by
 simp [results,hr,-Array.getD_eq_getD_getElem?,hp,hp',asAddr,zDK hk,zDK hk']
theorem zCM {fn:Func} {t u s:Tmp} {tmps:Array Value} {w:World} {g g':Nat} {x y x' y':Value} (hr:fn.results=#[.cell t 23,.cell u 23,.tmp s]) (hp:tmps.getD t undef = .pointer (some ⟨g,0,none⟩)) (hk:Blk w g #[x,y]) (hp':tmps.getD u undef = .pointer (some ⟨g',0,none⟩)) (hk':Blk w g' #[x',y']) :
  (results fn tmps).run Tryd.prog w = .ok (.tuple #[.agg #[x,y],.agg #[x',y'],tmps.getD s undef]) w:=by
 simp [results,hr,-Array.getD_eq_getD_getElem?,hp,hp',asAddr,zDK hk,zDK hk']
theorem zCL {fn:Func} {t s:Tmp} {tmps:Array Value} {w:World} {g:Nat} {x y:Value} (hr:fn.results=#[.cell t 23,.tmp s]) (hp:tmps.getD t undef = .pointer (some ⟨g,0,none⟩)) (hk:Blk w g #[x,y]) :
  (results fn tmps).run Tryd.prog w = .ok (.tuple #[.agg #[x,y],tmps.getD s undef]) w:=by
 simp [results,hr,-Array.getD_eq_getD_getElem?,hp,asAddr,zDK hk]
end Go.Proofs.YtcpdjamlhhfbhaaDoor
namespace Go.Proofs.YtcpdjamlhhfbhaaDoor
open Go.RowKit
theorem in_fn (n lo hi:Int) (a b:Addr) (w:World) (ha:w.cell? a=some (.int .i64 lo)) (hb:w.cell? b=some (.int .i64 hi)) :
  zw 47 #[.int .i64 n,.pointer (some a),.pointer (some b)] w (.bool (!inB lo hi n)):=by
 unfold zw
 by_cases h:n<lo
 ·go_enter Tryd.func47,Tryd.ntmps47
  go_wp2
  go_ret
  exact ⟨zAo (congrArg Value.bool (by rw [Bool.eq_iff_iff];simp [inB];omega)),Below.refl _ _⟩
 ·go_enter Tryd.func47,Tryd.ntmps47
  go_wp2
  go_ret
  exact ⟨zAo (congrArg Value.bool (by rw [Bool.eq_iff_iff];simp [inB];omega)),Below.refl _ _⟩
def zGm {α:Type} (p:α→Bool) (l:List α):Int:=match l.findIdx? p with|some i=>i|none=>-1
theorem zH5 {α:Type} (p:α→Bool) (l:List α):decide (0≤zGm p l)=l.any p:=by
 unfold zGm
 rw [Bool.eq_iff_iff]
 cases h:l.findIdx? p with
 | none=>simp [List.findIdx?_eq_none_iff] at h;simp;exact h
 | some i =>
  simp
  have:=List.findIdx?_eq_some_iff_getElem.1 h
  obtain ⟨hi,hp,_⟩:=this
  exact ⟨l[i],List.getElem_mem hi,hp⟩
set_option maxHeartbeats 1000000 in
theorem zHH (l : List Int) (cap : Nat) (A : Option Addr) (k : FuncId) (c1 c2 : Value) (p : Int → Bool) (w : World)
   (hl:l.length≤1000000) (hk:zS encI 1 w A l)
   (hb:∀ args w,(callFunc k args).run Tryd.prog w = .ok (.enter k args) w)
   (hp:∀ x W,Below w.heap.size w W→zw k #[.int .i64 x,c1,c2] W (.bool (p x))) :
    zw 59 #[.slice A l.length cap,.func (.func k) #[] #[c1,c2]] w (.int .i64 (zGm p l)):=by
  unfold zw
  have HP:=Lib.hid hp
  clear hp
  have HK:=Lib.hid hk
  clear hk
  go_enter Tryd.func59,Tryd.ntmps59
  go_wp2
  go_loopw [8] (fun v wr=>∃ i:Nat,i≤l.length∧v = .int .i64 i∧Below w.heap.size w wr∧Hid (l.findIdx? p=((l.drop i).findIdx? p).map (· + i))) (fun v _=>l.length - (intOf v).toNat)
  case atStart=>exact ⟨0,Nat.zero_le _,rfl,Below.refl _ _,by unfold Hid;simp⟩
  case round =>
    obtain ⟨i,hi,rfl,hB,hF⟩:=hrel
    by_cases hlt:i<l.length
    · obtain ⟨b,o,rfl,hblt,hc⟩:=(HK.out.below hB).at_ hlt
      have hc':=hc 0 _ rfl
      simp only [Nat.add_zero,Nat.mul_one] at hc'
      clear hc
      go_wp2_with fail
      refine (HP.out _ _ hB).mono ?_
      rintro e w1 ⟨rfl,hb1⟩
      have hB1:Below w.heap.size w w1:=hB.trans (hb1.mono hB.size)
      clear hc'
      by_cases hpp:p l[i]=true
      · rw [hpp]
        go_wp2
        go_ret
        refine ⟨zAo ?_,hB1⟩
        unfold zGm
        rw [hF.out,List.drop_eq_getElem_cons hlt,List.findIdx?_cons,hpp]
        simp
      · have hpp':p l[i]=false:=by simpa using hpp
        rw [hpp']
        go_wp2
        go_roundw
        case rel =>
          refine ⟨i+1,by omega,by go_num,hB1,?_⟩
          unfold Hid
          rw [hF.out,List.drop_eq_getElem_cons hlt,List.findIdx?_cons,hpp']
          simp [Function.comp_def,Nat.add_assoc,Nat.add_comm 1]
        case measure=>simp [intOf];omega
    · go_wp2
      go_ret
      refine ⟨zAo ?_,hB⟩
      unfold zGm
      rw [hF.out,List.drop_eq_nil_of_le (by omega)]
      simp
set_option maxHeartbeats 1000000 in
theorem zFX (l : List Int) (cap : Nat) (A : Option Addr) (k : FuncId) (c1 c2 : Value) (p : Int → Bool) (w : World)
   (hl:l.length≤1000000) (hk:zS encI 1 w A l)
   (hb:∀ args w,(callFunc k args).run Tryd.prog w = .ok (.enter k args) w)
   (hp:∀ x W,Below w.heap.size w W→zw k #[.int .i64 x,c1,c2] W (.bool (p x))) :
    zw 46 #[.slice A l.length cap,.func (.func k) #[] #[c1,c2]] w (.bool (l.any p)):=by
  unfold zw
  have HI:=Lib.hid (zHH l cap A k c1 c2 p w hl hk hb hp)
  clear hp hb hk
  go_enter Tryd.func46,Tryd.ntmps46
  go_wp2_with fail
  refine HI.out.mono ?_
  rintro e w1 ⟨rfl,hb1⟩
  go_wp2
  go_ret
  exact ⟨zAo (by simp [zH5]),hb1⟩
theorem any_out (lo hi:Int) (l:List Int):(!(l.any fun n=>!inB lo hi n))=l.all (inB lo hi):=by
 induction l with
 | nil=>rfl
 | cons a l ih=>simp [← ih]
set_option maxHeartbeats 1000000 in
theorem zF9 (lo hi:Int) (l:List Int) (cap:Nat) (A:Option Addr) (w:World) (hl:l.length≤1000000) (hk:zS encI 1 w A l) :
  zw 27 #[.int .i64 lo,.int .i64 hi,.slice A l.length cap] w (.bool (l.all (inB lo hi))):=by
 unfold zw
 have HK:=Lib.hid hk
 clear hk
 go_enter Tryd.func27,Tryd.ntmps27
 go_wp2_with fail
 refine (zFX l cap A 47 _ _ (fun n=>!inB lo hi n) _ hl ((HK.out.alloc _).alloc _) (enters Tryd.func47 (by kernel_rfl) rfl) ?_).mono ?_
 ·intro x W hW
  refine in_fn x lo hi _ _ W ?_ ?_
  ·rw [hW.cell (by simp<;>omega)];simp
  ·rw [hW.cell (by simp<;>omega)];simp
 ·rintro e w1 ⟨rfl,hb1⟩
  go_wp2
  go_ret
  exact ⟨zAo (by first|rfl|simp [any_out]),((zl w _).trans ((zl _ _).mono (by simp))).trans (hb1.mono (by simp<;>omega))⟩
theorem zHr (w:World) (t:TypeId) (x:Int):zS encI 1 (w.alloc (.cells #[.int .i64 x] t)) (some ⟨w.heap.size,0,none⟩) [x]:=by
 intro i y hy
 rcases i with _|i
 ·simp at hy;subst hy
  refine ⟨_,_,rfl,by simp,fun j v hv=>?_⟩
  rcases j with _|j
  ·simp [encI] at hv;subst hv;simp
  ·simp [encI] at hv
 ·simp at hy
theorem zHq (w:World) (t:TypeId) (x y:Int):zS encI 1 (w.alloc (.cells #[.int .i64 x,.int .i64 y] t)) (some ⟨w.heap.size,0,none⟩) [x,y]:=by
 intro i z hz
 refine ⟨_,_,rfl,by simp,fun j v hv=>?_⟩
 rcases j with _|j
 ·rcases i with _ | _|i
  ·simp at hz;subst hz;simp [encI] at hv;subst hv;simp
  ·simp at hz;subst hz;simp [encI] at hv;subst hv;simp
  ·simp at hz
 ·simp [encI] at hv
theorem zFG (lo hi x:Int) (c:Nat) (t:TypeId) (b:Nat) (w:World) (hb:b=w.heap.size) :
  zw 27 #[.int .i64 lo,.int .i64 hi,.slice (some ⟨b,0,none⟩) 1 c] (w.alloc (.cells #[.int .i64 x] t)) (.bool (inB lo hi x)):=by
 subst hb
 exact (zF9 lo hi [x] c _ _ (by simp) (zHr w t x)).of (by simp)
theorem zF8 (lo hi x y:Int) (c:Nat) (t:TypeId) (b:Nat) (w:World) (hb:b=w.heap.size) :
  zw 27 #[.int .i64 lo,.int .i64 hi,.slice (some ⟨b,0,none⟩) 2 c] (w.alloc (.cells #[.int .i64 x,.int .i64 y] t)) (.bool (inB lo hi x && inB lo hi y)):=by
 subst hb
 exact (zF9 lo hi [x,y] c _ _ (by simp) (zHq w t x y)).of (by simp)
set_option maxHeartbeats 1000000 in
theorem zEK (s:Sp) (lo hi:Int) (w:World):zw 40 #[vSp s,.int .i64 lo,.int .i64 hi] w (.bool (zB5 s lo hi)):=by
 unfold zw vSp
 cases h1:inB lo hi s.lo && inB lo hi s.hi
 all_goals
  have H1:=Lib.hid h1
  clear h1
  go_enter Tryd.func40,Tryd.ntmps40
  go_wp2_with fail
  refine (zF8 lo hi s.lo s.hi _ _ _ _ (by simp)).mono ?_
  rintro e w1 ⟨rfl,hb1⟩
  rw [H1.out]
  obtain ⟨hc,hf⟩:=bcell hb1
  go_wp2
  go_ret
  refine ⟨zAo (congrArg Value.bool ?_),((zl w _).trans ((zl _ _).mono (by simp))).trans (hb1.mono (by simp<;>omega))⟩
  unfold zB5
  rw [H1.out]
  simp
def vT (A:Option Addr) (n c:Nat):Value:=.agg #[.slice A n c]
end Go.Proofs.YtcpdjamlhhfbhaaDoor
namespace Go.Proofs.YtcpdjamlhhfbhaaDoor
open Go.RowKit
set_option maxRecDepth 20000
theorem in1 (lo hi a:Int) (c:Nat) (A:Option Addr) (w:World) (hk:zS encI 1 w A [a]):Gv Tryd.prog 27 [.int .i64 lo,.int .i64 hi,.slice A 1 c] w (.bool (inB lo hi a)) :=
 ((zF9 lo hi [a] c A w (by simp) hk).of (by simp)).gv
theorem in2 (lo hi a b:Int) (c:Nat) (A:Option Addr) (w:World) (hk:zS encI 1 w A [a,b]):Gv Tryd.prog 27 [.int .i64 lo,.int .i64 hi,.slice A 2 c] w (.bool (inB lo hi a && inB lo hi b)) :=
 ((zF9 lo hi [a,b] c A w (by simp) hk).of (by simp)).gv
instance : zDh encI 1:=⟨fun _=>rfl,fun _=>one_i⟩
theorem zBA (a b:Int) (w:World):Gv Tryd.prog 4 [.int .i64 a,.int .i64 b] w (vSp ⟨a,b⟩):=by
 unfold Gv
 (refine zH (n:=8) Tryd.func4 rfl rfl rfl ?_)
 (repeat' (first|((with_reducible refine zI ?_);first|refine zF rfl rfl rfl ?_|(refine zQ rfl rfl rfl rfl rfl ?_;refine ⟨rfl,by first|decide|exact Nat.le_of_ble_eq_true rfl|(simp;omega),_,rfl,?_⟩)|(refine zV rfl rfl (fun b=>?_))|(refine zAH rfl rfl rfl ?_;refine ⟨_,rfl,?_⟩))|(with_reducible first|refine zJ ?_|refine zC ?_|refine zG ?_|refine zA ?_|refine zg ?_)))
 exact zP (by (exact zY.cons (by exact res1c rfl (by exact rfl)) zY.nil)) () trivial rfl (fun _ h=>h.sub (by (repeat constructor)))
end Go.Proofs.YtcpdjamlhhfbhaaDoor
namespace Go.Proofs.YtcpdjamlhhfbhaaDoor
open Go.RowKit
set_option maxRecDepth 20000
instance : zDh zO 9:=⟨fun _=>rfl,one_st⟩
instance : zDh zAt 5:=⟨fun _=>rfl,one_me⟩
instance : ElI Tryd.prog 39 3 1 8:=⟨⟨_,elem_i⟩⟩
instance : ElI Tryd.prog 52 23 2 16:=⟨⟨_,zHb⟩⟩
instance : zDh zBH 2:=⟨fun _=>rfl,fun _=>one_sp⟩
end Go.Proofs.YtcpdjamlhhfbhaaDoor
namespace Go.Proofs.YtcpdjamlhhfbhaaDoor
open Go.RowKit
set_option maxRecDepth 20000
set_option maxHeartbeats 2000000 in
theorem pickSp (l:List Sp) (A:Option Addr) (cap:Nat) (kf:FuncId) [zR Tryd.prog kf] (cs:Array Value) (p:Nat→Sp→Bool) (w:World) (hk:zS zBH 2 w A l) (hl:l.length≤100000)
  (hp:∀ (i:Nat) x W,l[i]?=some x→Below w.heap.size w W→Gv Tryd.prog kf ([.int .i64 (i:Int),vSp x]++cs.toList) W (.bool (p i x))) :
  zAh encI 1 (picks p l) (fun v=>v) Tryd.prog 36 [.slice A l.length cap,.func (.func kf) #[] cs] w:=by
 unfold zAh
 (refine zH (n:=25) Tryd.func36 rfl rfl rfl ?_)
 (repeat' (first|((with_reducible refine zI ?_);first|refine zF rfl rfl rfl ?_|refine zD rfl rfl rfl ?_|refine zAx rfl rfl rfl ?_)|(with_reducible first|refine zJ ?_|refine zC ?_|refine zG ?_|refine zA ?_|refine zb ?_)))
 refine zCQ encI 1 3 ?_
 refine zAc (ι:=Nat × Value) (fun i=>i.1≤l.length) (fun i=>[(1,.func (.func kf) #[] cs),(5,i.2),(8,.slice A l.length cap),(9,.int .i64 (l.length:Int)),(10,.int .i64 (i.1:Int))]) (fun i=>[.row encI 1 3 i.2 (z0 p l i.1)]) (fun i=>l.length - i.1) (0,.slice none 0 0) (Nat.zero_le _) (by (repeat first|exact lK1|refine zW rfl ?_)) (by (repeat constructor)) ?_
 rintro ⟨i,v⟩ hi
 simp only at hi ⊢
 have hpl:=zBN p l i
 by_cases hlt:i<l.length
 ·have hx:l[i]?=some l[i]:=by simp [hlt]
  obtain ⟨b,o,rfl,hblt,hc⟩:=hk.at_ hlt
  have:InS w b o zBH 2 l:=⟨hk⟩
  have:zCG l i l[i]:=⟨hx⟩
  have hso:zCe p l i=p i l[i]:=by simp [zCe,hlt]
  (repeat' (first|((with_reducible refine zI ?_);first|refine zF rfl rfl rfl ?_|refine zD rfl rfl rfl ?_|(refine zf rfl rfl rfl ?_;refine ⟨_,rfl,?_⟩)|(refine zT rfl rfl rfl rfl rfl (fun h=>?_) (fun h=>?_)<;>(dsimp only [cmpP] at h;(try (exfalso;omega))))|(refine zBj rfl rfl rfl rfl (fun _ _ q=>hp i _ _ hx q.below) (fun h=>?_) (fun h=>?_)<;>(try (exfalso;omega)))|(refine zBk (enc:=encI) [_] rfl rfl rfl (by (repeat constructor)) rfl rfl (zAu (by exact rfl)) (by refine ⟨?_,by decide⟩;(try simp only [List.length_append,List.length_cons,List.length_nil]);omega) (fun A' c'=>?_))|refine zAY rfl rfl rfl rfl (by omega) ?_|refine zBv rfl rfl rfl rfl rfl (by omega) ?_|(refine zQ rfl rfl rfl rfl rfl ?_;refine ⟨rfl,by first|decide|exact Nat.le_of_ble_eq_true rfl|(simp;omega),_,rfl,?_⟩)|(refine zV rfl rfl (fun b=>?_))|(refine zi rfl rfl rfl ?_;refine ⟨rfl,_,rfl,fun b=>?_⟩))|(with_reducible first|refine zJ ?_|refine zC ?_|refine zG ?_|refine zA ?_|refine ze ?_|refine zb ?_|refine zAL ?_)|((with_reducible refine zM ?_ ?_);(· exact rfl))|((with_reducible refine zL ?_ ?_);(· exact rfl))))
  ·refine zm (i+1,.slice A' (z0 p l i++[(i:Int)]).length c') (by simp only;omega) (by simp only;omega) (by (repeat first|exact lK1|refine zW rfl ?_)) ?_
   rw [zAq (hso.trans h)]
   (repeat constructor)
  ·refine zm (i+1,v) (by simp only;omega) (by simp only;omega) (by (repeat first|exact lK1|refine zW rfl ?_)) ?_
   rw [zA2 (hso.trans h)]
   (repeat constructor)
 ·obtain rfl:i=l.length:=by omega
  (repeat' (first|((with_reducible refine zI ?_);first|refine zF rfl rfl rfl ?_|refine zD rfl rfl rfl ?_|(refine zT rfl rfl rfl rfl rfl (fun h=>?_) (fun h=>?_)<;>(dsimp only [cmpP] at h;(try (exfalso;omega)))))|(with_reducible first|refine zJ ?_|refine zC ?_|refine zG ?_|refine zA ?_|refine zg ?_|refine zAd ?_|refine zo ?_|refine zx ?_)|((with_reducible refine zL ?_ ?_);(· exact rfl))))
  refine zBa (enc:=encI) (by (repeat constructor)) ?_
  rintro A' c' rfl
  exact zP (by exact rTm rfl) (A',c') trivial rfl (fun _ h=>(h.zEF (by (repeat constructor))).sub (by (repeat constructor)))
end Go.Proofs.YtcpdjamlhhfbhaaDoor
namespace Go.Proofs.YtcpdjamlhhfbhaaDoor
variable {ro : Option Nat}
open Go.RowKit
set_option maxRecDepth 20000
section
variable {P : Program} {w0:World} {n:Nat} {d:List Deferred} {R:List (Nat × Value)} {H H':List Ent} {Q:Exit→Act→World→Prop} {ops:Array Oper} {rest:List Oper} {o:Oper} {t:Tmp} {x y:Operand} {v:Value} {X:Act→World→Prop}
theorem u_strSl {T:TypeId} {s:Nat} {g:Bool} {z:ByteArray} {lo hi:Option Operand} (r:ByteArray) (L M:Nat) (hop:o.op = .slice T x lo hi none) [i1:TyI P T .string s g] (hrd:rdy R ops n o=some t) (hx:evR R x=some (.string z))
  (hl:bnd R lo 0=some (L:Int)) (hu:bnd R hi z.size=some (M:Int)) (h1:L≤M) (h2:Nat.ble M z.size=true) (hr:z.extract L M=r)
  (h:U w0 n d ((t,.string r)::R) H (wpL ro P ops Q rest)):U w0 n d R H (wpL ro P ops Q (o::rest)):=by
 subst hr
 refine zAX hrd (fun a w q=>?_) h
 unfold execOp;rw [hop]
 have h2':=Nat.le_of_ble_eq_true h2
 have e1:=run_underlying i1.und w
 have b1:∀ (r:Nat) (code:BoundsCode) (z:Nat),z≤r→∀ k,(Instr.sliceBound (.int k (z:Int)) r code).run P w = .ok z w:=fun r code z hz k=>by
  simp [Instr.sliceBound,asIntOf,hz]
 have hlo:(∃ k,lo.map a.eval=some (.int k (L:Int)))∨(lo=none∧L=0):=by
  cases lo with
  | none=>simp only [bnd,Option.some.injEq] at hl;exact .inr ⟨rfl,by omega⟩
  | some y =>
   simp only [bnd] at hl
   cases hy:evR R y with
   | none=>rw [hy] at hl;simp at hl
   | some v =>
    rw [hy] at hl
    cases v<;>simp at hl
    rename_i k i
    subst hl
    exact .inl ⟨k,by simp [q.ev hy]⟩
 have hhi:(∃ k,hi.map a.eval=some (.int k (M:Int)))∨(hi=none∧M=z.size):=by
  cases hi with
  | none=>simp only [bnd,Option.some.injEq] at hu;exact .inr ⟨rfl,by omega⟩
  | some y =>
   simp only [bnd] at hu
   cases hy:evR R y with
   | none=>rw [hy] at hu;simp at hu
   | some v =>
    rw [hy] at hu
    cases v<;>simp at hu
    rename_i k i
    subst hu
    exact .inl ⟨k,by simp [q.ev hy]⟩
 rcases hlo with ⟨k1,hlo⟩ | ⟨hlo,rfl⟩<;>rcases hhi with ⟨k2,hhi⟩ | ⟨hhi,rfl⟩ <;>
  simp [Instr.sliceAt,Instr.slice,e1,q.ev hx,Instr.sliceBounds,hlo,hhi,b1,h1,h2']
theorem u_strAdd {T T':TypeId} {a b:ByteArray} (r:ByteArray) (hop:o.op = .binOp .add T x y T') (hrd:rdy R ops n o=some t) (hx:evR R x=some (.string a)) (hy:evR R y=some (.string b)) (hs:Nat.ble (a.size+b.size) 1000000=true) (hr:a++b=r)
  (h:U w0 n d ((t,.string r)::R) H (wpL ro P ops Q rest)):U w0 n d R H (wpL ro P ops Q (o::rest)):=by
 subst hr
 refine zAX hrd (fun ac w q=>?_) h
 unfold execOp;rw [hop]
 have h2:=Nat.le_of_ble_eq_true hs
 have h3:¬ (((a.size+b.size:Nat):Int) > IntKind.i64.max):=by
  have:IntKind.i64.max=9223372036854775807:=by decide
  omega
 simp [q.ev hx,q.ev hy,eqGuard,binOp,Op.stringOp]
 omega
end
namespace Two
section
variable {S : List (Nat × Nat)} {I:List (Nat × Nat × Nat × List Ent)} {P:Program} {w0:World} {n:Nat} {d:List Deferred} {R R0:List (Nat × Value)} {H H' H0:List Ent} {Q:Exit→Act→World→Prop} {ops:Array Oper} {bs:List (List Bool)} {b:List Bool} {k:Nat} {o:Oper} {rest:List Oper} {T:List Rw} {t:Tmp} {Hk:zAC→List Ent} {x y:Operand} {v:Value}
theorem c_strNe {T1 T2:TypeId} {z:ByteArray} (hop:o.op = .binOp .neq T1 x y T2) (hw:∀ G,want (Rk R0 ops b o T G) ops o=some true) (hd:o.dst=some t) (hx:∀ G,evR (Rk R0 ops b o T G) x=some (.string z)) (hy:∀ G,evR (Rk R0 ops b o T G) y=some (.string z))
  (h:zAG ro S I P w0 n d ops R0 H0 Q bs (k+1) rest (⟨k,some t,fun _=>(.bool false,[])⟩::T)):CAt ro S I P w0 n d ops R0 H0 Q b bs k o rest T Hk:=by
 refine zK (fun _=>.bool false) (fun G=>?_) hw hd (fun _ _ _=>rfl) h
 intro a w q
 unfold execOp;rw [hop]
 simp [q.ev (hx G),q.ev (hy G),eqGuard,binOp,Op.stringOp]
end
end Two
theorem small10 (w:World):Gv Tryd.prog 64 [.int .i64 10] w (.string ⟨#[49,48]⟩):=by
 unfold Gv
 (refine zH (n:=15) Tryd.func64 rfl rfl rfl ?_)
 (repeat' (first|((with_reducible refine zI ?_);first|refine zF rfl rfl rfl ?_|refine zD rfl rfl rfl ?_|(refine zT rfl rfl rfl rfl rfl (fun h=>?_) (fun h=>?_)<;>(dsimp only [cmpP] at h;(try (exfalso;omega))))|refine u_strSl ⟨#[49,48]⟩ 20 22 rfl rfl rfl rfl rfl (by omega) (by kernel_rfl) (by kernel_rfl) ?_|refine zGI rfl rfl rfl rfl (IntWalk.i64_in _ (by omega)) ?_|refine u_mul rfl rfl rfl rfl (IntWalk.i64_in _ (by omega)) ?_)|(with_reducible first|refine zJ ?_|refine zC ?_|refine zG ?_|refine zA ?_|refine zg ?_|refine ze ?_)|((with_reducible refine zL ?_ ?_);(· exact rfl))))
 exact zP (by exact rTm rfl) () trivial rfl (fun _ h=>h.sub (by (repeat constructor)))
theorem format10 (w:World):Gv Tryd.prog 58 [.int .i64 10,.int .i64 10] w (.string ⟨#[49,48]⟩):=by
 unfold Gv
 (refine zH (n:=54) Tryd.func58 rfl rfl rfl ?_)
 (repeat' (first|((with_reducible refine zI ?_);first|refine zF rfl rfl rfl ?_|refine zD rfl rfl rfl ?_|refine zBS rfl rfl rfl rfl ?_|(refine zT rfl rfl rfl rfl rfl (fun h=>?_) (fun h=>?_)<;>(dsimp only [cmpP] at h;(try (exfalso;omega))))|refine zN rfl rfl rfl rfl (fun _ _ q=>small10 _) ?_)|(with_reducible first|refine zJ ?_|refine zC ?_|refine zG ?_|refine zA ?_|refine zg ?_|refine zq ?_)|((with_reducible refine zM ?_ ?_);(· exact rfl))))
 exact zP (by exact rTm rfl) () trivial rfl (fun _ h=>h.sub (by (repeat constructor)))
theorem itoa10 (w:World):Gv Tryd.prog 41 [.int .i64 10] w (.string ⟨#[49,48]⟩):=by
 unfold Gv
 (refine zH (n:=5) Tryd.func41 rfl rfl rfl ?_)
 (repeat' (first|((with_reducible refine zI ?_);first|refine zF rfl rfl rfl ?_|refine zD rfl rfl rfl ?_|refine zN rfl rfl rfl rfl (fun _ _ q=>format10 _) ?_)|(with_reducible first|refine zJ ?_|refine zC ?_|refine zG ?_|refine zA ?_|refine zg ?_)))
 exact zP (by exact rTm rfl) () trivial rfl (fun _ h=>h.sub (by (repeat constructor)))
theorem sitoa10 (w:World):Gv Tryd.prog 20 [.int .i64 10] w (.string ⟨#[49,48]⟩):=by
 unfold Gv
 (refine zH (n:=5) Tryd.func20 rfl rfl rfl ?_)
 (repeat' (first|((with_reducible refine zI ?_);first|refine zF rfl rfl rfl ?_|refine zD rfl rfl rfl ?_|refine zN rfl rfl rfl rfl (fun _ _ q=>itoa10 _) ?_)|(with_reducible first|refine zJ ?_|refine zC ?_|refine zG ?_|refine zA ?_|refine zg ?_)))
 exact zP (by exact rTm rfl) () trivial rfl (fun _ h=>h.sub (by (repeat constructor)))
theorem error10 (w:World):Gv Tryd.prog 5 [.int .i64 10] w (.string ⟨#[101,114,114,111,114,32,49,48]⟩):=by
 unfold Gv
 (refine zH (n:=6) Tryd.func5 rfl rfl rfl ?_)
 (repeat' (first|((with_reducible refine zI ?_);first|refine zF rfl rfl rfl ?_|refine zD rfl rfl rfl ?_|refine zN rfl rfl rfl rfl (fun _ _ q=>sitoa10 _) ?_|refine u_strAdd ⟨#[101,114,114,111,114,32,49,48]⟩ rfl rfl rfl rfl (by kernel_rfl) (by kernel_rfl) ?_)|(with_reducible first|refine zJ ?_|refine zC ?_|refine zG ?_|refine zA ?_|refine zg ?_)))
 exact zP (by exact rTm rfl) () trivial rfl (fun _ h=>h.sub (by (repeat constructor)))
end Go.Proofs.YtcpdjamlhhfbhaaDoor
namespace Go.Proofs.YtcpdjamlhhfbhaaDoor
abbrev Mat := Nat→Nat→Int
def zDl (x:Nat) (M:Mat):Mat:=fun i k=>min (M i k) (M i x+M x k)
def zp (M:Mat):Nat→Mat
 | 0=>M
 | x+1=>zDl x (zp M x)
def fine (n:Nat) (M:Mat) (x:Nat):Prop:=∀ y,y≤x→∀ i,i<n→0≤zp M y i i
def Tri (n:Nat) (E:Mat):Prop:=∀ i k y,i<n→k<n→y<n→E i k≤E i y+E y k
def Le (n:Nat) (E M:Mat):Prop:=∀ i k,i<n→k<n→E i k≤M i k
def zCD (n:Nat) (M:Mat):Prop:=∀ i,i<n→M i i=0
theorem step_le (x:Nat) (M:Mat) (i k:Nat):zDl x M i k≤M i k:=by unfold zDl;omega
theorem zGA (M:Mat):∀ x i k,zp M x i k≤M i k
 | 0,_,_=>Int.le_refl _
 | x+1,i,k=>Int.le_trans (step_le x _ i k) (zGA M x i k)
theorem zDO {n:Nat} {M:Mat} (h0:zCD n M) {x:Nat} (hf:fine n M x):zCD n (zp M x):=fun i hi=>by
 have h1:=zGA M x i i
 have h2:=hf x (Nat.le_refl _) i hi
 have h3:=h0 i hi
 omega
theorem fine.mono {n:Nat} {M:Mat} {x y:Nat} (h:fine n M x) (hy:y≤x):fine n M y:=fun z hz i hi=>h z (by omega) i hi
theorem zGk {n:Nat} {M:Mat} (h0:zCD n M):∀ x,x≤n→fine n M x→∀ y,y<x→∀ i k,i<n→k<n→zp M x i k≤zp M x i y+zp M x y k
 | 0,_,_,y,hy,_,_,_,_=>by omega
 | x+1,hx,hf,y,hy,i,k,hi,hk=>by
  have hf':=hf.mono (Nat.le_succ x)
  have hd:=zDO h0 hf'
  have ih:=zGk h0 x (by omega) hf'
  have dx:=hd x (by omega)
  simp only [zp,zDl]
  by_cases hyx:y=x
  ·subst hyx
   omega
  ·have hy':y<x:=by omega
   have a1:=ih y hy' i k hi hk
   have a2:=ih y hy' x k (by omega) hk
   have a3:=ih y hy' i x hi (by omega)
   have a4:=ih y hy' x x (by omega) (by omega)
   omega
theorem fw_tri {n:Nat} {M:Mat} (h0:zCD n M) (hf:fine n M n):Tri n (zp M n):=fun i k y hi hk hy=>zGk h0 n (Nat.le_refl n) hf y hy i k hi hk
theorem zGj {n:Nat} {M E:Mat} (hE:Tri n E) (h:Le n E M):∀ x,x≤n→Le n E (zp M x)
 | 0,_=>h
 | x+1,hx=>fun i k hi hk=>by
  have ih:=zGj hE h x (by omega)
  have a1:=ih i k hi hk
  have a2:=ih i x hi (by omega)
  have a3:=ih x k (by omega) hk
  have a4:=hE i k x hi hk (by omega)
  simp only [zp,zDl]
  omega
theorem zDq {n:Nat} {M1 M2:Mat} (h1:zCD n M1) (h:∀ E,Tri n E→zCD n E→Le n E M1→Le n E M2) (hf:fine n M1 n):fine n M2 n∧Le n (zp M1 n) (zp M2 n):=by
 have ht:=fw_tri h1 hf
 have hd:=zDO h1 hf
 have hl:=h _ ht hd (fun i k _ _=>zGA M1 n i k)
 have ha:=zGj ht hl
 refine ⟨fun y hy i hi=>?_,ha n (Nat.le_refl n)⟩
 have:=ha y hy i i hi hi
 rw [hd i hi] at this
 exact this
theorem zHZ {n:Nat} {M1 M2:Mat} (h1:zCD n M1) (h2:zCD n M2) (ha:∀ E,Tri n E→zCD n E→Le n E M1→Le n E M2) (hb:∀ E,Tri n E→zCD n E→Le n E M2→Le n E M1) :
  (fine n M1 n↔fine n M2 n)∧(fine n M1 n→∀ i k,i<n→k<n→zp M1 n i k=zp M2 n i k):=by
 refine ⟨⟨fun h=>(zDq h1 ha h).1,fun h=>(zDq h2 hb h).1⟩,fun h i k hi hk=>?_⟩
 have x1:=(zDq h1 ha h).2 i k hi hk
 have x2:=(zDq h2 hb (zDq h1 ha h).1).2 i k hi hk
 omega
theorem fw_bd {n:Nat} {M:Mat} {B:Int} (h:∀ i k,i<n→k<n→-B≤M i k∧M i k≤B) (hB:0≤B):∀ x,x≤n→∀ i k,i<n→k<n→-(2 ^ x * B)≤zp M x i k∧zp M x i k≤B
 | 0,_,i,k,hi,hk=>by simpa [zp] using h i k hi hk
 | x+1,hx,i,k,hi,hk=>by
  have ih:=fw_bd h hB x (by omega)
  have a1:=ih i k hi hk
  have a2:=ih i x hi (by omega)
  have a3:=ih x k (by omega) hk
  have e:(2:Int) ^ (x+1) * B=2 * (2 ^ x * B):=by rw [Int.pow_succ];rw [Int.mul_comm ((2:Int) ^ x) 2,Int.mul_assoc]
  have hp:0≤(2:Int) ^ x * B:=Int.mul_nonneg (Int.pow_nonneg (by omega)) hB
  rw [e]
  simp only [zp,zDl]
  omega
def zCF (s:List Sp) (i:Nat):Sp:=s.getD i ⟨0,0⟩
def far : Int:=1073741824
def T0 (s:List Sp):Mat:=fun i k=>if i=k then 0 else if k=i+1 then (zCF s i).hi else if i=k+1 then -(zCF s k).lo else far
def zCs (s:List Sp) (i:Nat):Nat→Int
 | 0=>0
 | d+1=>zCs s i d+(zCF s (i+d)).hi
def zDU (s:List Sp) (i:Nat):Nat→Int
 | 0=>0
 | d+1=>zDU s i d+(zCF s (i+d)).lo
def R0 (s:List Sp):Mat:=fun i k=>if i≤k then zCs s i (k - i) else -(zDU s k (i - k))
def zAv (M:Mat) (a b:Nat) (v:Int):Mat:=fun i k=>if i=a∧k=b then v else M i k
def zBD (kind:Int) (M:Mat) (m:Me):Mat :=
 if m.kind=kind then
  let M':=zAv M m.frm.toNat m.to.toNat (min (M m.frm.toNat m.to.toNat) m.value.hi)
  zAv M' m.to.toNat m.frm.toNat (min (M' m.to.toNat m.frm.toNat) (-m.value.lo))
 else M
def meas (kind:Int) (M:Mat) (ms:List Me):Mat:=ms.foldl (zBD kind) M
def zCh (n:Nat) (m:Me):Prop:=1≤m.kind∧m.kind≤2∧0≤m.frm∧m.frm<m.to∧m.to<n∧0≤m.value.lo∧m.value.lo≤m.value.hi∧m.value.hi≤360000
theorem le_putMe {n:Nat} {kind:Int} {E M:Mat} {m:Me} (hm:zCh n m):Le n E (zBD kind M m)↔Le n E M∧(m.kind=kind→E m.frm.toNat m.to.toNat≤m.value.hi∧E m.to.toNat m.frm.toNat≤-m.value.lo):=by
 obtain ⟨-,-,h1,h2,h3,-⟩:=hm
 have hf:m.frm.toNat<n:=by omega
 have ht:m.to.toNat<n:=by omega
 have hne:m.frm.toNat≠m.to.toNat:=by omega
 unfold zBD
 by_cases hk:m.kind=kind
 ·rw [if_pos hk]
  simp only [hk,forall_const,true_imp_iff]
  constructor
  ·intro h
   have a1:=h _ _ hf ht
   have a2:=h _ _ ht hf
   simp only [zAv,if_true,and_self,hne,Ne.symm hne,false_and,if_false,and_false] at a1 a2
   refine ⟨fun i k hi hk=>?_,by omega,by omega⟩
   have a3:=h i k hi hk
   simp only [zAv] at a3
   split at a3
   ·rename_i e;obtain ⟨rfl,rfl⟩:=e
    simp only [hne,Ne.symm hne,false_and,if_false,and_false] at a3
    omega
   ·split at a3
    ·rename_i e;obtain ⟨rfl,rfl⟩:=e;omega
    ·exact a3
  ·rintro ⟨h,b1,b2⟩ i k hi hk
   have a1:=h i k hi hk
   simp only [zAv]
   split
   ·rename_i e;obtain ⟨rfl,rfl⟩:=e
    simp only [hne,Ne.symm hne,false_and,if_false,and_false]
    omega
   ·split
    ·rename_i e;obtain ⟨rfl,rfl⟩:=e;omega
    ·exact a1
 ·rw [if_neg hk]
  exact ⟨fun h=>⟨h,fun e=>absurd e hk⟩,fun h=>h.1⟩
theorem zBy {n:Nat} {kind:Int} {E:Mat}:∀ (ms:List Me) (M:Mat),(∀ m∈ms,zCh n m)→(Le n E (meas kind M ms)↔Le n E M∧∀ m∈ms,m.kind=kind→E m.frm.toNat m.to.toNat≤m.value.hi∧E m.to.toNat m.frm.toNat≤-m.value.lo)
 | [],M,_=>by simp [meas]
 | m::r,M,h=>by
  have ih:=zBy (E:=E) (kind:=kind) r (zBD kind M m) (fun x hx=>h x (by simp [hx]))
  have hp:=le_putMe (E:=E) (kind:=kind) (M:=M) (h m (by simp))
  simp only [meas,List.foldl_cons] at ih ⊢
  rw [ih,hp]
  constructor
  ·rintro ⟨⟨a,b⟩,c⟩
   refine ⟨a,fun x hx=>?_⟩
   rcases List.mem_cons.1 hx with rfl|hx
   ·exact b
   ·exact c x hx
  ·rintro ⟨a,b⟩
   exact ⟨⟨a,b m (by simp)⟩,fun x hx=>b x (by simp [hx])⟩
theorem zHJ {n:Nat} {kind:Int} {M:Mat} {m:Me} (hm:zCh n m) (h:zCD n M):zCD n (zBD kind M m):=fun i hi=>by
 obtain ⟨-,-,h1,h2,h3,-⟩:=hm
 have hne:m.frm.toNat≠m.to.toNat:=by omega
 unfold zBD
 split
 ·simp only [zAv]
  rw [if_neg (by omega),if_neg (by omega)]
  exact h i hi
 ·exact h i hi
theorem zBg {n:Nat} {kind:Int}:∀ (ms:List Me) (M:Mat),(∀ m∈ms,zCh n m)→zCD n M→zCD n (meas kind M ms)
 | [],_,_,h=>h
 | m::r,M,hm,h=>zBg r (zBD kind M m) (fun x hx=>hm x (by simp [hx])) (zHJ (hm m (by simp)) h)
theorem zD2 (n:Nat) (s:List Sp):zCD n (T0 s):=fun i _=>by simp [T0]
theorem R0_diag (n:Nat) (s:List Sp):zCD n (R0 s):=fun i _=>by simp [R0,zCs]
def zC8 (s:List Sp):Prop:=∀ i,0≤(zCF s i).lo∧(zCF s i).lo≤(zCF s i).hi∧(zCF s i).hi≤30000
theorem zGL {s:List Sp} (h:zC8 s) (i:Nat):∀ d:Nat,0≤zCs s i d∧zCs s i d≤30000 * d
 | 0=>by simp [zCs]
 | d+1=>by
  have:=zGL h i d;have:=h (i+d)
  simp only [zCs];omega
theorem zGK {s:List Sp} (h:zC8 s) (i:Nat):∀ d:Nat,0≤zDU s i d∧zDU s i d≤30000 * d
 | 0=>by simp [zDU]
 | d+1=>by
  have:=zGK h i d;have:=h (i+d)
  simp only [zDU];omega
theorem zGi {n:Nat} {s:List Sp} {E:Mat} (hE:Tri n E) (hd:zCD n E) (h:Le n E (T0 s)) (i:Nat):∀ d,i+d<n→E i (i+d)≤zCs s i d
 | 0,hi=>by have:=hd i (by omega);simp [zCs];omega
 | d+1,hi=>by
  have ih:=zGi hE hd h i d (by omega)
  have a1:=hE i (i+(d+1)) (i+d) (by omega) hi (by omega)
  have a2:=h (i+d) (i+(d+1)) (by omega) hi
  have e:T0 s (i+d) (i+(d+1))=(zCF s (i+d)).hi:=by
   unfold T0;rw [if_neg (by omega),if_pos (by omega)]
  rw [e] at a2
  simp only [zCs];omega
theorem zGd {n:Nat} {s:List Sp} {E:Mat} (hE:Tri n E) (hd:zCD n E) (h:Le n E (T0 s)) (i:Nat):∀ d,i+d<n→E (i+d) i≤-(zDU s i d)
 | 0,hi=>by have:=hd i (by omega);simp [zDU];omega
 | d+1,hi=>by
  have ih:=zGd hE hd h i d (by omega)
  have a1:=hE (i+(d+1)) i (i+d) hi (by omega) (by omega)
  have a2:=h (i+(d+1)) (i+d) hi (by omega)
  have e:T0 s (i+(d+1)) (i+d) = -(zCF s (i+d)).lo:=by
   unfold T0;rw [if_neg (by omega),if_neg (by omega),if_pos (by omega)]
  rw [e] at a2
  simp only [zDU];omega
theorem T0_R0 {n:Nat} {s:List Sp} {E:Mat} (hE:Tri n E) (hd:zCD n E) (h:Le n E (T0 s)):Le n E (R0 s):=fun i k hi hk=>by
 unfold R0
 split
 ·have:=zGi hE hd h i (k - i) (by omega)
  rwa [show i+(k - i)=k by omega] at this
 ·have:=zGd hE hd h k (i - k) (by omega)
  rwa [show k+(i - k)=i by omega] at this
theorem R0_T0 {n:Nat} {s:List Sp} (hs:zC8 s) (hn:n≤13):Le n (R0 s) (T0 s):=fun i k hi hk=>by
 unfold R0 T0
 by_cases e:i=k
 ·subst e;simp [zCs]
 rw [if_neg e]
 by_cases e1:k=i+1
 ·subst e1
  rw [if_pos (by omega),if_pos rfl,show i+1 - i=0+1 by omega]
  simp [zCs]
 rw [if_neg e1]
 by_cases e2:i=k+1
 ·subst e2
  rw [if_neg (by omega),if_pos rfl,show k+1 - k=0+1 by omega]
  simp [zDU]
 rw [if_neg e2]
 unfold far
 split
 ·have:=zGL hs i (k - i);omega
 ·have:=zGK hs k (i - k);omega
theorem zEX {n:Nat} {s:List Sp} (hs:zC8 s) (hn:n≤13) {ms ms':List Me} (hm:∀ m∈ms,zCh n m) (hp:∀ m,m∈ms'↔m∈ms) (kind:Int) :
  (fine n (meas kind (T0 s) ms') n↔fine n (meas kind (R0 s) ms) n)∧(fine n (meas kind (T0 s) ms') n→∀ i k,i<n→k<n→zp (meas kind (T0 s) ms') n i k=zp (meas kind (R0 s) ms) n i k):=by
 have hm':∀ m∈ms',zCh n m:=fun m h=>hm m ((hp m).1 h)
 refine zHZ (zBg ms' _ hm' (zD2 n s)) (zBg ms _ hm (R0_diag n s)) (fun E hE hd h=>?_) (fun E hE hd h=>?_)
 ·obtain ⟨h1,h2⟩:=(zBy ms' _ hm').1 h
  exact (zBy ms _ hm).2 ⟨T0_R0 hE hd h1,fun m hx=>h2 m ((hp m).2 hx)⟩
 ·obtain ⟨h1,h2⟩:=(zBy ms _ hm).1 h
  exact (zBy ms' _ hm').2 ⟨fun i k hi hk=>Int.le_trans (h1 i k hi hk) (R0_T0 hs hn i k hi hk),fun m hx=>h2 m ((hp m).1 hx)⟩
end Go.Proofs.YtcpdjamlhhfbhaaDoor
