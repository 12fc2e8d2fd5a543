/- S7 -/
import Derived.Test.YtcpdjamlhhfbhaaGreatS1
import Derived.Test.YtcpdjamlhhfbhaaGreatS6
import Derived.Test.YtcpdjamlhhfbhaaGreatS2
set_option linter.unusedSimpArgs false
set_option linter.unusedVariables false
namespace Go.Proofs.YtcpdjamlhhfbhaaGreat
open Go.RowKit
theorem guardSp : Tryz.prog.eqGuardType Tryz.prog.depth 26=false:=by kernel_rfl
theorem guardSt : Tryz.prog.eqGuardType Tryz.prog.depth 70=false:=by kernel_rfl
theorem heldSp : Tryz.prog.stoodInHeld 26=false:=by kernel_rfl
theorem heldSt : Tryz.prog.stoodInHeld 70=false:=by kernel_rfl
theorem eqSp_mk (a b c d:Int):zCH ⟨a,b⟩ ⟨c,d⟩=(a == c && b == d):=by
 unfold zCH;rw [Bool.eq_iff_iff];simp
theorem eqSt_mk (i j:Int) (a b c d e f:Sp) (m n p q:Int):eqSt ⟨i,a,b,c,m,p⟩ ⟨j,d,e,f,n,q⟩=(i == j && (zCH a d && (zCH b e && (zCH c f && (m == n && p == q))))):=by
 unfold eqSt zCH;rw [Bool.eq_iff_iff];simp
@[go_sem] theorem gd_sp (op:BinOp) (x y:Operand) (xs ys:Array Value) (w:World):(eqGuard op 26 x y (.agg xs) (.agg ys)).run Tryz.prog w = .ok () w:=run_eqGuard_agg _ _ _ _ _ _ _ guardSp
@[go_sem] theorem gd_st (op:BinOp) (x y:Operand) (xs ys:Array Value) (w:World):(eqGuard op 70 x y (.agg xs) (.agg ys)).run Tryz.prog w = .ok () w:=run_eqGuard_agg _ _ _ _ _ _ _ guardSt
theorem zCh (d:Nat) (a b a' b':Int) (w:World):(Op.equalIn (d+2) 26 (.agg #[.int .i64 a,.int .i64 b]) (.agg #[.int .i64 a',.int .i64 b'])).run Tryz.prog w = .ok (zCH ⟨a,b⟩ ⟨a',b'⟩) w:=by
 rw [run_equalIn_agg _ _ _ _ _ (by simp [go_sem]) heldSp,eqSp_mk]
 by_cases h1:a=a'<;>by_cases h2:b=b'<;>simp [go_sem,h1,h2]
@[go_sem ↓] theorem zGL (a b a' b':Int) (w:World):(binOp .eql 26 (.agg #[.int .i64 a,.int .i64 b]) (.agg #[.int .i64 a',.int .i64 b'])).run Tryz.prog w = .ok (.bool (zCH ⟨a,b⟩ ⟨a',b'⟩)) w:=by
 rw [run_eql_struct,zCh];rfl
@[go_sem ↓] theorem zGK (a b a' b':Int) (w:World):(binOp .neq 26 (.agg #[.int .i64 a,.int .i64 b]) (.agg #[.int .i64 a',.int .i64 b'])).run Tryz.prog w = .ok (.bool (!zCH ⟨a,b⟩ ⟨a',b'⟩)) w:=by
 rw [run_neq_struct,zCh];rfl
theorem zDp (d:Nat) (s t:St) (w:World):(Op.equalIn (d+3) 70 (vSt s) (vSt t)).run Tryz.prog w = .ok (eqSt s t) w:=by
 obtain ⟨i,⟨a1,a2⟩,⟨b1,b2⟩,⟨c1,c2⟩,m,p⟩:=s
 obtain ⟨j,⟨d1,d2⟩,⟨e1,e2⟩,⟨f1,f2⟩,n,q⟩:=t
 unfold vSt
 rw [run_equalIn_agg _ _ _ _ _ (by simp [go_sem]) heldSt,eqSt_mk]
 simp [go_sem,zCh]
 generalize zCH ⟨a1,a2⟩ ⟨d1,d2⟩=x1
 generalize zCH ⟨b1,b2⟩ ⟨e1,e2⟩=x2
 generalize zCH ⟨c1,c2⟩ ⟨f1,f2⟩=x3
 by_cases h1:i=j<;>by_cases h2:m=n<;>by_cases h3:p=q<;>cases x1<;>cases x2<;>cases x3<;>simp [h1,h2,h3]
@[go_sem ↓] theorem run_eql_st (i j m n p q a1 a2 b1 b2 c1 c2 d1 d2 e1 e2 f1 f2:Int) (w:World):(binOp .eql 70 (.agg #[.int .i64 i,.int .i64 a1,.int .i64 a2,.int .i64 b1,.int .i64 b2,.int .i64 c1,.int .i64 c2,.int .u8 m,.int .i64 p]) (.agg #[.int .i64 j,.int .i64 d1,.int .i64 d2,.int .i64 e1,.int .i64 e2,.int .i64 f1,.int .i64 f2,.int .u8 n,.int .i64 q])).run Tryz.prog w = .ok (.bool (eqSt ⟨i,⟨a1,a2⟩,⟨b1,b2⟩,⟨c1,c2⟩,m,p⟩ ⟨j,⟨d1,d2⟩,⟨e1,e2⟩,⟨f1,f2⟩,n,q⟩)) w:=by
 have:=zDp 9997 ⟨i,⟨a1,a2⟩,⟨b1,b2⟩,⟨c1,c2⟩,m,p⟩ ⟨j,⟨d1,d2⟩,⟨e1,e2⟩,⟨f1,f2⟩,n,q⟩ w
 unfold vSt at this
 rw [run_eql_struct,this];rfl
@[go_sem ↓] theorem run_neq_st (i j m n p q a1 a2 b1 b2 c1 c2 d1 d2 e1 e2 f1 f2:Int) (w:World):(binOp .neq 70 (.agg #[.int .i64 i,.int .i64 a1,.int .i64 a2,.int .i64 b1,.int .i64 b2,.int .i64 c1,.int .i64 c2,.int .u8 m,.int .i64 p]) (.agg #[.int .i64 j,.int .i64 d1,.int .i64 d2,.int .i64 e1,.int .i64 e2,.int .i64 f1,.int .i64 f2,.int .u8 n,.int .i64 q])).run Tryz.prog w = .ok (.bool (!eqSt ⟨i,⟨a1,a2⟩,⟨b1,b2⟩,⟨c1,c2⟩,m,p⟩ ⟨j,⟨d1,d2⟩,⟨e1,e2⟩,⟨f1,f2⟩,n,q⟩)) w:=by
 have:=zDp 9997 ⟨i,⟨a1,a2⟩,⟨b1,b2⟩,⟨c1,c2⟩,m,p⟩ ⟨j,⟨d1,d2⟩,⟨e1,e2⟩,⟨f1,f2⟩,n,q⟩ w
 unfold vSt at this
 rw [run_neq_struct,this];rfl
theorem zFR {w:World} {g:Nat} {x y:Value} (hk:Blk w g #[x,y]):(loadVar 26 ⟨g,0,none⟩).run Tryz.prog w = .ok (.agg #[x,y]) w:=by
 have h0:=hk.cell 0
 have h1:=hk.cell 1
 simp at h0 h1
 simp [go_sem,h0,h1]
theorem zGN {fn:Func} {t:Tmp} {tmps:Array Value} {w:World} {g:Nat} {x y:Value} (hr:fn.results=#[.cell t 26]) (hp:tmps.getD t undef = .pointer (some ⟨g,0,none⟩)) (hk:Blk w g #[x,y]) :
  (results fn tmps).run Tryz.prog w = .ok (.agg #[x,y]) w:=by
 simp [results,hr,-Array.getD_eq_getD_getElem?,hp,asAddr,zFR hk]
theorem zDq {fn:Func} {t u:Tmp} {tmps:Array Value} {w:World} {g g':Nat} {x y x' y':Value} (hr:fn.results=#[.cell t 26,.cell u 26]) (hp:tmps.getD t undef = .pointer (some ⟨g,0,none⟩)) (hk:Blk w g #[x,y]) (hp':tmps.getD u undef = .pointer (some ⟨g',0,none⟩)) (hk':Blk w g' #[x',y']) :
  (results fn tmps).run Tryz.prog w = .ok (.tuple #[.agg #[x,y],.agg #[x',y']]) w:=by
 simp [results,hr,-Array.getD_eq_getD_getElem?,hp,hp',asAddr,zFR hk,zFR hk']
end Go.Proofs.YtcpdjamlhhfbhaaGreat
namespace Go.Proofs.YtcpdjamlhhfbhaaGreat
open Go.RowKit
theorem in_fn (n lo hi:Int) (a b:Addr) (w:World) (ha:w.cell? a=some (.int .i64 lo)) (hb:w.cell? b=some (.int .i64 hi)) :
  zAE 130 #[.int .i64 n,.pointer (some a),.pointer (some b)] w (.bool (!inB lo hi n)):=by
 unfold zAE
 by_cases h:n<lo
 ·go_enter Tryz.func130,Tryz.ntmps130
  go_wp2
  go_ret
  exact ⟨zAk (congrArg Value.bool (by rw [Bool.eq_iff_iff];simp [inB];omega)),Below.refl _ _⟩
 ·go_enter Tryz.func130,Tryz.ntmps130
  go_wp2
  go_ret
  exact ⟨zAk (congrArg Value.bool (by rw [Bool.eq_iff_iff];simp [inB];omega)),Below.refl _ _⟩
def zCb {α:Type} (p:α→Bool) (l:List α):Int:=match l.findIdx? p with|some i=>i|none=>-1
theorem zCs {α:Type} (p:α→Bool) (l:List α):decide (0≤zCb p l)=l.any p:=by
 unfold zCb
 rw [Bool.eq_iff_iff]
 cases h:l.findIdx? p with
 | none=>simp [List.findIdx?_eq_none_iff] at h;simp;exact h
 | some i =>
  simp
  have:=List.findIdx?_eq_some_iff_getElem.1 h
  obtain ⟨hi,hp,_⟩:=this
  exact ⟨l[i],List.getElem_mem hi,hp⟩
set_option maxHeartbeats 1000000 in
theorem zGV (l : List Int) (cap : Nat) (A : Option Addr) (k : FuncId) (c1 c2 : Value) (p : Int → Bool) (w : World)
   (hl:l.length≤1000000) (hk:zg encI 1 w A l)
   (hb:∀ args w,(callFunc k args).run Tryz.prog w = .ok (.enter k args) w)
   (hp:∀ x W,Below w.heap.size w W→zAE k #[.int .i64 x,c1,c2] W (.bool (p x))) :
    zAE 103 #[.slice A l.length cap,.func (.func k) #[] #[c1,c2]] w (.int .i64 (zCb p l)):=by
  unfold zAE
  have HP:=Lib.hid hp
  clear hp
  have HK:=Lib.hid hk
  clear hk
  go_enter Tryz.func103,Tryz.ntmps103
  go_wp2
  go_loopw [8] (fun v wr=>∃ i:Nat,i≤l.length∧v = .int .i64 i∧Below w.heap.size w wr∧Hid (l.findIdx? p=((l.drop i).findIdx? p).map (· + i))) (fun v _=>l.length - (intOf v).toNat)
  case atStart=>exact ⟨0,Nat.zero_le _,rfl,Below.refl _ _,by unfold Hid;simp⟩
  case round =>
    obtain ⟨i,hi,rfl,hB,hF⟩:=hrel
    by_cases hlt:i<l.length
    · obtain ⟨b,o,rfl,hblt,hc⟩:=(HK.out.below hB).at_ hlt
      have hc':=hc 0 _ rfl
      simp only [Nat.add_zero,Nat.mul_one] at hc'
      clear hc
      go_wp2_with fail
      refine (HP.out _ _ hB).mono ?_
      rintro e w1 ⟨rfl,hb1⟩
      have hB1:Below w.heap.size w w1:=hB.trans (hb1.mono hB.size)
      clear hc'
      by_cases hpp:p l[i]=true
      · rw [hpp]
        go_wp2
        go_ret
        refine ⟨zAk ?_,hB1⟩
        unfold zCb
        rw [hF.out,List.drop_eq_getElem_cons hlt,List.findIdx?_cons,hpp]
        simp
      · have hpp':p l[i]=false:=by simpa using hpp
        rw [hpp']
        go_wp2
        go_roundw
        case rel =>
          refine ⟨i+1,by omega,by go_num,hB1,?_⟩
          unfold Hid
          rw [hF.out,List.drop_eq_getElem_cons hlt,List.findIdx?_cons,hpp']
          simp [Function.comp_def,Nat.add_assoc,Nat.add_comm 1]
        case measure=>simp [intOf];omega
    · go_wp2
      go_ret
      refine ⟨zAk ?_,hB⟩
      unfold zCb
      rw [hF.out,List.drop_eq_nil_of_le (by omega)]
      simp
set_option maxHeartbeats 1000000 in
theorem zEo (l : List Int) (cap : Nat) (A : Option Addr) (k : FuncId) (c1 c2 : Value) (p : Int → Bool) (w : World)
   (hl:l.length≤1000000) (hk:zg encI 1 w A l)
   (hb:∀ args w,(callFunc k args).run Tryz.prog w = .ok (.enter k args) w)
   (hp:∀ x W,Below w.heap.size w W→zAE k #[.int .i64 x,c1,c2] W (.bool (p x))) :
    zAE 61 #[.slice A l.length cap,.func (.func k) #[] #[c1,c2]] w (.bool (l.any p)):=by
  unfold zAE
  have HI:=Lib.hid (zGV l cap A k c1 c2 p w hl hk hb hp)
  clear hp hb hk
  go_enter Tryz.func61,Tryz.ntmps61
  go_wp2_with fail
  refine HI.out.mono ?_
  rintro e w1 ⟨rfl,hb1⟩
  go_wp2
  go_ret
  exact ⟨zAk (by simp [zCs]),hb1⟩
theorem zFX (lo hi:Int) (l:List Int):(!(l.any fun n=>!inB lo hi n))=l.all (inB lo hi):=by
 induction l with
 | nil=>rfl
 | cons a l ih=>simp [← ih]
set_option maxHeartbeats 1000000 in
theorem zGX (lo hi:Int) (l:List Int) (cap:Nat) (A:Option Addr) (w:World) (hl:l.length≤1000000) (hk:zg encI 1 w A l) :
  zAE 92 #[.int .i64 lo,.int .i64 hi,.slice A l.length cap] w (.bool (l.all (inB lo hi))):=by
 unfold zAE
 have HK:=Lib.hid hk
 clear hk
 go_enter Tryz.func92,Tryz.ntmps92
 go_wp2_with fail
 refine (zEo l cap A 130 _ _ (fun n=>!inB lo hi n) _ hl ((HK.out.alloc _).alloc _) (enters Tryz.func130 (by kernel_rfl) rfl) ?_).mono ?_
 ·intro x W hW
  refine in_fn x lo hi _ _ W ?_ ?_
  ·rw [hW.cell (by simp<;>omega)];simp
  ·rw [hW.cell (by simp<;>omega)];simp
 ·rintro e w1 ⟨rfl,hb1⟩
  go_wp2
  go_ret
  exact ⟨zAk (by first|rfl|simp [zFX]),((zk w _).trans ((zk _ _).mono (by simp))).trans (hb1.mono (by simp<;>omega))⟩
theorem zG9 (w:World) (t:TypeId) (x:Int):zg encI 1 (w.alloc (.cells #[.int .i64 x] t)) (some ⟨w.heap.size,0,none⟩) [x]:=by
 intro i y hy
 rcases i with _|i
 ·simp at hy;subst hy
  refine ⟨_,_,rfl,by simp,fun j v hv=>?_⟩
  rcases j with _|j
  ·simp [encI] at hv;subst hv;simp
  ·simp [encI] at hv
 ·simp at hy
theorem zG8 (w:World) (t:TypeId) (x y:Int):zg encI 1 (w.alloc (.cells #[.int .i64 x,.int .i64 y] t)) (some ⟨w.heap.size,0,none⟩) [x,y]:=by
 intro i z hz
 refine ⟨_,_,rfl,by simp,fun j v hv=>?_⟩
 rcases j with _|j
 ·rcases i with _ | _|i
  ·simp at hz;subst hz;simp [encI] at hv;subst hv;simp
  ·simp at hz;subst hz;simp [encI] at hv;subst hv;simp
  ·simp at hz
 ·simp [encI] at hv
theorem zGW (lo hi x:Int) (c:Nat) (t:TypeId) (b:Nat) (w:World) (hb:b=w.heap.size) :
  zAE 92 #[.int .i64 lo,.int .i64 hi,.slice (some ⟨b,0,none⟩) 1 c] (w.alloc (.cells #[.int .i64 x] t)) (.bool (inB lo hi x)):=by
 subst hb
 exact (zGX lo hi [x] c _ _ (by simp) (zG9 w t x)).of (by simp)
theorem in_two (lo hi x y:Int) (c:Nat) (t:TypeId) (b:Nat) (w:World) (hb:b=w.heap.size) :
  zAE 92 #[.int .i64 lo,.int .i64 hi,.slice (some ⟨b,0,none⟩) 2 c] (w.alloc (.cells #[.int .i64 x,.int .i64 y] t)) (.bool (inB lo hi x && inB lo hi y)):=by
 subst hb
 exact (zGX lo hi [x,y] c _ _ (by simp) (zG8 w t x y)).of (by simp)
set_option maxHeartbeats 1000000 in
theorem zE5 (s:Sp) (lo hi:Int) (w:World):zAE 93 #[vSp s,.int .i64 lo,.int .i64 hi] w (.bool (zAh s lo hi)):=by
 unfold zAE vSp
 cases h1:inB lo hi s.lo && inB lo hi s.hi
 all_goals
  have H1:=Lib.hid h1
  clear h1
  go_enter Tryz.func93,Tryz.ntmps93
  go_wp2_with fail
  refine (in_two lo hi s.lo s.hi _ _ _ _ (by simp)).mono ?_
  rintro e w1 ⟨rfl,hb1⟩
  rw [H1.out]
  obtain ⟨hc,hf⟩:=bcell hb1
  go_wp2
  go_ret
  refine ⟨zAk (congrArg Value.bool ?_),((zk w _).trans ((zk _ _).mono (by simp))).trans (hb1.mono (by simp<;>omega))⟩
  unfold zAh
  rw [H1.out]
  simp
theorem zBG (n lo hi:Int) (w:World):zAE 22 #[.int .i64 n,.int .i64 lo,.int .i64 hi] w (.bool (inB lo hi n)):=by
 unfold zAE
 by_cases h:lo≤n
 ·go_enter Tryz.func22,Tryz.ntmps22
  go_wp2
  go_ret
  exact ⟨zAk (congrArg Value.bool (by rw [Bool.eq_iff_iff];simp [inB,h])),Below.refl _ _⟩
 ·go_enter Tryz.func22,Tryz.ntmps22
  go_wp2
  go_ret
  exact ⟨zAk (congrArg Value.bool (by rw [Bool.eq_iff_iff];simp [inB];omega)),Below.refl _ _⟩
set_option maxHeartbeats 1000000 in
theorem zDF (s:Sp) (lo hi:Int) (w:World):zAE 23 #[vSp s,.int .i64 lo,.int .i64 hi] w (.bool (zAh s lo hi)):=by
 unfold zAE vSp
 cases h1:inB lo s.hi s.lo
 all_goals
  have H1:=Lib.hid h1
  clear h1
  go_enter Tryz.func23,Tryz.ntmps23
  go_wp2_with fail
  refine (zBG s.lo lo s.hi _).mono ?_
  rintro e w1 ⟨rfl,hb1⟩
  rw [H1.out]
  obtain ⟨hc,hf⟩:=bcell hb1
  go_wp2
  go_ret
  refine ⟨zAk (congrArg Value.bool ?_),(zk w _).trans (hb1.mono (by simp<;>omega))⟩
  have h:=H1.out
  simp only [inB,decide_eq_true_eq,decide_eq_false_iff_not] at h
  rw [Bool.eq_iff_iff];simp [zAh,inB];omega
def vT (A:Option Addr) (n c:Nat):Value:=.agg #[.slice A n c]
theorem zHH (A:Option Addr) (n c:Nat) (w:World):zAE 6 #[vT A n c] w (.bool (decide (20<n))):=by
 unfold zAE vT
 go_enter Tryz.func6,Tryz.ntmps6
 go_wp2
 go_ret
 exact ⟨zAk (congrArg Value.bool (by rw [Bool.eq_iff_iff];simp<;>omega)),zk w _⟩
end Go.Proofs.YtcpdjamlhhfbhaaGreat
namespace Go.Proofs.YtcpdjamlhhfbhaaGreat
open Go.RowKit
set_option maxRecDepth 20000
theorem in1 (lo hi a:Int) (c:Nat) (A:Option Addr) (w:World) (hk:zg encI 1 w A [a]):Gv Tryz.prog 92 [.int .i64 lo,.int .i64 hi,.slice A 1 c] w (.bool (inB lo hi a)) :=
 ((zGX lo hi [a] c A w (by simp) hk).of (by simp)).gv
instance : zDA encI 1:=⟨fun _=>rfl,fun _=>one_i⟩
end Go.Proofs.YtcpdjamlhhfbhaaGreat
namespace Go.Proofs.YtcpdjamlhhfbhaaGreat
open Go.RowKit
set_option maxRecDepth 20000
instance : zDA zq 9:=⟨fun _=>rfl,one_st⟩
instance : zDA encMe 5:=⟨fun _=>rfl,one_me⟩
instance : ElI Tryz.prog 32 3 1 8:=⟨⟨_,elem_i⟩⟩
instance : ElI Tryz.prog 55 26 2 16:=⟨⟨_,elem_sp⟩⟩
instance : zDA zAM 2:=⟨fun _=>rfl,fun _=>one_sp⟩
end Go.Proofs.YtcpdjamlhhfbhaaGreat
namespace Go.Proofs.YtcpdjamlhhfbhaaGreat
open Go.RowKit
set_option maxHeartbeats 8000000 in
theorem zG4 (t : List St) (A : Option Addr) (cap : Nat) (w : World) (ht : zg zq 9 w A t) (hf : zBs t) (hl : t.length ≤ 1000000) :
    zAE 7 #[vT A t.length cap] w (.bool (valid t)):=by
  unfold zAE vT
  have HT:=Lib.hid ht
  clear ht
  cases h1:inB 1 12 t.length
  · have H1:=Lib.hid h1
    clear h1
    go_enter Tryz.func7,Tryz.ntmps7
    go_wp2_with fail
    refine (zBG _ _ _ _).mono ?_
    rintro e w1 ⟨rfl,hb1⟩
    rw [H1.out]
    go_wp2
    go_ret
    exact ⟨zAk (by simp [valid,H1.out]),zA3 (zk w _) hb1⟩
  · have H1:=Lib.hid h1
    clear h1
    go_enter Tryz.func7,Tryz.ntmps7
    go_wp2_with fail
    refine (zBG _ _ _ _).mono ?_
    rintro e w1 ⟨rfl,hb1⟩
    rw [H1.out]
    have hB1:Below w.heap.size w w1:=zA3 (zk w _) hb1
    have kt:=(Blk.new w _ _).past hb1
    clear hb1
    go_wp2
    go_loopw [3] (fun v3 wr=>∃ (i:Nat) (last:Int),i≤t.length∧-1≤last∧last≤9999∧v3 = .int .i64 i∧Blk wr w.heap.size #[.slice A t.length cap]∧Below w.heap.size w wr∧Hid (okFrom (-1) t=okFrom last (t.drop i))∧Hid (last=if i=0 then -1 else (t.getD (i - 1) default).id)) (fun v _=>t.length - (intOf v).toNat)
    case atStart=>exact ⟨0,-1,Nat.zero_le _,by omega,by omega,rfl,kt,hB1,by unfold Hid;simp,by unfold Hid;simp⟩
    case round =>
      obtain ⟨i,last,hi,hl0,hl1,rfl,hK,hB,hF,hL⟩:=hrel
      clear kt hB1
      obtain ⟨tc,tf,tl⟩:=hK.facts
      by_cases hlt:i<t.length
      · obtain ⟨b,o,rfl,hblt,hc⟩:=(HT.out.below hB).at_ hlt
        have hF':okFrom (-1) t=(zD3 last t[i] && okFrom t[i].id (t.drop (i+1))):=by
          rw [hF.out,List.drop_eq_getElem_cons hlt];rfl
        have HF:=Lib.hid hF'
        clear hF' hF
        obtain ⟨hs0,hs1⟩:=hf t[i] (List.getElem_mem hlt)
        have hLn:t[i].id=(t.getD (i+1 - 1) default).id:=by simp [List.getElem?_eq_getElem hlt]
        have HLn:=Lib.hid hLn
        clear hLn
        have hp:0<i→wr.cell? ⟨b,o+(i - 1) * 9,none⟩=some (.int .i64 last):=by
          intro h0
          obtain ⟨b',o',hA,hb',hc'⟩:=(HT.out.below hB).at_ (i:=i - 1) (by omega)
          cases hA
          have:=hc' 0 _ rfl
          rw [hL.out,if_neg (by omega)]
          simpa [List.getElem?_eq_getElem (show i - 1<t.length by omega)] using this
        generalize t[i]=s at hc HF hs0 hs1 HLn
        obtain ⟨id,⟨la,lb⟩,⟨fa,fb⟩,⟨ra,rb⟩,sd,wl⟩:=s
        simp only at hs0 hs1
        have c0:=hc 0 _ rfl
        have c1:=hc 1 _ rfl
        have c2:=hc 2 _ rfl
        have c3:=hc 3 _ rfl
        have c4:=hc 4 _ rfl
        have c5:=hc 5 _ rfl
        have c6:=hc 6 _ rfl
        have c7:=hc 7 _ rfl
        have c8:=hc 8 _ rfl
        simp only [Nat.add_zero] at c0
        clear hc
        have hi0:(0:Int)≤i:=by omega
        have hi1:(i:Int)<t.length:=by omega
        have hgt:(0<i→(i:Int) > 0)∧(¬ 0<i→¬ (i:Int) > 0):=by omega
        have hl3:¬ 0<i→last = -1:=by intro h;rw [hL.out,if_pos (by omega)]
        by_cases hz:0<i
        all_goals
          have hc9:=hp
          simp only [hz,forall_const,not_true,not_false_iff,false_implies,true_implies] at hc9 hgt hl3
          go_wp2_with fail
          refine zEB (by kernel_rfl) (by kernel_rfl) ?_
          repeat (any_goals (first
            | go_big_quiet_step ((first|(go_at_call 22;exact zCr (zBG _ _ _ _))|(go_at_call 23;exact zCr (zDF ⟨_,_⟩ _ _ _))))
            | quiet_step ((first|(go_at_call 22;exact zCr (zBG _ _ _ _))|(go_at_call 23;exact zCr (zDF ⟨_,_⟩ _ _ _))))
            | (refine wpQuiet_step (fun K hK=>?_);go_simp;split<;>(refine hK _ ?_;clear hK K))))
          all_goals
            refine grow_nil (fun w2 hg=>?_)
            have hB2:=zA3 (zAL hB _) hg
            have kb:=(Blk.new _ _ _).past hg
            obtain ⟨kc,kf,kl⟩:=kb.facts
            have hK2:=(hK.alloc (.cells #[.int .i64 id,.int .i64 la,.int .i64 lb,.int .i64 fa,.int .i64 fb,.int .i64 ra,.int .i64 rb,.int .u8 sd,.int .i64 wl] 70)).past hg
            obtain ⟨qc,qf,ql⟩:=hK2.facts
            clear hg
            go_wp2_with (go_at_call 23;refine (zDF ⟨_,_⟩ _ _ _).mono ?_;rintro e wn ⟨rfl,hbn⟩;replace hB2:=zA3 hB2 hbn;replace kb:=kb.past hbn;replace hK2:=hK2.past hbn;obtain ⟨kc,kf,kl⟩:=kb.facts;obtain ⟨qc,qf,ql⟩:=hK2.facts;clear hbn)
        all_goals
          have hOk:=HF.out
          have hId:=HLn.out
          clear HF HLn
          first
          | (go_ret
             refine ⟨zAk ?_,hB2⟩
             go_light
             have e:zD3 last ⟨id,⟨la,lb⟩,⟨fa,fb⟩,⟨ra,rb⟩,sd,wl⟩=false:=by
               rw [Bool.eq_false_iff]
               intro hst
               simp only [zD3,Bool.and_eq_true,Bool.or_eq_true,zy,zBo,zx,zAQ,zCk,decide_eq_true_eq,Bool.not_eq_true',Bool.not_eq_false',Bool.not_eq_true,beq_iff_eq,beq_eq_false_iff_ne,bne_iff_ne,bne_eq_false_iff_eq,ne_eq] at *
               omega
             simp [valid,hOk,e])
          | (go_light
             have e:zD3 last ⟨id,⟨la,lb⟩,⟨fa,fb⟩,⟨ra,rb⟩,sd,wl⟩=true∧id≤9999∧-1≤id:=by
               simp only [zD3,Bool.and_eq_true,Bool.or_eq_true,zy,zBo,zx,zAQ,zCk,decide_eq_true_eq,Bool.not_eq_true',Bool.not_eq_false',Bool.not_eq_true,beq_iff_eq,beq_eq_false_iff_ne,bne_iff_ne,bne_eq_false_iff_eq,ne_eq] at *
               omega
             refine ⟨⟨i+1,id,by omega,by omega,by omega,by go_num,hK2,hB2,?_,?_⟩,by simp [intOf];omega⟩
             · unfold Hid;simp [hOk,e.1]
             · unfold Hid;simpa using hId)
      · go_wp2
        go_ret
        refine ⟨zAk ?_,hB⟩
        simp [valid,H1.out,hF.out,List.drop_eq_nil_of_le (Nat.le_of_not_lt hlt),okFrom]
end Go.Proofs.YtcpdjamlhhfbhaaGreat
namespace Go.Proofs.YtcpdjamlhhfbhaaGreat
open Go.RowKit
set_option maxHeartbeats 4000000 in
theorem zFB (t : List St) (A : Option Addr) (cap : Nat) (w : World) (ht : zg zq 9 w A t) (hf : zBs t) (hl : t.length ≤ 1000000) :
    zAE 59 #[vT A t.length cap] w (.int .i64 (if valid t then 0 else 10)):=by
  unfold zAE vT
  have HT:=Lib.hid ht
  clear ht
  cases h1:inB 1 12 t.length
  · have H1:=Lib.hid h1
    clear h1
    go_enter Tryz.func59,Tryz.ntmps59
    go_wp2
    go_step3
    go_wp2_with fail
    refine (zGW 1 12 t.length _ _ _ _ (by simp)).mono ?_
    rintro e w1 ⟨rfl,hb1⟩
    rw [H1.out]
    go_wp2
    rw [Exit.noGoto_ret]
    go_ret
    refine ⟨zAk (by simp [valid,H1.out]),?_⟩
    exact (zk w _).trans (((zk _ _).trans (hb1.mono (by simp<;>omega))).mono (by simp))
  · have H1:=Lib.hid h1
    clear h1
    go_enter Tryz.func59,Tryz.ntmps59
    go_wp2
    go_step3
    go_wp2_with fail
    refine (zGW 1 12 t.length _ _ _ _ (by simp)).mono ?_
    rintro e w1 ⟨rfl,hb1⟩
    rw [H1.out]
    have hB1:Below w.heap.size w w1:=(zk w _).trans (((zk _ _).trans (hb1.mono (by simp<;>omega))).mono (by simp))
    have hcell:w1.cell? ⟨w.heap.size,0,none⟩=some (.slice A t.length cap):=by rw [hb1.cell (by simp<;>omega)];simp
    clear hb1
    go_wp2
    go_step3
    go_wp2
    go_loopw [3,4,18] (fun v3 v4 v18 wr=>∃ (i:Nat) (last:Int),i≤t.length∧-1≤last∧last≤9999∧v18 = .int .i64 i∧v3 = .int .i64 last∧v4 = .int .i64 0∧Below w.heap.size w wr∧Hid (okFrom (-1) t=okFrom last (t.drop i))) (fun _ _ v _=>t.length - (intOf v).toNat)
    case atStart=>exact ⟨0,-1,Nat.zero_le _,by omega,by omega,rfl,rfl,rfl,hB1,by unfold Hid;simp⟩
    case round =>
      obtain ⟨i,last,hi,hl0,hl1,rfl,rfl,rfl,hB,hF⟩:=hrel
      clear hcell hB1
      by_cases hlt:i<t.length
      · obtain ⟨b,o,rfl,hblt,hc⟩:=(HT.out.below hB).at_ hlt
        have hF':okFrom (-1) t=(zD3 last t[i] && okFrom t[i].id (t.drop (i+1))):=by
          rw [hF.out,List.drop_eq_getElem_cons hlt];rfl
        have HF:=Lib.hid hF'
        clear hF' hF
        obtain ⟨hs0,hs1⟩:=hf t[i] (List.getElem_mem hlt)
        generalize t[i]=s at hc HF hs0 hs1
        obtain ⟨id,⟨la,lb⟩,⟨fa,fb⟩,⟨ra,rb⟩,sd,wl⟩:=s
        simp only at hs0 hs1
        have c0:=hc 0 _ rfl
        have c1:=hc 1 _ rfl
        have c2:=hc 2 _ rfl
        have c3:=hc 3 _ rfl
        have c4:=hc 4 _ rfl
        have c5:=hc 5 _ rfl
        have c6:=hc 6 _ rfl
        have c7:=hc 7 _ rfl
        have c8:=hc 8 _ rfl
        simp only [Nat.add_zero] at c0
        clear hc
        have hi0:(0:Int)≤i:=by omega
        have hi1:(i:Int)<t.length:=by omega
        go_wp2_with (first
          | (go_at_call 92;refine (zGW _ _ _ _ _ _ _ (by simp)).mono ?_;rintro e wn ⟨rfl,hbn⟩;(first|(replace hB:=zA3 (zAL hB _) hbn;replace kb:=(kb.alloc _).past hbn)|(replace hB:=zA3 (zAL (zAL hB _) _) hbn;have kb:=((Blk.new _ _ _).alloc _).past hbn));obtain ⟨kc,kf,kl⟩:=kb.facts;clear hbn)
          | (go_at_call 93;refine (zE5 ⟨_,_⟩ _ _ _).mono ?_;rintro e wn ⟨rfl,hbn⟩;replace hB:=zA3 hB hbn;replace kb:=kb.past hbn;obtain ⟨kc,kf,kl⟩:=kb.facts;clear hbn))
        all_goals first
          | (rw [Exit.noGoto_ret]
             go_ret
             refine ⟨zAk ?_,hB⟩
             go_light
             try simp only [Bool.not_eq_true',Bool.not_eq_false'] at *
             have e:okFrom (-1) t=false:=by rw [HF.out];simp [zD3, *]
             simp [valid,e])
          | (go_light
             try simp only [Bool.not_eq_true',Bool.not_eq_false'] at *
             have h:=‹inB (last+1) 9999 id=true›
             rw [zy] at h
             refine ⟨⟨i+1,id,by omega,by omega,by omega,by go_num,by first|rfl|trivial,by first|rfl|trivial,hB,?_⟩,by simp [intOf];omega⟩
             unfold Hid
             rw [HF.out]
             simp [zD3, *])
      · go_wp2
        rw [Exit.noGoto_ret]
        go_ret
        refine ⟨zAk ?_,hB⟩
        simp [valid,H1.out,hF.out,List.drop_eq_nil_of_le (Nat.le_of_not_lt hlt),okFrom]
end Go.Proofs.YtcpdjamlhhfbhaaGreat
namespace Go.Proofs.YtcpdjamlhhfbhaaGreat
open Go.RowKit
set_option maxRecDepth 20000
theorem load_v {w:World} {g:Nat} {x:Value} (hk:Blk w g #[x]):(loadVar 179 ⟨g,0,none⟩).run Tryz.prog w = .ok (.agg #[x]) w:=by
 have h0:=hk.cell 0
 simp at h0
 simp [go_sem,h0]
theorem zGM {fn:Func} {t s:Tmp} {tmps:Array Value} {w:World} {g:Nat} {x:Value} (hr:fn.results=#[.cell t 179,.tmp s]) (hp:tmps.getD t undef = .pointer (some ⟨g,0,none⟩)) (hk:Blk w g #[x]) :
  (results fn tmps).run Tryz.prog w = .ok (.tuple #[.agg #[x],tmps.getD s undef]) w:=by
 simp [results,hr,-Array.getD_eq_getD_getElem?,hp,asAddr,load_v hk]
def zDL (t:List St):Int:=if valid t then 0 else 10
set_option maxHeartbeats 2000000 in
theorem open_any (t:List St) (A:Option Addr) (cap:Nat) (w:World) (ht:zg zq 9 w A t) (hf:zBs t) (hl:t.length≤1000000) :
  zAE 104 #[vT A t.length cap] w (.tuple #[vT A t.length cap,.int .i64 (zDL t)]):=by
 unfold zAE vT
 have HT:=Lib.hid ht
 clear ht
 go_enter Tryz.func104,Tryz.ntmps104
 go_wp2
 have hc:∀ W:World,Below w.heap.size w W→zAE 59 #[.agg #[.slice A t.length cap]] W (.int .i64 (zDL t)):=by
  intro W hW
  exact zFB t A cap W (HT.out.below hW) hf hl
 have HC:=Lib.hid hc
 clear hc
 generalize hW0:(w.alloc (.cells #[.slice A t.length cap] 24)).alloc (.cells #[.slice none 0 0] 179)=W0
 have b1:Blk W0 w.heap.size #[.slice A t.length cap]:=by rw [← hW0];(refine zAt ?_;repeat (first|(with_reducible refine zL.zAs (by first|(simp;done)|(simp;omega)|omega) ?_;(first|rfl|(simp;done)))|(with_reducible refine zL.alloc ?_ _)|(with_reducible refine zL.far ?_ _ (by first|(simp;done)|(simp;omega)|omega))|(with_reducible refine zL.zAg ?_ (by first|(simp;done)|(simp;omega)|omega))|(with_reducible refine zL.drew ?_)|(with_reducible refine zL.drewN ?_ _)|(refine zL.leaf (by assumption) ?_;(first|rfl|(simp;done)))))
 have b2:Blk W0 (w.heap.size+1) #[.slice none 0 0]:=by rw [← hW0];(refine zAt ?_;repeat (first|(with_reducible refine zL.zAs (by first|(simp;done)|(simp;omega)|omega) ?_;(first|rfl|(simp;done)))|(with_reducible refine zL.alloc ?_ _)|(with_reducible refine zL.far ?_ _ (by first|(simp;done)|(simp;omega)|omega))|(with_reducible refine zL.zAg ?_ (by first|(simp;done)|(simp;omega)|omega))|(with_reducible refine zL.drew ?_)|(with_reducible refine zL.drewN ?_ _)|(refine zL.leaf (by assumption) ?_;(first|rfl|(simp;done)))))
 have hB:Below w.heap.size w W0:=by rw [← hW0];(repeat (first|(with_reducible refine zAL ?_ _)|(with_reducible refine zAX ?_ (by first|(simp;done)|(simp;omega)|omega))|(with_reducible refine zA4 ?_)|(with_reducible refine below_drewN ?_ _)|(with_reducible assumption)|(with_reducible exact Below.refl _ _)))
 have hs:W0.heap.size=w.heap.size+2:=by rw [← hW0];simp
 clear hW0
 obtain ⟨c1,f1,l1⟩:=b1.facts
 refine zCw (fun b=>b=w.heap.size+1) (fun r=>[oA (w.heap.size+1) #[.slice none 0 0],vA 4 (.agg #[.slice A t.length cap]),vA 5 (.agg #[.slice A t.length cap]),vA 6 (.agg #[.slice A t.length cap]),vA 7 (.int .i64 (zDL t)),oA (w.heap.size+1) #[.slice A t.length cap],vA 3 (.int .i64 (zDL t))].getD r nA) [(4,[0])] 1 (fun _=>[w.heap.size+1]) 7 (by rfl) (by kernel_rfl) (by kernel_rfl) ?_ ?_ ?_ ?_ ?_ ?_
 ·intro r hr
  obtain rfl:r=0:=by omega
  exact zE3 rfl b2
 ·intro r hr b hb
  simp at hb
  subst hb
  exact ⟨by omega,rfl⟩
 ·intros;omega
 ·(repeat (first|exact zAx.nil|(refine zAx.cons (zGz (by rintro _ ⟨⟩<;>exact ⟨by decide,by kernel_rfl⟩)) ?_)))
 ·(refine (zAH.cons ?_ (zAH.cons ?_ (zAH.cons ?_ (zAH.cons ?_ (zAH.cons ?_ (zAH.cons ?_ zAH.nil)))))))
  all_goals (refine OpOk.of (fun a v S hs hC hr hav K hK=>?_);have cC:=hC.cells.1;have fC:=hC.cells.2;have HS:=Lib.hid hs;have HK:=Lib.hid hC)
  ·(have q1:=(hr 1 (by kernel_rfl));clear hr hav hs hC;simp [Array.getD_eq_getD_getElem?,vSp] at q1;go_simp);(refine hK _ _ (zAK (zBL (z7 (by rw [HS.out];exact Nat.lt_of_sub_ne_zero (by simp))))))
  ·(have u1:=(hav 1 (by kernel_rfl));(try dsimp only at u1);replace u1:=zAA u1;clear hr hav hs hC;simp [Array.getD_eq_getD_getElem?,vSp] at u1;go_simp);(refine hK _ _ (zAK (zBL (z7 (by rw [HS.out];exact Nat.lt_of_sub_ne_zero (by simp))))))
  ·(have q1:=(hr 1 (by kernel_rfl));clear hr hav hs hC;simp [Array.getD_eq_getD_getElem?,vSp] at q1;go_simp);(refine hK _ _ (zAK (zBL (z7 (by rw [HS.out];exact Nat.lt_of_sub_ne_zero (by simp))))))
  ·have hb:=hB.trans (HK.out.below (n:=w.heap.size) (by intros;omega) (by omega))
   (have u3:=(hav 3 (by kernel_rfl));(try dsimp only at u3);replace u3:=zAA u3;clear hr hav hs hC;simp [Array.getD_eq_getD_getElem?,vSp] at u3;go_simp)
   go_at_call 59
   refine (HC.out _ hb).mono ?_
   rintro e w1 ⟨rfl,hb1⟩
   (refine hK _ _ (zHE (by assumption) (zBL (z7 (by rw [HS.out];exact Nat.lt_of_sub_ne_zero (by simp))))))
  ·(have h0:=hav 0 (by kernel_rfl);(try dsimp only at h0))
   obtain ⟨hS,hbl⟩:=zDf h0
   obtain ⟨k1,k2,k3⟩:=hbl.facts
   (have q2:=(hr 2 (by kernel_rfl));have u2:=(hav 2 (by kernel_rfl));(try dsimp only at u2);replace u2:=zAA u2;clear hr hav hs hC;simp [Array.getD_eq_getD_getElem?,vSp] at q2;simp [Array.getD_eq_getD_getElem?,vSp] at u2;go_simp)
   refine hK undef _ (zEQ 0 (by kernel_rfl) rfl rfl rfl (by simp) ?_ (zE3 hS ?_))
   ·intro b hb;rw [hS] at hb;exact Below.heap_setCell _ _ _ _ (by simpa using hb)
   ·(refine zAt ?_;repeat (first|(with_reducible refine zL.zAs (by first|(simp;done)|(simp;omega)|omega) ?_;(first|rfl|(simp;done)))|(with_reducible refine zL.alloc ?_ _)|(with_reducible refine zL.far ?_ _ (by first|(simp;done)|(simp;omega)|omega))|(with_reducible refine zL.zAg ?_ (by first|(simp;done)|(simp;omega)|omega))|(with_reducible refine zL.drew ?_)|(with_reducible refine zL.drewN ?_ _)|(refine zL.leaf (by assumption) ?_;(first|rfl|(simp;done)))))
  ·(have u4:=(hav 4 (by kernel_rfl));(try dsimp only at u4);replace u4:=zAA u4;clear hr hav hs hC;simp [Array.getD_eq_getD_getElem?,vSp] at u4;go_simp);(refine hK _ _ (zAK (zBL (z7 (by rw [HS.out];exact Nat.lt_of_sub_ne_zero (by simp))))))
 ·intro a v S hs hd hrest hC hav
  (have h5:=hav 5 (by kernel_rfl);(try dsimp only at h5))
  have hbl:=(zDf h5).2
  have hb:=hB.trans (hC.below (n:=w.heap.size) (by intros;omega) (by omega))
  (have u6:=hav 6 (by kernel_rfl);(try dsimp only at u6);replace u6:=zAA u6;have u4:=hav 4 (by kernel_rfl);(try dsimp only at u4);replace u4:=zAA u4;have u3:=hav 3 (by kernel_rfl);(try dsimp only at u3);replace u3:=zAA u3;have u2:=hav 2 (by kernel_rfl);(try dsimp only at u2);replace u2:=zAA u2;have u1:=hav 1 (by kernel_rfl);(try dsimp only at u1);replace u1:=zAA u1;have hfr:=zG0 hs hd hrest _ (by kernel_rfl) (by simp) (zAF u1 (zAF u2 (zAF u3 (zAF u4 (zAF u6 wr_nil)))));simp only [List.foldl_cons,List.foldl_nil] at hfr;subst hfr)
  go_wp2
  refine bodyPost_ret (zGM (x:=.slice A t.length cap) rfl rfl ?_) rfl ⟨rfl,hb⟩
  exact hbl
end Go.Proofs.YtcpdjamlhhfbhaaGreat
namespace Go.Proofs.YtcpdjamlhhfbhaaGreat
variable {ro : Option Nat}
open Go.RowKit
set_option maxRecDepth 20000
theorem elem_st : Elem Tryz.prog 22 70 9 72 (.agg #[.int .i64 0,.int .i64 0,.int .i64 0,.int .i64 0,.int .i64 0,.int .i64 0,.int .i64 0,.int .u8 0,.int .i64 0]) :=
 ⟨by simp [go_sem],info_parts (by kernel_rfl),by rfl,by decide⟩
instance : ElI Tryz.prog 22 70 9 72:=⟨⟨_,elem_st⟩⟩
theorem zGw (t:List St) (A:Option Addr) (cap:Nat) (w:World) (ht:zg zq 9 w A t) (hf:zBs t) (hl:t.length≤1000000):Gv Tryz.prog 59 [.agg #[.slice A t.length cap]] w (.int .i64 (zDL t)):=(zFB t A cap w ht hf hl).gv
theorem zDD (t:List St) (A:Option Addr) (cap:Nat) (w:World) (ht:zg zq 9 w A t) (hf:zBs t) (hl:t.length≤1000000):Gv Tryz.prog 7 [.agg #[.slice A t.length cap]] w (.bool (valid t)):=(zG4 t A cap w ht hf hl).gv
theorem open_n (t:List St) (A:Option Addr) (cap:Nat) (w:World) (ht:zg zq 9 w A t) (hf:zBs t) (hl:t.length≤1000000):Gv Tryz.prog 104 [.agg #[.slice A t.length cap]] w (.tuple #[.agg #[.slice A t.length cap],.int .i64 (zDL t)]):=(open_any t A cap w ht hf hl).gv
end Go.Proofs.YtcpdjamlhhfbhaaGreat
namespace Go.Proofs.YtcpdjamlhhfbhaaGreat
variable {ro : Option Nat}
open Go.RowKit
set_option maxRecDepth 20000
theorem zEa {t:List St} (h:valid t=true):zDL t=0:=by simp [zDL,h]
theorem zGt {t:List St} (h:valid t=false):zDL t=10:=by simp [zDL,h]
section
variable {w0 : World} {n:Nat} {d:List Deferred} {R:List (Nat × Value)} {H:List Ent} {Q:Exit→Act→World→Prop} {ops:Array Oper} {rest:List Oper} {o:Oper} {t:Tmp} {x y:Operand}
theorem u_nesp {a b c e:Int} {T':TypeId} (hop:o.op = .binOp .neq 26 x y T') (hrd:rdy R ops n o=some t) (hx:evR R x=some (.agg #[.int .i64 a,.int .i64 b])) (hy:evR R y=some (.agg #[.int .i64 c,.int .i64 e]))
  (h1:a=c∧b=e→U w0 n d ((t,.bool false)::R) H (wpL ro Tryz.prog ops Q rest)) (h2:¬ (a=c∧b=e)→U w0 n d ((t,.bool true)::R) H (wpL ro Tryz.prog ops Q rest)):U w0 n d R H (wpL ro Tryz.prog ops Q (o::rest)) :=
 u_eql hop hrd hx hy (fun w=>gd_sp _ _ _ _ _ w) (fun w=>zGK a b c e w) (fun h=>h2 (by simpa using zGu.1 (by simpa using h))) (fun h=>h1 (by simpa using zCk.1 (by simpa using h)))
end
end Go.Proofs.YtcpdjamlhhfbhaaGreat
