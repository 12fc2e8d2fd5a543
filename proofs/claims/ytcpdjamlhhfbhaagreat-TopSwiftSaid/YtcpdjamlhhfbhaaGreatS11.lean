/- S11 -/
import Derived.Test.YtcpdjamlhhfbhaaGreatS10
import Derived.Test.YtcpdjamlhhfbhaaGreatS7
import Derived.Test.YtcpdjamlhhfbhaaGreatS8
import Derived.Scope
set_option linter.unusedSimpArgs false
set_option linter.unusedVariables false
namespace Go.Proofs.YtcpdjamlhhfbhaaGreat
variable {ro : Option Nat}
open Go.RowKit
open Go.ChangeMaps (setBlock)
set_option maxRecDepth 20000
section
variable {P : Program} {w0:World} {n:Nat} {d:List Deferred} {R:List (Nat × Value)} {H H':List Ent} {Q:Exit→Act→World→Prop} {ops:Array Oper} {rest:List Oper} {o:Oper} {t:Tmp} {x y z:Operand} {v:Value} {T T':TypeId} {k:IntKind} {i j:Int}
theorem u_addW (hop:o.op = .binOp .add T x y T') (hrd:rdy R ops n o=some t) (hx:evR R x=some (.int k i)) (hy:evR R y=some (.int k j)) (h:U w0 n d ((t,.int k (k.wrap (i+j)))::R) H (wpL ro P ops Q rest)):U w0 n d R H (wpL ro P ops Q (o::rest)) :=
 zAI hrd (fun a w q=>by unfold execOp;rw [hop];simp [q.ev hx,q.ev hy,eqGuard,binOp,Op.intArith]) h
theorem zFH (hop:o.op = .binOp .sub T x y T') (hrd:rdy R ops n o=some t) (hx:evR R x=some (.int k i)) (hy:evR R y=some (.int k j)) (h:U w0 n d ((t,.int k (k.wrap (i - j)))::R) H (wpL ro P ops Q rest)):U w0 n d R H (wpL ro P ops Q (o::rest)) :=
 zAI hrd (fun a w q=>by unfold execOp;rw [hop];simp [q.ev hx,q.ev hy,eqGuard,binOp,Op.intArith]) h
theorem zGD (hop:o.op = .binOp .mul T x y T') (hrd:rdy R ops n o=some t) (hx:evR R x=some (.int k i)) (hy:evR R y=some (.int k j)) (h:U w0 n d ((t,.int k (k.wrap (i * j)))::R) H (wpL ro P ops Q rest)):U w0 n d R H (wpL ro P ops Q (o::rest)) :=
 zAI hrd (fun a w q=>by unfold execOp;rw [hop];simp [q.ev hx,q.ev hy,eqGuard,binOp,Op.intArith]) h
theorem u_quoW (hop:o.op = .binOp .quo T x y T') (hrd:rdy R ops n o=some t) (hx:evR R x=some (.int k i)) (hy:evR R y=some (.int k j)) (h1:j≠0) (h:U w0 n d ((t,.int k (k.wrap (i.tdiv j)))::R) H (wpL ro P ops Q rest)):U w0 n d R H (wpL ro P ops Q (o::rest)) :=
 zAI hrd (fun a w q=>by unfold execOp;rw [hop];simp [q.ev hx,q.ev hy,eqGuard,binOp,Op.intDiv,h1]) h
end
section
variable {P : Program} {w0:World} {n:Nat} {d:List Deferred} {R:List (Nat × Value)} {H:List Ent} {o:Oper} {x y:Operand} {v u:Value} {T T':TypeId} {k:IntKind} {i j:Int}
theorem zHA {s off:Nat} {g:Bool} {td:TypeDesc} {vs:List Value} (i1:TyI P T td s g) (hv:rdv g (vs.drop off) s=some v) (w:World):(Go.part T vs.toArray off).run P w = .ok v w:=by
 unfold Go.part
 simp only [Sem.run_bind,i1.agg,Result.andThen_ok]
 cases g
 ·simp only [rdv,List.getElem?_drop,Nat.add_zero] at hv
  simp [hv]
 ·unfold rdv at hv
  simp only at hv
  cases hb:Nat.ble s (vs.drop off).length with
  | false=>rw [hb] at hv;cases hv
  | true =>
   rw [hb] at hv
   simp only [cond_true,Option.some.injEq] at hv
   simp only [if_true,Sem.run_bind,i1.siz,Result.andThen_ok,Sem.run_pure,← hv]
   congr 2
   rw [List.extract_toArray]
   simp [List.extract_eq_take_drop]
theorem zCI {e:TypeId} {s s' m I:Nat} {g g':Bool} {td:TypeDesc} {vs:List Value} (hop:o.op = .index T x y) [i1:TyI P T (.array m e) s g] [i2:TyI P e td s' g'] (hx:evR R x=some (.agg vs.toArray)) (hy:evR R y=some (.int k i)) (hI:i=(I:Int)) (hi:I<m) (hv:rdv g' (vs.drop (I * s')) s'=some v):Ev P w0 n d R H o v :=
 (fun a w q=>by
  subst hI
  unfold execOp;rw [hop]
  have e1:=run_underlying i1.und w
  have e2:=i2.siz w
  have e3:=zHA i2 hv w
  have h0:(0:Int)≤I:=by omega
  have h1:(I:Int)<m:=by omega
  simp [q.ev hx,q.ev hy,Instr.index,asIntOf,e1,e2,hi,e3])
end
theorem Out.all : ∀ H:List Ent,Out H H
 | []=>.nil _
 | e::H=>.cons (.here e H) (Out.all H)
end Go.Proofs.YtcpdjamlhhfbhaaGreat
namespace Go.Proofs.YtcpdjamlhhfbhaaGreat.Two
variable {ro : Option Nat}
open Go.RowKit
theorem zGR {A:Option Addr} {c s:Nat}:partA A c 0 s=A:=by
 unfold partA
 split
 ·rfl
 ·cases A with
  | none=>rfl
  | some a=>simp [Addr.add]
theorem e_prefix {P:Program} {w0:World} {n:Nat} {d:List Deferred} {R:List (Nat × Value)} {H:List Ent} {o:Oper} {x:Operand} {T1 e:TypeId} {td:TypeDesc} {s s' m c:Nat} {g g':Bool} {A:Option Addr} {hi:Option Operand} {u:Int} (M:Nat) (hop:o.op = .slice T1 x none hi none) [i1:TyI P T1 (.slice e) s g] [i2:TyI P e td s' g'] (hx:evR R x=some (.slice A m c)) (hu:bnd R hi m=some u) (hM:u=(M:Int)) (h2:M≤c):Ev P w0 n d R H o (.slice A M c):=by
 have h:=e_slice (P:=P) (w0:=w0) (n:=n) (d:=d) (H:=H) (l:=0) 0 M hop hx rfl hu rfl hM (Nat.zero_le _) h2
 rw [zGR] at h
 exact h
section
variable {S : List (Nat × Nat)} {I:List (Nat × Nat × Nat × List Ent)} {P:Program} {w0:World} {n:Nat} {d:List Deferred} {R0:List (Nat × Value)} {H0:List Ent} {Q:Exit→Act→World→Prop} {ops:Array Oper} {bs:List (List Bool)} {b:List Bool} {k:Nat} {o:Oper} {rest:List Oper} {T:List Rw} {t:Tmp} {Hk:zAU→List Ent} {x y:Operand}
theorem zDM {T1:TypeId} {td:TypeDesc} {s off gb lo hi:Nat} {g:Bool} {vy:zAU→Value} {cs:List Value} {cs':zAU→List Value} (hkE:(k,lo,hi,[Ent.blk gb cs])∈I) (hfree:takes S k=false) (hop:o.op = .store T1 x y) [i1:TyI P T1 td s g] (hw:∀ G,want (Rk R0 ops b o T G) ops o=some true) (hd:o.dst=none) (hx:∀ G,evR (Rk R0 ops b o T G) x=some (.pointer (some ⟨gb,off,none⟩))) (hy:∀ G,evR (Rk R0 ops b o T G) y=some (vy G))
  (hv:∀ G,Nat.beq (vy G).cells.toList.length s=true) (hv1:∀ G,(vy G).cells.toList.all Value.oneCell'=true) (hl:Nat.ble (off+s) cs.length=true) (hc:∀ G,put1 cs off (vy G).cells.toList=cs' G) (hcs:LocB b k cs')
  (h:zAc ro S I P w0 n d ops R0 H0 Q bs (k+1) rest (⟨k,none,fun G=>(undef,[.blk gb (cs' G)])⟩::T)):zAc ro S I P w0 n d ops R0 H0 Q (b::bs) k (o::rest) T:=by
 refine c_takeI (f:=fun G=>(undef,[.blk gb (cs' G)])) hkE hfree (fun G G' hG=>by simp only [hcs.loc G G' hG]) (fun G L a w q ho K hK=>?_) (by rw [hd];exact h)
 refine zEr hop (hw G) hd (hx G) (hy G) (hv G) (hv1 G) hl (hc G) q ho (fun w' hB hO=>?_)
 have:=hK undef [.blk gb (cs' G)] w' ⟨⟨0,none,0⟩,by simp only [hcs.up]⟩ hB hO
 rw [hd] at this
 exact this
end
end Go.Proofs.YtcpdjamlhhfbhaaGreat.Two
namespace Go.Proofs.YtcpdjamlhhfbhaaGreat
variable {ro : Option Nat}
open Go.RowKit
set_option maxRecDepth 20000
def vSl (s:SlM):Value:=.agg #[.int .u8 s.cls,.int .i64 s.start.lo,.int .i64 s.start.hi,.int .i64 s.rub.lo,.int .i64 s.rub.hi,.int .i64 s.drag.lo,.int .i64 s.drag.hi,.int .i64 s.weight.lo,.int .i64 s.weight.hi,.int .i64 s.steer.lo,.int .i64 s.steer.hi]
theorem zDG (n lo hi:Int) (w:World):Gv Tryz.prog 24 [.int .i64 n,.int .i64 lo,.int .i64 hi] w (.bool (inB lo hi n)):=by
 unfold Gv inB
 (refine zD (n:=15) Tryz.func24 rfl rfl rfl ?_)
 (repeat' (first|((with_reducible refine zH ?_);first|refine zF rfl rfl rfl ?_|refine zC rfl rfl rfl ?_|refine zn rfl rfl rfl rfl ?_|refine zd rfl rfl rfl ?_|(refine zS rfl rfl rfl rfl rfl (fun h=>?_) (fun h=>?_)<;>(dsimp only [cmpP] at h;(try (exfalso;omega)))))|(with_reducible first|refine zK ?_|refine zB ?_|refine zG ?_|refine zA ?_|refine zR ?_)))
 all_goals exact zN (by exact rTm rfl) () trivial (by simp [resV];omega) (fun _ h=>h.sub (by (repeat constructor)))
theorem zGQ (s:Sp) (lo hi:Int) (w:World):Gv Tryz.prog 25 [.agg #[.int .i64 s.lo,.int .i64 s.hi],.int .i64 lo,.int .i64 hi] w (.bool (zAh s lo hi)):=by
 unfold Gv
 (refine zD (n:=19) Tryz.func25 rfl rfl rfl ?_)
 (repeat' (first|((with_reducible refine zH ?_);first|refine zF rfl rfl rfl ?_|refine zC rfl rfl rfl ?_|(refine zM rfl rfl rfl ?_;refine ⟨_,rfl,?_⟩)|refine zP rfl rfl rfl ?_|refine zn rfl rfl rfl rfl ?_|refine zd rfl rfl rfl ?_|(refine zS rfl rfl rfl rfl rfl (fun h=>?_) (fun h=>?_)<;>(dsimp only [cmpP] at h;(try (exfalso;omega))))|(refine zAO rfl rfl rfl rfl (fun _ _ q=>zDG _ _ _ _) (fun h=>?_) (fun h=>?_)<;>(simp only [zy,zBo] at h)<;>(try (exfalso;omega)))|(refine zf rfl rfl rfl rfl (fun b=>?_)))|(with_reducible first|refine zK ?_|refine zB ?_|refine zG ?_|refine zA ?_|refine zR ?_)))
 all_goals first|(refine zN (by exact rTm rfl) () trivial ?_ (fun _ h=>h.sub (by (repeat constructor)));refine congrArg Value.bool ?_;refine zx.2 ?_;omega)|(refine zN (by exact rTm rfl) () trivial ?_ (fun _ h=>h.sub (by (repeat constructor)));refine congrArg Value.bool ?_;refine zAQ.2 ?_;omega)
set_option maxHeartbeats 2000000 in
theorem zHB (s:SlM) (w:World) (hc:0≤s.cls∧s.cls≤255):Gv Tryz.prog 8 [vSl s] w (.bool (zCg s)):=by
 obtain ⟨B,hB⟩:∃ B,B=zCg s:=⟨_,rfl⟩
 have hno:(zCO s→False)→B=false:=fun h=>by rw [hB];exact Bool.eq_false_iff.2 (fun h9=>h (zBm.1 h9))
 have hyes:zCO s→B=true:=fun h=>by rw [hB];exact zBm.2 h
 rw [← hB]
 clear hB
 obtain ⟨cls,st,ru,dr,we,se⟩:=s
 simp only at hc
 unfold Gv vSl
 simp only
 (refine zD (n:=32) Tryz.func8 rfl rfl rfl ?_)
 (repeat' (first|((with_reducible refine zH ?_);first|refine zF rfl rfl rfl ?_|refine zC rfl rfl rfl ?_|(refine zM rfl rfl rfl ?_;refine ⟨_,rfl,?_⟩)|refine zP rfl rfl rfl ?_|refine zn rfl rfl rfl rfl ?_|refine zd rfl rfl rfl ?_|(refine zAO rfl rfl rfl rfl (fun _ _ q=>zDG _ _ _ _) (fun h=>?_) (fun h=>?_)<;>(simp only [zy,zBo] at h)<;>(try (exfalso;omega)))|(refine zAO rfl rfl rfl rfl (fun _ _ q=>zGQ _ _ _ _) (fun h=>?_) (fun h=>?_)<;>(simp only [zx,zAQ] at h)<;>(try (exfalso;omega)))|(refine zf rfl rfl rfl rfl (fun b=>?_))|refine zG3 rfl rfl rfl (IntWalk.i64_in _ (by omega)) ?_)|(with_reducible first|refine zK ?_|refine zB ?_|refine zG ?_|refine zA ?_|refine zR ?_)))
 all_goals first|(refine zN (by exact rTm rfl) () trivial ?_ (fun _ h=>h.sub (by (repeat constructor)));refine congrArg Value.bool (hyes ⟨by simp only;omega,by simp only;omega,by simp only;omega,by simp only;omega,by simp only;omega,by simp only;omega⟩);done)|(refine zN (by exact rTm rfl) () trivial ?_ (fun _ h=>h.sub (by (repeat constructor)));refine congrArg Value.bool (hno fun hF=>?_);have h1:=hF.cls;have h2:=hF.start;have h3:=hF.rub;have h4:=hF.drag;have h5:=hF.weight;have h6:=hF.steer;simp only at h1 h2 h3 h4 h5 h6;omega)
end Go.Proofs.YtcpdjamlhhfbhaaGreat
namespace Go.Proofs.YtcpdjamlhhfbhaaGreat.Two
open Go.ChangeShapes Go.WideShapes Go.ChangeAt Go.RowKit
set_option maxRecDepth 20000
section
variable {H : Type} {enc:TypeId × Value→H} {w:World} {held:Bool} {n:Nat} {cs:List Value} {x:DataW H × List MemPlace}
set_option maxRecDepth 20000 in
theorem open_sl {base:Nat} {r:Reach} {v:Value} {dd:DataW H} {p:List MemPlace} (hv:Value.okWide Tryz.prog w r base 28 v) (h:DataW.Trod enc Tryz.prog w 0 (fun _=>true) held 28 v dd p):∃ s:SlM,v=vSl s∧0≤s.cls∧s.cls≤255:=by
 obtain ⟨cs,rfl,_⟩:=okWide_struct Tryz.underlying28 hv
 obtain ⟨fuel,hf⟩:=h
 have hl:=zFP Tryz.underlying28 hf (k:=11) (by kernel_rfl)
 obtain ⟨n0,y0,h0⟩:=zAY Tryz.underlying28 hf (j:=0) rfl rfl (k:=1) (by kernel_rfl)
 obtain ⟨n1,y1,h1⟩:=zAY Tryz.underlying28 hf (j:=1) rfl rfl (k:=2) (by kernel_rfl)
 obtain ⟨n2,y2,h2⟩:=zAY Tryz.underlying28 hf (j:=2) rfl rfl (k:=2) (by kernel_rfl)
 obtain ⟨n3,y3,h3⟩:=zAY Tryz.underlying28 hf (j:=3) rfl rfl (k:=2) (by kernel_rfl)
 obtain ⟨n4,y4,h4⟩:=zAY Tryz.underlying28 hf (j:=4) rfl rfl (k:=2) (by kernel_rfl)
 obtain ⟨n5,y5,h5⟩:=zAY Tryz.underlying28 hf (j:=5) rfl rfl (k:=2) (by kernel_rfl)
 obtain ⟨c,e0,f0⟩:=rd_u8 Tryz.underlying5 h0
 obtain ⟨s1,e1,_⟩:=zDs h1
 obtain ⟨s2,e2,_⟩:=zDs h2
 obtain ⟨s3,e3,_⟩:=zDs h3
 obtain ⟨s4,e4,_⟩:=zDs h4
 obtain ⟨s5,e5,_⟩:=zDs h5
 refine ⟨⟨c,s1,s2,s3,s4,s5⟩,?_,f0⟩
 obtain ⟨l⟩:=cs
 match l,hl with
 | [c0,c1,c2,c3,c4,c5,c6,c7,c8,c9,c10],_ =>
  simp [Value.cells,zAM] at e0 e1 e2 e3 e4 e5
  simp [vSl,e0,e1,e2,e3,e4,e5]
end
end Go.Proofs.YtcpdjamlhhfbhaaGreat.Two
namespace Go.Proofs.YtcpdjamlhhfbhaaGreat
open Go.RowKit
set_option maxRecDepth 20000
section
variable {P : Program} {w0:World} {n:Nat} {d:List Deferred} {R:List (Nat × Value)} {H:List Ent} {Q:Exit→Act→World→Prop}
theorem zFa {ι α:Type} {g:Operand} {ps:Array Tmp} {assign body:Code} {gf:FuncId} {lb:List Value} {bs:List Nat} (D:List α→List Ent) (enc:α→List Value) (N:List α→α→Prop) (E:List α→Prop) (I:List α→ι→Prop) (C:ι→List Ent) (s0:ι)
  (hg:evR R g=some (.func (.func gf) #[] lb.toArray)) [ci:zJ P gf] (hs:Out H (D []++(C s0++[.dfr bs]))) (h0:I [] s0)
  (hps:∀ x,(enc x).length=ps.size) (hpn:∀ p∈ps.toList,p<n)
  (hit:SeqG P gf lb D enc N E w0)
  (hround:∀ (l:Nat) (ys:List α) (x:α) (s:ι) (r:Loop) (W:World) (HH:List Ent),N ys x→I ys s→r.state = .ready→r.pending=none→Below w0.heap.size w0 W →
   U w0 n [] (parR ps.toList (enc x)++R) ((D (ys++[x])++(C s++[.lrec l r,.dfr (r.defers::bs)]))++[.oldx W w0.heap.size (feet HH)]) (assign.wpI (some l) P (rndA P l body (rndB P l W HH true (fun s'=>D (ys++[x])++(C s'++[.lrec l r,.dfr (r.defers::bs)])) (I (ys++[x]))))))
  (hdone:∀ b ys s,E ys→I ys s→U w0 n (dL (b::bs)) R (D ys++(C s++[.dfr (b::bs)])) (Q .normal)):U w0 n (dL bs) R H ((Code.rangeFunc g ps assign body).wpI none P Q) :=
 u_rangeG D enc N E I C s0 hg hs h0 hps hpn hit (fun l ys x s r W h1 h2 h3 h4 h5=>hround l ys x s r W _ h1 h2 h3 h4 h5) hdone
end
end Go.Proofs.YtcpdjamlhhfbhaaGreat
namespace Go.Proofs.YtcpdjamlhhfbhaaGreat
variable {ro : Option Nat}
open Go.RowKit
class Ctb (α:Type):Prop where ex:∃ f:Nat→α,∀ z,∃ n,f n=z
def zBt : Nat→Nat × Nat
 | 0=>(0,0)
 | n+1=>match zBt n with
  | (0,b)=>(b+1,0)
  | (a+1,b)=>(a,b+1)
theorem zDW : ∀ s b,b≤s→∃ n,zBt n=(s - b,b)
  | 0, b, h => ⟨0, by obtain rfl : b = 0 := by omega
                      rfl⟩
  | s+1,0,_=>by
    obtain ⟨n,hn⟩:=zDW s s (Nat.le_refl _)
    refine ⟨n+1,?_⟩
    simp only [zBt,hn,Nat.sub_self]
    rfl
  | s+1,b+1,h=>by
    obtain ⟨n,hn⟩:=zDW (s+1) b (by omega)
    refine ⟨n+1,?_⟩
    rw [show s+1 - b=(s - b)+1 by omega] at hn
    simp only [zBt,hn]
    rw [show s+1 - (b+1)=s - b by omega]
theorem zDX (p:Nat × Nat):∃ n,zBt n=p:=by
 obtain ⟨a,b⟩:=p
 obtain ⟨n,hn⟩:=zDW (a+b) b (by omega)
 exact ⟨n,by rw [hn,Nat.add_sub_cancel]⟩
instance : Ctb Nat:=⟨id,fun z=>⟨z,rfl⟩⟩
instance : Ctb Unit:=⟨fun _=>(),fun _=>⟨0,rfl⟩⟩
instance ctb_prod {α β:Type} [i:Ctb α] [j:Ctb β]:Ctb (α × β):=by
 obtain ⟨f,hf⟩:=i.ex
 obtain ⟨g,hg⟩:=j.ex
 refine ⟨fun n=>(f (zBt n).1,g (zBt n).2),fun z=>?_⟩
 obtain ⟨a,ha⟩:=hf z.1
 obtain ⟨b,hb⟩:=hg z.2
 obtain ⟨n,hn⟩:=zDX (a,b)
 exact ⟨n,by simp only [hn,ha,hb]⟩
instance ctb_opt {α:Type} [i:Ctb α]:Ctb (Option α):=by
 obtain ⟨f,hf⟩:=i.ex
 refine ⟨fun n=>match n with | 0=>none|n+1=>some (f n),fun z=>?_⟩
 cases z with
 | none=>exact ⟨0,rfl⟩
 | some a=>obtain ⟨n,hn⟩:=hf a;exact ⟨n+1,by simp only [hn]⟩
theorem zGv {α β:Type} (h:α→β) (hs:∀ z,∃ x,h x=z) [i:Ctb α]:Ctb β:=by
 obtain ⟨f,hf⟩:=i.ex
 refine ⟨fun n=>h (f n),fun z=>?_⟩
 obtain ⟨x,rfl⟩:=hs z
 obtain ⟨n,rfl⟩:=hf x
 exact ⟨n,rfl⟩
instance : Ctb Int:=zGv (α:=Nat × Nat) (fun p=>(p.1:Int) - p.2) fun z=>⟨(z.toNat,(-z).toNat),by simp only;omega⟩
instance : Ctb Addr:=zGv (α:=Nat × Nat × Option Nat) (fun p=>⟨p.1,p.2.1,p.2.2⟩) fun z=>⟨(z.block,z.off,z.spot),rfl⟩
instance ctb_list {α:Type} [i:Ctb α]:Ctb (List α):=by
 obtain ⟨f,hf⟩:=i.ex
 have key:∀ l:List α,∃ n,(fun n=>(Nat.rec (fun _=>[]) (fun _ g c=>f (zBt c).1::g (zBt c).2) (zBt n).1:Nat→List α) (zBt n).2) n=l:=by
  have h2:∀ l:List α,∃ c,(Nat.rec (fun _=>[]) (fun _ g c=>f (zBt c).1::g (zBt c).2) l.length:Nat→List α) c=l:=by
   intro l
   induction l with
   | nil=>exact ⟨0,rfl⟩
   | cons x l ih =>
    obtain ⟨c,hc⟩:=ih
    obtain ⟨n,hn⟩:=hf x
    obtain ⟨m,hm⟩:=zDX (n,c)
    refine ⟨m,?_⟩
    show f (zBt m).1::_=_
    rw [hm,hn]
    exact congrArg _ hc
  intro l
  obtain ⟨c,hc⟩:=h2 l
  obtain ⟨n,hn⟩:=zDX (l.length,c)
  exact ⟨n,by simp only [hn];exact hc⟩
 exact ⟨_,key⟩
theorem zEm {P:Program} {T:TypeId} {s:Nat} {g:Bool} [i1:TyI P T .bool s g] (a b:Bool) (w:World):(Op.equalIn Op.maxDepth T (.bool a) (.bool b)).run P w = .ok (a == b) w:=by
 show (Op.equalIn (9999+1) T (.bool a) (.bool b)).run P w=_
 have e:=run_underlying i1.und w
 unfold Op.equalIn
 simp [e]
end Go.Proofs.YtcpdjamlhhfbhaaGreat
namespace Go.Proofs.YtcpdjamlhhfbhaaGreat
section
variable {k k':RdK}
inductive Wide (k:RdK):Nat→List Opn→List Opn→Prop
 | nil (b:Nat):Wide k b [] []
 | cons {b:Nat} {o o':Opn} {os os':List Opn}:o∈k.opts b→o.sig=o'.sig→o.lo≤o'.lo→o'.hi≤o.hi→Wide k (b+1) os os'→Wide k b (o::os) (o'::os')
theorem Wide.len {b:Nat} {os os':List Opn} (h:Wide k b os os'):os.length=os'.length:=by
 induction h with
 | nil=>rfl
 | cons _ _ _ _ _ ih=>simp [ih]
theorem Wide.get {b:Nat} {os os':List Opn} (h:Wide k b os os') (n:Nat) {o':Opn} (ho:os'[n]?=some o'):∃ o,os[n]?=some o∧o'.hi≤o.hi:=by
 induction h generalizing n with
 | nil=>simp at ho
 | cons a1 a2 a3 a4 _ ih =>
  cases n with
  | zero=>simp at ho;subst ho;exact ⟨_,rfl,a4⟩
  | succ n=>simpa using ih n (by simpa using ho)
end
end Go.Proofs.YtcpdjamlhhfbhaaGreat
namespace Go.Proofs.YtcpdjamlhhfbhaaGreat
section
variable {k k':RdK} {n:Int}
inductive Late (n:Int) (k k':RdK):Nat→List Opn→List Opn→Prop
 | nil (b:Nat):Late n k k' b [] []
 | cons {b:Nat} {o o':Opn} {os os':List Opn}:o'∈k'.opts b→o'.sig=o.sig→(∀ t,k.start≤t→t≤k.now→(o.lo≤t↔o'.lo≤t+n)∧(t≤o.hi↔t+n≤o'.hi))→Late n k k' (b+1) os os'→Late n k k' b (o::os) (o'::os')
theorem Late.len {b:Nat} {os os':List Opn} (h:Late n k k' b os os'):os'.length=os.length:=by
 induction h with
 | nil=>rfl
 | cons _ _ _ _ ih=>simp [ih]
theorem Late.get {b:Nat} {os os':List Opn} (h:Late n k k' b os os') (j:Nat) {o:Opn} (ho:os[j]?=some o):∃ o',os'[j]?=some o'∧∀ t,k.start≤t→t≤k.now→(o.lo≤t↔o'.lo≤t+n)∧(t≤o.hi↔t+n≤o'.hi):=by
 induction h generalizing j with
 | nil=>simp at ho
 | cons a1 a2 a3 _ ih =>
  cases j with
  | zero=>simp at ho;subst ho;exact ⟨_,rfl,a3⟩
  | succ j=>simpa using ih j (by simpa using ho)
end
end Go.Proofs.YtcpdjamlhhfbhaaGreat
namespace Go.Proofs.YtcpdjamlhhfbhaaGreat
structure Sgn where
 beam:Int
 read:Int
deriving DecidableEq
instance : Inhabited Sgn:=⟨⟨0,0⟩⟩
structure Rid where
 start:Int
 now:Int
 sigs:List Sgn
deriving DecidableEq
instance : Inhabited Rid:=⟨⟨0,0,[]⟩⟩
end Go.Proofs.YtcpdjamlhhfbhaaGreat
namespace Go.Proofs.YtcpdjamlhhfbhaaGreat
variable {ro : Option Nat}
open Go.RowKit
set_option maxRecDepth 20000
def zAf (s:Sy):List Value:=[.int .i64 s.at_,.int .i64 s.ah.lo,.int .i64 s.ah.hi]
structure CkM where
 c:Clk
 A:Option Addr
 cap:Nat
instance : Inhabited CkM:=⟨⟨default,none,0⟩⟩
def zBb (x:CkM):List Value:=[.int .i64 x.c.drift,.slice x.A x.c.syncs.length x.cap]
def vCk (x:CkM):Value:=.agg #[.int .i64 x.c.drift,.slice x.A x.c.syncs.length x.cap]
structure Bm where
 spot:Spot
 clock:Int
instance : Inhabited Bm:=⟨⟨⟨0,⟨0,0⟩⟩,0⟩⟩
def zAn (b:Bm):List Value:=[.int .i64 b.spot.st,.int .i64 b.spot.off.lo,.int .i64 b.spot.off.hi,.int .i64 b.clock]
def vBm (b:Bm):Value:=.agg #[.int .i64 b.spot.st,.int .i64 b.spot.off.lo,.int .i64 b.spot.off.hi,.int .i64 b.clock]
def encSg (s:Sgn):List Value:=[.int .i64 s.beam,.int .i64 s.read]
theorem one_sy (b:Sy):∀ v∈zAf b,v.oneCell'=true:=by intro v hv;simp [zAf] at hv;rcases hv with rfl|rfl|rfl<;>rfl
theorem one_ck (b:CkM):∀ v∈zBb b,v.oneCell'=true:=by intro v hv;simp [zBb] at hv;rcases hv with rfl|rfl<;>rfl
theorem one_bm (b:Bm):∀ v∈zAn b,v.oneCell'=true:=by intro v hv;simp [zAn] at hv;rcases hv with rfl|rfl|rfl|rfl<;>rfl
theorem one_sg (b:Sgn):∀ v∈encSg b,v.oneCell'=true:=by intro v hv;simp [encSg] at hv;rcases hv with rfl|rfl<;>rfl
instance : zDA zAf 3:=⟨fun _=>rfl,one_sy⟩
instance : zDA zBb 2:=⟨fun _=>rfl,one_ck⟩
instance : zDA zAn 4:=⟨fun _=>rfl,one_bm⟩
instance : zDA encSg 2:=⟨fun _=>rfl,one_sg⟩
structure LnM where
 t:List St
 TA:Option Addr
 tc:Nat
 fast:Int
 cks:List CkM
 CA:Option Addr
 cc:Nat
 bms:List Bm
 BA:Option Addr
 bc:Nat
 finish:Int
 fakes:Int
 misses:Int
def zBf (l:LnM):List Value:=[.slice l.TA l.t.length l.tc,.int .i64 l.fast,.slice l.CA l.cks.length l.cc,.slice l.BA l.bms.length l.bc,.int .i64 l.finish,.int .i64 l.fakes,.int .i64 l.misses]
def vLn (l:LnM):Value:=.agg #[.slice l.TA l.t.length l.tc,.int .i64 l.fast,.slice l.CA l.cks.length l.cc,.slice l.BA l.bms.length l.bc,.int .i64 l.finish,.int .i64 l.fakes,.int .i64 l.misses]
structure zDT (w:World) (l:LnM):Prop where
 t:zg zq 9 w l.TA l.t
 c:zg zBb 2 w l.CA l.cks
 s:∀ x∈l.cks,zg zAf 3 w x.A x.c.syncs
 cap:∀ x∈l.cks,x.c.syncs.length≤x.cap
 b:zg zAn 4 w l.BA l.bms
theorem zDT.below {w W:World} {l:LnM} (h:zDT w l) (hb:Below w.heap.size w W):zDT W l:=⟨h.t.below hb,h.c.below hb,fun x hx=>(h.s x hx).below hb,h.cap,h.b.below hb⟩
structure zBa (l:LnM):Prop where
 fit:zBs l.t
 t:l.t.length≤20
 c:l.cks.length≤8
 s:∀ x∈l.cks,x.c.syncs.length≤10
 b:l.bms.length≤10
theorem zEZ {α:Type} {p:α→Bool} {l:List α} {i:Nat} (h:i<l.length) (hp:p l[i]=true) (hb:∀ j y,j<i→l[j]?=some y→p y=false):zCb p l=i:=by
 have:l.findIdx? p=some i:=List.findIdx?_eq_some_iff_getElem.2 ⟨h,hp,fun j hj=>by
  have:=hb j l[j] hj (List.getElem?_eq_getElem (by omega))
  simp [this]⟩
 unfold zCb;rw [this]
theorem zC8 {α:Type} {p:α→Bool} {l:List α} (h:∀ y∈l,p y=false):zCb p l = -1:=by
 have:l.findIdx? p=none:=by rw [List.findIdx?_eq_none_iff];intro x hx;simp [h x hx]
 unfold zCb;rw [this]
set_option maxHeartbeats 1000000 in
theorem zGc (l:List Int) (A:Option Addr) (cap:Nat) (kf:FuncId) [zJ Tryz.prog kf] (cs:Array Value) (p:Int→Bool) (w:World) (hk:zg encI 1 w A l) (hl:l.length≤1000000)
  (hp:∀ x W,x∈l→Below w.heap.size w W→Gv Tryz.prog kf ([.int .i64 x]++cs.toList) W (.bool (p x))) :
  Gv Tryz.prog 103 [.slice A l.length cap,.func (.func kf) #[] cs] w (.int .i64 (zCb p l)):=by
 unfold Gv
 (refine zD (n:=19) Tryz.func103 rfl rfl rfl ?_)
 (repeat' (first|((with_reducible refine zH ?_);first|refine zF rfl rfl rfl ?_|refine zC rfl rfl rfl ?_|refine zz rfl rfl rfl ?_)|(with_reducible first|refine zK ?_|refine zB ?_|refine zG ?_|refine zA ?_|refine zT ?_)))
 refine z9 (ι:=Nat) [0,1,7] rfl (fun i=>i≤l.length∧∀ j y,j<i→l[j]?=some y→p y=false) (fun i=>[(8,.int .i64 (i:Int))]) (fun _=>[]) (fun i=>l.length - i) 0 ⟨Nat.zero_le _,fun j y h=>by omega⟩ (by (repeat first|exact lK1|refine za rfl ?_)) (by (repeat constructor)) ?_
 rintro i ⟨hi,hb⟩
 simp only [zAu,List.cons_append,List.nil_append]
 by_cases hlt:i<l.length
 ·have hx:l[i]?=some l[i]:=by simp [hlt]
  obtain ⟨b,o,rfl,hblt,hc⟩:=hk.at_ hlt
  have:InS w b o encI 1 l:=⟨hk⟩
  have:zA5 l i l[i]:=⟨hx⟩
  (repeat' (first|((with_reducible refine zH ?_);first|refine zF rfl rfl rfl ?_|refine zC rfl rfl rfl ?_|(refine zM rfl rfl rfl ?_;refine ⟨_,rfl,?_⟩)|(refine zS rfl rfl rfl rfl rfl (fun h=>?_) (fun h=>?_)<;>(dsimp only [cmpP] at h;(try (exfalso;omega))))|(refine zAO rfl rfl rfl rfl (fun _ _ q=>hp _ _ (List.getElem_mem hlt) q.below) (fun h=>?_) (fun h=>?_)<;>(try (exfalso;omega)))|refine zAD rfl rfl rfl rfl (by omega) ?_|refine zAN rfl rfl rfl rfl rfl (by omega) ?_)|(with_reducible first|refine zK ?_|refine zB ?_|refine zG ?_|refine zA ?_|refine zR ?_|refine zU ?_|refine zb ?_|refine zT ?_|refine zu ?_|refine zAw ?_)|((with_reducible refine zO ?_ ?_);(· exact rfl))|((with_reducible refine zI ?_ ?_);(· exact rfl))))
  ·have e1:=zEZ hlt h hb
   exact zN (by exact rTm rfl) () trivial (by rw [e1];rfl) (fun _ h=>h.sub (by (repeat constructor)))
  ·refine zl (i+1) ⟨by omega,fun j y hj hy=>?_⟩ (by omega) (by (repeat first|exact lK1|refine za rfl ?_)) (by (repeat constructor))
   by_cases e:j=i
   ·subst e;rw [hx] at hy;cases hy;exact h
   ·exact hb j y (by omega) hy
 ·obtain rfl:i=l.length:=by omega
  have e1:=zC8 (p:=p) (l:=l) (fun y hy=>by
   obtain ⟨j,hj⟩:=List.mem_iff_getElem?.1 hy
   exact hb j y (List.getElem?_eq_some_iff.1 hj).1 hj)
  (repeat' (first|((with_reducible refine zH ?_);first|refine zC rfl rfl rfl ?_|(refine zS rfl rfl rfl rfl rfl (fun h=>?_) (fun h=>?_)<;>(dsimp only [cmpP] at h;(try (exfalso;omega)))))|(with_reducible first|refine zK ?_|refine zB ?_|refine zG ?_|refine zA ?_|refine zR ?_|refine zr ?_|refine zZ ?_|refine ze ?_)|((with_reducible refine zI ?_ ?_);(· exact rfl))))
  exact zN (by exact rTm rfl) () trivial (by rw [e1];rfl) (fun _ h=>h.sub (by (repeat constructor)))
theorem ci_con (l:List Int) (A:Option Addr) (cap:Nat) (kf:FuncId) [zJ Tryz.prog kf] (cs:Array Value) (p:Int→Bool) (w:World) (hk:zg encI 1 w A l) (hl:l.length≤1000000)
  (hp:∀ x W,x∈l→Below w.heap.size w W→Gv Tryz.prog kf ([.int .i64 x]++cs.toList) W (.bool (p x))) :
  Gv Tryz.prog 61 [.slice A l.length cap,.func (.func kf) #[] cs] w (.bool (l.any p)):=by
 unfold Gv
 have hf:=zCs p l
 (refine zD (n:=9) Tryz.func61 rfl rfl rfl ?_)
 (repeat' (first|((with_reducible refine zH ?_);first|refine zF rfl rfl rfl ?_|refine zC rfl rfl rfl ?_|(refine zS rfl rfl rfl rfl rfl (fun h=>?_) (fun h=>?_)<;>(dsimp only [cmpP] at h;(try (exfalso;omega))))|refine zE rfl rfl rfl rfl (fun _ _ q=>zGc l A cap kf cs p _ (hk.below q.below) hl (fun x W hx hW=>hp x W hx (q.below.trans (hW.mono q.base)))) ?_)|(with_reducible first|refine zK ?_|refine zB ?_|refine zG ?_|refine zA ?_|refine zR ?_)))
 all_goals exact zN (by exact rTm rfl) () trivial (by simp only [resV];rw [← hf];simp;omega) (fun _ h=>h.sub (by (repeat constructor)))
set_option maxHeartbeats 1000000 in
theorem zGe (l:List CkM) (A:Option Addr) (cap:Nat) (kf:FuncId) [zJ Tryz.prog kf] (cs:Array Value) (p:CkM→Bool) (w:World) (hk:zg zBb 2 w A l) (hl:l.length≤1000000)
  (hp:∀ x W,x∈l→Below w.heap.size w W→Gv Tryz.prog kf ([vCk x]++cs.toList) W (.bool (p x))) :
  Gv Tryz.prog 131 [.slice A l.length cap,.func (.func kf) #[] cs] w (.int .i64 (zCb p l)):=by
 unfold Gv
 (refine zD (n:=19) Tryz.func131 rfl rfl rfl ?_)
 (repeat' (first|((with_reducible refine zH ?_);first|refine zF rfl rfl rfl ?_|refine zC rfl rfl rfl ?_|refine zz rfl rfl rfl ?_)|(with_reducible first|refine zK ?_|refine zB ?_|refine zG ?_|refine zA ?_|refine zT ?_)))
 refine z9 (ι:=Nat) [0,1,7] rfl (fun i=>i≤l.length∧∀ j y,j<i→l[j]?=some y→p y=false) (fun i=>[(8,.int .i64 (i:Int))]) (fun _=>[]) (fun i=>l.length - i) 0 ⟨Nat.zero_le _,fun j y h=>by omega⟩ (by (repeat first|exact lK1|refine za rfl ?_)) (by (repeat constructor)) ?_
 rintro i ⟨hi,hb⟩
 simp only [zAu,List.cons_append,List.nil_append]
 by_cases hlt:i<l.length
 ·have hx:l[i]?=some l[i]:=by simp [hlt]
  obtain ⟨b,o,rfl,hblt,hc⟩:=hk.at_ hlt
  have:InS w b o zBb 2 l:=⟨hk⟩
  have:zA5 l i l[i]:=⟨hx⟩
  (repeat' (first|((with_reducible refine zH ?_);first|refine zF rfl rfl rfl ?_|refine zC rfl rfl rfl ?_|(refine zM rfl rfl rfl ?_;refine ⟨_,rfl,?_⟩)|(refine zS rfl rfl rfl rfl rfl (fun h=>?_) (fun h=>?_)<;>(dsimp only [cmpP] at h;(try (exfalso;omega))))|(refine zAO rfl rfl rfl rfl (fun _ _ q=>hp _ _ (List.getElem_mem hlt) q.below) (fun h=>?_) (fun h=>?_)<;>(try (exfalso;omega)))|refine zAD rfl rfl rfl rfl (by omega) ?_|refine zAN rfl rfl rfl rfl rfl (by omega) ?_)|(with_reducible first|refine zK ?_|refine zB ?_|refine zG ?_|refine zA ?_|refine zR ?_|refine zU ?_|refine zb ?_|refine zT ?_|refine zu ?_|refine zAw ?_)|((with_reducible refine zO ?_ ?_);(· exact rfl))|((with_reducible refine zI ?_ ?_);(· exact rfl))))
  ·have e1:=zEZ hlt h hb
   exact zN (by exact rTm rfl) () trivial (by rw [e1];rfl) (fun _ h=>h.sub (by (repeat constructor)))
  ·refine zl (i+1) ⟨by omega,fun j y hj hy=>?_⟩ (by omega) (by (repeat first|exact lK1|refine za rfl ?_)) (by (repeat constructor))
   by_cases e:j=i
   ·subst e;rw [hx] at hy;cases hy;exact h
   ·exact hb j y (by omega) hy
 ·obtain rfl:i=l.length:=by omega
  have e1:=zC8 (p:=p) (l:=l) (fun y hy=>by
   obtain ⟨j,hj⟩:=List.mem_iff_getElem?.1 hy
   exact hb j y (List.getElem?_eq_some_iff.1 hj).1 hj)
  (repeat' (first|((with_reducible refine zH ?_);first|refine zC rfl rfl rfl ?_|(refine zS rfl rfl rfl rfl rfl (fun h=>?_) (fun h=>?_)<;>(dsimp only [cmpP] at h;(try (exfalso;omega)))))|(with_reducible first|refine zK ?_|refine zB ?_|refine zG ?_|refine zA ?_|refine zR ?_|refine zr ?_|refine zZ ?_|refine ze ?_)|((with_reducible refine zI ?_ ?_);(· exact rfl))))
  exact zN (by exact rTm rfl) () trivial (by rw [e1];rfl) (fun _ h=>h.sub (by (repeat constructor)))
theorem cc_con (l:List CkM) (A:Option Addr) (cap:Nat) (kf:FuncId) [zJ Tryz.prog kf] (cs:Array Value) (p:CkM→Bool) (w:World) (hk:zg zBb 2 w A l) (hl:l.length≤1000000)
  (hp:∀ x W,x∈l→Below w.heap.size w W→Gv Tryz.prog kf ([vCk x]++cs.toList) W (.bool (p x))) :
  Gv Tryz.prog 96 [.slice A l.length cap,.func (.func kf) #[] cs] w (.bool (l.any p)):=by
 unfold Gv
 have hf:=zCs p l
 (refine zD (n:=9) Tryz.func96 rfl rfl rfl ?_)
 (repeat' (first|((with_reducible refine zH ?_);first|refine zF rfl rfl rfl ?_|refine zC rfl rfl rfl ?_|(refine zS rfl rfl rfl rfl rfl (fun h=>?_) (fun h=>?_)<;>(dsimp only [cmpP] at h;(try (exfalso;omega))))|refine zE rfl rfl rfl rfl (fun _ _ q=>zGe l A cap kf cs p _ (hk.below q.below) hl (fun x W hx hW=>hp x W hx (q.below.trans (hW.mono q.base)))) ?_)|(with_reducible first|refine zK ?_|refine zB ?_|refine zG ?_|refine zA ?_|refine zR ?_)))
 all_goals exact zN (by exact rTm rfl) () trivial (by simp only [resV];rw [← hf];simp;omega) (fun _ h=>h.sub (by (repeat constructor)))
set_option maxHeartbeats 1000000 in
theorem zGf (l:List Bm) (A:Option Addr) (cap:Nat) (kf:FuncId) [zJ Tryz.prog kf] (cs:Array Value) (p:Bm→Bool) (w:World) (hk:zg zAn 4 w A l) (hl:l.length≤1000000)
  (hp:∀ x W,x∈l→Below w.heap.size w W→Gv Tryz.prog kf ([vBm x]++cs.toList) W (.bool (p x))) :
  Gv Tryz.prog 132 [.slice A l.length cap,.func (.func kf) #[] cs] w (.int .i64 (zCb p l)):=by
 unfold Gv
 (refine zD (n:=19) Tryz.func132 rfl rfl rfl ?_)
 (repeat' (first|((with_reducible refine zH ?_);first|refine zF rfl rfl rfl ?_|refine zC rfl rfl rfl ?_|refine zz rfl rfl rfl ?_)|(with_reducible first|refine zK ?_|refine zB ?_|refine zG ?_|refine zA ?_|refine zT ?_)))
 refine z9 (ι:=Nat) [0,1,7] rfl (fun i=>i≤l.length∧∀ j y,j<i→l[j]?=some y→p y=false) (fun i=>[(8,.int .i64 (i:Int))]) (fun _=>[]) (fun i=>l.length - i) 0 ⟨Nat.zero_le _,fun j y h=>by omega⟩ (by (repeat first|exact lK1|refine za rfl ?_)) (by (repeat constructor)) ?_
 rintro i ⟨hi,hb⟩
 simp only [zAu,List.cons_append,List.nil_append]
 by_cases hlt:i<l.length
 ·have hx:l[i]?=some l[i]:=by simp [hlt]
  obtain ⟨b,o,rfl,hblt,hc⟩:=hk.at_ hlt
  have:InS w b o zAn 4 l:=⟨hk⟩
  have:zA5 l i l[i]:=⟨hx⟩
  (repeat' (first|((with_reducible refine zH ?_);first|refine zF rfl rfl rfl ?_|refine zC rfl rfl rfl ?_|(refine zM rfl rfl rfl ?_;refine ⟨_,rfl,?_⟩)|(refine zS rfl rfl rfl rfl rfl (fun h=>?_) (fun h=>?_)<;>(dsimp only [cmpP] at h;(try (exfalso;omega))))|(refine zAO rfl rfl rfl rfl (fun _ _ q=>hp _ _ (List.getElem_mem hlt) q.below) (fun h=>?_) (fun h=>?_)<;>(try (exfalso;omega)))|refine zAD rfl rfl rfl rfl (by omega) ?_|refine zAN rfl rfl rfl rfl rfl (by omega) ?_)|(with_reducible first|refine zK ?_|refine zB ?_|refine zG ?_|refine zA ?_|refine zR ?_|refine zU ?_|refine zb ?_|refine zT ?_|refine zu ?_|refine zAw ?_)|((with_reducible refine zO ?_ ?_);(· exact rfl))|((with_reducible refine zI ?_ ?_);(· exact rfl))))
  ·have e1:=zEZ hlt h hb
   exact zN (by exact rTm rfl) () trivial (by rw [e1];rfl) (fun _ h=>h.sub (by (repeat constructor)))
  ·refine zl (i+1) ⟨by omega,fun j y hj hy=>?_⟩ (by omega) (by (repeat first|exact lK1|refine za rfl ?_)) (by (repeat constructor))
   by_cases e:j=i
   ·subst e;rw [hx] at hy;cases hy;exact h
   ·exact hb j y (by omega) hy
 ·obtain rfl:i=l.length:=by omega
  have e1:=zC8 (p:=p) (l:=l) (fun y hy=>by
   obtain ⟨j,hj⟩:=List.mem_iff_getElem?.1 hy
   exact hb j y (List.getElem?_eq_some_iff.1 hj).1 hj)
  (repeat' (first|((with_reducible refine zH ?_);first|refine zC rfl rfl rfl ?_|(refine zS rfl rfl rfl rfl rfl (fun h=>?_) (fun h=>?_)<;>(dsimp only [cmpP] at h;(try (exfalso;omega)))))|(with_reducible first|refine zK ?_|refine zB ?_|refine zG ?_|refine zA ?_|refine zR ?_|refine zr ?_|refine zZ ?_|refine ze ?_)|((with_reducible refine zI ?_ ?_);(· exact rfl))))
  exact zN (by exact rTm rfl) () trivial (by rw [e1];rfl) (fun _ h=>h.sub (by (repeat constructor)))
theorem cb_con (l:List Bm) (A:Option Addr) (cap:Nat) (kf:FuncId) [zJ Tryz.prog kf] (cs:Array Value) (p:Bm→Bool) (w:World) (hk:zg zAn 4 w A l) (hl:l.length≤1000000)
  (hp:∀ x W,x∈l→Below w.heap.size w W→Gv Tryz.prog kf ([vBm x]++cs.toList) W (.bool (p x))) :
  Gv Tryz.prog 100 [.slice A l.length cap,.func (.func kf) #[] cs] w (.bool (l.any p)):=by
 unfold Gv
 have hf:=zCs p l
 (refine zD (n:=9) Tryz.func100 rfl rfl rfl ?_)
 (repeat' (first|((with_reducible refine zH ?_);first|refine zF rfl rfl rfl ?_|refine zC rfl rfl rfl ?_|(refine zS rfl rfl rfl rfl rfl (fun h=>?_) (fun h=>?_)<;>(dsimp only [cmpP] at h;(try (exfalso;omega))))|refine zE rfl rfl rfl rfl (fun _ _ q=>zGf l A cap kf cs p _ (hk.below q.below) hl (fun x W hx hW=>hp x W hx (q.below.trans (hW.mono q.base)))) ?_)|(with_reducible first|refine zK ?_|refine zB ?_|refine zG ?_|refine zA ?_|refine zR ?_)))
 all_goals exact zN (by exact rTm rfl) () trivial (by simp only [resV];rw [← hf];simp;omega) (fun _ h=>h.sub (by (repeat constructor)))
theorem bin_fn (x lo hi:Int) (b c:Nat) (w:World) (h1:InC w b 0 [.int .i64 lo]) (h2:InC w c 0 [.int .i64 hi]):Gv Tryz.prog 62 [.int .i64 x,.pointer (some ⟨b,0,none⟩),.pointer (some ⟨c,0,none⟩)] w (.bool (!inB lo hi x)):=by
 unfold Gv
 (refine zD (n:=13) Tryz.func62 rfl rfl rfl ?_)
 (repeat' (first|((with_reducible refine zH ?_);first|refine zF rfl rfl rfl ?_|refine zC rfl rfl rfl ?_|(refine zM rfl rfl rfl ?_;refine ⟨_,rfl,?_⟩)|refine zn rfl rfl rfl rfl ?_|refine zd rfl rfl rfl ?_|(refine zS rfl rfl rfl rfl rfl (fun h=>?_) (fun h=>?_)<;>(dsimp only [cmpP] at h;(try (exfalso;omega)))))|(with_reducible first|refine zK ?_|refine zB ?_|refine zG ?_|refine zA ?_|refine zR ?_)))
 all_goals exact zN (by exact rTm rfl) () trivial (by simp [resV,inB];omega) (fun _ h=>h.sub (by (repeat constructor)))
theorem zGy (lo hi:Int) (l:List Int) (A:Option Addr) (cap:Nat) (w:World) (hk:zg encI 1 w A l) (hl:l.length≤1000000):Gv Tryz.prog 30 [.int .i64 lo,.int .i64 hi,.slice A l.length cap] w (.bool (l.all (inB lo hi))):=by
 unfold Gv
 rw [← zFX]
 (refine zD (n:=11) Tryz.func30 rfl rfl rfl ?_)
 (repeat' (first|((with_reducible refine zH ?_);first|refine zF rfl rfl rfl ?_|refine zC rfl rfl rfl ?_|refine zE rfl rfl rfl rfl (fun _ _ q=>ci_con l A cap _ _ (fun n=>!inB lo hi n) _ (hk.below q.below) hl (fun x W' _ hW'=>bin_fn x lo hi _ _ W' (zBp q.own hW' rfl) (zBp q.own hW' rfl))) ?_|refine zAB rfl rfl rfl ?_|(refine zf rfl rfl rfl rfl (fun b=>?_))|refine zAq rfl rfl rfl rfl ?_)|(with_reducible first|refine zK ?_|refine zB ?_|refine zG ?_|refine zA ?_|refine zR ?_)))
 all_goals exact zN (by exact rTm rfl) () trivial rfl (fun _ h=>h.sub (by (repeat constructor)))
theorem bin1 (lo hi a:Int) (c:Nat) (A:Option Addr) (w:World) (hk:zg encI 1 w A [a]):Gv Tryz.prog 30 [.int .i64 lo,.int .i64 hi,.slice A 1 c] w (.bool (inB lo hi a)):=by
 have:=zGy lo hi [a] A c w hk (by simp)
 simpa using this
theorem bin2 (lo hi a b:Int) (c:Nat) (A:Option Addr) (w:World) (hk:zg encI 1 w A [a,b]):Gv Tryz.prog 30 [.int .i64 lo,.int .i64 hi,.slice A 2 c] w (.bool (inB lo hi a && inB lo hi b)):=by
 have:=zGy lo hi [a,b] A c w hk (by simp)
 simpa using this
theorem zw (n lo hi:Int) (w:World):Gv Tryz.prog 88 [.int .i64 n,.int .i64 lo,.int .i64 hi] w (.bool (inB lo hi n)):=by
 unfold Gv
 (refine zD (n:=15) Tryz.func88 rfl rfl rfl ?_)
 (repeat' (first|((with_reducible refine zH ?_);first|refine zF rfl rfl rfl ?_|refine zC rfl rfl rfl ?_|refine zn rfl rfl rfl rfl ?_|refine zd rfl rfl rfl ?_|(refine zS rfl rfl rfl rfl rfl (fun h=>?_) (fun h=>?_)<;>(dsimp only [cmpP] at h;(try (exfalso;omega)))))|(with_reducible first|refine zK ?_|refine zB ?_|refine zG ?_|refine zA ?_|refine zR ?_)))
 all_goals exact zN (by exact rTm rfl) () trivial (by simp [resV,inB];omega) (fun _ h=>h.sub (by (repeat constructor)))
theorem mulIn {a b A B:Int} (h1:0≤a) (h2:a≤A) (h3:0≤b) (h4:b≤B):0≤a * b∧a * b≤A * B :=
 ⟨Int.mul_nonneg h1 h3,Int.le_trans (Int.mul_le_mul_of_nonneg_right h2 h3) (Int.mul_le_mul_of_nonneg_left h4 (Int.le_trans h1 h2))⟩
def upWr (n b:Int):Int:=IntKind.i64.wrap ((IntKind.i64.wrap (IntKind.i64.wrap (n+b) - 1)).tdiv b)
theorem upWr_eq {n b:Int} (h1:0≤n) (h2:n≤4611686018427387904) (h3:1≤b) (h4:b≤1000000000):upWr n b=upI n b:=by
 unfold upWr upI
 rw [IntWalk.i64_in (n+b) (by omega),IntWalk.i64_in (n+b - 1) (by omega),Int.tdiv_eq_ediv_of_nonneg (by omega)]
 have h5:0≤(n+b - 1) / b:=Int.ediv_nonneg (by omega) (by omega)
 have h6:(n+b - 1) / b≤n+b - 1:=Int.ediv_le_self _ (by omega)
 exact IntWalk.i64_in _ (by omega)
theorem zFG (n b:Int) (w:World) (h:b≠0):Gv Tryz.prog 31 [.int .i64 n,.int .i64 b] w (.int .i64 (upWr n b)):=by
 unfold Gv
 (refine zD (n:=11) Tryz.func31 rfl rfl rfl ?_)
 (repeat' (first|((with_reducible refine zH ?_);first|refine zF rfl rfl rfl ?_|refine zC rfl rfl rfl ?_|refine u_addW rfl rfl rfl rfl ?_|refine zFH rfl rfl rfl rfl ?_|refine u_quoW rfl rfl rfl rfl h ?_)|(with_reducible first|refine zK ?_|refine zB ?_|refine zG ?_|refine zA ?_|refine zR ?_)))
 exact zN (by exact rTm rfl) () trivial rfl (fun _ h=>h.sub (by (repeat constructor)))
theorem up_ok (n b:Int) (w:World) (h1:0≤n) (h2:n≤4611686018427387904) (h3:1≤b) (h4:b≤1000000000):Gv Tryz.prog 31 [.int .i64 n,.int .i64 b] w (.int .i64 (upI n b)):=by
 rw [← upWr_eq h1 h2 h3 h4];exact zFG n b w (by omega)
theorem upI_in {n b:Int} (h1:0≤n) (h3:1≤b):0≤upI n b∧upI n b≤n:=by
 unfold upI
 refine ⟨Int.ediv_nonneg (by omega) (by omega),?_⟩
 rcases Int.lt_or_le n 1 with h|h
 ·obtain rfl:n=0:=by omega
  rw [Int.zero_add,Int.ediv_eq_zero_of_lt (by omega) (by omega)];omega
 ·have:=Int.mul_le_mul_of_nonneg_left h3 (show 0≤n by omega)
  have h5:=Int.mul_le_mul_of_nonneg_right (show 1≤n by omega) (show 0≤b - 1 by omega)
  rw [Int.one_mul] at h5
  refine Int.le_of_lt_add_one (Int.ediv_lt_of_lt_mul (by omega) ?_)
  rw [Int.add_mul,Int.one_mul]
  have:n * (b - 1)=n * b - n:=by rw [Int.mul_sub,Int.mul_one]
  omega
theorem zFs (a b:Int) (w:World) (h1:0≤a * b) (h2:a * b≤4611686018427387904):Gv Tryz.prog 127 [.int .i64 a,.int .i64 b] w (.int .i64 (upI (a * b) 1000000)):=by
 unfold Gv
 have e:upI (a * b) 1000000=if 0<a * b % 1000000 then a * b / 1000000+1 else a * b / 1000000:=by
  unfold upI;split<;>omega
 rw [e]
 generalize hn:a * b=n at *
 (refine zD (n:=17) Tryz.func127 rfl rfl rfl ?_)
 (repeat' (first|((with_reducible refine zH ?_);first|refine zF rfl rfl rfl ?_|refine zC rfl rfl rfl ?_|(refine zS rfl rfl rfl rfl rfl (fun h=>?_) (fun h=>?_)<;>(dsimp only [cmpP] at h;(try (exfalso;omega))))|(refine zDC (i:=a) (j:=b) rfl rfl rfl rfl (IntWalk.i64_in _ (by omega)) ?_;rw [hn])|refine zCx rfl rfl rfl rfl (IntWalk.i64_in _ (by omega)) ?_|refine zED rfl rfl rfl rfl (by omega) (by omega) (IntWalk.i64_in _ (by omega)) ?_|refine u_rem rfl rfl rfl rfl (by omega) (by omega) ?_)|(with_reducible first|refine zK ?_|refine zB ?_|refine zG ?_|refine zA ?_|refine zR ?_|refine zU ?_|refine zb ?_)|((with_reducible refine zO ?_ ?_);(· exact rfl))|((with_reducible refine zI ?_ ?_);(· exact rfl))))
 ·rw [if_pos h]
  exact zN (by exact rTm rfl) () trivial rfl (fun _ h=>h.sub (by (repeat constructor)))
 ·rw [if_neg h]
  exact zN (by exact rTm rfl) () trivial rfl (fun _ h=>h.sub (by (repeat constructor)))
end Go.Proofs.YtcpdjamlhhfbhaaGreat
namespace Go.Proofs.YtcpdjamlhhfbhaaGreat
variable {ro : Option Nat}
open Go.RowKit
theorem zBJ {P:Program} {b:Frame} {a:Act} {k:List Item} {cs:List Frame} {w:World} {c:Code}:step P (lone (b.atR a (.code (.scope c)::k)) cs w) = .next (lone (b.atR a (.code c :: .inScope c::k)) cs w) :=
 step_lone_go (by simp [stepG,stepG.exec,Frame.atR])
theorem zEl {P:Program} {b:Frame} {a:Act} {k:List Item} {cs:List Frame} {w:World} {c:Code}:step P (lone (b.atR a (.inScope c::k)) cs w) = .next (lone (b.atR a k) cs w) :=
 step_lone_go (by simp [stepG,stepG.exec,Frame.atR])
theorem zGB {F:Fence} {n:Nat} {P:Program} {Q:Exit→Act→World→Prop} {a:Act} {w:World} {c:Code} (h:c.wpIn F n P (Exit.noGoto Q) a w):(Code.scope c).wpIn F n P Q a w:=by
 intro b k cs hro hb hr
 have h0:(lone (b.atR a (.code (.scope c)::k)) cs w).fenced P F:=fenced_calm hb hr rfl
 obtain ⟨e,a₁,w₁,hq,harr⟩:=h b (.inScope c::k) cs hro hb hr
 cases e with
 | normal=>exact ⟨.normal,a₁,w₁,hq,.head h0 zBJ (StepsIn.trans harr (.one (fenced_calm hb hr rfl) zEl))⟩
 | exit id =>
  have hx:exitTo id (.inScope c::k)=exitTo id k:=by simp [exitTo]
  exact ⟨.exit id,a₁,w₁,hq,fun k' hk=>.head h0 zBJ (harr.1 k' (by rw [hx];exact hk)),
   fun hr' hk=>let ⟨k₁,h1,h2⟩:=harr.2 hr' (by rw [hx];exact hk);⟨k₁,h1,.head h0 zBJ h2⟩⟩
 | goto l=>exact hq.elim
 | ret=>exact ⟨_,a₁,w₁,hq,.of_steps (.one h0 zBJ) harr⟩
 | panic ch=>exact ⟨_,a₁,w₁,hq,.of_steps (.one h0 zBJ) harr⟩
 | outgrown=>exact ⟨_,a₁,w₁,hq,.of_steps (.one h0 zBJ) harr⟩
section
variable {P : Program} {w0:World} {n:Nat} {d:List Deferred} {R:List (Nat × Value)} {H:List Ent} {Q:Exit→Act→World→Prop}
theorem zGi {c:Code} (h:U w0 n d R H (c.wpI ro P (Exit.noGoto Q))):U w0 n d R H ((Code.scope c).wpI ro P Q):=fun a w k=>zGB (h a w k)
theorem zBg (h:U w0 n d R H (Q .ret)):U w0 n d R H (Exit.noGoto Q .ret):=h
end
section
variable {P : Program} {w0:World} {n:Nat} {d:List Deferred} {R:List (Nat × Value)} {H H':List Ent} {Q:Exit→Act→World→Prop} {ops:Array Oper} {rest:List Oper} {o:Oper} {t:Tmp} {x y:Operand}
theorem zFY {T1:TypeId} {ps:Array (Nat × Operand)} {s:Nat} {z:List Value} {qs:List (Nat × Value)} (hop:o.op = .build T1 ps) [i1:TyBA P T1 s z] (hrd:rdy R ops n o=some t) (hp:evp R ps.toList=some qs)
  (h:∃ cs,fillL (fun i=>some (i * s,s)) z qs=some cs∧U w0 n d ((t,.agg cs.toArray)::R) H (wpL ro P ops Q rest)):U w0 n d R H (wpL ro P ops Q (o::rest)):=by
 obtain ⟨cs,hf,h⟩:=h
 exact zAI hrd (fun a w q=>by
  unfold execOp;rw [hop]
  have e1:(ps.map fun (i,x)=>(i,a.eval x)).toList=qs:=by rw [Array.toList_map];exact q.evp hp
  have e2:P.built T1 (ps.map fun (i,x)=>(i,a.eval x)).toList=some cs.toArray:=by
   rw [i1.bui,e1]
   exact fill_eq _ qs z cs hf
  simp only [Sem.run_bind,run_build w T1 _ _ e2,Result.andThen_ok,Sem.run_pure]) h
end
end Go.Proofs.YtcpdjamlhhfbhaaGreat
