/- A19 -/
import Derived.Test.YtfiekidciiighaaGreatA10
import Derived.Test.YtfiekidciiighaaGreatA18
import Derived.Test.YtfiekidciiighaaGreatA11
set_option linter.unusedSimpArgs false
set_option linter.unusedVariables false
namespace Go.Proofs.YtfiekidciiighaaGreat.Two
open Go.ChangeShapes Go.WideShapes Go.ChangeAt Go.RowKit
set_option maxRecDepth 20000
section
variable {H : Type} {enc:TypeId × Value→H} {w:World} {held:Bool} {n:Nat} {cs:List Value} {x:DataW H × List MemPlace}
theorem rd_sy (h:DataW.trod enc Tryz.prog w 0 (fun _=>true) held n 169 cs=some x):∃ s:Sy,cs=zBV s∧True:=by
 have hl:=zCx Tryz.underlying169 h (k:=3) (by kernel_rfl)
 obtain ⟨n0,y0,h0⟩:=zAE Tryz.underlying169 h (j:=0) rfl rfl (k:=1) (by kernel_rfl)
 obtain ⟨n1,y1,h1⟩:=zAE Tryz.underlying169 h (j:=1) rfl rfl (k:=2) (by kernel_rfl)
 obtain ⟨a,e0,_⟩:=zA5 Tryz.underlying3 h0
 obtain ⟨b,e1,_⟩:=zJW h1
 match cs,hl with
 | [c0,c1,c2],_ =>
  simp [zAr] at e0 e1
  exact ⟨⟨a,b⟩,by simp [zBV,e0,e1],trivial⟩
theorem rd_ck (h:DataW.trod enc Tryz.prog w 0 (fun _=>true) held n 77 cs=some x):∃ s:CkM,cs=zB8 s∧zAC zBV 3 w s.A s.c.syncs∧s.c.syncs.length≤s.cap:=by
 have hl:=zCx Tryz.underlying77 h (k:=2) (by kernel_rfl)
 obtain ⟨n0,y0,h0⟩:=zAE Tryz.underlying77 h (j:=0) rfl rfl (k:=1) (by kernel_rfl)
 obtain ⟨n1,y1,h1⟩:=zAE Tryz.underlying77 h (j:=1) rfl rfl (k:=1) (by kernel_rfl)
 obtain ⟨a,e0,_⟩:=zA5 Tryz.underlying3 h0
 obtain ⟨A,l,c,e1,hs,_,hc,_⟩:=zCw (en:=zBV) (k:=3) (ok:=fun _=>True) Tryz.underlying75 (by kernel_rfl) (by omega) (fun _=>rfl) (fun _ _ _ h=>rd_sy h) h1
 match cs,hl with
 | [c0,c1],_ =>
  simp at e0 e1
  exact ⟨⟨⟨a,l⟩,A,c⟩,by simp [zB8,e0,e1],hs,hc⟩
theorem rd_bm (h:DataW.trod enc Tryz.prog w 0 (fun _=>true) held n 141 cs=some x):∃ s:Bm,cs=zDj s∧True:=by
 have hl:=zCx Tryz.underlying141 h (k:=4) (by kernel_rfl)
 obtain ⟨n0,y0,h0⟩:=zAE Tryz.underlying141 h (j:=0) rfl rfl (k:=3) (by kernel_rfl)
 obtain ⟨n1,y1,h1⟩:=zAE Tryz.underlying141 h (j:=1) rfl rfl (k:=1) (by kernel_rfl)
 obtain ⟨a,e0,_⟩:=rd_spot h0
 obtain ⟨b,e1,_⟩:=zA5 Tryz.underlying3 h1
 match cs,hl with
 | [c0,c1,c2,c3],_ =>
  simp [zBv] at e0 e1
  exact ⟨⟨a,b⟩,by simp [zDj,e0,e1],trivial⟩
theorem rd_sg (h:DataW.trod enc Tryz.prog w 0 (fun _=>true) held n 148 cs=some x):∃ s:Sgn,cs=zAw s∧True:=by
 have hl:=zCx Tryz.underlying148 h (k:=2) (by kernel_rfl)
 obtain ⟨n0,y0,h0⟩:=zAE Tryz.underlying148 h (j:=0) rfl rfl (k:=1) (by kernel_rfl)
 obtain ⟨n1,y1,h1⟩:=zAE Tryz.underlying148 h (j:=1) rfl rfl (k:=1) (by kernel_rfl)
 obtain ⟨a,e0,_⟩:=zA5 Tryz.underlying3 h0
 obtain ⟨b,e1,_⟩:=zA5 Tryz.underlying3 h1
 match cs,hl with
 | [c0,c1],_ =>
  simp at e0 e1
  exact ⟨⟨a,b⟩,by simp [zAw,e0,e1],trivial⟩
theorem rd_gn (h:DataW.trod enc Tryz.prog w 0 (fun _=>true) held n 108 cs=some x):∃ s:Gn,cs=zEt s∧True:=by
 have hl:=zCx Tryz.underlying108 h (k:=2) (by kernel_rfl)
 obtain ⟨n0,y0,h0⟩:=zAE Tryz.underlying108 h (j:=0) rfl rfl (k:=1) (by kernel_rfl)
 obtain ⟨n1,y1,h1⟩:=zAE Tryz.underlying108 h (j:=1) rfl rfl (k:=1) (by kernel_rfl)
 obtain ⟨a,e0,_⟩:=zA5 Tryz.underlying3 h0
 obtain ⟨b,e1,_⟩:=zA5 Tryz.underlying3 h1
 match cs,hl with
 | [c0,c1],_ =>
  simp at e0 e1
  exact ⟨⟨a,b⟩,by simp [zEt,e0,e1],trivial⟩
theorem rd_na (h:DataW.trod enc Tryz.prog w 0 (fun _=>true) held n 104 cs=some x):∃ s:Na,cs=zEs s∧True:=by
 have hl:=zCx Tryz.underlying104 h (k:=3) (by kernel_rfl)
 obtain ⟨n0,y0,h0⟩:=zAE Tryz.underlying104 h (j:=0) rfl rfl (k:=1) (by kernel_rfl)
 obtain ⟨n1,y1,h1⟩:=zAE Tryz.underlying104 h (j:=1) rfl rfl (k:=1) (by kernel_rfl)
 obtain ⟨n2,y2,h2⟩:=zAE Tryz.underlying104 h (j:=2) rfl rfl (k:=1) (by kernel_rfl)
 obtain ⟨a,e0,_⟩:=zA5 Tryz.underlying3 h0
 obtain ⟨b,e1,_⟩:=zA5 Tryz.underlying3 h1
 obtain ⟨c,e2,_⟩:=zA5 Tryz.underlying3 h2
 match cs,hl with
 | [c0,c1,c2],_ =>
  simp at e0 e1 e2
  exact ⟨⟨a,b,c⟩,by simp [zEs,e0,e1,e2],trivial⟩
theorem rd_pm (h:DataW.trod enc Tryz.prog w 0 (fun _=>true) held n 33 cs=some x):∃ s:Pm,cs=zIO s:=by
 have hl:=zCx Tryz.underlying33 h (k:=3) (by kernel_rfl)
 obtain ⟨n0,y0,h0⟩:=zAE Tryz.underlying33 h (j:=0) rfl rfl (k:=1) (by kernel_rfl)
 obtain ⟨n1,y1,h1⟩:=zAE Tryz.underlying33 h (j:=1) rfl rfl (k:=1) (by kernel_rfl)
 obtain ⟨n2,y2,h2⟩:=zAE Tryz.underlying33 h (j:=2) rfl rfl (k:=1) (by kernel_rfl)
 obtain ⟨a,e0,_⟩:=zA5 Tryz.underlying3 h0
 obtain ⟨b,e1,_⟩:=zA5 Tryz.underlying3 h1
 obtain ⟨c,e2,_⟩:=zA5 Tryz.underlying3 h2
 match cs,hl with
 | [c0,c1,c2],_ =>
  simp at e0 e1 e2
  exact ⟨⟨a,b,c⟩,by simp [zIO,e0,e1,e2]⟩
theorem rd_rd (h:DataW.trod enc Tryz.prog w 0 (fun _=>true) held n 60 cs=some x):∃ s:RdM,cs=zAN s∧zAC zAw 2 w s.A s.r.sigs:=by
 have hl:=zCx Tryz.underlying60 h (k:=3) (by kernel_rfl)
 obtain ⟨n0,y0,h0⟩:=zAE Tryz.underlying60 h (j:=0) rfl rfl (k:=1) (by kernel_rfl)
 obtain ⟨n1,y1,h1⟩:=zAE Tryz.underlying60 h (j:=1) rfl rfl (k:=1) (by kernel_rfl)
 obtain ⟨n2,y2,h2⟩:=zAE Tryz.underlying60 h (j:=2) rfl rfl (k:=1) (by kernel_rfl)
 obtain ⟨a,e0,_⟩:=zA5 Tryz.underlying3 h0
 obtain ⟨b,e1,_⟩:=zA5 Tryz.underlying3 h1
 obtain ⟨A,l,c,e2,hs,_,hc,_⟩:=zCw (en:=zAw) (k:=2) (ok:=fun _=>True) Tryz.underlying58 (by kernel_rfl) (by omega) (fun _=>rfl) (fun _ _ _ h=>rd_sg h) h2
 match cs,hl with
 | [c0,c1,c2],_ =>
  simp at e0 e1 e2
  exact ⟨⟨⟨a,b,l⟩,A,c⟩,by simp [zAN,e0,e1,e2],hs⟩
theorem rd_at (h:DataW.trod enc Tryz.prog w 0 (fun _=>true) held n 57 cs=some x):∃ s:AtM,cs=zB1 s∧zAC zAN 3 w s.A s.rides∧∀ y∈s.rides,zAC zAw 2 w y.A y.r.sigs:=by
 have hl:=zCx Tryz.underlying57 h (k:=4) (by kernel_rfl)
 obtain ⟨n0,y0,h0⟩:=zAE Tryz.underlying57 h (j:=0) rfl rfl (k:=1) (by kernel_rfl)
 obtain ⟨n1,y1,h1⟩:=zAE Tryz.underlying57 h (j:=1) rfl rfl (k:=1) (by kernel_rfl)
 obtain ⟨n2,y2,h2⟩:=zAE Tryz.underlying57 h (j:=2) rfl rfl (k:=1) (by kernel_rfl)
 obtain ⟨n3,y3,h3⟩:=zAE Tryz.underlying57 h (j:=3) rfl rfl (k:=1) (by kernel_rfl)
 obtain ⟨a,e0,_⟩:=zA5 Tryz.underlying3 h0
 obtain ⟨b,e1,_⟩:=zA5 Tryz.underlying3 h1
 obtain ⟨d,e2,_⟩:=zA5 Tryz.underlying3 h2
 obtain ⟨A,l,c,e3,hs,hr,hc,_⟩:=zCw (en:=zAN) (k:=3) (ok:=fun y=>zAC zAw 2 w y.A y.r.sigs) Tryz.underlying55 (by kernel_rfl) (by omega) (fun _=>rfl) (fun _ _ _ h=>rd_rd h) h3
 match cs,hl with
 | [c0,c1,c2,c3],_ =>
  simp at e0 e1 e2 e3
  exact ⟨⟨a,b,d,A,l,c⟩,by simp [zB1,e0,e1,e2,e3],hs,hr⟩
set_option maxRecDepth 20000 in
theorem rd_ln (h:DataW.trod enc Tryz.prog w 0 (fun _=>true) held n 28 cs=some x):∃ l:LnM,cs=zAH l∧zCY w l∧zEx l.t:=by
 have hl:=zCx Tryz.underlying28 h (k:=7) (by kernel_rfl)
 obtain ⟨n0,y0,h0⟩:=zAE Tryz.underlying28 h (j:=0) rfl rfl (k:=1) (by kernel_rfl)
 obtain ⟨n1,y1,h1⟩:=zAE Tryz.underlying28 h (j:=1) rfl rfl (k:=1) (by kernel_rfl)
 obtain ⟨n2,y2,h2⟩:=zAE Tryz.underlying28 h (j:=2) rfl rfl (k:=1) (by kernel_rfl)
 obtain ⟨n3,y3,h3⟩:=zAE Tryz.underlying28 h (j:=3) rfl rfl (k:=1) (by kernel_rfl)
 obtain ⟨n4,y4,h4⟩:=zAE Tryz.underlying28 h (j:=4) rfl rfl (k:=1) (by kernel_rfl)
 obtain ⟨n5,y5,h5⟩:=zAE Tryz.underlying28 h (j:=5) rfl rfl (k:=1) (by kernel_rfl)
 obtain ⟨n6,y6,h6⟩:=zAE Tryz.underlying28 h (j:=6) rfl rfl (k:=1) (by kernel_rfl)
 obtain ⟨n8,y8,h8⟩:=zAE Tryz.underlying24 h0 (j:=0) rfl rfl (k:=1) (by kernel_rfl)
 obtain ⟨TA,t,tc,e0,s0,f0,_,_⟩:=zCw (en:=zBq) (k:=9) (ok:=FitSt) Tryz.underlying22 (by kernel_rfl) (by omega) (fun _=>rfl) (fun _ _ _ h=>rd_st h) h8
 obtain ⟨a,e1,_⟩:=zA5 Tryz.underlying3 h1
 obtain ⟨CA,ck,cc,e2,s2,f2,_,_⟩:=zCw (en:=zB8) (k:=2) (ok:=fun s:CkM=>zAC zBV 3 w s.A s.c.syncs∧s.c.syncs.length≤s.cap) Tryz.underlying25 (by kernel_rfl) (by omega) (fun _=>rfl) (fun _ _ _ h=>rd_ck h) h2
 obtain ⟨BA,bm,bc,e3,s3,_,_,_⟩:=zCw (en:=zDj) (k:=4) (ok:=fun _=>True) Tryz.underlying26 (by kernel_rfl) (by omega) (fun _=>rfl) (fun _ _ _ h=>rd_bm h) h3
 obtain ⟨b,e4,_⟩:=zA5 Tryz.underlying3 h4
 obtain ⟨c,e5,_⟩:=zA5 Tryz.underlying3 h5
 obtain ⟨d,e6,_⟩:=zA5 Tryz.underlying3 h6
 refine ⟨⟨t,TA,tc,a,ck,CA,cc,bm,BA,bc,b,c,d⟩,?_,⟨s0,s2,fun x hx=>(f2 x hx).1,fun x hx=>(f2 x hx).2,s3⟩,fun s hs=>(f0 s hs).2.2.2.2.1⟩
 match cs,hl with
 | [c0,c1,c2,c3,c4,c5,c6],_ =>
  simp at e0 e1 e2 e3 e4 e5 e6
  simp [zAH,e0,e1,e2,e3,e4,e5,e6]
theorem rd_p3 (h:DataW.trod enc Tryz.prog w 0 (fun _=>true) held n 34 cs=some x):∃ p1 p2 p3:Pm,cs=zIO p1++(zIO p2++zIO p3):=by
 obtain ⟨xs,m,rfl,ex,hlen,hl,hel⟩:=DataW.trod_array Tryz.underlying34 h
 have c1:Tryz.prog.cellsOf 34=9:=by kernel_rfl
 have c2:Tryz.prog.cellsOf 33=3:=by kernel_rfl
 rw [c1] at hlen
 match xs,hl with
 | [x0,x1,x2],_ =>
  match cs,hlen with
  | [a0,a1,a2,a3,a4,a5,a6,a7,a8],_ =>
   have h0:=hel 0 (by omega)
   have h1:=hel 1 (by omega)
   have h2:=hel 2 (by omega)
   rw [c2] at h0 h1 h2
   simp only [Nat.zero_mul,Nat.one_mul,Nat.reduceMul,List.drop_zero,List.take_succ_cons,List.take_zero,List.drop_succ_cons,List.getElem?_cons_zero,List.getElem?_cons_succ] at h0 h1 h2
   obtain ⟨p1,e1⟩:=rd_pm h0
   obtain ⟨p2,e2⟩:=rd_pm h1
   obtain ⟨p3,e3⟩:=rd_pm h2
   refine ⟨p1,p2,p3,?_⟩
   rw [← e1,← e2,← e3];rfl
set_option maxRecDepth 20000 in
theorem open_tn {base:Nat} {r:Reach} {v:Value} {dd:DataW H} {p:List MemPlace} (hv:Value.okWide Tryz.prog w r base 36 v) (h:DataW.Trod enc Tryz.prog w 0 (fun _=>true) held 36 v dd p):∃ t:TrM,v=vTn t∧zCj w t∧zEx t.l.t:=by
 obtain ⟨cs,rfl,_⟩:=okWide_struct Tryz.underlying36 hv
 obtain ⟨fuel,hf⟩:=h
 have hl:=zCx Tryz.underlying36 hf (k:=25) (by kernel_rfl)
 obtain ⟨n0,y0,h0⟩:=zAE Tryz.underlying36 hf (j:=0) rfl rfl (k:=7) (by kernel_rfl)
 obtain ⟨n1,y1,h1⟩:=zAE Tryz.underlying36 hf (j:=1) rfl rfl (k:=1) (by kernel_rfl)
 obtain ⟨n2,y2,h2⟩:=zAE Tryz.underlying36 hf (j:=2) rfl rfl (k:=1) (by kernel_rfl)
 obtain ⟨n3,y3,h3⟩:=zAE Tryz.underlying36 hf (j:=3) rfl rfl (k:=1) (by kernel_rfl)
 obtain ⟨n4,y4,h4⟩:=zAE Tryz.underlying36 hf (j:=4) rfl rfl (k:=1) (by kernel_rfl)
 obtain ⟨n5,y5,h5⟩:=zAE Tryz.underlying36 hf (j:=5) rfl rfl (k:=1) (by kernel_rfl)
 obtain ⟨n6,y6,h6⟩:=zAE Tryz.underlying36 hf (j:=6) rfl rfl (k:=1) (by kernel_rfl)
 obtain ⟨n7,y7,h7⟩:=zAE Tryz.underlying36 hf (j:=7) rfl rfl (k:=1) (by kernel_rfl)
 obtain ⟨n8,y8,h8⟩:=zAE Tryz.underlying36 hf (j:=8) rfl rfl (k:=1) (by kernel_rfl)
 obtain ⟨n9,y9,h9⟩:=zAE Tryz.underlying36 hf (j:=9) rfl rfl (k:=1) (by kernel_rfl)
 obtain ⟨n10,y10,h10⟩:=zAE Tryz.underlying36 hf (j:=10) rfl rfl (k:=9) (by kernel_rfl)
 obtain ⟨ln,e0,hL,hF⟩:=rd_ln h0
 obtain ⟨NA,na,nc,e1,s1,_,_,_⟩:=zCw (en:=zEs) (k:=3) (ok:=fun _=>True) Tryz.underlying29 (by kernel_rfl) (by omega) (fun _=>rfl) (fun _ _ _ h=>rd_na h) h1
 obtain ⟨GA,gn,gc,e2,s2,_,_,_⟩:=zCw (en:=zEt) (k:=2) (ok:=fun _=>True) Tryz.underlying30 (by kernel_rfl) (by omega) (fun _=>rfl) (fun _ _ _ h=>rd_gn h) h2
 obtain ⟨v3,e3,_⟩:=zA5 Tryz.underlying3 h3
 obtain ⟨v4,e4,_⟩:=zA5 Tryz.underlying3 h4
 obtain ⟨v5,e5,_⟩:=zA5 Tryz.underlying3 h5
 obtain ⟨v6,e6,_⟩:=zA5 Tryz.underlying3 h6
 obtain ⟨v7,e7,_⟩:=zA5 Tryz.underlying3 h7
 obtain ⟨v8,e8,_⟩:=zA5 Tryz.underlying3 h8
 obtain ⟨AA,at',ac,e9,s9,f9,_,_⟩:=zCw (en:=zB1) (k:=4) (ok:=fun s:AtM=>zAC zAN 3 w s.A s.rides∧∀ y∈s.rides,zAC zAw 2 w y.A y.r.sigs) Tryz.underlying31 (by kernel_rfl) (by omega) (fun _=>rfl) (fun _ _ _ h=>rd_at h) h9
 obtain ⟨p1,p2,p3,e10⟩:=rd_p3 h10
 refine ⟨⟨ln,na,NA,nc,gn,GA,gc,v3,v4,v5,v6,v7,v8,at',AA,ac,p1,p2,p3⟩,?_,⟨hL,s1,s2,s9,fun x hx=>(f9 x hx).1,fun x hx=>(f9 x hx).2⟩,hF⟩
 obtain ⟨l⟩:=cs
 match l,hl with
 | [c0,c1,c2,c3,c4,c5,c6,c7,c8,c9,c10,c11,c12,c13,c14,c15,c16,c17,c18,c19,c20,c21,c22,c23,c24],_ =>
  simp [Value.cells,zAH,zIO] at e0 e1 e2 e3 e4 e5 e6 e7 e8 e9 e10
  simp [vTn,zg,e0,e1,e2,e3,e4,e5,e6,e7,e8,e9,e10]
end
end Go.Proofs.YtfiekidciiighaaGreat.Two
namespace Go.Proofs.YtfiekidciiighaaGreat.Two
def zIp (f:Tal→Option Int) (y:Tal) (b:Int):Tal→Option Int:=if (match f y with|none=>true|some v=>decide (b<v))=true then zCs f y (some b) else f
def zIq (f:Tal→Option Int) (y:Tal) (b:Int):Tal→Option Int:=if (match f y with|none=>true|some v=>decide (v<b))=true then zCs f y (some b) else f
theorem zLw {S:Tal→Int→Prop} {f:Tal→Option Int} (h:zAy S f) (y:Tal) (b:Int):zAy (fun x u=>S x u∨(x=y∧u=b)) (zIp f y b):=by
 unfold zIp
 cases hf:f y with
 | none =>
  simp only [if_true]
  exact h.put fun v hv=>by rw [hf] at hv;cases hv
 | some v =>
  simp only [decide_eq_true_eq]
  split
  ·next hlt=>exact h.put fun v' hv=>by rw [hf] at hv;cases hv;omega
  ·next hlt=>exact h.keep hf (by omega)
theorem zLx {S:Tal→Int→Prop} {f:Tal→Option Int} (h:zA4 S f) (y:Tal) (b:Int):zA4 (fun x u=>S x u∨(x=y∧u=b)) (zIq f y b):=by
 unfold zIq
 cases hf:f y with
 | none =>
  simp only [if_true]
  exact h.put fun v hv=>by rw [hf] at hv;cases hv
 | some v =>
  simp only [decide_eq_true_eq]
  split
  ·next hlt=>exact h.put fun v' hv=>by rw [hf] at hv;cases hv;omega
  ·next hlt=>exact h.keep hf (by omega)
def zBr (l:LnM) (r:Rid) (b i:Nat) (k:Int):Option Sp:=match k with
 | .ofNat j=>if j<i then (match r.sigs[j]? with|some s=>if s.beam=(b:Int)∧(zAm l s).lo≤(zAm l s).hi then some (zAm l s) else none|none=>none) else none
 | .negSucc _=>none
theorem zJF {l:LnM} {r:Rid} {b:Nat}:zBr l r b 0=fun _=>none:=by
 funext k;unfold zBr;cases k<;>simp
theorem zJG {l:LnM} {r:Rid} {b i:Nat} {s:Sgn} (h:r.sigs[i]?=some s):zBr l r b (i+1)=if s.beam=(b:Int)∧(zAm l s).lo≤(zAm l s).hi then zCs (zBr l r b i) (i:Int) (some (zAm l s)) else zBr l r b i:=by
 funext k
 split
 ·next hc =>
  unfold zCs
  by_cases e:k=(i:Int)
  ·subst e
   rw [if_pos rfl]
   show (if i<i+1 then _ else _)=_
   rw [if_pos (by omega),h]
   simp only
   rw [if_pos hc]
  ·rw [if_neg e]
   unfold zBr
   cases k with
   | negSucc=>rfl
   | ofNat j =>
    simp only
    have:j≠i:=fun e2=>e (by rw [e2];rfl)
    by_cases hj:j<i
    ·rw [if_pos hj,if_pos (by omega)]
    ·rw [if_neg hj,if_neg (by omega)]
 ·next hc =>
  unfold zBr
  cases k with
  | negSucc=>rfl
  | ofNat j =>
   simp only
   by_cases hj:j<i
   ·rw [if_pos hj,if_pos (by omega)]
   ·rw [if_neg hj]
    by_cases e:j=i
    ·subst e
     rw [if_pos (by omega),h]
     simp only
     rw [if_neg hc]
    ·rw [if_neg (by omega)]
theorem zHI {l:LnM} {r:Rid} {b:Nat} {o:Opn}:o∈(krd l r).opts b↔o=⟨-1,r.start,r.now⟩∨∃ i t,zBr l r b r.sigs.length i=some t∧o=⟨i,t.lo,t.hi⟩:=by
 unfold krd
 rw [opts_mem]
 constructor
 ·rintro (h | ⟨s,i,h1,h2,h3,h4⟩)
  ·exact .inl h
  ·have hi:=(List.getElem?_eq_some_iff.1 h1).1
   refine .inr ⟨(i:Int),zAm l s,?_,?_⟩
   ·show (if i<r.sigs.length then _ else _)=_
    rw [if_pos hi,h1]
    simp only
    refine if_pos ⟨h2,?_⟩
    unfold zAm
    rw [h2,Int.toNat_natCast];exact h3
   ·unfold zAm
    rw [h2,Int.toNat_natCast];exact h4
 ·rintro (h | ⟨i,t,h1,h2⟩)
  ·exact .inl h
  ·cases i with
   | negSucc j=>cases h1
   | ofNat j =>
    unfold zBr at h1
    simp only at h1
    split at h1
    ·next hj =>
     cases hs:r.sigs[j]? with
     | none=>rw [hs] at h1;cases h1
     | some s =>
      rw [hs] at h1
      simp only at h1
      split at h1
      ·next hc =>
       cases h1
       have e:zAm l s=zBd (clkI l b).c s.read:=by unfold zAm;rw [hc.1,Int.toNat_natCast]
       rw [e] at hc h2
       exact .inr ⟨s,j,hs,hc.1,hc.2,h2⟩
      ·cases h1
    ·cases h1
def FwdS (k:RdK) (b:Nat) (P:Tal→Int→Prop) (t:Tal) (v:Int):Prop:=∃ s a o,P s a∧o∈k.opts b∧zAi k b a o≤min o.hi k.now∧t=s.plus (zBm o.sig)∧v=zAi k b a o
def FwdO (k:RdK) (b:Nat) (s:Tal) (a:Int) (os:List Opn) (t:Tal) (v:Int):Prop:=∃ o∈os,zAi k b a o≤min o.hi k.now∧t=s.plus (zBm o.sig)∧v=zAi k b a o
def BckS (k:RdK) (b:Nat) (P:Tal→Int→Prop) (t:Tal) (v:Int):Prop:=(t=⟨0,0⟩∧v=k.now)∨∃ s e o,P s e∧o∈k.opts b∧o.lo≤min e o.hi∧t=s.plus (zBm o.sig)∧v=min e o.hi - k.least b
def BckO (k:RdK) (b:Nat) (s:Tal) (e:Int) (os:List Opn) (t:Tal) (v:Int):Prop:=∃ o∈os,o.lo≤min e o.hi∧t=s.plus (zBm o.sig)∧v=min e o.hi - k.least b
section
variable {k : RdK} {b:Nat}
theorem fwd_one {S:Tal→Int→Prop} {g:Tal→Option Int} {s:Tal} {a:Int} {os:List Opn} {o:Opn} (h:zAy (fun t v=>S t v∨FwdO k b s a os t v) g) (hc:zAi k b a o≤min o.hi k.now):zAy (fun t v=>S t v∨FwdO k b s a (os++[o]) t v) (zIp g (s.plus (zBm o.sig)) (zAi k b a o)):=by
 refine (zLw h (s.plus (zBm o.sig)) (zAi k b a o)).congr fun t v=>?_
 unfold FwdO
 simp only [List.mem_append,List.mem_singleton]
 constructor
 ·rintro ((h | ⟨o',h1,h2⟩) | ⟨h1,h2⟩)
  ·exact .inl h
  ·exact .inr ⟨o',.inl h1,h2⟩
  ·exact .inr ⟨o,.inr rfl,hc,h1,h2⟩
 ·rintro (h | ⟨o',h1|rfl,h2⟩)
  ·exact .inl (.inl h)
  ·exact .inl (.inr ⟨o',h1,h2⟩)
  ·exact .inr h2.2
theorem fwd_no {S:Tal→Int→Prop} {g:Tal→Option Int} {s:Tal} {a:Int} {os:List Opn} {o:Opn} (h:zAy (fun t v=>S t v∨FwdO k b s a os t v) g) (hc:¬ zAi k b a o≤min o.hi k.now):zAy (fun t v=>S t v∨FwdO k b s a (os++[o]) t v) g:=by
 refine h.congr fun t v=>?_
 unfold FwdO
 simp only [List.mem_append,List.mem_singleton]
 constructor
 ·rintro (h | ⟨o',h1,h2⟩)
  ·exact .inl h
  ·exact .inr ⟨o',.inl h1,h2⟩
 ·rintro (h | ⟨o',h1|rfl,h2⟩)
  ·exact .inl h
  ·exact .inr ⟨o',h1,h2⟩
  ·exact absurd h2.1 hc
theorem bck_one {S:Tal→Int→Prop} {g:Tal→Option Int} {s:Tal} {e:Int} {os:List Opn} {o:Opn} (h:zA4 (fun t v=>S t v∨BckO k b s e os t v) g) (hc:o.lo≤min e o.hi):zA4 (fun t v=>S t v∨BckO k b s e (os++[o]) t v) (zIq g (s.plus (zBm o.sig)) (min e o.hi - k.least b)):=by
 refine (zLx h (s.plus (zBm o.sig)) (min e o.hi - k.least b)).congr fun t v=>?_
 unfold BckO
 simp only [List.mem_append,List.mem_singleton]
 constructor
 ·rintro ((h | ⟨o',h1,h2⟩) | ⟨h1,h2⟩)
  ·exact .inl h
  ·exact .inr ⟨o',.inl h1,h2⟩
  ·exact .inr ⟨o,.inr rfl,hc,h1,h2⟩
 ·rintro (h | ⟨o',h1|rfl,h2⟩)
  ·exact .inl (.inl h)
  ·exact .inl (.inr ⟨o',h1,h2⟩)
  ·exact .inr h2.2
theorem bck_no {S:Tal→Int→Prop} {g:Tal→Option Int} {s:Tal} {e:Int} {os:List Opn} {o:Opn} (h:zA4 (fun t v=>S t v∨BckO k b s e os t v) g) (hc:¬ o.lo≤min e o.hi):zA4 (fun t v=>S t v∨BckO k b s e (os++[o]) t v) g:=by
 refine h.congr fun t v=>?_
 unfold BckO
 simp only [List.mem_append,List.mem_singleton]
 constructor
 ·rintro (h | ⟨o',h1,h2⟩)
  ·exact .inl h
  ·exact .inr ⟨o',.inl h1,h2⟩
 ·rintro (h | ⟨o',h1|rfl,h2⟩)
  ·exact .inl h
  ·exact .inr ⟨o',h1,h2⟩
  ·exact absurd h2.1 hc
theorem fwd_all {P:Tal→Int→Prop} {g:Tal→Option Int} {s:Tal} {a:Int} {os:List Opn} (h:zAy (fun t v=>FwdS k b P t v∨FwdO k b s a os t v) g) (h1:∀ o∈os,o∈k.opts b) (h2:∀ o∈k.opts b,o∈os):zAy (FwdS k b (fun t v=>P t v∨(t=s∧v=a))) g:=by
 refine h.congr fun t v=>?_
 unfold FwdS FwdO
 constructor
 ·rintro (⟨s',a',o,q1,q2⟩ | ⟨o,q1,q2⟩)
  ·exact ⟨s',a',o,.inl q1,q2⟩
  ·exact ⟨s,a,o,.inr ⟨rfl,rfl⟩,h1 o q1,q2⟩
 ·rintro ⟨s',a',o,q1 | ⟨rfl,rfl⟩,q2,q3⟩
  ·exact .inl ⟨s',a',o,q1,q2,q3⟩
  ·exact .inr ⟨o,h2 o q2,q3⟩
theorem bck_all {P:Tal→Int→Prop} {g:Tal→Option Int} {s:Tal} {e:Int} {os:List Opn} (h:zA4 (fun t v=>BckS k b P t v∨BckO k b s e os t v) g) (h1:∀ o∈os,o∈k.opts b) (h2:∀ o∈k.opts b,o∈os):zA4 (BckS k b (fun t v=>P t v∨(t=s∧v=e))) g:=by
 refine h.congr fun t v=>?_
 unfold BckS BckO
 constructor
 ·rintro ((q | ⟨s',a',o,q1,q2⟩) | ⟨o,q1,q2⟩)
  ·exact .inl q
  ·exact .inr ⟨s',a',o,.inl q1,q2⟩
  ·exact .inr ⟨s,e,o,.inr ⟨rfl,rfl⟩,h1 o q1,q2⟩
 ·rintro (q | ⟨s',a',o,q1 | ⟨rfl,rfl⟩,q2,q3⟩)
  ·exact .inl (.inl q)
  ·exact .inl (.inr ⟨s',a',o,q1,q2,q3⟩)
  ·exact .inr ⟨o,h2 o q2,q3⟩
theorem zL5 : zAy (FwdS k b (fun _ _=>False)) (fun _=>none):=zAy.none.congr fun t v=>⟨fun h=>h.elim,fun ⟨_,_,_,h,_⟩=>h.elim⟩
theorem zMA : zA4 (BckS k b (fun _ _=>False)) (zCs (fun _=>none) ⟨0,0⟩ (some k.now)):=by
 refine (zA4.put (y:=(⟨0,0⟩:Tal)) (b:=k.now) zA4.none (fun v hv=>by cases hv)).congr fun t v=>?_
 unfold BckS
 constructor
 ·rintro (h|h)
  ·exact h.elim
  ·exact .inl h
 ·rintro (h | ⟨_,_,_,h,_⟩)
  ·exact .inr h
  ·exact h.elim
theorem min_zero : zAy (SF k 0) (zCs (fun _=>none) ⟨0,0⟩ (some k.start)):=by
 refine (zAy.put (y:=(⟨0,0⟩:Tal)) (b:=k.start) zAy.none (fun v hv=>by cases hv)).congr fun t v=>?_
 rw [sf_zero]
 exact ⟨fun h=>h.elim (fun h=>h.elim) id,.inr⟩
theorem max_last : zA4 (SB k k.m) (zCs (fun _=>none) ⟨0,0⟩ (some k.now)):=by
 refine (zA4.put (y:=(⟨0,0⟩:Tal)) (b:=k.now) zA4.none (fun v hv=>by cases hv)).congr fun t v=>?_
 rw [sb_last t v k.m (Nat.le_refl _) (Nat.le_refl _)]
 exact ⟨fun h=>h.elim (fun h=>h.elim) id,.inr⟩
theorem fwd_done {f g:Tal→Option Int} {P:Tal→Int→Prop} (hf:zAy (SF k b) f) (hg:zAy (FwdS k b P) g) (hP:∀ s a,P s a↔f s=some a):zAy (SF k (b+1)) g:=min_step hf (hg.congr fun t v=>by
 unfold FwdS
 simp only [hP])
theorem bck_done {f g:Tal→Option Int} {P:Tal→Int→Prop} (hb:b<k.m) (hf:zA4 (SB k (b+1)) f) (hg:zA4 (BckS k b P) g) (hP:∀ s a,P s a↔f s=some a):zA4 (SB k b) g:=max_step hb hf (hg.congr fun t v=>by
 unfold BckS
 simp only [hP])
end
end Go.Proofs.YtfiekidciiighaaGreat.Two
namespace Go.Proofs.YtfiekidciiighaaGreat.Two
def clip (k:RdK):RdK:={ k with least:=fun b=>if b<k.m then k.least b else 0 }
section
variable {k : RdK}
theorem zHZ {b:Nat} (h:b<k.m):(clip k).least b=k.least b:=if_pos h
theorem zGG {b:Nat} {x:Int} {o:Opn} (h:b<k.m):zAi (clip k) b x o=zAi k b x o:=by unfold zAi;rw [zHZ h]
theorem zEE : ∀ (os:List Opn) (b:Nat) (x:Int),b+os.length≤k.m→(feas (clip k) b x os↔feas k b x os)
 | [],_,_,_=>Iff.rfl
 | o::os,b,x,h=>by
  simp only [List.length_cons] at h
  simp only [feas,zGG (show b<k.m by omega),zEE os (b+1) _ (by omega)]
  exact Iff.rfl
theorem zDm : ∀ (os:List Opn) (b:Nat) (x:Int),b+os.length≤k.m→zA2 (clip k) b x os=zA2 k b x os
 | [],_,_,_=>rfl
 | o::os,b,x,h=>by
  simp only [List.length_cons] at h
  simp only [zA2,zGG (show b<k.m by omega)]
  exact zDm os (b+1) _ (by omega)
theorem zEF : ∀ (os:List Opn) (b:Nat),b+os.length≤k.m→zCi (clip k) b os=zCi k b os
 | [],_,_=>rfl
 | o::os,b,h=>by
  simp only [List.length_cons] at h
  simp only [zCi,zHZ (show b<k.m by omega),zEF os (b+1) (by omega)]
theorem zFT : ∀ (os:List Opn) (b:Nat),b+os.length≤k.m→(bfeas (clip k) b os↔bfeas k b os)
 | [],_,_=>Iff.rfl
 | o::os,b,h=>by
  simp only [List.length_cons] at h
  simp only [bfeas,zEF (k:=k) os (b+1) (by omega),zFT os (b+1) (by omega)]
  exact Iff.rfl
theorem zJx {os:List Opn}:zEW (clip k) os↔zEW k os:=by
 unfold zEW
 constructor
 ·rintro ⟨h1,h2,h3⟩;exact ⟨h1,(zEE os 0 _ (by have h1':os.length≤k.m:=h1;omega)).1 h2,h3⟩
 ·rintro ⟨h1,h2,h3⟩;exact ⟨h1,(zEE os 0 _ (by omega)).2 h2,h3⟩
theorem zHa {os:List Opn} {b:Nat} (h:os.length≤k.m):zAv (clip k) os b=zAv k os b:=zDm (os.take (b+1)) 0 _ (by have:=List.length_take_le' (b+1) os;omega)
theorem zIR {os:List Opn} {b:Nat} (h:os.length≤k.m):zBe (clip k) os b=zBe k os b:=by
 unfold zBe
 cases ho:os[b]? with
 | none=>rfl
 | some o =>
  have:=(List.getElem?_eq_some_iff.1 ho).1
  simp only
  rw [zEF _ _ (by rw [List.length_drop];omega)]
theorem zL7 {b:Nat}:zCG (clip k) b=zCG k b:=by
 refine zBn.uniq (zD3 (k:=clip k) b) ((zD3 (k:=k) b).congr fun lo hi=>?_)
 constructor
 ·rintro ⟨os,h1,h2,h3,h4⟩;exact ⟨os,h1,zJx.2 h2,(zHa h2.1).trans h3,(zIR h2.1).trans h4⟩
 ·rintro ⟨os,h1,h2,h3,h4⟩
  have h5:=zJx.1 h2
  exact ⟨os,h1,h5,(zHa h5.1).symm.trans h3,(zIR h5.1).symm.trans h4⟩
theorem clip_sf {n:Nat} (hn:n≤k.m) {t:Tal} {v:Int}:SF k n t v↔SF (clip k) n t v:=by
 constructor
 ·rintro ⟨os,h1,h2,h3,h4⟩;exact ⟨os,h1,(zEE os 0 _ (by omega)).2 h2,h3,(zDm os 0 _ (by omega)).trans h4⟩
 ·rintro ⟨os,h1,h2,h3,h4⟩;exact ⟨os,h1,(zEE os 0 _ (by omega)).1 h2,h3,(zDm os 0 _ (by omega)).symm.trans h4⟩
theorem clip_sb {b:Nat} {t:Tal} {v:Int}:SB k b t v↔SB (clip k) b t v:=by
 constructor
 ·rintro ⟨os,h1,h2,h3,h4⟩;exact ⟨os,h1,(zFT (k:=k) os b h1).2 h2,h3,(zEF (k:=k) os b h1).trans h4⟩
 ·rintro ⟨os,h1,h2,h3,h4⟩;exact ⟨os,h1,(zFT (k:=k) os b h1).1 h2,h3,(zEF (k:=k) os b h1).symm.trans h4⟩
theorem zIo (hl:∀ b,b<k.m→0≤k.least b) (hs:k.start≤k.now) {b:Nat} (hb:b<k.m) {f g:Tal→Option Int} (hf:zAy (SF k b) f) (hg:zA4 (SB k (b+1)) g):zBn (fun lo hi=>∃ sg,zDv k f g b sg lo hi) (zCG k b):=by
 have h:=zJX (k:=clip k) (fun b=>by
  show 0≤if b<k.m then k.least b else 0
  split
  ·next h=>exact hl b h
  ·exact Int.le_refl _) hs hb (hf.congr fun t v=>clip_sf (by omega)) (hg.congr fun t v=>clip_sb)
 rw [zL7] at h
 refine h.congr fun lo hi=>?_
 unfold zDv
 simp only [zGG hb]
 exact Iff.rfl
end
section
variable {l : LnM} {r:Rid}
theorem opt_T {b:Nat} {o:Opn} (h:o∈(krd l r).opts b):OpT l r o:=by
 rcases zHI.1 h with rfl | ⟨i,t,h1,rfl⟩
 ·exact .inl ⟨rfl,rfl,rfl⟩
 ·cases i with
  | negSucc j=>cases h1
  | ofNat j =>
   unfold zBr at h1
   simp only at h1
   split at h1
   ·cases hs:r.sigs[j]? with
    | none=>rw [hs] at h1;cases h1
    | some s =>
     rw [hs] at h1
     simp only at h1
     split at h1
     ·cases h1;exact .inr ⟨j,s,hs,rfl,rfl,rfl⟩
     ·cases h1
   ·cases h1
theorem zKd {b:Nat} {o:Opn} (h:o∈(krd l r).opts b) (h0:0≤r.start∧r.start≤86400000) (h1:0≤r.now∧r.now≤86400000):0≤o.lo∧o.lo≤86400001∧-1≤o.hi∧o.hi≤86400000∧(o.sig = -1∨0≤o.sig):=by
 rcases opt_T h with ⟨h2,h3,h4⟩ | ⟨I,s,_,h2,h3,h4⟩
 ·omega
 ·have:=zEc l s;omega
theorem zLR : ∀ (os:List Opn) (b:Nat),bfeas (krd l r) b os→∀ o∈os,OpT l r o
 | [],_,_,o,ho=>by cases ho
 | x::os,b,h,o,ho=>by
  obtain ⟨h1,h2,h3⟩:=h
  rcases List.mem_cons.1 ho with rfl|ho
  ·exact opt_T h1
  ·exact zLR os (b+1) h3 o ho
theorem sb_in (hf:zDo l) (h0:0≤r.now∧r.now≤86400000) {b:Nat} {t:Tal} {v:Int} (h:SB (krd l r) b t v):-7000000000≤v∧v≤86400000:=by
 obtain ⟨os,h1,h2,h3,rfl⟩:=h
 have h1':b+os.length≤l.bms.length:=h1
 have h6:=hf.bms
 have hx:=zIy (r:=r) hf h0 (os:=List.replicate b ⟨-1,r.start,r.now⟩++os) (fun o ho=>by
  rcases List.mem_append.1 ho with ho|ho
  ·have:=List.eq_of_mem_replicate ho;subst this;exact .inl ⟨rfl,rfl,rfl⟩
  ·exact zLR os b h2 o ho) (by rw [List.length_append,List.length_replicate];omega) os.length b (by rw [List.length_append,List.length_replicate];omega)
 rw [List.drop_append_of_le_length (by simp),List.drop_of_length_le (by simp),List.nil_append] at hx
 omega
theorem sf_in (hf:zDo l) (h0:0≤r.start) (h1:r.start≤r.now) (h2:r.now≤86400000) {n:Nat} (hn:n≤l.bms.length) {t:Tal} {v:Int} (h:SF (krd l r) n t v):r.start≤v∧v≤86400000:=by
 obtain ⟨os,rfl,q2,q3,rfl⟩:=h
 have a1:=zIF os 0 r.start h1 q2
 have a2:=zJo (k:=clip (krd l r)) (fun b=>by
  show 0≤if b<l.bms.length then zAY l b else 0
  split
  ·next h=>have:=zCo hf h;omega
  ·exact Int.le_refl _) os 0 r.start
 rw [zDm os 0 _ (by show 0+os.length≤l.bms.length;omega)] at a2
 have a3:(krd l r).now=r.now:=rfl
 rw [a3] at a1
 exact ⟨a2,by show zA2 (krd l r) 0 r.start os≤_;omega⟩
theorem zLA (hf:zDo l) (h0:0≤r.start) (h1:r.start≤r.now) (h2:r.now≤86400000) {b:Nat} {p:Int × Int} (h:zCG (krd l r) b=some p):-100000000000≤p.1∧p.1≤100000000000∧-100000000000≤p.2∧p.2≤100000000000:=by
 have hs:=zD3 (k:=krd l r) b
 rw [h] at hs
 obtain ⟨lo,hi⟩:=p
 obtain ⟨⟨_,os1,a1,a2,rfl,_⟩,⟨_,os2,c1,c2,_,rfl⟩,_⟩:=hs
 have key:∀ os,b<os.length→zEW (krd l r) os→0≤zAv (krd l r) os b∧zAv (krd l r) os b≤86400000∧-7000000000≤zBe (krd l r) os b∧zBe (krd l r) os b≤86400000:=fun os g1 g2=>by
  obtain ⟨g3,g4,g5⟩:=g2
  have g3':os.length≤l.bms.length:=g3
  have e:os=os.take (b+1)++os.drop (b+1):=(List.take_append_drop _ _).symm
  have hlt:(os.take (b+1)).length=b+1:=by rw [List.length_take];omega
  have g6:=g4
  rw [e,zCp] at g6
  have q1:=sf_in hf h0 h1 h2 (show b+1≤l.bms.length by omega) ⟨os.take (b+1),hlt,g6.1,rfl,rfl⟩
  have q2:zAv (krd l r) os b=zA2 (krd l r) 0 (krd l r).start (os.take (b+1)):=rfl
  rw [← q2] at q1
  obtain ⟨o,ho⟩:∃ o,os[b]?=some o:=⟨_,List.getElem?_eq_getElem g1⟩
  have hor:∀ o∈os,OpT l r o:=by
   have key:∀ (os:List Opn) (b:Nat) (x:Int),feas (krd l r) b x os→∀ o∈os,OpT l r o:=by
    intro os
    induction os with
    | nil=>intro _ _ _ o ho;cases ho
    | cons z os ih =>
     intro b x hz o ho
     obtain ⟨z1,z2,z3⟩:=hz
     rcases List.mem_cons.1 ho with rfl|ho
     ·exact opt_T z1
     ·exact ih _ _ z3 o ho
   exact key os 0 _ g4
  have q3:=zIy (r:=r) hf (by omega) hor g3' (os.length - (b+1)) (b+1) (by omega)
  have h6:=hf.bms
  have q4:zBe (krd l r) os b=min (zCi (krd l r) (b+1) (os.drop (b+1))) o.hi:=by unfold zBe;rw [ho]
  have q5:=hor o (List.mem_of_getElem? ho)
  have q6:-1≤o.hi:=by
   rcases q5 with ⟨_,_,q⟩ | ⟨_,s,_,_,_,q⟩
   ·omega
   ·have:=zEc l s;omega
  omega
 have k1:=key os1 a1 a2
 have k2:=key os2 c1 c2
 simp only;omega
theorem zGt {fin:Nat} {p:Int × Int} (h:zCG (krd l r) fin=some p):zGH (zAs (krd l r)) fin=2∧((zAs (krd l r)).all fun n=>decide (fin<n))=true∨zGH (zAs (krd l r)) fin=1∧((zAs (krd l r)).all fun n=>decide (fin<n))=false:=by
 have hs:=zD3 (k:=krd l r) fin
 rw [h] at hs
 obtain ⟨⟨_,os,h1,h2,_,_⟩,_,_⟩:=hs
 unfold zGH
 cases h9:(zAs (krd l r)).all fun n=>decide (fin<n) with
 | true=>simp
 | false =>
  right
  refine ⟨?_,rfl⟩
  rw [if_neg (by simp),if_neg]
  intro h8
  have:=List.all_eq_true.1 h8 os.length (zIB.2 ⟨h2.1,os,rfl,h2⟩)
  simp only [decide_eq_true_eq] at this
  omega
end
end Go.Proofs.YtfiekidciiighaaGreat.Two
namespace Go.Proofs.YtfiekidciiighaaGreat.Two
variable {ro : Option Nat}
open Go.RowKit
set_option maxRecDepth 20000
def zFp (x:Tal):List Value:=[.int .i64 x.right,.int .i64 x.missed]
def vTl (x:Tal):Value:=.agg #[.int .i64 x.right,.int .i64 x.missed]
def vI (n:Int):Value:=.int .i64 n
instance encI_tl : zCZ zFp 2:=⟨fun _=>rfl,fun x v hv=>by simp [zFp] at hv;rcases hv with rfl|rfl<;>rfl⟩
theorem zDB : ∀ w,(zeroValue 3).run Tryz.prog w = .ok (vI 0) w:=fun w=>Tryz.zeroValue3 w
theorem zJQ (d:Nat) (x y:Tal) (w:World):(Op.equalIn (d+2) 166 (vTl x) (vTl y)).run Tryz.prog w = .ok (decide (x=y)) w:=by
 obtain ⟨a1,a2⟩:=x
 obtain ⟨b1,b2⟩:=y
 unfold vTl
 rw [run_equalIn_agg _ _ _ _ _ (by simp [go_sem]) (by kernel_rfl)]
 simp [go_sem]
 by_cases h1:a1=b1<;>by_cases h2:a2=b2<;>simp [h1,h2]
theorem zKM (e:Bool) (d:Nat) (x:Tal) (w:World):(Instr.checkKey e (d+2) 166 (vTl x)).run Tryz.prog w = .ok () w:=by
 unfold vTl
 rw [Instr.checkKey]
 have hi:∀ (z:Int) w,(Instr.checkKey e (d+1) 3 (.int .i64 z)).run Tryz.prog w = .ok () w:=fun z w=>zD4 Tryz.underlying3
 have ha:∀ w,(Go.isAgg 3).run Tryz.prog w = .ok false w:=Tryz.isAgg3
 simp [Sem.run_bind,run_underlying Tryz.underlying166,part,ha,hi]
theorem zCy : KeyT Tryz.prog 166 vTl :=
 ⟨fun e k w=>zKM e 9998 k w,fun k k' w=>zJQ 9998 k k' w,⟨_,Tryz.underlying166,fun _ _=>rfl⟩,fun k=>by
  simp [vTl,Instr.sameBits]⟩
section
variable {P : Program} {w0:World} {n:Nat} {d:List Deferred} {R:List (Nat × Value)} {H H':List Ent} {Q:Exit→Act→World→Prop} {ops:Array Oper} {rest:List Oper} {o:Oper} {x y z:Operand} {V:Type} {vv:V→Value}
theorem u_mlNew {T1 kt et:TypeId} {s m c:Nat} {g:Bool} {l:List (Int × V × Nat)} (i:Int) (u:V) (hop:o.op = .mapUpdate T1 x y z) [i1:TyI P T1 (.map kt et) s g] (hkt:P.underlying kt=some (.int .i64)) (hw:want R ops o=some true) (hd:o.dst=none) (hx:evR R x=some (.map (some m))) (hy:evR R y=some (vI i)) (hz:evR R z=some (vv u)) (ht:Take H (.ml m vI vv l c) H') (hk:∀ e∈l,e.1≠i)
  (h:U w0 n d R (.ml m vI vv (l++[(i,u,c)]) (c+1)::H') (wpL ro P ops Q rest)):U w0 n d R H (wpL ro P ops Q (o::rest)):=fun a w q=>by
 have q2:Kn w0 n d R (.map m (l.map (zBz vI vv)).toArray c::H') a w:=q.heap q.below ((q.own.take ht).recast (e':=.map m (l.map (zBz vI vv)).toArray c) (fun hp=>hp) (fun b hb=>hb))
 refine u_mapNew (i:=i) hop hkt hw hd hx hy hz (Take.here _ _) (fun e he=>?_) ?_ a w q2
 ·simp only [List.mem_map] at he
  obtain ⟨p,hp,rfl⟩:=he
  exact ⟨p.1,rfl,hk p hp⟩
 ·intro a' w' q'
  refine h a' w' (q'.heap q'.below (q'.own.recast (e':=.ml m vI vv (l++[(i,u,c)]) (c+1)) (fun hp=>?_) (fun b hb=>hb)))
  have e:(l.map (zBz vI vv)).toArray.push ⟨.int .i64 i,vv u,c⟩=((l++[(i,u,c)]).map (zBz vI vv)).toArray:=by
   apply Array.ext';simp [zBz,vI]
  have hp':w'.heap[m]?=some (.map ((l.map (zBz vI vv)).toArray.push ⟨.int .i64 i,vv u,c⟩) (c+1)):=hp
  rw [e] at hp'
  exact hp'
end
theorem zDf {K V:Type} {l:List (K × V × Nat)} {c:Nat} (h:MOk l c) {p q:K × V × Nat} (hp:p∈l) (hq:q∈l) (e:p.2.2=q.2.2):p=q:=by
 have hb:=h.born
 obtain ⟨i,hi⟩:=List.mem_iff_getElem?.1 hp
 obtain ⟨j,hj⟩:=List.mem_iff_getElem?.1 hq
 obtain ⟨i1,i2⟩:=List.getElem?_eq_some_iff.1 hi
 obtain ⟨j1,j2⟩:=List.getElem?_eq_some_iff.1 hj
 have hm:∀ (x:Nat) (hx:x<l.length),(l.map (·.2.2))[x]'(by simpa using hx)=l[x].2.2:=fun x hx=>by simp
 have:i=j:=by
  have hpw:=List.pairwise_iff_getElem.1 hb
  rcases Nat.lt_trichotomy i j with h1|h1|h1
  ·exact absurd (by rw [hm i i1,hm j j1,i2,j2,e]) (hpw i j (by simpa using i1) (by simpa using j1) h1)
  ·exact h1
  ·exact absurd (by rw [hm i i1,hm j j1,i2,j2,e]) (hpw j i (by simpa using j1) (by simpa using i1) h1)
 subst this
 rw [hi] at hj;exact Option.some.inj hj
theorem zGm (s:Int) (w:World):Gv Tryz.prog 97 [.int .i64 s] w (vTl (zBm s)):=by
 unfold Gv vTl zBm
 (refine zK (n:=7) Tryz.func97 rfl rfl rfl ?_)
 (repeat' (first|((with_reducible refine zG ?_);first|refine zD rfl rfl rfl ?_|(refine zS rfl rfl rfl rfl rfl (fun h=>?_) (fun h=>?_)<;>(dsimp only [cmpP] at h;(try (exfalso;omega))))|(refine zX rfl rfl rfl rfl rfl ?_;refine ⟨rfl,by first|decide|exact Nat.le_of_ble_eq_true rfl|(simp;omega),_,rfl,?_⟩)|(refine zb rfl rfl (fun b=>?_))|(refine zAZ rfl rfl rfl ?_;refine ⟨_,rfl,?_⟩))|(with_reducible first|refine zI ?_|refine zB ?_|refine zE ?_|refine zA ?_|refine zV ?_|refine zR ?_|refine zU ?_)|((with_reducible refine zH ?_ ?_);(· exact rfl))|((with_reducible refine zF ?_ ?_);(· exact rfl))))
 all_goals exact zP (by (exact zh.cons (by exact res1c rfl (by exact rfl)) zh.nil)) () trivial (by first|(rw [if_pos (by assumption)];rfl)|(rw [if_neg (by omega)];rfl)) (fun _ h=>h.sub (by (repeat constructor)))
end Go.Proofs.YtfiekidciiighaaGreat.Two
namespace Go.Proofs.YtfiekidciiighaaGreat
variable {ro : Option Nat}
open Go.RowKit
class Ctb (α:Type):Prop where ex:∃ f:Nat→α,∀ z,∃ n,f n=z
def zDp : Nat→Nat × Nat
 | 0=>(0,0)
 | n+1=>match zDp n with
  | (0,b)=>(b+1,0)
  | (a+1,b)=>(a,b+1)
theorem zFz : ∀ s b,b≤s→∃ n,zDp n=(s - b,b)
  | 0, b, h => ⟨0, by obtain rfl : b = 0 := by omega
                      rfl⟩
  | s+1,0,_=>by
    obtain ⟨n,hn⟩:=zFz s s (Nat.le_refl _)
    refine ⟨n+1,?_⟩
    simp only [zDp,hn,Nat.sub_self]
    rfl
  | s+1,b+1,h=>by
    obtain ⟨n,hn⟩:=zFz (s+1) b (by omega)
    refine ⟨n+1,?_⟩
    rw [show s+1 - b=(s - b)+1 by omega] at hn
    simp only [zDp,hn]
    rw [show s+1 - (b+1)=s - b by omega]
theorem zF0 (p:Nat × Nat):∃ n,zDp n=p:=by
 obtain ⟨a,b⟩:=p
 obtain ⟨n,hn⟩:=zFz (a+b) b (by omega)
 exact ⟨n,by rw [hn,Nat.add_sub_cancel]⟩
instance : Ctb Nat:=⟨id,fun z=>⟨z,rfl⟩⟩
instance : Ctb Unit:=⟨fun _=>(),fun _=>⟨0,rfl⟩⟩
instance ctb_prod {α β:Type} [i:Ctb α] [j:Ctb β]:Ctb (α × β):=by
 obtain ⟨f,hf⟩:=i.ex
 obtain ⟨g,hg⟩:=j.ex
 refine ⟨fun n=>(f (zDp n).1,g (zDp n).2),fun z=>?_⟩
 obtain ⟨a,ha⟩:=hf z.1
 obtain ⟨b,hb⟩:=hg z.2
 obtain ⟨n,hn⟩:=zF0 (a,b)
 exact ⟨n,by simp only [hn,ha,hb]⟩
instance ctb_opt {α:Type} [i:Ctb α]:Ctb (Option α):=by
 obtain ⟨f,hf⟩:=i.ex
 refine ⟨fun n=>match n with | 0=>none|n+1=>some (f n),fun z=>?_⟩
 cases z with
 | none=>exact ⟨0,rfl⟩
 | some a=>obtain ⟨n,hn⟩:=hf a;exact ⟨n+1,by simp only [hn]⟩
theorem zGq {α β:Type} (h:α→β) (hs:∀ z,∃ x,h x=z) [i:Ctb α]:Ctb β:=by
 obtain ⟨f,hf⟩:=i.ex
 refine ⟨fun n=>h (f n),fun z=>?_⟩
 obtain ⟨x,rfl⟩:=hs z
 obtain ⟨n,rfl⟩:=hf x
 exact ⟨n,rfl⟩
instance : Ctb Int:=zGq (α:=Nat × Nat) (fun p=>(p.1:Int) - p.2) fun z=>⟨(z.toNat,(-z).toNat),by simp only;omega⟩
instance : Ctb Addr:=zGq (α:=Nat × Nat × Option Nat) (fun p=>⟨p.1,p.2.1,p.2.2⟩) fun z=>⟨(z.block,z.off,z.spot),rfl⟩
instance ctb_list {α:Type} [i:Ctb α]:Ctb (List α):=by
 obtain ⟨f,hf⟩:=i.ex
 have key:∀ l:List α,∃ n,(fun n=>(Nat.rec (fun _=>[]) (fun _ g c=>f (zDp c).1::g (zDp c).2) (zDp n).1:Nat→List α) (zDp n).2) n=l:=by
  have h2:∀ l:List α,∃ c,(Nat.rec (fun _=>[]) (fun _ g c=>f (zDp c).1::g (zDp c).2) l.length:Nat→List α) c=l:=by
   intro l
   induction l with
   | nil=>exact ⟨0,rfl⟩
   | cons x l ih =>
    obtain ⟨c,hc⟩:=ih
    obtain ⟨n,hn⟩:=hf x
    obtain ⟨m,hm⟩:=zF0 (n,c)
    refine ⟨m,?_⟩
    show f (zDp m).1::_=_
    rw [hm,hn]
    exact congrArg _ hc
  intro l
  obtain ⟨c,hc⟩:=h2 l
  obtain ⟨n,hn⟩:=zF0 (l.length,c)
  exact ⟨n,by simp only [hn];exact hc⟩
 exact ⟨_,key⟩
noncomputable def deC (α:Type) [i:Ctb α]:Nat→α:=i.ex.choose
theorem zLM {α:Type} [i:Ctb α] (z:α):∃ n,deC α n=z:=i.ex.choose_spec z
def Ent.fact (q:Prop):Ent:=⟨fun _=>False,fun _=>q,fun _ _ _ _ h=>h⟩
theorem zJb {base:Nat} {w:World} {H:List Ent} {q:Prop} (hq:q) (h:Own base w H):Own base w (.fact q::H) :=
 ⟨fun e he=>by
  rcases List.mem_cons.1 he with rfl|he
  ·exact hq
  ·exact h.here e he,fun e he b hb=>by
  rcases List.mem_cons.1 he with rfl|he
  ·cases hb
  ·exact h.foot e he b hb,List.pairwise_cons.2 ⟨(fun f _ b hb=>by cases hb),h.apart⟩⟩
theorem zK8 {w0:World} {n:Nat} {d:List Deferred} {R:List (Nat × Value)} {H H':List Ent} {X:Act→World→Prop} {q:Prop} (ht:Take H (.fact q) H') (h:q→U w0 n d R H' X):U w0 n d R H X:=fun a w k=>h (k.own.here _ ht.mem) a w ⟨k.size,k.defers,k.regs,k.below,(k.own.take ht).tail⟩
end Go.Proofs.YtfiekidciiighaaGreat
namespace Go.Proofs.YtfiekidciiighaaGreat.Two
variable {ro : Option Nat}
open Go.RowKit
section
variable {S : List (Nat × Nat)} {I:List (Nat × Nat × Nat × List Ent)} {P:Program} {w0:World} {n:Nat} {d:List Deferred} {R R0:List (Nat × Value)} {H H' H0:List Ent} {Q:Exit→Act→World→Prop} {ops:Array Oper} {bs:List (List Bool)} {b:List Bool} {k:Nat} {o:Oper} {rest:List Oper} {T:List Rw} {t:Tmp} {Hk:zAp→List Ent} {x y:Operand} {v:Value}
theorem c_retC {α:Type} [Ctb α] {V:α→Value} {E:α→List Ent} {p:α→Prop} {f:FuncId} {fx:Operand} {xs:Array Operand} {ts:Array TypeId} {vs:zAp→List Value} {cap:Array Value} (hop:o.op = .call ⟨.value fx,xs,ts⟩) (hw:∀ G,want (Rk R0 ops b o T G) ops o=some true) (hd:o.dst=some t) (hf:∀ G,evR (Rk R0 ops b o T G) fx=some (.func (.func f) #[] cap)) (hx:∀ G,evs (Rk R0 ops b o T G) xs.toList=some (vs G)) [ci:zr P f]
  (hc:∀ G a w,Kn w0 n d (Rk R0 ops b o T G) (Hk G) a w→Ret P f (vs G++cap.toList) w V E p) (h:zBC ro S I P w0 n d ops R0 H0 Q bs (k+1) rest (⟨k,some t,fun G=>(V (deC α (G k).g),.fact (p (deC α (G k).g))::E (deC α (G k).g))⟩::T)):CAt ro S I P w0 n d ops R0 H0 Q b bs k o rest T Hk:=by
 refine zEG (f:=fun G=>(V (deC α (G k).g),.fact (p (deC α (G k).g))::E (deC α (G k).g))) (fun G G' hG=>by simp only [hG k (.inl rfl)]) (fun G a w q K hK=>?_) (by rw [hd];exact h)
 rw [zBP q (hw G),if_pos rfl]
 unfold Oper.wp execOp;rw [hop]
 have e1:xs.map a.eval=(vs G).toArray:=by apply Array.ext';simpa using q.evs (hx G)
 have e2:(vs G).toArray++cap=(vs G++cap.toList).toArray:=by apply Array.ext';simp
 simp only [resolve,q.ev (hf G),e1,Deferred.ofValue,Sem.run_bind,Sem.run_pure,Result.andThen_ok,invoke,Array.empty_append,e2,ci.ent,Oper.upon_enter]
 refine Calls.mono (hc G a w q).calls ?_
 rintro e w' ⟨z,hp,rfl,hb,hE⟩
 obtain ⟨m,hm⟩:=zLM z
 exact hK _ _ _ ⟨⟨m,none,0⟩,by simp only [upW,if_true,hm]⟩ hb (zJb hp hE)
end
end Go.Proofs.YtfiekidciiighaaGreat.Two
namespace Go.Proofs.YtfiekidciiighaaGreat.Two
variable {ro : Option Nat}
open Go.RowKit
set_option maxRecDepth 20000
section
variable {S : List (Nat × Nat)} {I:List (Nat × Nat × Nat × List Ent)} {P:Program} {w0:World} {n:Nat} {d:List Deferred} {R R0:List (Nat × Value)} {H H' H0:List Ent} {Q:Exit→Act→World→Prop} {ops:Array Oper} {bs:List (List Bool)} {b:List Bool} {k:Nat} {o:Oper} {rest:List Oper} {T:List Rw} {t:Tmp} {Hk:zAp→List Ent} {x y:Operand} {v:Value}
theorem fact_use {base:Nat} {w:World} {H H':List Ent} {q:Prop} (h:Own base w H) (ht:Take H (.fact q) H'):q:=h.here _ ht.mem
theorem zHo {α:Type} {enc:α→List Value} {kk e T1 bytes:Nat} [el:ElI P T1 e kk bytes] [ei:zCZ enc kk] {xs:List α} (ys0:zAp→List α) (hys:zFW b k ys0) {A:zAp→Option Addr} {m c:zAp→Nat} {vx:zAp→Value} (E0:zAp→List Ent) (hop:o.op = .call { callee:=.builtin .append,args:=#[x,y],argTypes:=#[T1,T1] }) (hw:∀ G,want (Rk R0 ops b o T G) ops o=some true) (hd:o.dst=some t)
  (hx:∀ G,evR (Rk R0 ops b o T G) x=some (vx G)) (hrow:∀ G,E0 G=[.row enc kk e (vx G) xs]) (hy:∀ G,evR (Rk R0 ops b o T G) y=some (.slice (A G) (m G) (c G))) (hm:∀ G,m G=(ys0 G).length) (hH:∀ G,see I k++(zq (fltT (vis S k b) T) G++H0)=Hk G) (hs:∀ G w,Below w0.heap.size w0 w→Own w0.heap.size w (Hk G)→zAC enc kk w (A G) (ys0 G)) (hl:∀ G w,Own w0.heap.size w (Hk G)→xs.length+(ys0 G).length≤1000000∧bytes≤1000000) :
  zIX S I P w0 n d ops R0 H0 b k o T (fun G=>(.slice (G k).A (xs++ys0 G).length (G k).m,[.row enc kk e (.slice (G k).A (xs++ys0 G).length (G k).m) (xs++ys0 G)])) E0:=by
 intro G L a w q ho K hK
 have hup:=fun x=>hys.up G x
 have hy0:=hy G
 rw [hm G] at hy0
 have hl:=hl G w (by rw [← hH G];exact q.own)
 rw [zBP q (hw G),if_pos rfl]
 rw [hrow G] at ho
 obtain ⟨z,hE⟩:=el.el
 obtain ⟨i,i1,i2,i3,i4⟩:=hE.info
 have hrow:Row enc kk e 0 w (vx G) xs:=ho.here (.row enc kk e (vx G) xs) (by simp)
 have hsl:=hs G w q.below (by rw [← hH G];exact q.own)
 generalize ys0 G=ys at *
 have hlen:(ys.flatMap enc).length=ys.length * kk:=by
  simp [List.length_flatMap,ei.len,List.map_const',List.sum_replicate_nat]
 have hmul:(xs.length+ys.length) * bytes≤140737488355328:=by
  have:=Nat.mul_le_mul hl.1 hl.2;omega
 have hxv:=q.ev (hx G)
 have hyv:=q.ev hy0
 generalize vx G=v at *
 generalize A G=A at *
 generalize c G=c at *
 have key:∃ v' w',(Builtin.append_ #[T1,T1] o.type #[v,.slice A ys.length c]).run P w = .ok v' w'∧Row enc kk e 0 w' v' (xs++ys)∧w.grownBy w' v.ownBlock∧(v'.ownBlock=v.ownBlock∨v'.ownBlock=some w.heap.size):=by
  cases hA:A with
  | none =>
   have hys:ys=[]:=by
    cases ys with
    | nil=>rfl
    | cons y r =>
     obtain ⟨b,o,hb,_⟩:=hsl 0 y (by simp)
     rw [hA] at hb;cases hb
   subst hys hA
   refine ⟨v,w,?_,by simpa using hrow,World.grownBy.refl w _,.inl rfl⟩
   rcases hrow.2 with ⟨rfl,_⟩ | ⟨g,cap,cur,rfl,_,_,hnc,_⟩
   ·simp [Builtin.append_,run_underlying hE.under,sizeOf,typeInfo,i1,Builtin.lenOf,Builtin.firstCells]
   ·simp [Builtin.append_,run_underlying hE.under,sizeOf,typeInfo,i1,Builtin.lenOf,Builtin.firstCells,hnc,storeCells]
  | some ad =>
   subst hA
   obtain ⟨v',w',r1,r2,r3,_,r5⟩:=run_append_own_at (P:=P) w 0 T1 o.type e i z kk bytes hE.under i1 i2 i3 i4 hE.zs hE.pos v xs.length (xs.flatMap enc) hrow ad ys.length c (ys.flatMap enc) hlen
    (fun j u hu=>by
     obtain ⟨i,y,l,hi,hl,rfl⟩:=zFk ei.len ys j u hu
     obtain ⟨b,o,hb,hlt,hc⟩:=hsl i y hi
     cases hb
     have e1:(⟨b,o,none⟩:Addr).add (i * kk+l)=⟨b,o+i * kk+l,none⟩:=by rw [zCU];congr 1;omega
     rw [e1];exact hc l u hl)
    (fun u hu=>by
     obtain ⟨y,_,hy'⟩:=List.mem_flatMap.1 hu
     exact ei.one y u hy') (by unfold maxLen;omega) hmul (Nat.zero_le _)
   exact ⟨v',w',r1,by unfold Row;simpa using r2,r3,r5⟩
 obtain ⟨v',w',k1,k2,k3,k4⟩:=key
 obtain ⟨A',c',rfl⟩:=k2.form
 unfold Oper.wp execOp
 simp only [hop,resolve,invoke,builtin,Sem.run_bind,Sem.run_pure,Result.andThen_ok,List.map_toArray,List.map_cons,List.map_nil,hxv,hyv,k1,Oper.upon_value]
 have hfoot:∀ b,v.ownBlock=some b→w0.heap.size≤b∧b<w.heap.size:=fun b hb=>ho.foot (.row enc kk e v xs) (by simp) b hb
 refine hK (.slice A' (xs++ys).length c') [.row enc kk e (.slice A' (xs++ys).length c') (xs++ys)] _ ⟨⟨0,A',c'⟩,by dsimp only;rw [hup];simp only [upW,if_true]⟩ ?_ ?_
 ·exact q.below.trans ⟨k3.os,k3.tape,k3.output,k3.size,fun b hb=>k3.block b (by have:=q.base;omega) (fun e=>by have:=(hfoot b e.symm).1;omega)⟩
 ·refine ho.turn k3.size (fun b hb hn=>k3.block b hb (fun e=>hn e.symm)) q.base k2 (fun b hb=>?_)
  have hb':(Value.slice A' (xs++ys).length c').ownBlock=some b:=hb
  have hlt:=k2.lt b hb'
  rcases k4 with h4|h4
  ·exact ⟨.inl (h4.symm.trans hb'),hlt.2⟩
  ·rw [h4] at hb';cases hb';exact ⟨.inr (Nat.le_refl _),hlt.2⟩
theorem zK1 {α:Type} {enc:α→List Value} {kk e T1 bytes:Nat} [el:ElI P T1 e kk bytes] [ei:zCZ enc kk] {xs:List α} (ys:zAp→List α) {A:zAp→Option Addr} {m c:zAp→Nat} {vx:Value} {lo hi:Nat} (hkE:(k,lo,hi,[Ent.row enc kk e vx xs])∈I) (hfree:takes S k=false) (hop:o.op = .call { callee:=.builtin .append,args:=#[x,y],argTypes:=#[T1,T1] }) (hw:∀ G,want (Rk R0 ops b o T G) ops o=some true) (hd:o.dst=some t)
  (hx:∀ G,evR (Rk R0 ops b o T G) x=some vx) (hy:∀ G,evR (Rk R0 ops b o T G) y=some (.slice (A G) (m G) (c G))) (hm:∀ G,m G=(ys G).length) (hH:∀ G,see I k++(zq (fltT (vis S k b) T) G++H0)=Hk G) (hs:∀ G w,Below w0.heap.size w0 w→Own w0.heap.size w (Hk G)→zAC enc kk w (A G) (ys G)) (hl:∀ G w,Own w0.heap.size w (Hk G)→xs.length+(ys G).length≤1000000∧bytes≤1000000) (hys:zFW b k ys)
  (h:zBC ro S I P w0 n d ops R0 H0 Q bs (k+1) rest (⟨k,some t,fun G=>(.slice (G k).A (xs++ys G).length (G k).m,[.row enc kk e (.slice (G k).A (xs++ys G).length (G k).m) (xs++ys G)])⟩::T)):zBC ro S I P w0 n d ops R0 H0 Q (b::bs) k (o::rest) T :=
 zI0 (f:=fun G=>(.slice (G k).A (xs++ys G).length (G k).m,[.row enc kk e (.slice (G k).A (xs++ys G).length (G k).m) (xs++ys G)])) hkE hfree (fun G G' hG=>by simp only [hG k (.inl rfl),hys.loc G G' hG]) (zHo (vx:=fun _=>vx) ys hys (fun _=>[Ent.row enc kk e vx xs]) hop hw hd hx (fun _=>rfl) hy hm hH hs hl) (by rw [hd];exact h)
theorem c_retL {α:Type} [Ctb α] {V:α→Value} {E:α→List Ent} {p:zAp→α→Prop} {f:FuncId} {fx:Operand} {xs:Array Operand} {ts:Array TypeId} {vs:zAp→List Value} {cap:Array Value} (hop:o.op = .call ⟨.value fx,xs,ts⟩) (hw:∀ G,want (Rk R0 ops b o T G) ops o=some true) (hd:o.dst=some t) (hf:∀ G,evR (Rk R0 ops b o T G) fx=some (.func (.func f) #[] cap)) (hx:∀ G,evs (Rk R0 ops b o T G) xs.toList=some (vs G)) [ci:zr P f]
  (hc:∀ G a w,Kn w0 n d (Rk R0 ops b o T G) (Hk G) a w→Ret P f (vs G++cap.toList) w V E (p G)) (hp:zFW b k p) (h:zBC ro S I P w0 n d ops R0 H0 Q bs (k+1) rest (⟨k,some t,fun G=>(V (deC α (G k).g),.fact (p G (deC α (G k).g))::E (deC α (G k).g))⟩::T)):CAt ro S I P w0 n d ops R0 H0 Q b bs k o rest T Hk:=by
 refine zEG (f:=fun G=>(V (deC α (G k).g),.fact (p G (deC α (G k).g))::E (deC α (G k).g))) (fun G G' hG=>by simp only [hG k (.inl rfl),hp.loc G G' hG]) (fun G a w q K hK=>?_) (by rw [hd];exact h)
 rw [zBP q (hw G),if_pos rfl]
 unfold Oper.wp execOp;rw [hop]
 have e1:xs.map a.eval=(vs G).toArray:=by apply Array.ext';simpa using q.evs (hx G)
 have e2:(vs G).toArray++cap=(vs G++cap.toList).toArray:=by apply Array.ext';simp
 simp only [resolve,q.ev (hf G),e1,Deferred.ofValue,Sem.run_bind,Sem.run_pure,Result.andThen_ok,invoke,Array.empty_append,e2,ci.ent,Oper.upon_enter]
 refine Calls.mono (hc G a w q).calls ?_
 rintro e w' ⟨z,hz,rfl,hb,hE⟩
 obtain ⟨m,hm⟩:=zLM z
 exact hK _ _ _ ⟨⟨m,none,0⟩,by simp only [hp.up,upW,if_true,hm]⟩ hb (zJb hz hE)
end
end Go.Proofs.YtfiekidciiighaaGreat.Two
