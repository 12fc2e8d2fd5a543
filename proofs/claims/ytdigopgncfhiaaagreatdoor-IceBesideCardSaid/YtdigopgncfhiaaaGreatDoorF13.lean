/- F13 -/
import Derived.Test.YtdigopgncfhiaaaGreatDoorF1
import Derived.Test.YtdigopgncfhiaaaGreatDoorF12
import Derived.LaidMore
import Derived.Test.YtdigopgncfhiaaaGreatDoorF6
import Derived.Laws.MakeOwn
import Derived.Laws.OwnMore
set_option linter.unusedSimpArgs false
set_option linter.unusedVariables false
namespace Go.Proofs.YtdigopgncfhiaaaGreatDoor
open Go.ChangeShapes Go.WideShapes Go.ChangeAt Go.RowKit
section
variable {H : Type} {enc:TypeId × Value→H} {w:World} {sp:Nat→Bool} {held:Bool} {n:Nat} {cs:List Value} {x:DataW H × List MemPlace}
theorem rd_bed (h:DataW.trod enc Tryz.prog w 0 sp held n 73 cs=some x):∃ s:Bed,cs=zAK s∧True:=by
 have hl:=zGj Tryz.underlying73 h (k:=3) (by kernel_rfl)
 obtain ⟨n0,y0,h0⟩:=zAd Tryz.underlying73 h (j:=0) rfl rfl (k:=2) (by kernel_rfl)
 obtain ⟨n1,y1,h1⟩:=zAd Tryz.underlying73 h (j:=1) rfl rfl (k:=1) (by kernel_rfl)
 obtain ⟨a,e0,f0⟩:=zH0 h0
 obtain ⟨b,e1,f1⟩:=zDk Tryz.underlying3 h1
 match cs,hl with
 | [c0,c1,c2],_ =>
  simp [zAz] at e0 e1
  exact ⟨⟨a,b⟩,by simp [zAK,e0,e1],trivial⟩
theorem rd_hour (h:DataW.trod enc Tryz.prog w 0 sp held n 67 cs=some x):∃ s:Hour,cs=zr s∧True:=by
 have hl:=zGj Tryz.underlying67 h (k:=5) (by kernel_rfl)
 obtain ⟨n0,y0,h0⟩:=zAd Tryz.underlying67 h (j:=0) rfl rfl (k:=2) (by kernel_rfl)
 obtain ⟨n1,y1,h1⟩:=zAd Tryz.underlying67 h (j:=1) rfl rfl (k:=1) (by kernel_rfl)
 obtain ⟨n2,y2,h2⟩:=zAd Tryz.underlying67 h (j:=2) rfl rfl (k:=1) (by kernel_rfl)
 obtain ⟨n3,y3,h3⟩:=zAd Tryz.underlying67 h (j:=3) rfl rfl (k:=1) (by kernel_rfl)
 obtain ⟨a,e0,f0⟩:=zH0 h0
 obtain ⟨b,e1,f1⟩:=zDk Tryz.underlying3 h1
 obtain ⟨c,e2,f2⟩:=zDk Tryz.underlying3 h2
 obtain ⟨d,e3,_⟩:=DataW.trod_bool Tryz.underlying4 h3
 match cs,hl with
 | [c0,c1,c2,c3,c4],_ =>
  simp [zAz] at e0 e1 e2 e3
  exact ⟨⟨a,b,c,d⟩,by simp [zr,e0,e1,e2,e3],trivial⟩
set_option maxRecDepth 20000 in
theorem open_cov {base:Nat} {r:Reach} {v:Value} {dd:DataW H} {p:List MemPlace} (hv:Value.okWide Tryz.prog w r base 30 v) (h:DataW.Trod enc Tryz.prog w 0 (fun _=>true) held 30 v dd p) :
  ∃ (c:Cov) (A:Option Addr) (ca:Nat) (B:Option Addr) (cb:Nat) (C:Option Addr) (cc:Nat),v=zAH c A ca B cb C cc∧zAe w c A B C∧zEe c.t:=by
 obtain ⟨cs,rfl,_⟩:=okWide_struct Tryz.underlying30 hv
 obtain ⟨fuel,hf⟩:=h
 have hl:=zGj Tryz.underlying30 hf (k:=10) (by kernel_rfl)
 obtain ⟨n0,y0,h0⟩:=zAd Tryz.underlying30 hf (j:=0) rfl rfl (k:=1) (by kernel_rfl)
 obtain ⟨n1,y1,h1⟩:=zAd Tryz.underlying30 hf (j:=1) rfl rfl (k:=1) (by kernel_rfl)
 obtain ⟨n2,y2,h2⟩:=zAd Tryz.underlying30 hf (j:=2) rfl rfl (k:=1) (by kernel_rfl)
 obtain ⟨n3,y3,h3⟩:=zAd Tryz.underlying30 hf (j:=3) rfl rfl (k:=2) (by kernel_rfl)
 obtain ⟨n4,y4,h4⟩:=zAd Tryz.underlying30 hf (j:=4) rfl rfl (k:=2) (by kernel_rfl)
 obtain ⟨n5,y5,h5⟩:=zAd Tryz.underlying30 hf (j:=5) rfl rfl (k:=1) (by kernel_rfl)
 obtain ⟨n6,y6,h6⟩:=zAd Tryz.underlying30 hf (j:=6) rfl rfl (k:=1) (by kernel_rfl)
 obtain ⟨n7,y7,h7⟩:=zAd Tryz.underlying30 hf (j:=7) rfl rfl (k:=1) (by kernel_rfl)
 obtain ⟨n8,y8,h8⟩:=zAd Tryz.underlying24 h0 (j:=0) rfl rfl (k:=1) (by kernel_rfl)
 obtain ⟨A,t,ca,e0,s0,f0,_,_⟩:=zEr (en:=zAS) (k:=9) (ok:=FitSt) Tryz.underlying22 (by kernel_rfl) (by omega) (fun _=>rfl) (fun _ _ _ h=>rd_st h) h8
 obtain ⟨B,be,cb,e1,s1,_,_,_⟩:=zEr (en:=zAK) (k:=3) (ok:=fun _=>True) Tryz.underlying25 (by kernel_rfl) (by omega) (fun _=>rfl) (fun _ _ _ h=>rd_bed h) h1
 obtain ⟨C,ho,cc,e2,s2,_,_,_⟩:=zEr (en:=zr) (k:=5) (ok:=fun _=>True) Tryz.underlying26 (by kernel_rfl) (by omega) (fun _=>rfl) (fun _ _ _ h=>rd_hour h) h2
 obtain ⟨we,e3,_⟩:=zH0 h3
 obtain ⟨la,e4,_⟩:=zH0 h4
 obtain ⟨ra,e5,_⟩:=zDk Tryz.underlying3 h5
 obtain ⟨li,e6,_⟩:=zDk Tryz.underlying3 h6
 obtain ⟨ba,e7,_⟩:=zDk Tryz.underlying3 h7
 refine ⟨⟨t,be,ho,we,la,ra,li,ba⟩,A,ca,B,cb,C,cc,?_,⟨s0,s1,s2⟩,fun s hs=>(f0 s hs).2.2.2.2.1⟩
 obtain ⟨l⟩:=cs
 match l,hl with
 | [c0,c1,c2,c3,c4,c5,c6,c7,c8,c9],_ =>
  simp [Value.cells,zAz] at e0 e1 e2 e3 e4 e5 e6 e7
  simp [zAH,zM,e0,e1,e2,e3,e4,e5,e6,e7]
end
theorem gLimits : Tryz.prog.globalNamed "kreisel/ice.limits" = some 0:=by kernel_rfl
theorem tLimits : (Tryz.prog.globals[0]?).map (·.type)=some 209:=by kernel_rfl
set_option maxRecDepth 100000 in
theorem zNg {W:World} (h:laidMetH Tryz.prog [("kreisel/ice.limits",Rows.laid_kreisel_ice_limits)] W):InC W 0 0 zCP:=by
 obtain ⟨g,t,cs,fuel,p,hg,ht,hv,hd⟩:=h.funcs (List.mem_singleton.2 rfl)
 obtain rfl:=Option.some.inj (gLimits.symm.trans hg)
 obtain rfl:=Option.some.inj (tLimits.symm.trans ht)
 have hd':DataW.trod (funcToken Tryz.prog) Tryz.prog W 0 (fun _=>true) true fuel 209 cs.toList=some (.agg [.agg [.held [107,114,101,105,115,101,108,47,105,99,101,46,108,105,109,105,116,115,36,49],.held [107,114,101,105,115,101,108,47,105,99,101,46,108,105,109,105,116,115,36,50]],.agg [.held [107,114,101,105,115,101,108,47,105,99,101,46,108,105,109,105,116,115,36,51],.held [107,114,101,105,115,101,108,47,105,99,101,46,108,105,109,105,116,115,36,52]]],p):=hd
 have c192:Tryz.prog.cellsOf 208=2:=by kernel_rfl
 have c193:Tryz.prog.cellsOf 209=4:=by kernel_rfl
 have c142:Tryz.prog.cellsOf 206=1:=by kernel_rfl
 have c68:Tryz.prog.cellsOf 104=1:=by kernel_rfl
 obtain ⟨xs,m,rfl,ex,hlen,hl,hel⟩:=DataW.trod_array Tryz.underlying209 hd'
 rw [c193] at hlen
 have hcell:=fun j=>World.var?_cell hg hv j
 obtain ⟨l⟩:=cs
 simp only at hlen hel
 match xs,hl with
 | [x0,x1],_ =>
  match l,hlen with
  | [a0,a1,a2,a3],_ =>
   have h0:=hel 0 (by omega)
   have h1:=hel 1 (by omega)
   rw [c192] at h0 h1
   simp only [Nat.zero_mul,Nat.one_mul,List.drop_zero,List.take_succ_cons,List.take_zero,List.drop_succ_cons,List.getElem?_cons_zero,List.getElem?_cons_succ] at h0 h1
   simp only [List.map_cons,List.map_nil,Prod.mk.injEq,DataW.agg.injEq,List.cons.injEq,and_true] at ex
   obtain ⟨⟨e0,e1⟩,_⟩:=ex
   obtain ⟨x0a,x0b⟩:=x0
   obtain ⟨x1a,x1b⟩:=x1
   simp only at e0 e1
   subst e0 e1
   obtain ⟨ys,n0,_,ey,_,hy,hf⟩:=DataW.trod_struct Tryz.underlying208 h0
   obtain ⟨zs,n1,_,ez,_,hz,hk⟩:=DataW.trod_struct Tryz.underlying208 h1
   match ys,hy,zs,hz with
   | [y0,y1],_,[z0,z1],_ =>
    have f0:=hf 0 _ rfl
    have f1:=hf 1 _ rfl
    have k0:=hk 0 _ rfl
    have k1:=hk 1 _ rfl
    simp only [c142,c68,List.drop_zero,List.take_succ_cons,List.take_zero,List.drop_succ_cons,List.getElem?_cons_zero,List.getElem?_cons_succ] at f0 f1 k0 k1
    simp only [List.map_cons,List.map_nil,Prod.mk.injEq,DataW.agg.injEq,List.cons.injEq,and_true] at ey ez
    obtain ⟨⟨ey0,ey1⟩,_⟩:=ey
    obtain ⟨⟨ez0,ez1⟩,_⟩:=ez
    obtain ⟨y0a,y0b⟩:=y0
    obtain ⟨y1a,y1b⟩:=y1
    obtain ⟨z0a,z0b⟩:=z0
    obtain ⟨z1a,z1b⟩:=z1
    simp only at ey0 ey1 ez0 ez1
    subst ey0 ey1 ez0 ez1
    obtain rfl:=func_of_trod (f0:=180) Tryz.underlying206 (by kernel_rfl) f0
    obtain rfl:=func_of_trod (f0:=181) Tryz.underlying104 (by kernel_rfl) f1
    obtain rfl:=func_of_trod (f0:=182) Tryz.underlying206 (by kernel_rfl) k0
    obtain rfl:=func_of_trod (f0:=183) Tryz.underlying104 (by kernel_rfl) k1
    refine ⟨fun j v hj=>?_⟩
    rw [Nat.zero_add,hcell j]
    simpa [zCP] using hj
end Go.Proofs.YtdigopgncfhiaaaGreatDoor
namespace Go.Proofs.YtdigopgncfhiaaaGreatDoor
variable {ro : Option Nat}
open Go.RowKit
set_option linter.unusedSectionVars false
structure zx (α:Type) where
 A:Option Addr
 xs:List α
 c:Nat
structure SlB (α:Type) where
 b:Nat
 xs:List α
 c:Nat
def zx.v {α:Type} (s:zx α):Value:=.slice s.A s.xs.length s.c
def zp {α:Type} (s:zx α):List Value:=[.slice s.A s.xs.length s.c]
def encSb {α:Type} (s:SlB α):List Value:=[.slice (some ⟨s.b,0,none⟩) s.xs.length s.c]
instance encI_of {α:Type}:zBw (zp (α:=α)) 1:=⟨fun _=>rfl,fun s v hv=>by simp [zp] at hv;subst hv;rfl⟩
instance encI_sb {α:Type}:zBw (encSb (α:=α)) 1:=⟨fun _=>rfl,fun s v hv=>by simp [encSb] at hv;subst hv;rfl⟩
def zAs {α:Type}:zx α:=⟨none,[],0⟩
structure zCX {α:Type} (enc:α→List Value) (k:Nat) (w:World) (P:Option Addr) (L:List (zx α)):Prop where
 p:zq zp 1 w P L
 rows:∀ s∈L,zq enc k w s.A s.xs
theorem zCX.below {α:Type} {enc:α→List Value} {k:Nat} {w W:World} {P:Option Addr} {L:List (zx α)} (h:zCX enc k w P L) (hb:Below w.heap.size w W):zCX enc k W P L:=⟨h.p.below hb,fun s hs=>(h.rows s hs).below hb⟩
def Ent.zA0 {β:Type} (hd:β→List Value) (re:β→Ent) (g:Nat) (L:List β):Ent:=.all (.arr hd 1 g L::L.map re)
def rowOf {α:Type} (enc:α→List Value) (k e:Nat) (s:zx α):Ent:=.row enc k e (.slice s.A s.xs.length s.c) s.xs
theorem zEZ {α:Type} {x:α}:∀ {l:List α} {i:Nat},l[i]?=some x→l.Perm (x::l.eraseIdx i)
 | [],_,h=>by simp at h
 | y::r,0,h=>by simp at h;subst h;exact List.Perm.refl _
 | y::r,i+1,h=>by
  have h':r[i]?=some x:=by simpa using h
  exact (List.Perm.cons y (zEZ h')).trans (List.Perm.swap _ _ _)
theorem Own.perm {base:Nat} {w:World} {H H':List Ent} (hp:H.Perm H') (h:Own base w H):Own base w H' :=
 ⟨fun e he=>h.here e (hp.mem_iff.2 he),fun e he=>h.foot e (hp.mem_iff.2 he),(hp.pairwise_iff (fun {e f} h b hb hb'=>h b hb' hb)).1 h.apart⟩
section
variable {α β:Type} {hd:β→List Value} {re:β→Ent} {base g:Nat} {w:World} {H H' H1 H2 H3:List Ent} {L:List β}
theorem zKq {i:Nat} {s:β} (hi:L[i]?=some s) (h:Own base w (.zA0 hd re g L::H)):Own base w (.arr hd 1 g L::re s :: .all ((L.eraseIdx i).map re)::H):=by
 have h1:Own base w ((.arr hd 1 g L::L.map re)++H):=zBI.2 h
 have hp:(L.map re).Perm (re s::(L.eraseIdx i).map re):=by
  have:=(zEZ hi).map re
  simpa using this
 have h2:Own base w ((.arr hd 1 g L::re s::(L.eraseIdx i).map re)++H):=h1.perm (List.Perm.append_right H (List.Perm.cons _ hp))
 exact (zBA (D:=[.arr hd 1 g L,re s]) (L:=(L.eraseIdx i).map re) (B:=H)).1 h2
theorem zG8 {i:Nat} {s s':β} (hi:L[i]?=some s) (h:Own base w (.arr hd 1 g (L.set i s')::re s' :: .all ((L.eraseIdx i).map re)::H)):Own base w (.zA0 hd re g (L.set i s')::H):=by
 have h2:Own base w ((.arr hd 1 g (L.set i s')::re s'::(L.eraseIdx i).map re)++H):=(zBA (D:=[.arr hd 1 g (L.set i s'),re s']) (L:=(L.eraseIdx i).map re) (B:=H)).2 h
 obtain ⟨hlt,e⟩:=List.getElem?_eq_some_iff.1 hi
 have hlt':i<(L.set i s').length:=by simpa using hlt
 have hp:(re s'::(L.eraseIdx i).map re).Perm ((L.set i s').map re):=by
  have h9:=(zEZ (l:=L.set i s') (i:=i) (x:=s') (by simp [List.getElem?_set,hlt])).symm.map re
  have e9:(L.set i s').eraseIdx i=L.eraseIdx i:=by rw [List.eraseIdx_set_eq]
  rw [e9] at h9
  simpa using h9
 exact zBI.1 (h2.perm (List.Perm.append_right H (List.Perm.cons _ hp)))
theorem zJD (h:Own base w H) (ht:Take H (.zA0 hd re g L) H') [ei:zBw hd 1]:zq hd 1 w (some ⟨g,0,none⟩) L∧∀ s∈L,(re s).p w:=by
 have h1:Own base w ((.arr hd 1 g L::L.map re)++H'):=zBI.2 (h.take ht)
 refine ⟨?_,fun s hs=>h1.here (re s) (by simp;exact .inr (.inl ⟨s,hs,rfl⟩))⟩
 have:=Own.zMg (enc:=hd) (k:=1) (g:=g) (xs:=L) (Take.here _ _) h1
 exact this.here (.sl hd 1 (some ⟨g,0,none⟩) L) (by simp)
end
theorem zCG {α:Type} {enc:α→List Value} {k e g base:Nat} [ei:zBw enc k] {L:List (zx α)} {w:World} {H H':List Ent} (h:Own base w H) (ht:Take H (.zA0 zp (rowOf enc k e) g L) H'):zCX enc k w (some ⟨g,0,none⟩) L:=by
 obtain ⟨h1,h2⟩:=zJD h ht
 exact ⟨h1,fun s hs=>(zDC ei.len (h2 s hs)).2⟩
theorem zEd {α:Type} {enc:α→List Value} {k b:Nat} [ei:zBw enc k] {xs:List α} {w:World} (h:(Ent.arr enc k b xs).p w):zq enc k w (some ⟨b,0,none⟩) xs:=by
 obtain ⟨tl,hB⟩:=h
 intro i z hz
 refine ⟨b,0,rfl,hB.lt,fun j v hv=>?_⟩
 have h1:=zEY ei.len xs i z hz j v hv
 rw [hB.cell]
 have hlt:=(List.getElem?_eq_some_iff.1 h1).1
 simp only [List.getElem?_toArray,Nat.zero_add]
 rw [List.getElem?_append_left hlt]
 exact h1
def SlB.of {α:Type} (s:SlB α):zx α:=⟨some ⟨s.b,0,none⟩,s.xs,s.c⟩
section
variable {P : Program} {w0:World} {n:Nat} {d:List Deferred} {R:List (Nat × Value)} {H H' H1 H2 H3:List Ent} {Q:Exit→Act→World→Prop} {ops:Array Oper} {rest:List Oper} {o:Oper} {t:Tmp} {x y:Operand} {v:Value} {X:Act→World→Prop}
theorem zCK {β:Type} {hd:β→List Value} {re:β→Ent} {g:Nat} {L:List β} (i:Nat) {s:β} (hi:L[i]?=some s) (ht:Take H (.zA0 hd re g L) H') (h:U w0 n d R (.arr hd 1 g (L.set i s)::re s :: .all ((L.eraseIdx i).map re)::H') X):U w0 n d R H X:=fun a w q=>by
 have e:L.set i s=L:=by
  obtain ⟨hlt,e⟩:=List.getElem?_eq_some_iff.1 hi
  subst e
  exact List.set_getElem_self hlt
 rw [e] at h
 exact h a w (q.heap q.below (zKq hi (q.own.take ht)))
theorem zCJ {β:Type} {hd:β→List Value} {re:β→Ent} {g:Nat} {L:List β} (i:Nat) {s:β} (s':β) (hi:L[i]?=some s) (ht:Take H (.arr hd 1 g (L.set i s')) H1) (ht1:Take H1 (re s') H2) (ht2:Take H2 (.all ((L.eraseIdx i).map re)) H3) (h:U w0 n d R (.zA0 hd re g (L.set i s')::H3) X):U w0 n d R H X:=fun a w q=>by
 refine h a w (q.heap q.below (zG8 hi ?_))
 have h1:=q.own.take ht
 have h2:=h1.take (Take.there _ ht1)
 have h3:=h2.take (Take.there _ (Take.there _ ht2))
 refine h3.perm ?_
 exact (List.Perm.swap _ _ _).trans ((List.Perm.cons _ (List.Perm.swap _ _ _)).trans ((List.Perm.swap _ _ _).trans (List.Perm.refl _)))
theorem zHf {α:Type} {enc:α→List Value} {k e:Nat} (h:U w0 n d R (.row enc k e (.slice none 0 0) ([]:List α)::H) X):U w0 n d R H X:=fun a w q=>by
 refine h a w (q.heap q.below ⟨fun f hf=>?_,fun f hf b hb=>?_,List.pairwise_cons.2 ⟨fun f hf b hb=>?_,q.own.apart⟩⟩)
 ·rcases List.mem_cons.1 hf with rfl|hf
  ·exact Row.nil
  ·exact q.own.here f hf
 ·rcases List.mem_cons.1 hf with rfl|hf
  ·cases hb
  ·exact q.own.foot f hf b hb
 ·cases hb
theorem zEs {α:Type} {enc:α→List Value} {k e g base:Nat} {w:World}:∀ (m:Nat) {H:List Ent},Own base w H→Own base w (((List.replicate m (zAs:zx α)).map (rowOf enc k e))++H)
 | 0,H,h=>h
 | m+1,H,h=>by
  have ih:=zEs (α:=α) (enc:=enc) (k:=k) (e:=e) (g:=g) m h
  rw [List.replicate_succ,List.map_cons,List.cons_append]
  refine ⟨fun f hf=>?_,fun f hf b hb=>?_,List.pairwise_cons.2 ⟨fun f hf b hb=>?_,ih.apart⟩⟩
  ·rcases List.mem_cons.1 hf with rfl|hf
   ·exact Row.nil
   ·exact ih.here f hf
  ·rcases List.mem_cons.1 hf with rfl|hf
   ·cases hb
   ·exact ih.foot f hf b hb
  ·cases hb
theorem zHd {α:Type} {enc:α→List Value} {k e g m:Nat} (ht:Take H (.blk g (List.replicate m (.slice none 0 0))) H') (h:U w0 n d R (.zA0 zp (rowOf enc k e) g (List.replicate m (zAs:zx α))::H') X):U w0 n d R H X:=fun a w q=>by
 refine h a w (q.heap q.below (zBI.1 ?_))
 have h1:Own w0.heap.size w (.arr zp 1 g (List.replicate m (zAs:zx α))::H'):=(q.own.take ht).recast (fun hp=>⟨[],by
  have:(List.replicate m (zAs:zx α)).flatMap zp++[]=List.replicate m (.slice none 0 0):=by
   rw [List.append_nil]
   clear ht h q hp
   induction m with
   | zero=>rfl
   | succ m ih=>rw [List.replicate_succ,List.flatMap_cons,ih,List.replicate_succ];rfl
  rw [this];exact hp⟩) (fun b hb=>hb)
 have h2:=zEs (α:=α) (enc:=enc) (k:=k) (e:=e) (g:=g) m h1
 refine h2.perm ?_
 exact List.perm_middle
theorem zJm {T1 e:TypeId} {i:TypeInfo} {z v:Value} {n0 s:Nat} {g:Bool} (hop:o.op = .makeSlice T1 x y) [i1:TyI P T1 (.slice e) s g] (hi:P.info? e=some i) (hz:i.zero=some z) (h1:i.size=1) (hcz:z.cells=#[v]) (hb:Nat.ble (i.bytes * 1000) 281474976710656=true) (hrd:rdy R ops n o=some t) (hx:evR R x=some (.int .i64 (n0:Int))) (hy:evR R y=some (.int .i64 (n0:Int))) (hn:n0≤1000)
  (h:∀ b,U w0 n d ((t,.slice (some ⟨b,0,none⟩) n0 n0)::R) (.blk b (List.replicate n0 v)::H) (wpL ro P ops Q rest)):U w0 n d R H (wpL ro P ops Q (o::rest)) :=
 zDh (rW hrd) fun a w q K hK=>by
  have hb':(i.bytes:Int) * (n0:Int)≤281474976710656:=by
   have h9:=Nat.le_of_ble_eq_true hb
   have h8:i.bytes * n0≤i.bytes * 1000:=Nat.mul_le_mul_left _ hn
   have h7:((i.bytes * n0:Nat):Int)≤281474976710656:=by omega
   rwa [Int.natCast_mul] at h7
  have hr:=run_make (P:=P) w T1 e i z i1.und hi hz .i64 .i64 n0 n0 (by omega) (Int.le_refl _) hb' (by omega)
  have hm:madeCells z.cells (n0 * i.size)=(List.replicate n0 v).toArray:=by
   apply Array.ext'
   simp [madeCells,h1,hcz]
   apply List.ext_getElem?
   intro j
   rw [List.getElem?_map,List.getElem?_replicate]
   by_cases hj:j<n0
   ·rw [List.getElem?_range hj,if_pos hj];simp [Nat.mod_one]
   ·rw [List.getElem?_eq_none (by simpa using hj),if_neg hj];rfl
  simp only [Int.toNat_natCast,hm] at hr
  unfold Oper.wp execOp;rw [hop]
  simp only [Sem.run_bind,q.ev hx,q.ev hy,hr,Result.andThen_ok,Sem.run_pure,Oper.upon_value,(rD hrd)]
  exact hK _ _ (h w.heap.size _ _ ((q.alloc _ e).put (rT hrd)))
theorem zCS {β:Type} {hd:β→List Value} [ei:zBw hd 1] {g i:Nat} {gg:Bool} {T1:TypeId} {td:TypeDesc} {L:List β} {s:β} (s':β) (hop:o.op = .store T1 x y) [i1:TyI P T1 td 1 gg] (hw:want R ops o=some true) (hdt:o.dst=none) (hx:evR R x=some (.pointer (some ⟨g,0+i * 1,none⟩))) (hy:evR R y=some v) (hv:v.cells.toList=hd s') (ht:Take H (.arr hd 1 g (L.set i s)) H') (hi:i<L.length)
  (h:U w0 n d R (.arr hd 1 g (L.set i s')::H') (wpL ro P ops Q rest)):U w0 n d R H (wpL ro P ops Q (o::rest)):=by
 have i2:zJh H g hd 1 (L.set i s) H':=⟨ht⟩
 have i3:zAT (L.set i s) i s:=⟨by simp [hi]⟩
 refine zHe (j:=0) (z:=s) s' hop hw hdt hx hy ?_ ?_ ?_ (by omega) ?_
 ·rw [hv]
  have h1:=ei.len s
  have h2:=ei.len s'
  match h3:hd s,h4:hd s' with
  | [a],[b]=>rfl
  | [],_=>rw [h3] at h1;cases h1
  | _::_::_,_=>rw [h3] at h1;cases h1
  | [_],[]=>rw [h4] at h2;cases h2
  | [_],_::_::_=>rw [h4] at h2;cases h2
 ·rw [hv,ei.len];rfl
 ·rw [hv];exact List.all_eq_true.2 (ei.one s')
 ·rw [List.set_set];exact h
theorem zFc {β:Type} {hd:β→List Value} {re:β→Ent} {g:Nat} {L:List β} (i:Nat) {s:β} (hi:L[i]?=some s) (ht:Take H (.arr hd 1 g (L.set i s)) H1) (ht1:Take H1 (re s) H2) (ht2:Take H2 (.all ((L.eraseIdx i).map re)) H3) (h:U w0 n d R (.zA0 hd re g L::H3) X):U w0 n d R H X:=by
 refine zCJ i s hi ht ht1 ht2 ?_
 have e:L.set i s=L:=by
  obtain ⟨hlt,e⟩:=List.getElem?_eq_some_iff.1 hi
  subst e
  exact List.set_getElem_self hlt
 rw [e];exact h
class zKO (H:List Ent) (g:Nat) {β:outParam Type} (hd:outParam (β→List Value)) (re:outParam (β→Ent)) (L:outParam (List β)) (H':outParam (List Ent)):Prop where tk:Take H (.zA0 hd re g L) H'
instance (priority := high) takeTb_here {H:List Ent} {g:Nat} {β:Type} {hd:β→List Value} {re:β→Ent} {L:List β}:zKO (.zA0 hd re g L::H) g hd re L H:=⟨Take.here _ _⟩
instance takeTb_there {H H':List Ent} {f:Ent} {g:Nat} {β:Type} {hd:β→List Value} {re:β→Ent} {L:List β} [i:zKO H g hd re L H']:zKO (f::H) g hd re L (f::H'):=⟨Take.there _ i.tk⟩
instance srcI_tb {g i:Nat} {β:Type} {hd:β→List Value} {re:β→Ent} {L:List β} {s:β} [ei:zBw hd 1] [i1:zKO H g hd re L H'] [i2:zAT L i s]:zFs w0 H g (0+i * 1) (hd s):=⟨fun w hb ho j v hv=>by
 have h1:=(zJD ho i1.tk).1
 obtain ⟨b,o,hA,hlt,hc⟩:=h1 i s i2.get
 cases hA
 exact hc j v hv⟩
theorem zEK {α:Type} {enc:α→List Value} {k e g:Nat} {L:List (zx α)} (i:Nat) {s:zx α} (xs':List α) (hl:xs'.length=s.xs.length) (hi:L[i]?=some s) (ht:Take H (.arr zp 1 g (L.set i s)) H1) (ht1:Take H1 (.row enc k e (.slice s.A s.xs.length s.c) xs') H2) (ht2:Take H2 (.all ((L.eraseIdx i).map (rowOf enc k e))) H3) (h:U w0 n d R (.zA0 zp (rowOf enc k e) g (L.set i ⟨s.A,xs',s.c⟩)::H3) X):U w0 n d R H X:=fun a w q=>by
 have h1:=q.own.take ht
 have h1':Own w0.heap.size w (.arr zp 1 g (L.set i ⟨s.A,xs',s.c⟩)::H1):=h1.recast (fun hp=>by
  obtain ⟨tl,hB⟩:=hp
  have e1:∀ (L:List (zx α)) (i:Nat),(L.set i s).flatMap zp=(L.set i ⟨s.A,xs',s.c⟩).flatMap zp:=by
   intro L
   induction L with
   | nil=>intro i;rfl
   | cons y r ih =>
    intro i
    cases i with
    | zero=>simp [zp,hl]
    | succ i=>simp only [List.set_cons_succ,List.flatMap_cons];rw [ih i]
  refine ⟨tl,?_⟩
  rw [← e1];exact hB) (fun b hb=>hb)
 have ht1':Take H1 (rowOf enc k e ⟨s.A,xs',s.c⟩) H2:=by
  unfold rowOf;simp only;rw [hl];exact ht1
 have h2:=h1'.take (Take.there _ ht1')
 have h3:=h2.take (Take.there _ (Take.there _ ht2))
 refine h a w (q.heap q.below (zG8 hi (h3.perm ?_)))
 exact (List.Perm.swap _ _ _).trans ((List.Perm.cons _ (List.Perm.swap _ _ _)).trans ((List.Perm.swap _ _ _).trans (List.Perm.refl _)))
theorem zGY {α:Type} {enc:α→List Value} {k e:Nat} {A:Option Addr} {m c:Nat} {xs:List α} (ht:Take H (.row enc k e (.slice A m c) xs) H') (h0:0<xs.length) (h:∀ g,A=some ⟨g,0,none⟩→U w0 n d R H X):U w0 n d R H X:=fun a w q=>by
 have hr:Row enc k e 0 w (.slice A m c) xs:=q.own.here _ ht.mem
 rcases hr.2 with ⟨_,h4⟩ | ⟨b,cap,cur,hv,_⟩
 ·omega
 ·cases hv
  exact h b rfl a w q
class zIY (H:List Ent) (g:Nat) {α:outParam Type} (enc:outParam (α→List Value)) (k e m c:outParam Nat) (xs:outParam (List α)) (H':outParam (List Ent)):Prop where tk:Take H (.row enc k e (.slice (some ⟨g,0,none⟩) m c) xs) H'
instance (priority := high) takeRw_here {H:List Ent} {g:Nat} {α:Type} {enc:α→List Value} {k e m c:Nat} {xs:List α}:zIY (.row enc k e (.slice (some ⟨g,0,none⟩) m c) xs::H) g enc k e m c xs H:=⟨Take.here _ _⟩
instance takeRw_there {H H':List Ent} {f:Ent} {g:Nat} {α:Type} {enc:α→List Value} {k e m c:Nat} {xs:List α} [i:zIY H g enc k e m c xs H']:zIY (f::H) g enc k e m c xs (f::H'):=⟨Take.there _ i.tk⟩
instance srcI_rw {g i k e m c:Nat} {α:Type} {enc:α→List Value} {xs:List α} {z:α} [ei:zBw enc k] [i1:zIY H g enc k e m c xs H'] [i2:zAT xs i z]:zFs w0 H g (0+i * k) (enc z):=⟨fun w hb ho j v hv=>by
 have h1:=(zDC ei.len (ho.here _ i1.tk.mem:Row enc k e 0 w (.slice (some ⟨g,0,none⟩) m c) xs)).2
 obtain ⟨b,o,hA,hlt,hc⟩:=h1 i z i2.get
 cases hA
 exact hc j v hv⟩
theorem zLJ {α:Type} {enc:α→List Value} (henc:∀ x,(enc x).length=1) {z':α} {v:Value} (hv:enc z'=[v]):∀ (xs:List α) (i:Nat),(xs.set i z').flatMap enc=(xs.flatMap enc).set i v
 | [],i=>by simp
 | x::r,0=>by
  have h:=henc x
  match hx:enc x with
  | [a]=>simp [hx,hv]
  | []=>rw [hx] at h;cases h
  | _::_::_=>rw [hx] at h;cases h
 | x::r,i+1=>by
  have h:=henc x
  have ih:=zLJ henc hv r i
  match hx:enc x with
  | [a]=>simp [hx,ih]
  | []=>rw [hx] at h;cases h
  | _::_::_=>rw [hx] at h;cases h
theorem zCq {α:Type} {enc:α→List Value} [ei:zBw enc 1] {g i e m c:Nat} {gg:Bool} {T1:TypeId} {td:TypeDesc} {xs:List α} (z':α) (hop:o.op = .store T1 x y) [i1:TyI P T1 td 1 gg] (hw:want R ops o=some true) (hd:o.dst=none) (hx:evR R x=some (.pointer (some ⟨g,0+i * 1,none⟩))) (hy:evR R y=some v) (hv:enc z'=[v]) (hc1:v.cells=#[v]) (hv1:v.oneCell'=true) [i2:zIY H g enc 1 e m c xs H'] (hi:i<xs.length)
  (h:U w0 n d R (.row enc 1 e (.slice (some ⟨g,0,none⟩) m c) (xs.set i z')::H') (wpL ro P ops Q rest)):U w0 n d R H (wpL ro P ops Q (o::rest)) :=
 zDh hw fun a w q K1 hK=>by
  have ho:=q.own.take i2.tk
  have hr:Row enc 1 e 0 w (.slice (some ⟨g,0,none⟩) m c) xs:=ho.here (.row enc 1 e (.slice (some ⟨g,0,none⟩) m c) xs) (by simp)
  have hm:m=xs.length:=(zDC ei.len hr).1
  subst hm
  unfold Row at hr
  have hlen:(xs.flatMap enc).length=xs.length:=by simpa using hr.1
  have e1:=i1.siz w
  have hfoot:=ho.foot (.row enc 1 e (.slice (some ⟨g,0,none⟩) xs.length c) xs) (by simp) g rfl
  have hrun:(Instr.storeAt T1 (.pointer (some ⟨g,0+i * 1,none⟩)) v).run P w = .ok () (w.setCells g (0+i * 1) [v]):=by
   have:=run_storeCells_cells (P:=P) g (0+i * 1) [v] 0 w (fun j hj=>by
    have h9:j=0:=by simp at hj;omega
    subst h9
    rw [show 0+i * 1+0+0=i by omega,hr.cellAt i (by omega)]
    rw [List.getElem?_eq_getElem (by omega)];rfl) (fun j hj=>hr.frozenAt _) (fun u hu=>by simp at hu;subst hu;exact hv1)
   simp only [Nat.add_zero] at this
   have hsz:¬ v.cells.size≠1:=by rw [hc1];simp
   unfold Instr.storeAt storeVar
   simp only [Sem.run_bind,Instr.sureAddr,Sem.run_pure,Result.andThen_ok,e1,Sem.run_ite,hsz,if_false]
   rw [hc1]
   exact this
  have hst:=hr.stored i v
  have e2:w.setCells g (0+i * 1) [v]=w.setCell ⟨g,i,none⟩ v:=by simp [World.setCells]
  rw [e2] at hrun
  unfold Oper.wp execOp;rw [hop]
  simp only [Sem.run_bind,q.ev hx,q.ev hy,hrun,Result.andThen_ok,Sem.run_pure,Oper.upon_skip,hd]
  have hother:∀ b,b≠g→(w.setCell ⟨g,i,none⟩ v).heap[b]?=w.heap[b]?:=fun b hb=>Below.heap_setCell _ _ _ _ hb
  have hsize:(w.setCell ⟨g,i,none⟩ v).heap.size=w.heap.size:=by simp
  refine hK _ _ (h _ _ (q.heap ?_ ?_))
  ·exact q.below.trans ⟨rfl,rfl,rfl,by omega,fun k hk=>hother k (by omega)⟩
  ·refine ho.turn (by omega) (fun b hb hn=>hother b (fun e=>hn (by subst e;rfl))) q.base ?_ (fun b hb=>⟨.inl hb,?_⟩)
   ·show Row enc 1 e 0 _ _ (xs.set i z')
    unfold Row
    rw [zLJ ei.len hv,List.length_set]
    exact hst.1
   ·rw [hsize];cases hb;exact hfoot.2
end
end Go.Proofs.YtdigopgncfhiaaaGreatDoor
