/- A23 -/
import Derived.Test.YtfiekidciiighaaGreatA20
import Derived.Test.YtfiekidciiighaaGreatA21
import Derived.Test.YtfiekidciiighaaGreatA22
set_option linter.unusedSimpArgs false
set_option linter.unusedVariables false
namespace Go.Proofs.YtfiekidciiighaaGreat.Two
variable {ro : Option Nat}
open Go.RowKit
set_option maxRecDepth 20000
abbrev Tab := Nat × (Tal→Option Int)
abbrev Tim := Nat × (Int→Option Sp)
def FH (z:Wa) (g:Nat) (T:List Tim):List Ent:=[.blk g (zy z (.slice none 0 0) (.slice none 0 0)),.sl encI 1 z.LA (zAK z.l z.l.bms.length),.arr zAS 1 z.gt (T.map fun p=>some p.1),.mps vI vSp T]
def WH (z:Wa) (g gf gb:Nat) (T:List Tim) (F B:List Tab):List Ent:=[.blk g (zy z (.slice (some ⟨gf,0,none⟩) (z.l.bms.length+1) (z.l.bms.length+1)) (.slice (some ⟨gb,0,none⟩) (z.l.bms.length+1) (z.l.bms.length+1))),.sl encI 1 z.LA (zAK z.l z.l.bms.length),.arr zAS 1 z.gt (T.map fun p=>some p.1),.mps vI vSp T,.arr zAS 1 gf (F.map fun p=>some p.1),.mps vTl vI F,.arr zAS 1 gb (B.map fun p=>some p.1),.mps vTl vI B]
def TmOk (z:Wa) (T:List Tim):Prop:=T.length=z.l.bms.length∧∀ (b:Nat) (p:Tim),T[b]?=some p→p.2=zBr z.l z.x.r b z.x.r.sigs.length
def FwOk (z:Wa) (n:Nat) (F:List Tab):Prop:=F.length=n∧∀ (b:Nat) (p:Tab),F[b]?=some p→zAy (SF z.k b) p.2
def BkOk (z:Wa) (n:Nat) (B:List Tab):Prop:=B.length=n∧∀ (b:Nat) (p:Tab),B[b]?=some p→zA4 (SB z.k b) p.2
structure WaOk (z:Wa):Prop where
 fine:zDo z.l
 ride:zCC z.l.bms.length z.x.r=true
theorem WaOk.in_ {z:Wa} (h:WaOk z):(0≤z.x.r.start∧z.x.r.start≤z.x.r.now∧z.x.r.now≤86400000)∧z.x.r.sigs.length≤10∧1≤z.l.bms.length∧z.l.bms.length≤6:=by
 obtain ⟨⟨r1,r2,r3⟩,r4⟩:=zBM.1 h.ride
 rw [zAA] at r1 r2
 have:=h.fine.bms
 omega
theorem zKH {k:RdK} {n:Nat} {t:Tal} {v:Int} (h:SF k n t v):0≤t.right∧0≤t.missed∧t.right+t.missed=n:=by
 obtain ⟨os,rfl,_,rfl,_⟩:=h
 have h1:=zDc os
 have h2:=zGj os
 omega
theorem sb_tal {k:RdK} {b:Nat} {t:Tal} {v:Int} (h:SB k b t v):0≤t.right∧0≤t.missed∧t.right+t.missed+b≤k.m:=by
 obtain ⟨os,h0,_,rfl,_⟩:=h
 have h1:=zDc os
 have h2:=zGj os
 omega
theorem zKf (s:Int):0≤(zBm s).right∧(zBm s).right≤1∧0≤(zBm s).missed∧(zBm s).missed≤1:=by unfold zBm;split<;>simp
section
variable {n : Nat} {d:List Deferred} {R:List (Nat × Value)} {H H' H1:List Ent} {X:Act→World→Prop} {w0:World} {K V:Type} [DecidableEq K] {kv:K→Value} {vv:V→Value} {m:Nat} {f:K→Option V}
theorem zG0 {L:List (Nat × (K→Option V))} (ht:Take H (.fm m kv vv f) H1) (ht2:Take H1 (.mps kv vv L) H') (h:U w0 n d R (.mps kv vv (L++[(m,f)])::H') X):U w0 n d R H X:=zFZ L [] ht (by rw [List.append_nil];exact ht2) h
theorem zDQ {L:List (Nat × (K→Option V))} (i:Nat) (hi:L[i]?=some (m,f)) (ht:Take H (.mps kv vv L) H') (h:U w0 n d R (.fm m kv vv f :: .mps kv vv (L.take i++L.drop (i+1))::H') X):U w0 n d R H X:=by
 have hlt:=(List.getElem?_eq_some_iff.1 hi).1
 have e:L=L.take i++(m,f)::L.drop (i+1):=by
  have h1:=(List.getElem?_eq_some_iff.1 hi).2
  rw [← h1,List.getElem_cons_drop,List.take_append_drop]
 refine u_mpsOut (L1:=L.take i) (L2:=L.drop (i+1)) (m:=m) (f:=f) ?_ h
 rw [← e];exact ht
theorem zDW {L:List (Nat × (K→Option V))} (i:Nat) (hi:L[i]?=some (m,f)) (ht:Take H (.fm m kv vv f) H1) (ht2:Take H1 (.mps kv vv (L.take i++L.drop (i+1))) H') (h:U w0 n d R (.mps kv vv L::H') X):U w0 n d R H X:=by
 have hlt:=(List.getElem?_eq_some_iff.1 hi).1
 have e:L=L.take i++(m,f)::L.drop (i+1):=by
  have h1:=(List.getElem?_eq_some_iff.1 hi).2
  rw [← h1,List.getElem_cons_drop,List.take_append_drop]
 refine zFZ (L.take i) (L.drop (i+1)) ht ht2 ?_
 rw [← e];exact h
end
def zHN (l:List (Tal × Int × Nat)) (seen:List Nat) (t:Tal) (v:Int):Prop:=∃ p∈l,p.2.2∈seen∧p.1=t∧p.2.1=v
theorem zJh {l:List (Tal × Int × Nat)}:zHN l []=fun _ _=>False:=by funext t v;simp [zHN]
theorem zJj {l:List (Tal × Int × Nat)} {c:Nat} (hl:MOk l c) {seen:List Nat} {p:Tal × Int × Nat} (hp:p∈l) (t:Tal) (v:Int):(zHN l seen t v∨(t=p.1∧v=p.2.1))↔zHN l (seen++[p.2.2]) t v:=by
 unfold zHN
 constructor
 ·rintro (⟨q,h1,h2,h3⟩ | ⟨rfl,rfl⟩)
  ·exact ⟨q,h1,List.mem_append_left _ h2,h3⟩
  ·exact ⟨p,hp,List.mem_append_right _ (by simp),rfl,rfl⟩
 ·rintro ⟨q,h1,h2,rfl,rfl⟩
  rcases List.mem_append.1 h2 with h2|h2
  ·exact .inl ⟨q,h1,h2,rfl,rfl⟩
  ·have h9:q.2.2=p.2.2:=by simpa using h2
   have:=zDf hl h1 hp h9
   rw [this];exact .inr ⟨rfl,rfl⟩
theorem zJi {l:List (Tal × Int × Nat)} {c:Nat} (hl:MOk l c) {seen:List Nat} (h:∀ p∈l,p.2.2∈seen) (t:Tal) (v:Int):zHN l seen t v↔look l t=some v:=by
 unfold zHN
 constructor
 ·rintro ⟨p,h1,_,rfl,rfl⟩;exact zDg hl.keys (show (p.1,p.2.1,p.2.2)∈l from h1)
 ·intro h1
  obtain ⟨j,bn,_,h2⟩:=zCn 0 h1
  have h3:=List.mem_of_getElem? h2
  exact ⟨_,h3,h _ h3,rfl,rfl⟩
set_option maxHeartbeats 16000000 in
theorem zKq (z:Wa) (g:Nat) (T:List Tim) (wb w:World) (hz:WaOk z) (hT:TmOk z T) (hwb:Below wb.heap.size wb w) (hO:Own wb.heap.size w (FH z g T)) :
  zHj Tryz.prog 88 [.pointer (some ⟨g,0,none⟩)] w (FH z g T) (fun _:Nat × Nat × List Tab × List Tab=>.tuple #[]) (fun q=>WH z g q.1 q.2.1 T q.2.2.1 q.2.2.2) (fun q=>FwOk z (z.l.bms.length+1) q.2.2.1∧BkOk z (z.l.bms.length+1) q.2.2.2):=by
 obtain ⟨hin,hsg,hm1,hm6⟩:=hz.in_
 have hf:=hz.fine
 have hSl:zAC encI 1 w z.LA (zAK z.l z.l.bms.length):=hO.here (.sl encI 1 z.LA (zAK z.l z.l.bms.length)) (by simp [FH])
 obtain ⟨bl,ol,hLA,_,_⟩:=hSl.at_ (show 0<(zAK z.l z.l.bms.length).length by rw [zCR];omega)
 clear hSl
 obtain ⟨FH0,hFH⟩:∃ X,X=FH z g T:=⟨_,rfl⟩
 rw [← hFH]
 refine zEJ (n:=236) hwb (by rw [hFH];exact hO) Tryz.func88 rfl rfl rfl ?_
 obtain ⟨l,x,LA,lc,gt⟩:=z
 obtain ⟨hTl,hTm⟩:=hT
 simp only at hLA hin hsg hm1 hm6 hf hTl hTm
 subst hLA
 clear hO
 refine U.sub (R':=[(0,.pointer (some ⟨g,0,none⟩))]) (H':=[.blk g (zy (⟨l,x,some ⟨bl,ol,none⟩,lc,gt⟩:Wa) (.slice none 0 0) (.slice none 0 0)),.sl encI 1 (some ⟨bl,ol,none⟩) (zAK l l.bms.length),.arr zAS 1 gt (T.map fun p=>some p.1),.mps vI vSp T,.oldx w wb.heap.size (feet FH0)]) (by (repeat first|exact lK1|refine zT rfl ?_)) (by rw [hFH];unfold FH;simp only [List.cons_append,List.nil_append];(repeat constructor)) ?_
 unfold zy
 simp only
 (repeat' (first|((with_reducible refine zG ?_);first|refine zC rfl rfl rfl ?_|(refine zJ rfl rfl rfl ?_;refine ⟨_,rfl,?_⟩)|refine zL rfl rfl rfl ?_|refine zn rfl rfl rfl ?_|(refine zp rfl rfl rfl rfl (fun b=>?_))|refine zBG rfl rfl rfl ?_)|(with_reducible first|refine zI ?_|refine zB ?_|refine zE ?_|refine zA ?_)))
 obtain ⟨b1,hb1⟩:∃ y,y=b:=⟨_,rfl⟩
 subst hb1
 (refine z9 [(10,13)] [(10,0,0,[.blk g (zy (⟨l,x,some ⟨bl,ol,none⟩,lc,gt⟩:Wa) (.slice none 0 0) (.slice none 0 0))])] [(10,0,0)] rfl (show ([10]:List Nat).Nodup by decide) (H0:=[.blk b1 [.pointer (some ⟨g,0,none⟩)],.sl encI 1 (some ⟨bl,ol,none⟩) (zAK l l.bms.length),.arr zAS 1 gt (T.map fun p=>some p.1),.mps vI vSp T,.oldx w wb.heap.size (feet FH0)]) (fun _ h=>h.sub (by unfold zy;(repeat constructor))) (by kernel_rfl) [[],[Y],[Y,Y],[Z,Y,Y],[Z,Z,Y,Y],[Y,Y,Y,Y,Y],[Z,Y,Y,Y,Y,Y],[Z,Z,Y,Y,Y,Y,Y],[Y,Y,Y,Z,Z,Z,Y,Z],[Z,Y,Y,Y,Z,Z,Z,Y,Z],[Z,Z,Y,Y,Y,Z,Z,Z,Y,Z],[Z,Z,Z,Z,Z,Z,Z,Z,Z,Z,Z],[Z,Z,Z,Z,Z,Z,Z,Z,Z,Z,Z,Z],[Z,Z,Z,Z,Z,Z,Z,Z,Z,Z,Z,Z,Z]] (by kernel_rfl) (by kernel_rfl) (by kernel_rfl) (by kernel_rfl) (by kernel_rfl) ?_)
 (repeat' (first|(((with_reducible refine zA0 ?_ ?_);(· exact rfl);refine ⟨_,fun G=>(by (try simp (decide:=true) only [vis,see,fltT,zq,Nat.reduceAdd,Nat.reduceSub,if_true,if_false,List.set_cons_zero,List.set_cons_succ,List.set_nil,List.nil_append,List.cons_append]);rfl),?_⟩);first|refine zN _ (fun _=>zl rfl rfl) (fun _=>rfl) rfl (by intro G G' h;simp (decide:=true) only [h]) ?_|refine zN _ (fun _=>zW rfl rfl (by exact rfl)) (fun _=>rfl) rfl (by intro G G' h;simp (decide:=true) only [h]) ?_|(refine zm rfl ?_;refine zN _ (fun _=>zY rfl rfl) (fun _=>rfl) rfl (by intro G G' h;simp (decide:=true) only [h]) ?_)|(refine zI1 (n0:=l.bms.length+1) (v:=.map none) rfl rfl rfl rfl rfl rfl (fun _=>rfl) rfl (fun _=>rfl) (fun _=>rfl) (by omega) ?_)|refine zN _ (fun _=>zDy rfl rfl rfl (by omega)) (fun _=>rfl) rfl (by intro G G' h;simp (decide:=true) only [h]) ?_|(refine zA6 rfl ?_;refine zN _ (fun _=>z8 rfl rfl) (fun _=>rfl) rfl (by intro G G' h;simp (decide:=true) only [h]) ?_))|(refine zJz (cs:=zy (⟨l,x,some ⟨bl,ol,none⟩,lc,gt⟩:Wa) (.slice none 0 0) (.slice none 0 0)) (cs':=fun G=>zy (⟨l,x,some ⟨bl,ol,none⟩,lc,gt⟩:Wa) (.slice (some ⟨(G 4).g,0,none⟩) (l.bms.length+1) (l.bms.length+1)) (.slice none 0 0)) List.mem_cons_self rfl rfl (fun _=>rfl) rfl (fun _=>rfl) (fun _=>rfl) (fun _=>rfl) (fun _=>rfl) rfl (fun _=>rfl) (by intro G G' h;simp (decide:=true) only [h]) ?_)|(refine zAo (gx:=fun _=>g) (cs:=fun G=>zy (⟨l,x,some ⟨bl,ol,none⟩,lc,gt⟩:Wa) (.slice (some ⟨(G 4).g,0,none⟩) (l.bms.length+1) (l.bms.length+1)) (.slice none 0 0)) (cs':=fun G=>zy (⟨l,x,some ⟨bl,ol,none⟩,lc,gt⟩:Wa) (.slice (some ⟨(G 4).g,0,none⟩) (l.bms.length+1) (l.bms.length+1)) (.slice (some ⟨(G 7).g,0,none⟩) (l.bms.length+1) (l.bms.length+1))) 10 (by decide) rfl rfl (fun _=>rfl) rfl (fun _=>rfl) (fun _=>rfl) (fun _=>rfl) (fun _=>rfl) (fun _=>rfl) (fun _=>rfl) (fun _=>rfl) (by exact fun _ _ _=>rfl) (by intro G G' h;simp (decide:=true) only [h]) ?_)|(with_reducible refine zAx ?_)))
 intro G
 simp only [regsT,List.nil_append,List.cons_append]
 refine U.sub (R':=[(1,.pointer (some ⟨b1,0,none⟩)),(2,.int .i64 (l.bms.length:Int))]) (H':=[.blk g (zy (⟨l,x,some ⟨bl,ol,none⟩,lc,gt⟩:Wa) (.slice (some ⟨(G 4).g,0,none⟩) (l.bms.length+1) (l.bms.length+1)) (.slice (some ⟨(G 7).g,0,none⟩) (l.bms.length+1) (l.bms.length+1))),.blk (G 4).g (List.replicate (l.bms.length+1) (.map none)),.blk (G 7).g (List.replicate (l.bms.length+1) (.map none)),.blk b1 [.pointer (some ⟨g,0,none⟩)],.sl encI 1 (some ⟨bl,ol,none⟩) (zAK l l.bms.length),.arr zAS 1 gt (T.map fun p=>some p.1),.mps vI vSp T,.oldx w wb.heap.size (feet FH0)]) (by (repeat first|exact lK1|refine zT rfl ?_)) (by (repeat constructor)) ?_
 generalize (G 4).g=gf
 generalize (G 7).g=gb
 refine zBF (H':=[.arr zAS 1 gf (List.replicate (l.bms.length+1) none),.arr zAS 1 gb (List.replicate (l.bms.length+1) none),.blk g (zy (⟨l,x,some ⟨bl,ol,none⟩,lc,gt⟩:Wa) (.slice (some ⟨gf,0,none⟩) (l.bms.length+1) (l.bms.length+1)) (.slice (some ⟨gb,0,none⟩) (l.bms.length+1) (l.bms.length+1))),.blk b1 [.pointer (some ⟨g,0,none⟩)],.sl encI 1 (some ⟨bl,ol,none⟩) (zAK l l.bms.length),.arr zAS 1 gt (T.map fun p=>some p.1),.mps vI vSp T,.oldx w wb.heap.size (feet FH0)]) (fun W h=>?_) ?_
 ·have e:(List.replicate (l.bms.length+1) (none:Option Nat)).flatMap zAS=List.replicate (l.bms.length+1) (.map none):=by
   generalize l.bms.length+1=nn
   induction nn with
   | zero=>rfl
   | succ nn ih=>rw [List.replicate_succ,List.flatMap_cons,ih];rfl
  have h1:=(h.take (e:=.blk gf (List.replicate (l.bms.length+1) (.map none))) (by (repeat constructor))).recast (e':=.arr zAS 1 gf (List.replicate (l.bms.length+1) none)) (fun hp=>⟨[],by rw [List.append_nil,e];exact hp⟩) (fun x hx=>hx)
  have h2:=(h1.take (e:=.blk gb (List.replicate (l.bms.length+1) (.map none))) (by (repeat constructor))).recast (e':=.arr zAS 1 gb (List.replicate (l.bms.length+1) none)) (fun hp=>⟨[],by rw [List.append_nil,e];exact hp⟩) (fun x hx=>hx)
  exact h2.sub (by (repeat constructor))
 unfold zy
 have:zAT (List.replicate (l.bms.length+1) (none:Option Nat)) 0 none:=⟨by simp⟩
 (repeat' (first|(with_reducible first|refine zI ?_|refine zA ?_)))
 (refine z9 [(4,11)] [] [] rfl (by decide) (fun _ h=>h) (by kernel_rfl) [[],[Z],[Z,Z],[Z,Z,Z],[Y,Y,Y,Y],[Y,Y,Y,Y,Y],[Y,Y,Y,Y,Y,Y],[Z,Y,Y,Y,Y,Y,Y],[Z,Z,Y,Y,Y,Y,Y,Y],[Z,Z,Z,Y,Y,Y,Y,Y,Y],[Z,Z,Z,Z,Y,Y,Y,Y,Y,Y],[Z,Z,Z,Z,Z,Z,Z,Y,Y,Y,Y],[Z,Z,Z,Z,Z,Z,Z,Z,Y,Y,Y,Y],[Z,Z,Z,Z,Z,Z,Z,Z,Z,Z,Z,Z,Z],[Z,Z,Z,Z,Z,Z,Z,Z,Z,Z,Z,Z,Z,Z]] (by kernel_rfl) (by kernel_rfl) (by kernel_rfl) (by kernel_rfl) (by kernel_rfl) ?_)
 (repeat' (first|(((with_reducible refine zA0 ?_ ?_);(· exact rfl);refine ⟨_,fun G=>(by (try simp (decide:=true) only [vis,see,fltT,zq,Nat.reduceAdd,Nat.reduceSub,if_true,if_false,List.set_cons_zero,List.set_cons_succ,List.set_nil,List.nil_append,List.cons_append]);rfl),?_⟩);first|refine zN _ (fun _=>zl rfl rfl) (fun _=>rfl) rfl (by intro G G' h;simp (decide:=true) only [h]) ?_|refine zN _ (fun _=>zW rfl rfl (by exact rfl)) (fun _=>rfl) rfl (by intro G G' h;simp (decide:=true) only [h]) ?_|(refine zm rfl ?_;refine zN _ (fun _=>zY rfl rfl) (fun _=>rfl) rfl (by intro G G' h;simp (decide:=true) only [h]) ?_)|(refine zHc Tal Int vTl vI rfl (fun _=>rfl) rfl ?_)|(refine zAj rfl ?_;refine zN _ (fun _=>zw (I:=0) rfl rfl rfl rfl (by omega)) (fun _=>rfl) rfl (by exact fun _ _ _=>rfl) ?_)|(refine zA6 rfl ?_;refine zN _ (fun _=>z8 rfl rfl) (fun _=>rfl) rfl (by intro G G' h;simp (decide:=true) only [h]) ?_)|refine zN _ (fun _=>zDK rfl rfl (by exact rfl)) (fun _=>rfl) rfl (by intro G G' h;simp (decide:=true) only [h]) ?_)|(refine zLP (kv:=vTl) (vv:=vI) (f:=fun _=>none) (gx:=fun G=>(G 4).g) ⟨0,0⟩ x.r.start 4 (by decide) rfl rfl zCy (fun _=>rfl) rfl (fun _=>rfl) (fun _=>rfl) (fun _=>rfl) (fun _=>rfl) (by intro G G' h;simp (decide:=true) only [h]) ?_)|((with_reducible refine zBi ?_ ?_);(· exact rfl))))
 intro G
 simp only [regsT,List.nil_append,List.cons_append]
 refine U.sub (R':=[(1,.pointer (some ⟨b1,0,none⟩)),(2,.int .i64 (l.bms.length:Int)),(50,.map (some (G 4).g)),(51,.pointer (some ⟨gf,0+0 * 1,none⟩))]) (H':=[.fm (G 4).g vTl vI (zCs (fun _=>none) ⟨0,0⟩ (some x.r.start)),.arr zAS 1 gf (List.replicate (l.bms.length+1) none),.arr zAS 1 gb (List.replicate (l.bms.length+1) none),.blk g (zy (⟨l,x,some ⟨bl,ol,none⟩,lc,gt⟩:Wa) (.slice (some ⟨gf,0,none⟩) (l.bms.length+1) (l.bms.length+1)) (.slice (some ⟨gb,0,none⟩) (l.bms.length+1) (l.bms.length+1))),.blk b1 [.pointer (some ⟨g,0,none⟩)],.sl encI 1 (some ⟨bl,ol,none⟩) (zAK l l.bms.length),.arr zAS 1 gt (T.map fun p=>some p.1),.mps vI vSp T,.oldx w wb.heap.size (feet FH0)]) (by (repeat first|exact lK1|refine zT rfl ?_)) (by unfold zy;(repeat constructor)) ?_
 generalize (G 4).g=m0
 unfold zy
 simp only
 (repeat' (first|((with_reducible refine zG ?_);first|refine zD rfl rfl rfl ?_|refine zDY (enc:=zAS) (i:=0) (j:=0) (z:=none) (some m0) rfl rfl rfl rfl rfl rfl rfl rfl (by decide) ?_)|(with_reducible first|refine zI ?_|refine zB ?_|refine zE ?_|refine zA ?_|refine zQ ?_)))
 refine u_mps0 vTl vI ?_
 refine zG0 (L:=[]) (by (repeat constructor)) (by (repeat constructor)) ?_
 refine zKF ?_
 refine zGg (ι:=Nat × List Nat × List Tab × List (Option Nat)) [1,2,52] rfl (fun q=>q.1≤l.bms.length∧FwOk (⟨l,x,some ⟨bl,ol,none⟩,lc,gt⟩:Wa) (q.1+1) q.2.2.1∧q.2.2.2.length=l.bms.length+1∧∀ (i:Nat) (p:Tab),q.2.2.1[i]?=some p→q.2.2.2[i]?=some (some p.1)) (fun q=>dL q.2.1) (fun q=>[(53,.int .i64 (q.1:Int))]) (fun q=>[.dfr q.2.1,.arr zAS 1 gf q.2.2.2,.mps vTl vI q.2.2.1,.arr zAS 1 gb (List.replicate (l.bms.length+1) none),.blk g (zy (⟨l,x,some ⟨bl,ol,none⟩,lc,gt⟩:Wa) (.slice (some ⟨gf,0,none⟩) (l.bms.length+1) (l.bms.length+1)) (.slice (some ⟨gb,0,none⟩) (l.bms.length+1) (l.bms.length+1))),.blk b1 [.pointer (some ⟨g,0,none⟩)],.sl encI 1 (some ⟨bl,ol,none⟩) (zAK l l.bms.length),.arr zAS 1 gt (T.map fun p=>some p.1),.mps vI vSp T,.oldx w wb.heap.size (feet FH0)]) (fun q=>l.bms.length - q.1) (0,[],[(m0,zCs (fun _=>none) ⟨0,0⟩ (some x.r.start))],(List.replicate (l.bms.length+1) none).set 0 (some m0)) ⟨Nat.zero_le _,⟨rfl,fun b p hp=>?_⟩,by simp,fun i p hp=>?_⟩ rfl (by (repeat first|exact lK1|refine zT rfl ?_)) (by unfold zy;(repeat constructor)) ?_
 ·cases b with
  | zero=>simp only [List.getElem?_cons_zero,Option.some.injEq] at hp;subst hp;exact min_zero
  | succ b=>simp at hp
 ·cases i with
  | zero=>simp only [List.getElem?_cons_zero,Option.some.injEq] at hp;subst hp;simp
  | succ i=>simp at hp
 rintro ⟨n,bs,F,FA⟩ ⟨hn,hF,hFl,hFA⟩
 simp only at hn hF hFl hFA
 obtain ⟨hF1,hF2⟩:=hF
 simp only [zAk,List.cons_append,List.nil_append]
 by_cases hnm:n<l.bms.length
 rotate_left
 ·obtain rfl:n=l.bms.length:=by omega
  have hFe:FA=F.map fun p=>some p.1:=by
   refine List.ext_getElem? fun i=>?_
   rw [List.getElem?_map]
   rcases Nat.lt_or_ge i F.length with h9|h9
   ·obtain ⟨p,hp⟩:∃ p,F[i]?=some p:=⟨_,List.getElem?_eq_getElem h9⟩
    rw [hp,hFA i p hp];rfl
   ·rw [List.getElem?_eq_none h9,List.getElem?_eq_none (by omega)];rfl
  rw [hFe]
  unfold zy
  simp only
  (repeat' (first|((with_reducible refine zG ?_);first|refine zD rfl rfl rfl ?_|(refine zS rfl rfl rfl rfl rfl (fun h=>?_) (fun h=>?_)<;>(dsimp only [cmpP] at h;(try (exfalso;omega))))|(refine zX rfl rfl rfl rfl rfl ?_;refine ⟨rfl,by first|decide|exact Nat.le_of_ble_eq_true rfl|(simp;omega),_,rfl,?_⟩)|(refine zb rfl rfl (fun b=>?_)))|(with_reducible first|refine zI ?_|refine zB ?_|refine zE ?_|refine zA ?_|refine zQ ?_|refine zz ?_|refine zZ ?_|refine ze ?_)|((with_reducible refine zF ?_ ?_);(· exact rfl))))
  obtain ⟨b0,hb0⟩:∃ y,y=b:=⟨_,rfl⟩
  subst hb0
  clear hFA hFl hFe hn
  refine zBF (H':=[.dfr bs,.blk b0 [.int .i64 (((l.bms.length+1:Nat):Int) - 1)],.arr zAS 1 gb (List.replicate (l.bms.length+1) none),.mps vTl vI ([]:List Tab),.arr zAS 1 gf (F.map fun p=>some p.1),.mps vTl vI F,.blk g (zy (⟨l,x,some ⟨bl,ol,none⟩,lc,gt⟩:Wa) (.slice (some ⟨gf,0,none⟩) (l.bms.length+1) (l.bms.length+1)) (.slice (some ⟨gb,0,none⟩) (l.bms.length+1) (l.bms.length+1))),.blk b1 [.pointer (some ⟨g,0,none⟩)],.sl encI 1 (some ⟨bl,ol,none⟩) (zAK l l.bms.length),.arr zAS 1 gt (T.map fun p=>some p.1),.mps vI vSp T,.oldx w wb.heap.size (feet FH0)]) (fun W h=>?_) ?_
  ·have e:(((l.bms.length+1:Nat):Int) - 1)=(l.bms.length:Int):=by omega
   rw [e]
   exact (zJa h).sub (by unfold zy;(repeat constructor))
  refine zGg (ι:=Nat × List Nat × List Tab × List (Option Nat) × Nat) [1,2] rfl (fun q=>q.1≤l.bms.length+1∧q.2.2.1.length+q.1=l.bms.length+1∧q.2.2.2.1.length=l.bms.length+1∧∀ (i:Nat) (p:Tab),q.2.2.1[i]?=some p→zA4 (SB (krd l x.r) (q.1+i)) p.2∧q.2.2.2.1[q.1+i]?=some (some p.1)) (fun q=>dL q.2.1) (fun q=>[(12,.pointer (some ⟨q.2.2.2.2,0,none⟩))]) (fun q=>[.dfr q.2.1,.blk q.2.2.2.2 [.int .i64 ((q.1:Int) - 1)],.arr zAS 1 gb q.2.2.2.1,.mps vTl vI q.2.2.1,.arr zAS 1 gf (F.map fun p=>some p.1),.mps vTl vI F,.blk g (zy (⟨l,x,some ⟨bl,ol,none⟩,lc,gt⟩:Wa) (.slice (some ⟨gf,0,none⟩) (l.bms.length+1) (l.bms.length+1)) (.slice (some ⟨gb,0,none⟩) (l.bms.length+1) (l.bms.length+1))),.blk b1 [.pointer (some ⟨g,0,none⟩)],.sl encI 1 (some ⟨bl,ol,none⟩) (zAK l l.bms.length),.arr zAS 1 gt (T.map fun p=>some p.1),.mps vI vSp T,.oldx w wb.heap.size (feet FH0)]) (fun q=>q.1) (l.bms.length+1,bs,[],(List.replicate (l.bms.length+1) none),b0) ⟨Nat.le_refl _,by simp,by simp,fun i p hp=>by simp at hp⟩ rfl (by (repeat first|exact lK1|refine zT rfl ?_)) (by (repeat constructor)) ?_
  rintro ⟨c,bs3,B,BA,b12⟩ ⟨hc1,hc2,hc3,hc4⟩
  simp only at hc1 hc2 hc3 hc4
  simp only [zAk,List.cons_append,List.nil_append]
  cases c with
  | zero =>
   have hBe:BA=B.map fun p=>some p.1:=by
    refine List.ext_getElem? fun i=>?_
    rw [List.getElem?_map]
    rcases Nat.lt_or_ge i B.length with h9|h9
    ·obtain ⟨p,hp⟩:∃ p,B[i]?=some p:=⟨_,List.getElem?_eq_getElem h9⟩
     have:=(hc4 i p hp).2
     rw [Nat.zero_add] at this
     rw [hp,this];rfl
    ·rw [List.getElem?_eq_none h9,List.getElem?_eq_none (by omega)];rfl
   rw [hBe]
   (repeat' (first|((with_reducible refine zG ?_);first|(refine zJ rfl rfl rfl ?_;refine ⟨_,rfl,?_⟩)|(refine zS rfl rfl rfl rfl rfl (fun h=>?_) (fun h=>?_)<;>(dsimp only [cmpP] at h;(try (exfalso;omega)))))|(with_reducible first|refine zI ?_|refine zB ?_|refine zE ?_|refine zA ?_|refine zz ?_|refine zZ ?_|refine ze ?_)|((with_reducible refine zF ?_ ?_);(· exact rfl))))
   refine zKE ?_
   exact zJE (vs:=[]) (by (repeat constructor)) zh.nil (gf,gb,F,B) ⟨⟨hF1,hF2⟩,by simp only;omega,fun i p hp=>by have:=(hc4 i p hp).1;rw [Nat.zero_add] at this;exact this⟩ rfl hwb (fun W9 h=>h.sub (by unfold WH;simp only [List.cons_append,List.nil_append];(repeat constructor)))
  | succ j =>
   rw [show (((j+1:Nat):Int) - 1)=(j:Int) by omega]
   obtain ⟨eb,hB0⟩:∃ e,BA[j]?=some e:=⟨_,List.getElem?_eq_getElem (by omega)⟩
   have:zAT BA j eb:=⟨hB0⟩
   unfold zy
   simp only
   (repeat' (first|((with_reducible refine zG ?_);first|(refine zJ rfl rfl rfl ?_;refine ⟨_,rfl,?_⟩)|(refine zS rfl rfl rfl rfl rfl (fun h=>?_) (fun h=>?_)<;>(dsimp only [cmpP] at h;(try (exfalso;omega)))))|(with_reducible first|refine zI ?_|refine zB ?_|refine zE ?_|refine zA ?_|refine zR ?_|refine zQ ?_)|((with_reducible refine zH ?_ ?_);(· exact rfl))))
   (refine z9 [(5,12)] [] [] rfl (by decide) (fun _ h=>h) (by kernel_rfl) [[],[Z],[Z,Z],[Z,Z,Z],[Y,Y,Y,Y],[Y,Y,Y,Y,Y],[Y,Y,Y,Y,Y,Y],[Y,Y,Y,Y,Y,Y,Y],[Z,Y,Y,Y,Y,Y,Y,Y],[Z,Z,Y,Y,Y,Y,Y,Y,Y],[Z,Z,Z,Y,Y,Y,Y,Y,Y,Y],[Z,Z,Z,Z,Y,Y,Y,Y,Y,Y,Y],[Z,Z,Z,Z,Z,Z,Z,Y,Y,Y,Y,Y],[Z,Z,Z,Z,Z,Z,Z,Z,Y,Y,Y,Y,Y],[Z,Z,Z,Z,Z,Z,Z,Z,Z,Z,Z,Z,Z,Z],[Z,Z,Z,Z,Z,Z,Z,Z,Z,Z,Z,Z,Z,Z,Z]] (by kernel_rfl) (by kernel_rfl) (by kernel_rfl) (by kernel_rfl) (by kernel_rfl) ?_)
   (repeat' (first|(((with_reducible refine zA0 ?_ ?_);(· exact rfl);refine ⟨_,fun G=>(by (try simp (decide:=true) only [vis,see,fltT,zq,Nat.reduceAdd,Nat.reduceSub,if_true,if_false,List.set_cons_zero,List.set_cons_succ,List.set_nil,List.nil_append,List.cons_append]);rfl),?_⟩);first|refine zN _ (fun _=>zl rfl rfl) (fun _=>rfl) rfl (by intro G G' h;simp (decide:=true) only [h]) ?_|refine zN _ (fun _=>zW rfl rfl (by exact rfl)) (fun _=>rfl) rfl (by intro G G' h;simp (decide:=true) only [h]) ?_|(refine zm rfl ?_;refine zN _ (fun _=>zY rfl rfl) (fun _=>rfl) rfl (by intro G G' h;simp (decide:=true) only [h]) ?_)|(refine zHc Tal Int vTl vI rfl (fun _=>rfl) rfl ?_)|(refine zAj rfl ?_;refine zN _ (fun _=>zw (I:=j) rfl rfl rfl rfl (by omega)) (fun _=>rfl) rfl (by exact fun _ _ _=>rfl) ?_)|(refine zA6 rfl ?_;refine zN _ (fun _=>z8 rfl rfl) (fun _=>rfl) rfl (by intro G G' h;simp (decide:=true) only [h]) ?_)|refine zN _ (fun _=>zDK rfl rfl (by exact rfl)) (fun _=>rfl) rfl (by intro G G' h;simp (decide:=true) only [h]) ?_)|(refine zLP (kv:=vTl) (vv:=vI) (f:=fun _=>none) (gx:=fun G=>(G 5).g) ⟨0,0⟩ x.r.now 5 (by decide) rfl rfl zCy (fun _=>rfl) rfl (fun _=>rfl) (fun _=>rfl) (fun _=>rfl) (fun _=>rfl) (by intro G G' h;simp (decide:=true) only [h]) ?_)|((with_reducible refine zBi ?_ ?_);(· exact rfl))))
   intro G
   simp only [regsT,List.nil_append,List.cons_append]
   refine U.sub (R':=[(1,.pointer (some ⟨b1,0,none⟩)),(2,.int .i64 (l.bms.length:Int)),(12,.pointer (some ⟨b12,0,none⟩)),(158,.map (some (G 5).g)),(159,.pointer (some ⟨gb,0+j * 1,none⟩))]) (H':=[.fm (G 5).g vTl vI (zCs (fun _=>none) ⟨0,0⟩ (some x.r.now)),.dfr bs3,.blk b12 [.int .i64 (j:Int)],.arr zAS 1 gb BA,.mps vTl vI B,.arr zAS 1 gf (F.map fun p=>some p.1),.mps vTl vI F,.blk g (zy (⟨l,x,some ⟨bl,ol,none⟩,lc,gt⟩:Wa) (.slice (some ⟨gf,0,none⟩) (l.bms.length+1) (l.bms.length+1)) (.slice (some ⟨gb,0,none⟩) (l.bms.length+1) (l.bms.length+1))),.blk b1 [.pointer (some ⟨g,0,none⟩)],.sl encI 1 (some ⟨bl,ol,none⟩) (zAK l l.bms.length),.arr zAS 1 gt (T.map fun p=>some p.1),.mps vI vSp T,.oldx w wb.heap.size (feet FH0)]) (by (repeat first|exact lK1|refine zT rfl ?_)) (by unfold zy;(repeat constructor)) ?_
   generalize (G 5).g=mn
   unfold zy
   simp only
   have hfin:∀ f,zA4 (SB (krd l x.r) j) f→∀ (i:Nat) (p:Tab),((mn,f)::B)[i]?=some p→zA4 (SB (krd l x.r) (j+i)) p.2∧(BA.set j (some mn))[j+i]?=some (some p.1):=fun f hf9 i p hp=>by
    cases i with
    | zero =>
     simp only [List.getElem?_cons_zero,Option.some.injEq] at hp
     subst hp
     exact ⟨hf9,by rw [Nat.add_zero,List.getElem?_set_self (by omega)]⟩
    | succ i =>
     simp only [List.getElem?_cons_succ] at hp
     obtain ⟨h1,h2⟩:=hc4 i p hp
     rw [show j+(i+1)=j+1+i by omega]
     exact ⟨h1,by rw [List.getElem?_set_ne (by omega)];exact h2⟩
   by_cases hjm:j=l.bms.length
   ·(repeat' (first|((with_reducible refine zG ?_);first|refine zD rfl rfl rfl ?_|(refine zJ rfl rfl rfl ?_;refine ⟨_,rfl,?_⟩)|(refine zS rfl rfl rfl rfl rfl (fun h=>?_) (fun h=>?_)<;>(dsimp only [cmpP] at h;(try (exfalso;omega))))|refine zDY (enc:=zAS) (i:=j) (j:=0) (z:=eb) (some mn) rfl rfl rfl rfl rfl rfl rfl rfl (by decide) ?_|refine zAc rfl rfl rfl rfl (IntWalk.i64_in _ (by omega)) ?_|(refine zX rfl rfl rfl rfl rfl ?_;refine ⟨rfl,by first|decide|exact Nat.le_of_ble_eq_true rfl|(simp;omega),_,rfl,?_⟩)|(refine zb rfl rfl (fun b=>?_)))|(with_reducible first|refine zI ?_|refine zB ?_|refine zE ?_|refine zA ?_|refine zz ?_|refine zZ ?_|refine ze ?_)|((with_reducible refine zH ?_ ?_);(· exact rfl))))
    refine zFZ [] B (by (repeat constructor)) (by (repeat constructor)) ?_
    exact zEe (ι:=Nat × List Nat × List Tab × List (Option Nat) × Nat) (j,bs3,(mn,zCs (fun _=>none) ⟨0,0⟩ (some x.r.now))::B,BA.set j (some mn),b) ⟨by simp only;omega,by simp only [List.length_cons];omega,by simp only [List.length_set];exact hc3,hfin _ (by rw [hjm];exact max_last)⟩ (by simp only;omega) rfl (by (repeat first|exact lK1|refine zT rfl ?_)) (by (repeat constructor))
   have hjl:j<l.bms.length:=by omega
   obtain ⟨⟨mc,fc⟩,B2,rfl⟩:∃ p B2,B=p::B2:=by
    cases B with
    | nil=>simp at hc2;omega
    | cons p B2=>exact ⟨p,B2,rfl⟩
   obtain ⟨hmax,hA0⟩:=hc4 0 (mc,fc) rfl
   rw [Nat.add_zero] at hmax hA0
   try simp only at hmax hA0
   (repeat' (first|((with_reducible refine zG ?_);first|refine zD rfl rfl rfl ?_|(refine zJ rfl rfl rfl ?_;refine ⟨_,rfl,?_⟩)|(refine zS rfl rfl rfl rfl rfl (fun h=>?_) (fun h=>?_)<;>(dsimp only [cmpP] at h;(try (exfalso;omega))))|refine zDY (enc:=zAS) (i:=j) (j:=0) (z:=eb) (some mn) rfl rfl rfl rfl rfl rfl rfl rfl (by decide) ?_)|(with_reducible first|refine zI ?_|refine zB ?_|refine zE ?_|refine zA ?_|refine zR ?_)|((with_reducible refine zF ?_ ?_);(· exact rfl))))
   obtain ⟨FA1,hFA1⟩:∃ X,X=BA.set j (some mn):=⟨_,rfl⟩
   rw [← hFA1] at hfin ⊢
   have hl1:FA1.length=l.bms.length+1:=by rw [hFA1,List.length_set];exact hc3
   have hg0:FA1[j+1]?=some (some mc):=by rw [hFA1,List.getElem?_set_ne (by omega)];exact hA0
   have hg1:FA1[j]?=some (some mn):=by rw [hFA1,List.getElem?_set_self (by omega)]
   have:zAT FA1 (j+1) (some mc):=⟨hg0⟩
   have:zAT FA1 j (some mn):=⟨hg1⟩
   refine zDQ (L:=(mc,fc)::B2) 0 rfl (by (repeat constructor)) ?_
   refine zCt (m:=mc) (kv:=vTl) (vv:=vI) (by (repeat constructor)) (fun ml0 c0 hlo hle=>?_)
   (refine z9 [] [] [] rfl (show ([]:List Nat).Nodup by decide) (fun _ h=>h) (by kernel_rfl) [[],[Z],[Z,Z],[Z,Z,Z],[Y,Y,Y,Y],[Z,Y,Y,Y,Y],[Z,Z,Z,Z,Z,Z],[Z,Z,Z,Z,Z,Z,Z],[Z,Z,Z,Z,Z,Z,Z,Z]] (by kernel_rfl) (by kernel_rfl) (by kernel_rfl) (by kernel_rfl) (by kernel_rfl) ?_)
   (repeat' (first|(((with_reducible refine zA0 ?_ ?_);(· exact rfl);refine ⟨_,fun G=>(by (try simp (decide:=true) only [vis,see,fltT,zq,Nat.reduceAdd,Nat.reduceSub,if_true,if_false,List.set_cons_zero,List.set_cons_succ,List.set_nil,List.nil_append,List.cons_append]);rfl),?_⟩);first|refine zN _ (fun _=>zW rfl rfl (by exact rfl)) (fun _=>rfl) rfl (by intro G G' h;simp (decide:=true) only [h]) ?_|(refine zm rfl ?_;refine zN _ (fun _=>zY rfl rfl) (fun _=>rfl) rfl (by intro G G' h;simp (decide:=true) only [h]) ?_)|(refine zAj rfl ?_;refine zN _ (fun _=>zw (I:=j+1) rfl rfl rfl rfl (by omega)) (fun _=>rfl) rfl (by exact fun _ _ _=>rfl) ?_)|refine zN _ (fun _=>zDy rfl rfl rfl (by omega)) (fun _=>rfl) rfl (by intro G G' h;simp (decide:=true) only [h]) ?_|(refine zA6 rfl ?_;refine zN _ (fun _=>z8 rfl rfl) (fun _=>rfl) rfl (by intro G G' h;simp (decide:=true) only [h]) ?_))|((with_reducible refine zBi ?_ ?_);(· exact rfl))))
   (intro G;simp only [regsT,zq,zAa,ini,List.nil_append,List.cons_append])
   (repeat' (first|((with_reducible refine zG ?_);first|refine zD1 (kv:=vTl) (vv:=vI) rfl rfl rfl (by (repeat constructor)) (fun r=>?_))|(with_reducible first|refine zE ?_|refine zA ?_|refine zQ ?_)))
   refine zGg (ι:=List Nat × List Nat × (Tal→Option Int)) [1,2,12,171] rfl (fun q=>zA4 (BckS (krd l x.r) j (zHN ml0 q.1)) q.2.2) (fun q=>dL q.2.1) (fun _=>[]) (fun q=>[.itl r mc c0 q.1,.dfr q.2.1,.ml mc vTl vI ml0 c0,.fm mn vTl vI q.2.2,.mps vTl vI (List.take 0 ((mc,fc)::B2)++List.drop (0+1) ((mc,fc)::B2)),.arr zAS 1 gb FA1,.blk b12 [.int .i64 (j:Int)],.arr zAS 1 gf (F.map fun p=>some p.1),.mps vTl vI F,.blk g (zy (⟨l,x,some ⟨bl,ol,none⟩,lc,gt⟩:Wa) (.slice (some ⟨gf,0,none⟩) (l.bms.length+1) (l.bms.length+1)) (.slice (some ⟨gb,0,none⟩) (l.bms.length+1) (l.bms.length+1))),.blk b1 [.pointer (some ⟨g,0,none⟩)],.sl encI 1 (some ⟨bl,ol,none⟩) (zAK l l.bms.length),.arr zAS 1 gt (T.map fun p=>some p.1),.mps vI vSp T,.oldx w wb.heap.size (feet FH0)]) (fun q=>zFi ml0 q.1) ([],bs3,zCs (fun _=>none) ⟨0,0⟩ (some x.r.now)) (by rw [zJh];exact zMA) rfl (by (repeat first|exact lK1|refine zT rfl ?_)) (by unfold zy;(repeat constructor)) ?_
   rintro ⟨seen,bs2,f⟩ hI
   simp only at hI
   simp only [zAk,List.cons_append,List.nil_append]
   unfold zy
   simp only
   (repeat' (first|((with_reducible refine zG ?_);first|(refine zJ rfl rfl rfl ?_;refine ⟨_,rfl,?_⟩)|(refine zEz (kv:=vTl) (vv:=vI) rfl rfl rfl (by (repeat constructor)) (by (repeat constructor)) hlo (fun hend=>?_) (fun p hp hpn=>?_)<;>skip)|refine zk rfl rfl rfl rfl ?_|refine zAc rfl rfl rfl rfl (IntWalk.i64_in _ (by omega)) ?_|(refine zX rfl rfl rfl rfl rfl ?_;refine ⟨rfl,by first|decide|exact Nat.le_of_ble_eq_true rfl|(simp;omega),_,rfl,?_⟩)|(refine zb rfl rfl (fun b=>?_)))|(with_reducible first|refine zI ?_|refine zB ?_|refine zE ?_|refine zA ?_|refine zR ?_|refine zQ ?_|refine zz ?_|refine zj ?_|refine zZ ?_|refine ze ?_)|((with_reducible refine zH ?_ ?_);(· exact rfl))|((with_reducible refine zF ?_ ?_);(· exact rfl))))
   ·refine zDZ (kv:=vTl) (vv:=vI) (by (repeat constructor)) hlo hle ?_
    refine zDW (L:=(mc,fc)::B2) (m:=mc) (f:=fc) 0 rfl (by (repeat constructor)) (by (repeat constructor)) ?_
    refine zFZ [] ((mc,fc)::B2) (by (repeat constructor)) (by (repeat constructor)) ?_
    skip
    exact zEe (ι:=Nat × List Nat × List Tab × List (Option Nat) × Nat) (j,bs2,(mn,f)::(mc,fc)::B2,FA1,b) ⟨by simp only;omega,by simp only [List.length_cons] at hc2 ⊢;omega,hl1,hfin _ (bck_done hjl hmax hI (fun s a=>by rw [zJi hlo hend,hle]))⟩ (by simp only;omega) rfl (by (repeat first|exact lK1|refine zT rfl ?_)) (by (repeat constructor))
   (repeat' (first|((with_reducible refine zG ?_);first|(refine zJ rfl rfl rfl ?_;refine ⟨_,rfl,?_⟩)|refine zDa (kv:=vTl) (vv:=vI) (p:=p) rfl rfl rfl (by (repeat constructor)) (by (repeat constructor)) hlo hp ?_|(refine zBL rfl rfl rfl rfl (fun _ _ q=>zEn g j _) ?_;rintro ⟨g1,g2⟩ -;dsimp only [List.cons_append,List.nil_append])|refine zk rfl rfl rfl rfl ?_|(refine zX rfl rfl rfl rfl rfl ?_;refine ⟨rfl,by first|decide|exact Nat.le_of_ble_eq_true rfl|(simp;omega),_,rfl,?_⟩)|(refine zb rfl rfl (fun b=>?_)))|(with_reducible first|refine zI ?_|refine zB ?_|refine zE ?_|refine zA ?_|refine zQ ?_)))
   rename_i b4
   obtain ⟨b5,hb5⟩:∃ y,y=b:=⟨_,rfl⟩
   subst hb5
   obtain ⟨t0,a,bn⟩:=p
   have hpa:fc t0=some a:=by rw [← hle];exact zDg hlo.keys hp
   have hsf:=((hmax t0).1 a hpa).1
   have htl:=sb_tal hsf
   have hab:=sb_in hf (by omega) hsf
   have hkm:(krd l x.r).m=l.bms.length:=rfl
   have hle0:=zCo hf hjl
   obtain ⟨⟨mt,ft⟩,hTn⟩:∃ p,T[j]?=some p:=⟨_,List.getElem?_eq_getElem (by omega)⟩
   have hft:ft=zBr l x.r j x.r.sigs.length:=hTm j _ hTn
   have hTA:(T.map fun p=>some p.1)[j]?=some (some mt):=by rw [List.getElem?_map,hTn];rfl
   have:zAT (zAK l l.bms.length) j (zAY l j):=⟨by unfold zAK;rw [List.getElem?_map,List.getElem?_range (by omega)];rfl⟩
   refine zDQ j hTn (by (repeat constructor)) ?_
   refine zCt (kv:=vI) (vv:=vSp) (by (repeat constructor)) (fun ml c1 hlo1 hle1=>?_)
   refine U.sub (R':=[(179,.func (.func 113) #[] #[.pointer (some ⟨g1,0,none⟩),.pointer (some ⟨g2,0,none⟩)]),(1,.pointer (some ⟨b1,0,none⟩)),(2,.int .i64 (l.bms.length:Int)),(12,.pointer (some ⟨b12,0,none⟩)),(13,.pointer (some ⟨b4,0,none⟩)),(14,.pointer (some ⟨b5,0,none⟩)),(171,.pointer (some ⟨r,0,none⟩))]) (by (repeat first|exact lK1|refine zT rfl ?_)) (Out.all _) ?_
   refine zFX (ι:=Tal→Option Int) (α:=Opn) (gf:=113) (lb:=[.pointer (some ⟨g1,0,none⟩),.pointer (some ⟨g2,0,none⟩)]) (bs:=bs2) (fun _=>zDO (⟨l,x,some ⟨bl,ol,none⟩,lc,gt⟩:Wa) (.slice (some ⟨gf,0,none⟩) (l.bms.length+1) (l.bms.length+1)) (.slice (some ⟨gb,0,none⟩) (l.bms.length+1) (l.bms.length+1)) g g1 g2 j (T.map fun p=>some p.1) mt ml c1) zEZ (fun _ o=>o∈(krd l x.r).opts j) (fun ys=>∀ o∈(krd l x.r).opts j,o∈ys) (fun ys s=>zA4 (fun t v=>BckS (krd l x.r) j (zHN ml0 seen) t v∨BckO (krd l x.r) j t0 a ys t v) s∧∀ o∈ys,o∈(krd l x.r).opts j) (fun s=>[.fm mn vTl vI s,.blk b5 [.int .i64 a],.blk b4 (zFp t0),.itl r mc c0 (seen++[bn]),.ml mc vTl vI ml0 c0,.mps vTl vI (List.take 0 ((mc,fc)::B2)++List.drop (0+1) ((mc,fc)::B2)),.mps vI vSp (T.take j++T.drop (j+1)),.arr zAS 1 gb FA1,.blk b12 [.int .i64 (j:Int)],.arr zAS 1 gf (F.map fun p=>some p.1),.mps vTl vI F,.blk b1 [.pointer (some ⟨g,0,none⟩)],.sl encI 1 (some ⟨bl,ol,none⟩) (zAK l l.bms.length),.oldx w wb.heap.size (feet FH0)]) f rfl (by unfold zDO zy;simp only [List.cons_append,List.nil_append];(repeat constructor)) ⟨hI.congr (fun t v=>by simp [BckO]),fun o ho=>by cases ho⟩ (fun _=>rfl) (by decide) (zEm (⟨l,x,some ⟨bl,ol,none⟩,lc,gt⟩:Wa) (.slice (some ⟨gf,0,none⟩) (l.bms.length+1) (l.bms.length+1)) (.slice (some ⟨gb,0,none⟩) (l.bms.length+1) (l.bms.length+1)) g g1 g2 j mt c1 _ ml _ (by simp [hTl]) hTA hlo1 (by rw [hle1];exact hft)) ?_ ?_
   rotate_left
   ·intro bd ys s hE hIs
    obtain ⟨hIs,hIo⟩:=hIs
    have hI2:=bck_all hIs hIo hE
    simp only [zDO,zy,List.cons_append,List.nil_append]
    refine zDZ (kv:=vI) (vv:=vSp) (by (repeat constructor)) hlo1 hle1 ?_
    refine zDW j hTn (by (repeat constructor)) (by (repeat constructor)) ?_
    (repeat' (first|(with_reducible first|refine zA ?_|refine zj ?_)))
    exact zEe (ι:=List Nat × List Nat × (Tal→Option Int)) (seen++[bn],bd::bs2,s) (hI2.congr (fun t v=>by unfold BckS;simp only [zJj hlo hp])) (zDF hp hpn) rfl (by (repeat first|exact lK1|refine zT rfl ?_)) (by (repeat constructor))
   clear hF2 hTm hz hFH hF1 hpn hc4 hfin
   rintro ly ys o s ⟨⟩ W HH hN ⟨hIs,hIo⟩ hr hrp hW
   simp only at hr hrp hN
   subst hr hrp
   have hoi:=zKd hN (by omega) (by omega)
   obtain ⟨sg,slo,shi⟩:=o
   simp only at hoi
   simp only [zEZ,zHF,zDO,zy,vSp,List.cons_append,List.nil_append]
   (repeat' (first|((with_reducible refine zG ?_);first|refine zC rfl rfl rfl ?_|(refine zX rfl rfl rfl rfl rfl ?_;refine ⟨rfl,by first|decide|exact Nat.le_of_ble_eq_true rfl|(simp;omega),_,rfl,?_⟩)|(refine zb rfl rfl (fun b=>?_)))|(with_reducible first|refine zI ?_|refine zB ?_|refine zE ?_|refine zA ?_)))
   refine zFa (by (repeat constructor)) rfl ?_
   (repeat' (first|(with_reducible first|refine zI ?_|refine zQ ?_)))
   (refine z9 [] [] [] rfl (show ([]:List Nat).Nodup by decide) (fun _ h=>h) (by kernel_rfl) [[],[Y],[Z,Y],[Z,Z,Z],[Y,Y,Y,Y],[Z,Y,Y,Y,Y],[Z,Z,Y,Y,Y,Y],[Z,Z,Z,Y,Y,Y,Y],[Y,Y,Y,Y,Y,Y,Y,Y],[Z,Z,Z,Z,Z,Y,Y,Y,Y],[Z,Z,Z,Z,Z,Z,Y,Y,Y,Y],[Z,Z,Z,Z,Z,Z,Z,Z,Z,Z,Z],[Y,Y,Y,Y,Y,Y,Y,Y,Y,Y,Y,Y],[Y,Y,Y,Y,Y,Y,Y,Y,Y,Y,Y,Y,Y],[Z,Y,Y,Y,Y,Y,Y,Y,Y,Y,Y,Y,Y,Y],[Z,Z,Z,Y,Y,Y,Y,Y,Y,Y,Y,Y,Y,Y,Y],[Y,Y,Y,Y,Y,Y,Y,Y,Y,Y,Y,Y,Y,Y,Y,Y],[Z,Z,Z,Z,Z,Z,Z,Z,Z,Z,Z,Z,Z,Z,Z,Z,Z],[Z,Z,Z,Z,Z,Z,Z,Z,Z,Z,Z,Z,Z,Z,Z,Z,Z,Z]] (by kernel_rfl) (by kernel_rfl) (by kernel_rfl) (by kernel_rfl) (by kernel_rfl) ?_)
   (repeat' (first|(((with_reducible refine zA0 ?_ ?_);(· exact rfl);refine ⟨_,fun G=>(by (try simp (decide:=true) only [vis,see,fltT,zq,Nat.reduceAdd,Nat.reduceSub,if_true,if_false,List.set_cons_zero,List.set_cons_succ,List.set_nil,List.nil_append,List.cons_append]);rfl),?_⟩);first|refine zN _ (fun _=>zl rfl rfl) (fun _=>rfl) rfl (by intro G G' h;simp (decide:=true) only [h]) ?_|refine zN _ (fun _=>zW rfl rfl (by exact rfl)) (fun _=>rfl) rfl (by intro G G' h;simp (decide:=true) only [h]) ?_|(refine zm rfl ?_;refine zN _ (fun _=>zY rfl rfl) (fun _=>rfl) rfl (by intro G G' h;simp (decide:=true) only [h]) ?_)|refine zN _ (fun _=>zt rfl rfl) (fun _=>rfl) rfl (by intro G G' h;simp (decide:=true) only [h]) ?_|(refine zAj rfl ?_;refine zN _ (fun _=>zw (I:=j) rfl rfl rfl rfl (by omega)) (fun _=>rfl) rfl (by exact fun _ _ _=>rfl) ?_)|(refine zAM rfl ?_;refine zAR _ rfl (fun _=>rfl) rfl (fun _=>rfl) (fun _=>rfl) (fun _ _ _ q=>zGm sg _) (by intro G G' h;simp (decide:=true) only [h]) ?_)|(refine zAM rfl ?_;refine zAR _ rfl (fun _=>rfl) rfl (fun _=>rfl) (fun _=>rfl) (fun _ _ _ q=>zE2 t0 (zBm sg) _ (by omega) (by have:=zKf sg;omega)) (by intro G G' h;simp (decide:=true) only [h]) ?_)|refine zN _ (fun _=>zBW rfl rfl rfl (IntWalk.i64_in _ (by omega))) (fun _=>rfl) rfl (by intro G G' h;simp (decide:=true) only [h]) ?_|(refine zA6 rfl ?_;refine zN _ (fun _=>z8 rfl rfl) (fun _=>rfl) rfl (by intro G G' h;simp (decide:=true) only [h]) ?_)|(refine zAM rfl ?_;refine zN _ (fun _=>zGZ rfl rfl rfl) (fun _=>rfl) rfl (by intro G G' h;simp (decide:=true) only [h]) ?_)|refine zA1 rfl (fun _=>rfl) rfl ?_)|((with_reducible refine zBi ?_ ?_);(· exact rfl))))
   (intro G;simp only [regsT,zq,zAa,ini,List.nil_append,List.cons_append])
   generalize (G (0+1+1+1+1+1+1+1+1+1+1+1+1+1+1+1+1)).g=b9
   have hopt:∀ o∈ys++[(⟨sg,slo,shi⟩:Opn)],o∈(krd l x.r).opts j:=fun o ho=>by
    rcases List.mem_append.1 ho with h|h
    ·exact hIo o h
    ·rw [List.mem_singleton.1 h];exact hN
   have hyes:=fun hc=>bck_one (o:=⟨sg,slo,shi⟩) hIs hc
   have hno:=fun hc=>bck_no (o:=⟨sg,slo,shi⟩) hIs hc
   simp only [show (krd l x.r).least j=zAY l j from rfl] at hyes hno
   obtain ⟨st,hst⟩:∃ st,st=min a shi - zAY l j:=⟨_,rfl⟩
   rw [← hst] at hyes ⊢
   unfold zIq at hyes
   try simp only at hyes
   generalize t0.plus (zBm sg)=key at *
   (repeat' (first|((with_reducible refine zG ?_);first|(refine zX rfl rfl rfl rfl rfl ?_;refine ⟨rfl,by first|decide|exact Nat.le_of_ble_eq_true rfl|(simp;omega),_,rfl,?_⟩))|(with_reducible first|refine zI ?_|refine zE ?_|refine zA ?_)))
   by_cases hc:slo≤min a shi
   ·have hyes:=hyes hc
    cases hs:s key with
    | none =>
     rw [hs] at hyes
     simp only [if_true] at hyes
     (refine zAD (by kernel_rfl) (by kernel_rfl) (by kernel_rfl) ?_)
     (repeat' (first|((with_reducible refine zAP ?_);first|refine zM (zl rfl rfl) rfl ?_|refine zM (zW rfl rfl (by exact rfl)) rfl ?_|refine zM (zY rfl rfl) rfl ?_|refine zM (zt rfl rfl) rfl ?_|refine zM (zw (I:=j) rfl rfl rfl (by omega) (by first|omega|(dsimp only;omega))) rfl ?_|refine zM (zDJ (kv:=vTl) (vv:=vI) (f:=s) key 0 false rfl zCy zDB rfl rfl (by rw [hs];rfl) (by rw [hs];rfl)) rfl ?_|refine zM (zAL rfl rfl rfl) rfl ?_|refine zM (z8 rfl rfl) rfl ?_)|(with_reducible refine zAe ?_)))
     all_goals (repeat' (first|((with_reducible refine zG ?_);first|refine zD rfl rfl rfl ?_|(refine zJ rfl rfl rfl ?_;refine ⟨_,rfl,?_⟩)|refine zL rfl rfl rfl ?_|refine z7 rfl rfl rfl rfl ?_|refine zf rfl rfl rfl ?_|(refine zS rfl rfl rfl rfl rfl (fun h=>?_) (fun h=>?_)<;>(dsimp only [cmpP] at h;(try (exfalso;omega))))|refine zAI rfl rfl rfl ?_|refine zCF rfl rfl rfl rfl ?_)|(with_reducible first|refine zI ?_|refine zB ?_|refine zE ?_|refine zA ?_)|((with_reducible refine zH ?_ ?_);(· exact rfl))))
     (refine z9 [] [] [] rfl (show ([]:List Nat).Nodup by decide) (fun _ h=>h) (by kernel_rfl) [[],[Z],[Z,Z],[Z,Z,Z],[Y,Y,Y,Y],[Z,Z,Z,Z,Z],[Z,Z,Z,Z,Z,Z],[Y,Y,Y,Y,Y,Y,Y],[Y,Y,Y,Y,Y,Y,Y,Y],[Z,Z,Z,Z,Z,Z,Z,Z,Z]] (by kernel_rfl) (by kernel_rfl) (by kernel_rfl) (by kernel_rfl) (by kernel_rfl) ?_)
     (repeat' (first|(((with_reducible refine zA0 ?_ ?_);(· exact rfl);refine ⟨_,fun G=>(by (try simp (decide:=true) only [vis,see,fltT,zq,Nat.reduceAdd,Nat.reduceSub,if_true,if_false,List.set_cons_zero,List.set_cons_succ,List.set_nil,List.nil_append,List.cons_append]);rfl),?_⟩);first|refine zN _ (fun _=>zl rfl rfl) (fun _=>rfl) rfl (by intro G G' h;simp (decide:=true) only [h]) ?_|refine zN _ (fun _=>zW rfl rfl (by exact rfl)) (fun _=>rfl) rfl (by intro G G' h;simp (decide:=true) only [h]) ?_|(refine zm rfl ?_;refine zN _ (fun _=>zY rfl rfl) (fun _=>rfl) rfl (by intro G G' h;simp (decide:=true) only [h]) ?_)|(refine zAj rfl ?_;refine zN _ (fun _=>zw (I:=j) rfl rfl rfl rfl (by omega)) (fun _=>rfl) rfl (by exact fun _ _ _=>rfl) ?_)|(refine zA6 rfl ?_;refine zN _ (fun _=>z8 rfl rfl) (fun _=>rfl) rfl (by intro G G' h;simp (decide:=true) only [h]) ?_))|((with_reducible refine zBi ?_ ?_);(· exact rfl))))
     (intro G;simp only [regsT,zq,zAa,ini,List.nil_append,List.cons_append])
     (repeat' (first|((with_reducible refine zG ?_);first|refine zGh (kv:=vTl) (vv:=vI) key st rfl zCy rfl rfl rfl rfl rfl (by (repeat constructor)) ?_)|(with_reducible first|refine zE ?_|refine zj ?_)))
     all_goals exact zCM none (.inl ⟨rfl,rfl⟩) rfl (by (repeat constructor)) (zCs s key (some st)) ⟨hyes,hopt⟩ hW (fun _ h=>h.sub (by (repeat constructor)))
    | some v =>
     rw [hs] at hyes
     simp only [decide_eq_true_eq] at hyes
     by_cases hv:v<st
     ·rw [if_pos hv] at hyes
      (refine zAD (by kernel_rfl) (by kernel_rfl) (by kernel_rfl) ?_)
      (repeat' (first|((with_reducible refine zAP ?_);first|refine zM (zl rfl rfl) rfl ?_|refine zM (zW rfl rfl (by exact rfl)) rfl ?_|refine zM (zY rfl rfl) rfl ?_|refine zM (zt rfl rfl) rfl ?_|refine zM (zw (I:=j) rfl rfl rfl (by omega) (by first|omega|(dsimp only;omega))) rfl ?_|refine zM (zDJ (kv:=vTl) (vv:=vI) (f:=s) key v true rfl zCy zDB rfl rfl (by rw [hs];rfl) (by rw [hs];rfl)) rfl ?_|refine zM (zAL rfl rfl rfl) rfl ?_|refine zM (z8 rfl rfl) rfl ?_)|(with_reducible refine zAe ?_)))
      all_goals (repeat' (first|((with_reducible refine zG ?_);first|refine zD rfl rfl rfl ?_|(refine zJ rfl rfl rfl ?_;refine ⟨_,rfl,?_⟩)|refine zL rfl rfl rfl ?_|refine z7 rfl rfl rfl rfl ?_|(refine zS rfl rfl rfl rfl rfl (fun h=>?_) (fun h=>?_)<;>(dsimp only [cmpP] at h;(try (exfalso;omega))))|refine zAI rfl rfl rfl ?_|refine zCF rfl rfl rfl rfl ?_)|(with_reducible first|refine zI ?_|refine zB ?_|refine zE ?_|refine zA ?_)|((with_reducible refine zH ?_ ?_);(· exact rfl))))
      (refine z9 [] [] [] rfl (show ([]:List Nat).Nodup by decide) (fun _ h=>h) (by kernel_rfl) [[],[Z],[Z,Z],[Z,Z,Z],[Y,Y,Y,Y],[Z,Z,Z,Z,Z],[Z,Z,Z,Z,Z,Z],[Y,Y,Y,Y,Y,Y,Y],[Y,Y,Y,Y,Y,Y,Y,Y],[Z,Z,Z,Z,Z,Z,Z,Z,Z]] (by kernel_rfl) (by kernel_rfl) (by kernel_rfl) (by kernel_rfl) (by kernel_rfl) ?_)
      (repeat' (first|(((with_reducible refine zA0 ?_ ?_);(· exact rfl);refine ⟨_,fun G=>(by (try simp (decide:=true) only [vis,see,fltT,zq,Nat.reduceAdd,Nat.reduceSub,if_true,if_false,List.set_cons_zero,List.set_cons_succ,List.set_nil,List.nil_append,List.cons_append]);rfl),?_⟩);first|refine zN _ (fun _=>zl rfl rfl) (fun _=>rfl) rfl (by intro G G' h;simp (decide:=true) only [h]) ?_|refine zN _ (fun _=>zW rfl rfl (by exact rfl)) (fun _=>rfl) rfl (by intro G G' h;simp (decide:=true) only [h]) ?_|(refine zm rfl ?_;refine zN _ (fun _=>zY rfl rfl) (fun _=>rfl) rfl (by intro G G' h;simp (decide:=true) only [h]) ?_)|(refine zAj rfl ?_;refine zN _ (fun _=>zw (I:=j) rfl rfl rfl rfl (by omega)) (fun _=>rfl) rfl (by exact fun _ _ _=>rfl) ?_)|(refine zA6 rfl ?_;refine zN _ (fun _=>z8 rfl rfl) (fun _=>rfl) rfl (by intro G G' h;simp (decide:=true) only [h]) ?_))|((with_reducible refine zBi ?_ ?_);(· exact rfl))))
      (intro G;simp only [regsT,zq,zAa,ini,List.nil_append,List.cons_append])
      (repeat' (first|((with_reducible refine zG ?_);first|refine zGh (kv:=vTl) (vv:=vI) key st rfl zCy rfl rfl rfl rfl rfl (by (repeat constructor)) ?_)|(with_reducible first|refine zE ?_|refine zj ?_)))
      all_goals exact zCM none (.inl ⟨rfl,rfl⟩) rfl (by (repeat constructor)) (zCs s key (some st)) ⟨hyes,hopt⟩ hW (fun _ h=>h.sub (by (repeat constructor)))
     ·rw [if_neg hv] at hyes
      (refine zAD (by kernel_rfl) (by kernel_rfl) (by kernel_rfl) ?_)
      (repeat' (first|((with_reducible refine zAP ?_);first|refine zM (zl rfl rfl) rfl ?_|refine zM (zW rfl rfl (by exact rfl)) rfl ?_|refine zM (zY rfl rfl) rfl ?_|refine zM (zt rfl rfl) rfl ?_|refine zM (zw (I:=j) rfl rfl rfl (by omega) (by first|omega|(dsimp only;omega))) rfl ?_|refine zM (zDJ (kv:=vTl) (vv:=vI) (f:=s) key v true rfl zCy zDB rfl rfl (by rw [hs];rfl) (by rw [hs];rfl)) rfl ?_|refine zM (zAL rfl rfl rfl) rfl ?_|refine zM (z8 rfl rfl) rfl ?_)|(with_reducible refine zAe ?_)))
      all_goals (repeat' (first|((with_reducible refine zG ?_);first|refine zD rfl rfl rfl ?_|(refine zJ rfl rfl rfl ?_;refine ⟨_,rfl,?_⟩)|refine zL rfl rfl rfl ?_|refine z7 rfl rfl rfl rfl ?_|(refine zS rfl rfl rfl rfl rfl (fun h=>?_) (fun h=>?_)<;>(dsimp only [cmpP] at h;(try (exfalso;omega))))|refine zAI rfl rfl rfl ?_|refine zCF rfl rfl rfl rfl ?_)|(with_reducible first|refine zI ?_|refine zB ?_|refine zE ?_|refine zA ?_|refine zR ?_|refine zj ?_)|((with_reducible refine zF ?_ ?_);(· exact rfl))))
      all_goals exact zCM none (.inl ⟨rfl,rfl⟩) rfl (by (repeat constructor)) s ⟨hyes,hopt⟩ hW (fun _ h=>h.sub (by (repeat constructor)))
   ·have hno:=hno hc
    (refine zAD (by kernel_rfl) (by kernel_rfl) (by kernel_rfl) ?_)
    (repeat' (first|((with_reducible refine zAP ?_);first|refine zM (zl rfl rfl) rfl ?_|refine zM (zW rfl rfl (by exact rfl)) rfl ?_|refine zM (zY rfl rfl) rfl ?_|refine zM (zt rfl rfl) rfl ?_|refine zM (zw (I:=j) rfl rfl rfl (by omega) (by first|omega|(dsimp only;omega))) rfl ?_|refine zM (zDJ (kv:=vTl) (vv:=vI) (f:=s) key ((s key).getD 0) (s key).isSome rfl zCy zDB rfl rfl rfl rfl) rfl ?_|refine zM (zAL rfl rfl rfl) rfl ?_|refine zM (z8 rfl rfl) rfl ?_)|(with_reducible refine zAe ?_)))
    all_goals (repeat' (first|((with_reducible refine zG ?_);first|refine zD rfl rfl rfl ?_|(refine zJ rfl rfl rfl ?_;refine ⟨_,rfl,?_⟩)|refine zL rfl rfl rfl ?_|refine z7 rfl rfl rfl rfl ?_|refine zf rfl rfl rfl ?_|(refine zS rfl rfl rfl rfl rfl (fun h=>?_) (fun h=>?_)<;>(dsimp only [cmpP] at h;(try (exfalso;omega))))|refine zCF rfl rfl rfl rfl ?_)|(with_reducible first|refine zI ?_|refine zB ?_|refine zE ?_|refine zA ?_|refine zR ?_|refine zj ?_)|((with_reducible refine zF ?_ ?_);(· exact rfl))))
    all_goals exact zCM none (.inl ⟨rfl,rfl⟩) rfl (by (repeat constructor)) s ⟨hno,hopt⟩ hW (fun _ h=>h.sub (by (repeat constructor)))
 obtain ⟨⟨mc,fc⟩,hFn⟩:∃ p,F[n]?=some p:=⟨_,List.getElem?_eq_getElem (by omega)⟩
 have hA0:FA[n]?=some (some mc):=hFA n _ hFn
 obtain ⟨en,hA1⟩:∃ e,FA[n+1]?=some e:=⟨_,List.getElem?_eq_getElem (by omega)⟩
 have hmin:zAy (SF (krd l x.r) n) fc:=hF2 n _ hFn
 have:zAT FA (n+1) en:=⟨hA1⟩
 unfold zy
 simp only
 (repeat' (first|((with_reducible refine zG ?_);first|refine zD rfl rfl rfl ?_|(refine zS rfl rfl rfl rfl rfl (fun h=>?_) (fun h=>?_)<;>(dsimp only [cmpP] at h;(try (exfalso;omega))))|(refine zX rfl rfl rfl rfl rfl ?_;refine ⟨rfl,by first|decide|exact Nat.le_of_ble_eq_true rfl|(simp;omega),_,rfl,?_⟩)|(refine zb rfl rfl (fun b=>?_)))|(with_reducible first|refine zI ?_|refine zB ?_|refine zE ?_|refine zA ?_|refine zR ?_|refine zQ ?_)|((with_reducible refine zH ?_ ?_);(· exact rfl))))
 obtain ⟨b3,hb3⟩:∃ y,y=b:=⟨_,rfl⟩
 subst hb3
 (refine z9 [] [] [] rfl (show ([]:List Nat).Nodup by decide) (fun _ h=>h) (by kernel_rfl) [[],[Z],[Z,Z],[Z,Z,Z],[Y,Y,Y,Y],[Z,Y,Y,Y,Y],[Y,Y,Y,Y,Y,Y],[Z,Z,Z,Z,Z,Z,Z],[Z,Z,Z,Z,Z,Z,Z,Z]] (by kernel_rfl) (by kernel_rfl) (by kernel_rfl) (by kernel_rfl) (by kernel_rfl) ?_)
 (repeat' (first|(((with_reducible refine zA0 ?_ ?_);(· exact rfl);refine ⟨_,fun G=>(by (try simp (decide:=true) only [vis,see,fltT,zq,Nat.reduceAdd,Nat.reduceSub,if_true,if_false,List.set_cons_zero,List.set_cons_succ,List.set_nil,List.nil_append,List.cons_append]);rfl),?_⟩);first|refine zN _ (fun _=>zW rfl rfl (by exact rfl)) (fun _=>rfl) rfl (by intro G G' h;simp (decide:=true) only [h]) ?_|(refine zm rfl ?_;refine zN _ (fun _=>zY rfl rfl) (fun _=>rfl) rfl (by intro G G' h;simp (decide:=true) only [h]) ?_)|(refine zHc Tal Int vTl vI rfl (fun _=>rfl) rfl ?_)|(refine zAj rfl ?_;refine zN _ (fun _=>zw (I:=n+1) rfl rfl rfl rfl (by omega)) (fun _=>rfl) rfl (by exact fun _ _ _=>rfl) ?_)|refine zN _ (fun _=>zDy rfl rfl rfl (by omega)) (fun _=>rfl) rfl (by intro G G' h;simp (decide:=true) only [h]) ?_|(refine zA6 rfl ?_;refine zN _ (fun _=>z8 rfl rfl) (fun _=>rfl) rfl (by intro G G' h;simp (decide:=true) only [h]) ?_))|((with_reducible refine zBi ?_ ?_);(· exact rfl))))
 intro G
 simp only [regsT,List.nil_append,List.cons_append]
 refine U.sub (R':=[(1,.pointer (some ⟨b1,0,none⟩)),(2,.int .i64 (l.bms.length:Int)),(52,.int .i64 (l.bms.length:Int)),(53,.int .i64 (n:Int)),(3,.pointer (some ⟨b3,0,none⟩)),(62,.map (some (G 6).g)),(63,.pointer (some ⟨gf,0+(n+1) * 1,none⟩))]) (H':=[.fm (G 6).g vTl vI (fun _=>none),.blk b3 [.int .i64 (n:Int)],.dfr bs,.arr zAS 1 gf FA,.mps vTl vI F,.arr zAS 1 gb (List.replicate (l.bms.length+1) none),.blk g (zy (⟨l,x,some ⟨bl,ol,none⟩,lc,gt⟩:Wa) (.slice (some ⟨gf,0,none⟩) (l.bms.length+1) (l.bms.length+1)) (.slice (some ⟨gb,0,none⟩) (l.bms.length+1) (l.bms.length+1))),.blk b1 [.pointer (some ⟨g,0,none⟩)],.sl encI 1 (some ⟨bl,ol,none⟩) (zAK l l.bms.length),.arr zAS 1 gt (T.map fun p=>some p.1),.mps vI vSp T,.oldx w wb.heap.size (feet FH0)]) (by (repeat first|exact lK1|refine zT rfl ?_)) (by unfold zy;(repeat constructor)) ?_
 generalize (G 6).g=mn
 unfold zy
 simp only
 (repeat' (first|((with_reducible refine zG ?_);first|refine zDY (enc:=zAS) (i:=n+1) (j:=0) (z:=en) (some mn) rfl rfl rfl rfl rfl rfl rfl rfl (by decide) ?_)|(with_reducible first|refine zI ?_|refine zE ?_|refine zA ?_)))
 obtain ⟨FA1,hFA1⟩:∃ X,X=FA.set (n+1) (some mn):=⟨_,rfl⟩
 rw [← hFA1]
 have hl1:FA1.length=l.bms.length+1:=by rw [hFA1,List.length_set];exact hFl
 have hg0:FA1[n]?=some (some mc):=by rw [hFA1,List.getElem?_set_ne (by omega)];exact hA0
 have hg1:FA1[n+1]?=some (some mn):=by rw [hFA1,List.getElem?_set_self (by omega)]
 have:zAT FA1 n (some mc):=⟨hg0⟩
 have:zAT FA1 (n+1) (some mn):=⟨hg1⟩
 refine zDQ n hFn (by (repeat constructor)) ?_
 refine zCt (kv:=vTl) (vv:=vI) (by (repeat constructor)) (fun ml0 c0 hlo hle=>?_)
 (refine z9 [] [] [] rfl (show ([]:List Nat).Nodup by decide) (fun _ h=>h) (by kernel_rfl) [[],[Z],[Z,Z],[Z,Z,Z],[Y,Y,Y,Y],[Z,Z,Z,Z,Z],[Z,Z,Z,Z,Z,Z],[Z,Z,Z,Z,Z,Z,Z]] (by kernel_rfl) (by kernel_rfl) (by kernel_rfl) (by kernel_rfl) (by kernel_rfl) ?_)
 (repeat' (first|(((with_reducible refine zA0 ?_ ?_);(· exact rfl);refine ⟨_,fun G=>(by (try simp (decide:=true) only [vis,see,fltT,zq,Nat.reduceAdd,Nat.reduceSub,if_true,if_false,List.set_cons_zero,List.set_cons_succ,List.set_nil,List.nil_append,List.cons_append]);rfl),?_⟩);first|refine zN _ (fun _=>zW rfl rfl (by exact rfl)) (fun _=>rfl) rfl (by intro G G' h;simp (decide:=true) only [h]) ?_|(refine zm rfl ?_;refine zN _ (fun _=>zY rfl rfl) (fun _=>rfl) rfl (by intro G G' h;simp (decide:=true) only [h]) ?_)|(refine zAj rfl ?_;refine zN _ (fun _=>zw (I:=n) rfl rfl rfl rfl (by omega)) (fun _=>rfl) rfl (by exact fun _ _ _=>rfl) ?_)|(refine zA6 rfl ?_;refine zN _ (fun _=>z8 rfl rfl) (fun _=>rfl) rfl (by intro G G' h;simp (decide:=true) only [h]) ?_))|((with_reducible refine zBi ?_ ?_);(· exact rfl))))
 (intro G;simp only [regsT,zq,zAa,ini,List.nil_append,List.cons_append])
 (repeat' (first|((with_reducible refine zG ?_);first|refine zD1 (kv:=vTl) (vv:=vI) rfl rfl rfl (by (repeat constructor)) (fun r=>?_))|(with_reducible first|refine zE ?_|refine zA ?_|refine zQ ?_)))
 refine zGg (ι:=List Nat × List Nat × (Tal→Option Int)) [1,2,3,52,53,71] rfl (fun q=>zAy (FwdS (krd l x.r) n (zHN ml0 q.1)) q.2.2) (fun q=>dL q.2.1) (fun _=>[]) (fun q=>[.itl r mc c0 q.1,.dfr q.2.1,.ml mc vTl vI ml0 c0,.fm mn vTl vI q.2.2,.mps vTl vI (F.take n++F.drop (n+1)),.arr zAS 1 gf FA1,.arr zAS 1 gb (List.replicate (l.bms.length+1) none),.blk b3 [.int .i64 (n:Int)],.blk g (zy (⟨l,x,some ⟨bl,ol,none⟩,lc,gt⟩:Wa) (.slice (some ⟨gf,0,none⟩) (l.bms.length+1) (l.bms.length+1)) (.slice (some ⟨gb,0,none⟩) (l.bms.length+1) (l.bms.length+1))),.blk b1 [.pointer (some ⟨g,0,none⟩)],.sl encI 1 (some ⟨bl,ol,none⟩) (zAK l l.bms.length),.arr zAS 1 gt (T.map fun p=>some p.1),.mps vI vSp T,.oldx w wb.heap.size (feet FH0)]) (fun q=>zFi ml0 q.1) ([],bs,fun _=>none) (by rw [zJh];exact zL5) rfl (by (repeat first|exact lK1|refine zT rfl ?_)) (by unfold zy;(repeat constructor)) ?_
 rintro ⟨seen,bs2,f⟩ hI
 simp only at hI
 simp only [zAk,List.cons_append,List.nil_append]
 unfold zy
 simp only
 (repeat' (first|((with_reducible refine zG ?_);first|refine zD rfl rfl rfl ?_|(refine zEz (kv:=vTl) (vv:=vI) rfl rfl rfl (by (repeat constructor)) (by (repeat constructor)) hlo (fun hend=>?_) (fun p hp hpn=>?_)<;>skip)|refine zk rfl rfl rfl rfl ?_|refine zu rfl rfl rfl rfl (by omega) ?_)|(with_reducible first|refine zI ?_|refine zB ?_|refine zE ?_|refine zA ?_|refine zR ?_|refine zQ ?_|refine zz ?_|refine zj ?_|refine zZ ?_|refine ze ?_)|((with_reducible refine zH ?_ ?_);(· exact rfl))|((with_reducible refine zF ?_ ?_);(· exact rfl))))
 ·refine zDZ (kv:=vTl) (vv:=vI) (by (repeat constructor)) hlo hle ?_
  refine zDW n hFn (by (repeat constructor)) (by (repeat constructor)) ?_
  refine zG0 (by (repeat constructor)) (by (repeat constructor)) ?_
  skip
  refine zEe (ι:=Nat × List Nat × List Tab × List (Option Nat)) (n+1,bs2,F++[(mn,f)],FA1) ⟨by simp only;omega,⟨by simp only [List.length_append,List.length_singleton];omega,fun b p hp=>?_⟩,hl1,fun i p hp=>?_⟩ (by simp only;omega) rfl (by (repeat first|exact lK1|refine zT rfl ?_)) (by (repeat constructor))
  ·have hg:zAy (SF (krd l x.r) (n+1)) f:=fwd_done hmin hI (fun s a=>by rw [zJi hlo hend,hle])
   simp only at hp
   rcases Nat.lt_or_ge b F.length with h9|h9
   ·rw [List.getElem?_append_left h9] at hp;exact hF2 b p hp
   ·rw [List.getElem?_append_right h9] at hp
    obtain ⟨rfl,rfl⟩:b=n+1∧p=(mn,f):=by
     cases hb9:b - F.length with
     | zero=>rw [hb9] at hp;simp only [List.getElem?_cons_zero,Option.some.injEq] at hp;exact ⟨by omega,hp.symm⟩
     | succ j=>rw [hb9] at hp;simp at hp
    exact hg
  ·simp only at hp
   rcases Nat.lt_or_ge i F.length with h9|h9
   ·rw [List.getElem?_append_left h9] at hp
    simp only
    rw [hFA1,List.getElem?_set_ne (by omega)];exact hFA i p hp
   ·rw [List.getElem?_append_right h9] at hp
    obtain ⟨rfl,rfl⟩:i=n+1∧p=(mn,f):=by
     cases hb9:i - F.length with
     | zero=>rw [hb9] at hp;simp only [List.getElem?_cons_zero,Option.some.injEq] at hp;exact ⟨by omega,hp.symm⟩
     | succ j=>rw [hb9] at hp;simp at hp
    exact hg1
 (repeat' (first|((with_reducible refine zG ?_);first|(refine zJ rfl rfl rfl ?_;refine ⟨_,rfl,?_⟩)|refine zDa (kv:=vTl) (vv:=vI) (p:=p) rfl rfl rfl (by (repeat constructor)) (by (repeat constructor)) hlo hp ?_|(refine zBL rfl rfl rfl rfl (fun _ _ q=>zEn g n _) ?_;rintro ⟨g1,g2⟩ -;dsimp only [List.cons_append,List.nil_append])|refine zk rfl rfl rfl rfl ?_|(refine zX rfl rfl rfl rfl rfl ?_;refine ⟨rfl,by first|decide|exact Nat.le_of_ble_eq_true rfl|(simp;omega),_,rfl,?_⟩)|(refine zb rfl rfl (fun b=>?_)))|(with_reducible first|refine zI ?_|refine zB ?_|refine zE ?_|refine zA ?_|refine zQ ?_)))
 rename_i b4
 obtain ⟨b5,hb5⟩:∃ y,y=b:=⟨_,rfl⟩
 subst hb5
 obtain ⟨t0,a,bn⟩:=p
 have hpa:fc t0=some a:=by rw [← hle];exact zDg hlo.keys hp
 have hsf:=((hmin t0).1 a hpa).1
 have htl:=zKH hsf
 have hab:=sf_in hf (by omega) (by omega) (by omega) (n:=n) (by omega) hsf
 have hle0:=zCo hf hnm
 obtain ⟨⟨mt,ft⟩,hTn⟩:∃ p,T[n]?=some p:=⟨_,List.getElem?_eq_getElem (by omega)⟩
 have hft:ft=zBr l x.r n x.r.sigs.length:=hTm n _ hTn
 have hTA:(T.map fun p=>some p.1)[n]?=some (some mt):=by rw [List.getElem?_map,hTn];rfl
 have:zAT (zAK l l.bms.length) n (zAY l n):=⟨by unfold zAK;rw [List.getElem?_map,List.getElem?_range (by omega)];rfl⟩
 refine zDQ n hTn (by (repeat constructor)) ?_
 refine zCt (kv:=vI) (vv:=vSp) (by (repeat constructor)) (fun ml c1 hlo1 hle1=>?_)
 refine U.sub (R':=[(79,.func (.func 113) #[] #[.pointer (some ⟨g1,0,none⟩),.pointer (some ⟨g2,0,none⟩)]),(1,.pointer (some ⟨b1,0,none⟩)),(2,.int .i64 (l.bms.length:Int)),(3,.pointer (some ⟨b3,0,none⟩)),(4,.pointer (some ⟨b4,0,none⟩)),(5,.pointer (some ⟨b5,0,none⟩)),(52,.int .i64 (l.bms.length:Int)),(53,.int .i64 (n:Int)),(71,.pointer (some ⟨r,0,none⟩))]) (by (repeat first|exact lK1|refine zT rfl ?_)) (Out.all _) ?_
 refine zFX (ι:=Tal→Option Int) (α:=Opn) (gf:=113) (lb:=[.pointer (some ⟨g1,0,none⟩),.pointer (some ⟨g2,0,none⟩)]) (bs:=bs2) (fun _=>zDO (⟨l,x,some ⟨bl,ol,none⟩,lc,gt⟩:Wa) (.slice (some ⟨gf,0,none⟩) (l.bms.length+1) (l.bms.length+1)) (.slice (some ⟨gb,0,none⟩) (l.bms.length+1) (l.bms.length+1)) g g1 g2 n (T.map fun p=>some p.1) mt ml c1) zEZ (fun _ o=>o∈(krd l x.r).opts n) (fun ys=>∀ o∈(krd l x.r).opts n,o∈ys) (fun ys s=>zAy (fun t v=>FwdS (krd l x.r) n (zHN ml0 seen) t v∨FwdO (krd l x.r) n t0 a ys t v) s∧∀ o∈ys,o∈(krd l x.r).opts n) (fun s=>[.fm mn vTl vI s,.blk b5 [.int .i64 a],.blk b4 (zFp t0),.itl r mc c0 (seen++[bn]),.ml mc vTl vI ml0 c0,.mps vTl vI (F.take n++F.drop (n+1)),.mps vI vSp (T.take n++T.drop (n+1)),.arr zAS 1 gf FA1,.arr zAS 1 gb (List.replicate (l.bms.length+1) none),.blk b3 [.int .i64 (n:Int)],.blk b1 [.pointer (some ⟨g,0,none⟩)],.sl encI 1 (some ⟨bl,ol,none⟩) (zAK l l.bms.length),.oldx w wb.heap.size (feet FH0)]) f rfl (by unfold zDO zy;simp only [List.cons_append,List.nil_append];(repeat constructor)) ⟨hI.congr (fun t v=>by simp [FwdO]),fun o ho=>by cases ho⟩ (fun _=>rfl) (by decide) (zEm (⟨l,x,some ⟨bl,ol,none⟩,lc,gt⟩:Wa) (.slice (some ⟨gf,0,none⟩) (l.bms.length+1) (l.bms.length+1)) (.slice (some ⟨gb,0,none⟩) (l.bms.length+1) (l.bms.length+1)) g g1 g2 n mt c1 _ ml _ (by simp [hTl]) hTA hlo1 (by rw [hle1];exact hft)) ?_ ?_
 rotate_left
 ·intro bd ys s hE hIs
  obtain ⟨hIs,hIo⟩:=hIs
  have hI2:=fwd_all hIs hIo hE
  simp only [zDO,zy,List.cons_append,List.nil_append]
  refine zDZ (kv:=vI) (vv:=vSp) (by (repeat constructor)) hlo1 hle1 ?_
  refine zDW n hTn (by (repeat constructor)) (by (repeat constructor)) ?_
  (repeat' (first|(with_reducible first|refine zA ?_|refine zj ?_)))
  exact zEe (ι:=List Nat × List Nat × (Tal→Option Int)) (seen++[bn],bd::bs2,s) (hI2.congr (fun t v=>by unfold FwdS;simp only [zJj hlo hp])) (zDF hp hpn) rfl (by (repeat first|exact lK1|refine zT rfl ?_)) (by (repeat constructor))
 clear hF2 hFA hTm hz hFH hF1 hpn
 rintro ly ys o s ⟨⟩ W HH hN ⟨hIs,hIo⟩ hr hrp hW
 simp only at hr hrp hN
 subst hr hrp
 have hoi:=zKd hN (by omega) (by omega)
 obtain ⟨sg,slo,shi⟩:=o
 simp only at hoi
 simp only [zEZ,zHF,zDO,zy,vSp,List.cons_append,List.nil_append]
 (repeat' (first|((with_reducible refine zG ?_);first|refine zC rfl rfl rfl ?_|(refine zX rfl rfl rfl rfl rfl ?_;refine ⟨rfl,by first|decide|exact Nat.le_of_ble_eq_true rfl|(simp;omega),_,rfl,?_⟩)|(refine zb rfl rfl (fun b=>?_)))|(with_reducible first|refine zI ?_|refine zB ?_|refine zE ?_|refine zA ?_)))
 refine zFa (by (repeat constructor)) rfl ?_
 (repeat' (first|(with_reducible first|refine zI ?_|refine zQ ?_)))
 (refine z9 [] [] [] rfl (show ([]:List Nat).Nodup by decide) (fun _ h=>h) (by kernel_rfl) [[],[Y],[Z,Y],[Z,Z,Y],[Z,Z,Z,Y],[Y,Y,Y,Y,Y],[Z,Z,Z,Z,Z,Y],[Z,Z,Z,Z,Z,Z,Y],[Z,Z,Z,Z,Z,Z,Z,Z],[Y,Y,Y,Y,Y,Y,Y,Y,Y],[Z,Y,Y,Y,Y,Y,Y,Y,Y,Y],[Z,Z,Z,Z,Z,Z,Z,Z,Z,Z,Z],[Y,Y,Y,Y,Y,Y,Y,Y,Y,Y,Y,Y],[Y,Y,Y,Y,Y,Y,Y,Y,Y,Y,Y,Y,Y],[Z,Y,Y,Y,Y,Y,Y,Y,Y,Y,Y,Y,Y,Y],[Z,Z,Z,Y,Y,Y,Y,Y,Y,Y,Y,Y,Y,Y,Y],[Y,Y,Y,Y,Y,Y,Y,Y,Y,Y,Y,Y,Y,Y,Y,Y],[Z,Z,Z,Z,Z,Z,Z,Z,Z,Z,Z,Z,Z,Z,Z,Z,Z],[Z,Z,Z,Z,Z,Z,Z,Z,Z,Z,Z,Z,Z,Z,Z,Z,Z,Z]] (by kernel_rfl) (by kernel_rfl) (by kernel_rfl) (by kernel_rfl) (by kernel_rfl) ?_)
 (repeat' (first|(((with_reducible refine zA0 ?_ ?_);(· exact rfl);refine ⟨_,fun G=>(by (try simp (decide:=true) only [vis,see,fltT,zq,Nat.reduceAdd,Nat.reduceSub,if_true,if_false,List.set_cons_zero,List.set_cons_succ,List.set_nil,List.nil_append,List.cons_append]);rfl),?_⟩);first|refine zN _ (fun _=>zl rfl rfl) (fun _=>rfl) rfl (by intro G G' h;simp (decide:=true) only [h]) ?_|refine zN _ (fun _=>zW rfl rfl (by exact rfl)) (fun _=>rfl) rfl (by intro G G' h;simp (decide:=true) only [h]) ?_|(refine zm rfl ?_;refine zN _ (fun _=>zY rfl rfl) (fun _=>rfl) rfl (by intro G G' h;simp (decide:=true) only [h]) ?_)|refine zN _ (fun _=>zt rfl rfl) (fun _=>rfl) rfl (by intro G G' h;simp (decide:=true) only [h]) ?_|(refine zAj rfl ?_;refine zN _ (fun _=>zw (I:=n) rfl rfl rfl rfl (by omega)) (fun _=>rfl) rfl (by exact fun _ _ _=>rfl) ?_)|(refine zAM rfl ?_;refine zAR _ rfl (fun _=>rfl) rfl (fun _=>rfl) (fun _=>rfl) (fun _ _ _ q=>zGm sg _) (by intro G G' h;simp (decide:=true) only [h]) ?_)|(refine zAM rfl ?_;refine zAR _ rfl (fun _=>rfl) rfl (fun _=>rfl) (fun _=>rfl) (fun _ _ _ q=>zE2 t0 (zBm sg) _ (by omega) (by have:=zKf sg;omega)) (by intro G G' h;simp (decide:=true) only [h]) ?_)|refine zN _ (fun _=>zHX rfl rfl rfl (IntWalk.i64_in _ (by omega))) (fun _=>rfl) rfl (by intro G G' h;simp (decide:=true) only [h]) ?_|(refine zA6 rfl ?_;refine zN _ (fun _=>z8 rfl rfl) (fun _=>rfl) rfl (by intro G G' h;simp (decide:=true) only [h]) ?_)|(refine zAM rfl ?_;refine zN _ (fun _=>e_max rfl rfl rfl) (fun _=>rfl) rfl (by intro G G' h;simp (decide:=true) only [h]) ?_)|refine zA1 rfl (fun _=>rfl) rfl ?_)|((with_reducible refine zBi ?_ ?_);(· exact rfl))))
 (intro G;simp only [regsT,zq,zAa,ini,List.nil_append,List.cons_append])
 generalize (G (0+1+1+1+1+1+1+1+1+1+1+1+1+1+1+1+1)).g=b9
 have hopt:∀ o∈ys++[(⟨sg,slo,shi⟩:Opn)],o∈(krd l x.r).opts n:=fun o ho=>by
  rcases List.mem_append.1 ho with h|h
  ·exact hIo o h
  ·rw [List.mem_singleton.1 h];exact hN
 have hst0:zAi (krd l x.r) n a ⟨sg,slo,shi⟩=max (a+zAY l n) slo:=rfl
 have hyes:=fun hc=>fwd_one (o:=⟨sg,slo,shi⟩) hIs hc
 have hno:=fun hc=>fwd_no (o:=⟨sg,slo,shi⟩) hIs hc
 rw [hst0] at hyes hno
 rw [show (krd l x.r).now=x.r.now from rfl] at hyes hno
 generalize max (a+zAY l n) slo=st at *
 unfold zIp at hyes
 simp only at hyes
 generalize t0.plus (zBm sg)=key at *
 (repeat' (first|((with_reducible refine zG ?_);first|(refine zX rfl rfl rfl rfl rfl ?_;refine ⟨rfl,by first|decide|exact Nat.le_of_ble_eq_true rfl|(simp;omega),_,rfl,?_⟩))|(with_reducible first|refine zI ?_|refine zE ?_|refine zA ?_)))
 by_cases hc:st≤min shi x.r.now
 ·have hyes:=hyes hc
  cases hs:s key with
  | none =>
   rw [hs] at hyes
   simp only [if_true] at hyes
   (refine zAD (by kernel_rfl) (by kernel_rfl) (by kernel_rfl) ?_)
   (repeat' (first|((with_reducible refine zAP ?_);first|refine zM (zl rfl rfl) rfl ?_|refine zM (zW rfl rfl (by exact rfl)) rfl ?_|refine zM (zY rfl rfl) rfl ?_|refine zM (zt rfl rfl) rfl ?_|refine zM (zw (I:=(n+1)) rfl rfl rfl (by omega) (by first|omega|(dsimp only;omega))) rfl ?_|refine zM (zDJ (kv:=vTl) (vv:=vI) (f:=s) key 0 false rfl zCy zDB rfl rfl (by rw [hs];rfl) (by rw [hs];rfl)) rfl ?_|refine zM (zAL rfl rfl rfl) rfl ?_|refine zM (zDy rfl rfl rfl (by omega)) rfl ?_|refine zM (z8 rfl rfl) rfl ?_)|(with_reducible refine zAe ?_)))
   (repeat' (first|(with_reducible first|refine zI ?_|refine zA ?_)))
   (refine zAD (by kernel_rfl) (by kernel_rfl) (by kernel_rfl) ?_)
   (repeat' (first|((with_reducible refine zAP ?_);first|refine zM (zl rfl rfl) rfl ?_|refine zM (zW rfl rfl (by exact rfl)) rfl ?_|refine zM (zY rfl rfl) rfl ?_|refine zM (zAh rfl rfl rfl) rfl ?_|refine zAJ rfl rfl rfl ?_|(refine zAu rfl rfl rfl rfl rfl (fun h=>?_) (fun h=>?_)<;>(dsimp only [cmpP] at h;(try (exfalso;omega))))|refine zM (zDt rfl rfl) rfl ?_|refine zM (z8 rfl rfl) rfl ?_|refine zM (zGZ rfl rfl rfl) rfl ?_)|(with_reducible refine zAe ?_)))
   all_goals (repeat' (first|(with_reducible first|refine zA ?_)|((with_reducible refine zH ?_ ?_);(· exact rfl))))
   (refine z9 [] [] [] rfl (show ([]:List Nat).Nodup by decide) (fun _ h=>h) (by kernel_rfl) [[],[Z],[Z,Z],[Z,Z,Z],[Y,Y,Y,Y],[Z,Y,Y,Y,Y],[Z,Z,Z,Z,Z,Z],[Z,Z,Z,Z,Z,Z,Z],[Y,Y,Y,Y,Y,Y,Y,Y],[Y,Y,Y,Y,Y,Y,Y,Y,Y],[Z,Z,Z,Z,Z,Z,Z,Z,Z,Z]] (by kernel_rfl) (by kernel_rfl) (by kernel_rfl) (by kernel_rfl) (by kernel_rfl) ?_)
   (repeat' (first|(((with_reducible refine zA0 ?_ ?_);(· exact rfl);refine ⟨_,fun G=>(by (try simp (decide:=true) only [vis,see,fltT,zq,Nat.reduceAdd,Nat.reduceSub,if_true,if_false,List.set_cons_zero,List.set_cons_succ,List.set_nil,List.nil_append,List.cons_append]);rfl),?_⟩);first|refine zN _ (fun _=>zl rfl rfl) (fun _=>rfl) rfl (by intro G G' h;simp (decide:=true) only [h]) ?_|refine zN _ (fun _=>zW rfl rfl (by exact rfl)) (fun _=>rfl) rfl (by intro G G' h;simp (decide:=true) only [h]) ?_|(refine zm rfl ?_;refine zN _ (fun _=>zY rfl rfl) (fun _=>rfl) rfl (by intro G G' h;simp (decide:=true) only [h]) ?_)|(refine zAj rfl ?_;refine zN _ (fun _=>zw (I:=n+1) rfl rfl rfl rfl (by omega)) (fun _=>rfl) rfl (by exact fun _ _ _=>rfl) ?_)|refine zN _ (fun _=>zDy rfl rfl rfl (by omega)) (fun _=>rfl) rfl (by intro G G' h;simp (decide:=true) only [h]) ?_|(refine zA6 rfl ?_;refine zN _ (fun _=>z8 rfl rfl) (fun _=>rfl) rfl (by intro G G' h;simp (decide:=true) only [h]) ?_))|((with_reducible refine zBi ?_ ?_);(· exact rfl))))
   (intro G;simp only [regsT,zq,zAa,ini,List.nil_append,List.cons_append])
   (repeat' (first|((with_reducible refine zG ?_);first|refine zGh (kv:=vTl) (vv:=vI) key st rfl zCy rfl rfl rfl rfl rfl (by (repeat constructor)) ?_)|(with_reducible first|refine zE ?_|refine zj ?_)))
   all_goals exact zCM none (.inl ⟨rfl,rfl⟩) rfl (by (repeat constructor)) (zCs s key (some st)) ⟨hyes,hopt⟩ hW (fun _ h=>h.sub (by (repeat constructor)))
  | some v =>
   rw [hs] at hyes
   simp only [decide_eq_true_eq] at hyes
   by_cases hv:st<v
   ·rw [if_pos hv] at hyes
    (refine zAD (by kernel_rfl) (by kernel_rfl) (by kernel_rfl) ?_)
    (repeat' (first|((with_reducible refine zAP ?_);first|refine zM (zl rfl rfl) rfl ?_|refine zM (zW rfl rfl (by exact rfl)) rfl ?_|refine zM (zY rfl rfl) rfl ?_|refine zM (zt rfl rfl) rfl ?_|refine zM (zw (I:=(n+1)) rfl rfl rfl (by omega) (by first|omega|(dsimp only;omega))) rfl ?_|refine zM (zDJ (kv:=vTl) (vv:=vI) (f:=s) key v true rfl zCy zDB rfl rfl (by rw [hs];rfl) (by rw [hs];rfl)) rfl ?_|refine zM (zAL rfl rfl rfl) rfl ?_|refine zM (zDy rfl rfl rfl (by omega)) rfl ?_|refine zM (z8 rfl rfl) rfl ?_)|(with_reducible refine zAe ?_)))
    (repeat' (first|(with_reducible first|refine zI ?_|refine zA ?_)))
    (refine zAD (by kernel_rfl) (by kernel_rfl) (by kernel_rfl) ?_)
    (repeat' (first|((with_reducible refine zAP ?_);first|refine zM (zl rfl rfl) rfl ?_|refine zM (zW rfl rfl (by exact rfl)) rfl ?_|refine zM (zY rfl rfl) rfl ?_|refine zM (zAh rfl rfl rfl) rfl ?_|(refine zAu rfl rfl rfl rfl rfl (fun h=>?_) (fun h=>?_)<;>(dsimp only [cmpP] at h;(try (exfalso;omega))))|refine zM (zDt rfl rfl) rfl ?_|refine zM (z8 rfl rfl) rfl ?_|refine zM (zGZ rfl rfl rfl) rfl ?_)|(with_reducible refine zAe ?_)))
    all_goals (repeat' (first|(with_reducible first|refine zA ?_)|((with_reducible refine zH ?_ ?_);(· exact rfl))))
    (refine z9 [] [] [] rfl (show ([]:List Nat).Nodup by decide) (fun _ h=>h) (by kernel_rfl) [[],[Z],[Z,Z],[Z,Z,Z],[Y,Y,Y,Y],[Z,Y,Y,Y,Y],[Z,Z,Z,Z,Z,Z],[Z,Z,Z,Z,Z,Z,Z],[Y,Y,Y,Y,Y,Y,Y,Y],[Y,Y,Y,Y,Y,Y,Y,Y,Y],[Z,Z,Z,Z,Z,Z,Z,Z,Z,Z]] (by kernel_rfl) (by kernel_rfl) (by kernel_rfl) (by kernel_rfl) (by kernel_rfl) ?_)
    (repeat' (first|(((with_reducible refine zA0 ?_ ?_);(· exact rfl);refine ⟨_,fun G=>(by (try simp (decide:=true) only [vis,see,fltT,zq,Nat.reduceAdd,Nat.reduceSub,if_true,if_false,List.set_cons_zero,List.set_cons_succ,List.set_nil,List.nil_append,List.cons_append]);rfl),?_⟩);first|refine zN _ (fun _=>zl rfl rfl) (fun _=>rfl) rfl (by intro G G' h;simp (decide:=true) only [h]) ?_|refine zN _ (fun _=>zW rfl rfl (by exact rfl)) (fun _=>rfl) rfl (by intro G G' h;simp (decide:=true) only [h]) ?_|(refine zm rfl ?_;refine zN _ (fun _=>zY rfl rfl) (fun _=>rfl) rfl (by intro G G' h;simp (decide:=true) only [h]) ?_)|(refine zAj rfl ?_;refine zN _ (fun _=>zw (I:=n+1) rfl rfl rfl rfl (by omega)) (fun _=>rfl) rfl (by exact fun _ _ _=>rfl) ?_)|refine zN _ (fun _=>zDy rfl rfl rfl (by omega)) (fun _=>rfl) rfl (by intro G G' h;simp (decide:=true) only [h]) ?_|(refine zA6 rfl ?_;refine zN _ (fun _=>z8 rfl rfl) (fun _=>rfl) rfl (by intro G G' h;simp (decide:=true) only [h]) ?_))|((with_reducible refine zBi ?_ ?_);(· exact rfl))))
    (intro G;simp only [regsT,zq,zAa,ini,List.nil_append,List.cons_append])
    (repeat' (first|((with_reducible refine zG ?_);first|refine zGh (kv:=vTl) (vv:=vI) key st rfl zCy rfl rfl rfl rfl rfl (by (repeat constructor)) ?_)|(with_reducible first|refine zE ?_|refine zj ?_)))
    all_goals exact zCM none (.inl ⟨rfl,rfl⟩) rfl (by (repeat constructor)) (zCs s key (some st)) ⟨hyes,hopt⟩ hW (fun _ h=>h.sub (by (repeat constructor)))
   ·rw [if_neg hv] at hyes
    (refine zAD (by kernel_rfl) (by kernel_rfl) (by kernel_rfl) ?_)
    (repeat' (first|((with_reducible refine zAP ?_);first|refine zM (zl rfl rfl) rfl ?_|refine zM (zW rfl rfl (by exact rfl)) rfl ?_|refine zM (zY rfl rfl) rfl ?_|refine zM (zt rfl rfl) rfl ?_|refine zM (zw (I:=(n+1)) rfl rfl rfl (by omega) (by first|omega|(dsimp only;omega))) rfl ?_|refine zM (zDJ (kv:=vTl) (vv:=vI) (f:=s) key v true rfl zCy zDB rfl rfl (by rw [hs];rfl) (by rw [hs];rfl)) rfl ?_|refine zM (zAL rfl rfl rfl) rfl ?_|refine zM (zDy rfl rfl rfl (by omega)) rfl ?_|refine zM (z8 rfl rfl) rfl ?_)|(with_reducible refine zAe ?_)))
    (repeat' (first|(with_reducible first|refine zI ?_|refine zA ?_)))
    (refine zAD (by kernel_rfl) (by kernel_rfl) (by kernel_rfl) ?_)
    (repeat' (first|((with_reducible refine zAP ?_);first|refine zM (zl rfl rfl) rfl ?_|refine zM (zW rfl rfl (by exact rfl)) rfl ?_|refine zM (zY rfl rfl) rfl ?_|refine zM (zAh rfl rfl rfl) rfl ?_|(refine zAu rfl rfl rfl rfl rfl (fun h=>?_) (fun h=>?_)<;>(dsimp only [cmpP] at h;(try (exfalso;omega))))|refine zM (zDt rfl rfl) rfl ?_|refine zM (z8 rfl rfl) rfl ?_|refine zM (zGZ rfl rfl rfl) rfl ?_)|(with_reducible refine zAe ?_)))
    all_goals (repeat' (first|(with_reducible first|refine zA ?_|refine zR ?_|refine zj ?_)|((with_reducible refine zF ?_ ?_);(· exact rfl))))
    all_goals exact zCM none (.inl ⟨rfl,rfl⟩) rfl (by (repeat constructor)) s ⟨hyes,hopt⟩ hW (fun _ h=>h.sub (by (repeat constructor)))
 ·have hno:=hno hc
  (refine zAD (by kernel_rfl) (by kernel_rfl) (by kernel_rfl) ?_)
  (repeat' (first|((with_reducible refine zAP ?_);first|refine zM (zl rfl rfl) rfl ?_|refine zM (zW rfl rfl (by exact rfl)) rfl ?_|refine zM (zY rfl rfl) rfl ?_|refine zM (zt rfl rfl) rfl ?_|refine zM (zw (I:=(n+1)) rfl rfl rfl (by omega) (by first|omega|(dsimp only;omega))) rfl ?_|refine zM (zDJ (kv:=vTl) (vv:=vI) (f:=s) key ((s key).getD 0) (s key).isSome rfl zCy zDB rfl rfl rfl rfl) rfl ?_|refine zM (zAL rfl rfl rfl) rfl ?_|refine zM (zDy rfl rfl rfl (by omega)) rfl ?_|refine zM (z8 rfl rfl) rfl ?_)|(with_reducible refine zAe ?_)))
  (repeat' (first|(with_reducible first|refine zI ?_|refine zA ?_)))
  (refine zAD (by kernel_rfl) (by kernel_rfl) (by kernel_rfl) ?_)
  (repeat' (first|((with_reducible refine zAP ?_);first|refine zM (zl rfl rfl) rfl ?_|refine zM (zW rfl rfl (by exact rfl)) rfl ?_|refine zM (zY rfl rfl) rfl ?_|refine zM (zAh rfl rfl rfl) rfl ?_|refine zAJ rfl rfl rfl ?_|(refine zAu rfl rfl rfl rfl rfl (fun h=>?_) (fun h=>?_)<;>(dsimp only [cmpP] at h;(try (exfalso;omega))))|refine zM (z8 rfl rfl) rfl ?_|refine zM (zGZ rfl rfl rfl) rfl ?_)|(with_reducible refine zAe ?_)))
  all_goals (repeat' (first|(with_reducible first|refine zA ?_|refine zR ?_|refine zj ?_)|((with_reducible refine zF ?_ ?_);(· exact rfl))))
  all_goals exact zCM none (.inl ⟨rfl,rfl⟩) rfl (by (repeat constructor)) s ⟨hno,hopt⟩ hW (fun _ h=>h.sub (by (repeat constructor)))
end Go.Proofs.YtfiekidciiighaaGreat.Two
