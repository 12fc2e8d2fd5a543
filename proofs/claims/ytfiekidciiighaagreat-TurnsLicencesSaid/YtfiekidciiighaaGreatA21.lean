/- A21 -/
import Derived.Test.YtfiekidciiighaaGreatA18
import Derived.Test.YtfiekidciiighaaGreatA19
import Derived.Test.YtfiekidciiighaaGreatA10
set_option linter.unusedSimpArgs false
set_option linter.unusedVariables false
namespace Go.Proofs.YtfiekidciiighaaGreat.Two
variable {ro : Option Nat}
open Go.RowKit
set_option maxRecDepth 20000
theorem elem_wy : Elem Tryz.prog 96 124 3 72 (.agg #[.slice none 0 0,.slice none 0 0,.slice none 0 0]) :=
 ⟨by rfl,by exact ⟨_,rfl,rfl,rfl,rfl⟩,by decide,by decide⟩
instance elI_wy : ElI Tryz.prog 96 124 3 72:=⟨⟨_,elem_wy⟩⟩
theorem zGj (os:List Opn):(zBH os).right+(zBH os).missed=os.length:=by
 induction os with
 | nil=>rfl
 | cons o os ih =>
  have:(zBm o.sig).right+(zBm o.sig).missed=1:=by unfold zBm;split<;>rfl
  simp only [zBH,Tal.plus,List.length_cons];omega
instance : Ctb Sli:=zGq (α:=Option Addr × List Int × Nat) (fun p=>⟨p.1,p.2.1,p.2.2⟩) fun z=>⟨(z.A,z.xs,z.c),rfl⟩
instance : Ctb WyM:=zGq (α:=Sli × Sli × Sli) (fun p=>⟨p.1,p.2.1,p.2.2⟩) fun z=>⟨(z.R,z.F,z.L),rfl⟩
def zDi (os:List Opn) (i:Nat):Int:=(zBH (os.take i)).right
theorem zJq {os:List Opn} {i:Nat} {o:Opn} (h:os[i]?=some o):zDi os (i+1)=if 0≤o.sig then zDi os i+1 else zDi os i:=by
 unfold zDi
 rw [List.take_add_one,h,zC4]
 simp only [Option.toList_some,zBH,Tal.plus,zBm]
 split<;>split<;>first|omega|(simp only [];omega)
theorem zL2 (os:List Opn) (i:Nat):0≤zDi os i∧zDi os i≤i:=by
 have h1:=zDc (os.take i)
 have h2:=zGj (os.take i)
 have h3:(os.take i).length≤i:=by rw [List.length_take];omega
 unfold zDi;omega
theorem zKo (os:List Opn):zDi os os.length=(zBH os).right:=by unfold zDi;rw [List.take_length]
theorem meet {ι:Type} {G:Prop} {w0:World} {n:Nat} {d:List Deferred} {C:Act→World→Prop} (p:ι→Prop) (Rf:ι→List (Nat × Value)) (Hf:ι→List Ent) (main:(∀ z,p z→U w0 n d (Rf z) (Hf z) C)→G) (key:∀ z,p z→U w0 n d (Rf z) (Hf z) C):G:=main key
def WaysR (l:LnM) (x:RdM) (LA TA SA:Option Addr) (lc tc sc f:Nat):Prop:=∀ (pre:List Opn) (RA FA:Option Addr) (rc fc:Nat) (w:World),pre.length+f=l.bms.length→(∀ o∈pre,OpT l x.r o)→zCY w l→zAC zAw 2 w x.A x.r.sigs→zAC encI 1 w LA (zAK l l.bms.length)→zAC zAr 2 w TA (zBX l x.r x.r.sigs.length)→zAC zDk 1 w SA (zCu l x.r x.r.sigs.length)→zAC encI 1 w RA (pre.map (·.sig))→zAC encI 1 w FA (zAQ (krd l x.r) pre)→x.r.start≤zA2 (krd l x.r) 0 x.r.start pre→zA2 (krd l x.r) 0 x.r.start pre≤x.r.now →
 Ret Tryz.prog 55 [vLn l,vRd x,.agg #[.slice LA l.bms.length lc,.slice TA x.r.sigs.length tc,.slice SA x.r.sigs.length sc],.slice RA pre.length rc,.slice FA pre.length fc] w (fun z:(Option Addr × Nat) × List WyM × List Sli=>.slice z.1.1 z.2.1.length z.1.2) (fun z=>[.sl zA3 3 z.1.1 z.2.1,.rows z.2.2])
  (fun z=>zBS (krd l x.r) z.2.1 (zCJ (krd l x.r) f pre (zA2 (krd l x.r) 0 x.r.start pre))∧∀ y∈z.2.1,∀ s∈[y.R,y.F,y.L],s∈z.2.2∨s=⟨RA,pre.map (·.sig),rc⟩∨s=⟨FA,zAQ (krd l x.r) pre,fc⟩)
set_option maxHeartbeats 8000000 in
theorem ways_any (l:LnM) (x:RdM) (LA TA SA:Option Addr) (lc tc sc:Nat) (hs:zBA l) (hf:zDo l) (hr:zCC l.bms.length x.r=true):∀ f,WaysR l x LA TA SA lc tc sc f:=by
 intro f
 induction f using Nat.strongRecOn with
 | _ f IH =>
 intro pre RA FA rc fc w hlen ho hLn hSg hL hT hS hR hF hx0 hx1
 have c1:=hf.bms
 obtain ⟨⟨r1,r2,r3⟩,r4⟩:=zBM.1 hr
 rw [zAA] at r1 r2
 have hmi:=hf.misses;have hfa:=hf.fakes
 have hga:=zKo pre
 have htl:=zGj pre
 have hgi:=fun i=>zL2 pre i
 have hla:=fun W (hW:Below w.heap.size w W)=>zLy l x pre LA TA SA RA lc tc sc rc W hf (hL.below hW) (hT.below hW) (hR.below hW) hr ho (by omega)
 have hgs:=fun i o h=>zJq (os:=pre) (i:=i) (o:=o) h
 have g0:zDi pre 0=0:=rfl
 unfold vRd at hla ⊢
 unfold vLn
 (refine zK (n:=145) Tryz.func55 rfl rfl rfl ?_)
 (repeat' (first|((with_reducible refine zG ?_);first|refine zD rfl rfl rfl ?_|refine zC rfl rfl rfl ?_|refine zn rfl rfl rfl ?_|(refine zp rfl rfl rfl rfl (fun b=>?_)))|(with_reducible first|refine zI ?_|refine zB ?_|refine zE ?_|refine zA ?_|refine zQ ?_)))
 rename_i b2 b3
 obtain ⟨b7,hb7⟩:∃ y,y=b:=⟨_,rfl⟩
 subst hb7
 refine zAB (ι:=Nat) [3,4,5,6,7,10,11,12] rfl (fun i=>i≤pre.length) (fun i=>[(14,.int .i64 (i:Int)),(13,.int .i64 (zDi pre i))]) (fun _=>[.blk b7 [.slice LA l.bms.length lc,.slice TA x.r.sigs.length tc,.slice SA x.r.sigs.length sc],.blk b3 (zAN x),.blk b2 (zAH l)]) (fun i=>pre.length - i) 0 (Nat.zero_le _) (by (repeat first|exact lK1|refine zT rfl ?_)) (by unfold zAN zAH;(repeat constructor)) ?_
 rintro i hi
 simp only [zAk,zAN,zAH,List.cons_append,List.nil_append]
 by_cases hil:i<pre.length
 ·obtain ⟨o,ho1⟩:∃ o,pre[i]?=some o:=⟨_,List.getElem?_eq_getElem hil⟩
  have e1:=hgs i o ho1
  have e2:=hgi i
  obtain ⟨br,orr,hRA,hbr,hcr⟩:=hR.at_ (show i<(pre.map (·.sig)).length by rw [List.length_map];omega)
  have hR':=hR
  rw [hRA] at hR'
  have:InS w br orr encI 1 (pre.map (·.sig)):=⟨hR'⟩
  have:zAT (pre.map (·.sig)) i o.sig:=⟨by rw [List.getElem?_map,ho1];rfl⟩
  rw [hRA]
  (repeat' (first|((with_reducible refine zG ?_);first|refine zD rfl rfl rfl ?_|refine zC rfl rfl rfl ?_|(refine zJ rfl rfl rfl ?_;refine ⟨_,rfl,?_⟩)|(refine zS rfl rfl rfl rfl rfl (fun h=>?_) (fun h=>?_)<;>(dsimp only [cmpP] at h;(try (exfalso;omega))))|refine zu rfl rfl rfl rfl (by omega) ?_|refine zBp rfl rfl rfl rfl (IntWalk.i64_in _ (by omega)) ?_|refine zo rfl rfl rfl rfl rfl (by omega) ?_)|(with_reducible first|refine zI ?_|refine zB ?_|refine zE ?_|refine zA ?_|refine zR ?_|refine zQ ?_|refine zj ?_)|((with_reducible refine zH ?_ ?_);(· exact rfl))|((with_reducible refine zF ?_ ?_);(· exact rfl))))
  all_goals first
   | (rw [if_pos (by omega)] at e1;exact zd (ι:=Nat) (i+1) (by omega) (by omega) (by (try simp only [e1]);(repeat first|exact lK1|refine zT rfl ?_)) (by (repeat constructor)))
   | (rw [if_neg (by omega)] at e1;exact zd (ι:=Nat) (i+1) (by omega) (by omega) (by (try simp only [e1]);(repeat first|exact lK1|refine zT rfl ?_)) (by (repeat constructor)))
 obtain rfl:i=pre.length:=by omega
 simp only [hga]
 have hrt:=zDc pre
 by_cases hms:l.misses<(zBH pre).missed
 ·have hW:zCJ (krd l x.r) f pre (zA2 (krd l x.r) 0 x.r.start pre)=[]:=zI6 hms
  (repeat' (first|((with_reducible refine zG ?_);first|refine zD rfl rfl rfl ?_|refine zC rfl rfl rfl ?_|(refine zJ rfl rfl rfl ?_;refine ⟨_,rfl,?_⟩)|refine zL rfl rfl rfl ?_|(refine zS rfl rfl rfl rfl rfl (fun h=>?_) (fun h=>?_)<;>(dsimp only [cmpP] at h;(try (exfalso;omega))))|refine zAc rfl rfl rfl rfl (IntWalk.i64_in _ (by omega)) ?_)|(with_reducible first|refine zI ?_|refine zB ?_|refine zE ?_|refine zA ?_|refine zV ?_|refine zU ?_|refine zz ?_|refine zZ ?_|refine ze ?_)|((with_reducible refine zH ?_ ?_);(· exact rfl))|((with_reducible refine zF ?_ ?_);(· exact rfl))))
  exact zP (by exact rTm rfl) ((none,0),[],[]) ⟨by rw [hW];exact .nil,fun y hy=>by cases hy⟩ rfl (fun _ h=>(Own.zCa (zDN h)).sub (by (repeat constructor)))
 by_cases hz:pre.length=l.bms.length
 ·refine zBa zA3 3 124 ?_
  by_cases hfk:(x.r.sigs.length:Int) - (zBH pre).right≤l.fakes
  ·have hW:zCJ (krd l x.r) f pre (zA2 (krd l x.r) 0 x.r.start pre)=[pre]:=(zGv hms hz).trans (if_pos hfk)
   (repeat' (first|((with_reducible refine zG ?_);first|refine zD rfl rfl rfl ?_|refine zC rfl rfl rfl ?_|(refine zJ rfl rfl rfl ?_;refine ⟨_,rfl,?_⟩)|refine zL rfl rfl rfl ?_|(refine zS rfl rfl rfl rfl rfl (fun h=>?_) (fun h=>?_)<;>(dsimp only [cmpP] at h;(try (exfalso;omega))))|refine zCf rfl rfl rfl rfl (fun _ _ q=>hla _ q.below) (fun A' c'=>?_)|(refine zB6 (enc:=zA3) [⟨⟨RA,pre.map (·.sig),rc⟩,⟨FA,zAQ (krd l x.r) pre,fc⟩,⟨A',zAz (krd l x.r) 0 pre,c'⟩⟩] rfl rfl rfl (by (repeat constructor)) rfl rfl (zAF (enc:=zA3) (by simp only [zA3,List.length_map,zDH];exact rfl)) ⟨by simp,by decide⟩ (fun A9 c9=>?_))|refine zAc rfl rfl rfl rfl (IntWalk.i64_in _ (by omega)) ?_|refine zn rfl rfl rfl ?_|(refine zAZ rfl rfl rfl ?_;refine ⟨_,rfl,?_⟩)|(refine zi rfl rfl rfl ?_;refine ⟨rfl,_,rfl,fun b=>?_⟩))|(with_reducible first|refine zI ?_|refine zB ?_|refine zE ?_|refine zA ?_|refine zV ?_|refine zR ?_|refine zU ?_|refine zz ?_|refine zZ ?_|refine ze ?_)|((with_reducible refine zH ?_ ?_);(· exact rfl))|((with_reducible refine zF ?_ ?_);(· exact rfl))))
   exact zP (by exact rTm rfl) ((A9,c9),[⟨⟨RA,pre.map (·.sig),rc⟩,⟨FA,zAQ (krd l x.r) pre,fc⟩,⟨A',zAz (krd l x.r) 0 pre,c'⟩⟩],[⟨A',zAz (krd l x.r) 0 pre,c'⟩]) ⟨by rw [hW];exact .cons ⟨rfl,rfl,rfl⟩ .nil,fun y hy s hs=>by
    simp only [List.mem_singleton] at hy;subst hy
    simp only [List.mem_cons,List.not_mem_nil,or_false] at hs
    rcases hs with rfl|rfl|rfl
    ·exact .inr (.inl rfl)
    ·exact .inr (.inr rfl)
    ·exact .inl (List.mem_singleton.2 rfl)⟩ rfl (fun _ h=>(Own.zEk c' (l:=[]) (A:=A') (xs:=zAz (krd l x.r) 0 pre) (H:=[.sl zA3 3 A9 [⟨⟨RA,pre.map (·.sig),rc⟩,⟨FA,zAQ (krd l x.r) pre,fc⟩,⟨A',zAz (krd l x.r) 0 pre,c'⟩⟩]]) ((Own.zCa (h.zCN (xs:=[⟨⟨RA,pre.map (·.sig),rc⟩,⟨FA,zAQ (krd l x.r) pre,fc⟩,⟨A',zAz (krd l x.r) 0 pre,c'⟩⟩]) (enc:=zA3) (by (repeat constructor)))).sub (by (repeat constructor)))).sub (by (repeat constructor)))
  ·have hW:zCJ (krd l x.r) f pre (zA2 (krd l x.r) 0 x.r.start pre)=[]:=(zGv hms hz).trans (if_neg hfk)
   (repeat' (first|((with_reducible refine zG ?_);first|refine zD rfl rfl rfl ?_|refine zC rfl rfl rfl ?_|(refine zJ rfl rfl rfl ?_;refine ⟨_,rfl,?_⟩)|refine zL rfl rfl rfl ?_|(refine zS rfl rfl rfl rfl rfl (fun h=>?_) (fun h=>?_)<;>(dsimp only [cmpP] at h;(try (exfalso;omega))))|refine zAc rfl rfl rfl rfl (IntWalk.i64_in _ (by omega)) ?_|refine zn rfl rfl rfl ?_)|(with_reducible first|refine zI ?_|refine zB ?_|refine zE ?_|refine zA ?_|refine zV ?_|refine zR ?_|refine zU ?_|refine zz ?_|refine zZ ?_|refine ze ?_)|((with_reducible refine zH ?_ ?_);(· exact rfl))|((with_reducible refine zF ?_ ?_);(· exact rfl))))
   exact zP (by exact rTm rfl) ((none,0),[],[]) ⟨by rw [hW];exact .nil,fun y hy=>by cases hy⟩ rfl (fun _ h=>(Own.zCa (h.zCN (xs:=([]:List WyM)) (enc:=zA3) (by (repeat constructor)))).sub (by (repeat constructor)))
 obtain ⟨g,rfl⟩:∃ g,f=g+1:=⟨f - 1,by omega⟩
 have hle:=zCo hf (show pre.length<l.bms.length by omega)
 obtain ⟨bl,ol,hLA,hbl,hcl⟩:=hL.at_ (show pre.length<(zAK l l.bms.length).length by rw [zCR];omega)
 have hL':=hL
 rw [hLA] at hL'
 have:InS w bl ol encI 1 (zAK l l.bms.length):=⟨hL'⟩
 have:zAT (zAK l l.bms.length) pre.length (zAY l pre.length):=⟨by unfold zAK;rw [List.getElem?_map,List.getElem?_range (by omega)];rfl⟩
 rw [hLA] at hla ⊢
 obtain ⟨X,hX⟩:∃ X,X=zA2 (krd l x.r) 0 x.r.start pre:=⟨_,rfl⟩
 rw [← hX] at hx0 hx1 ⊢
 apply meet (ι:=Value × List WyM × List Sli) (fun z=>zBS (krd l x.r) z.2.1 (if (x.r.sigs.length:Int) - (zBH pre).right≤l.fakes then [pre] else [])∧∀ y∈z.2.1,∀ s∈[y.R,y.F,y.L],s∈z.2.2∨s=⟨RA,pre.map (·.sig),rc⟩∨s=⟨FA,zAQ (krd l x.r) pre,fc⟩) (fun z=>[(3,.slice RA pre.length rc),(4,.slice FA pre.length fc),(5,.pointer (some ⟨b2,0,none⟩)),(6,.pointer (some ⟨b3,0,none⟩)),(7,.pointer (some ⟨b7,0,none⟩)),(10,.slice none 0 0),(11,z.1),(12,.int .i64 (pre.length:Int)),(15,.int .i64 (X+zAY l pre.length)),(16,.int .i64 (-1))]) (fun z=>[.row zA3 3 124 z.1 z.2.1,.rows z.2.2,.blk b7 [.slice (some ⟨bl,ol,none⟩) l.bms.length lc,.slice TA x.r.sigs.length tc,.slice SA x.r.sigs.length sc],.blk b3 [.int .i64 x.r.start,.int .i64 x.r.now,.slice x.A x.r.sigs.length x.c],.blk b2 (zAH l)])
 ·intro key
  unfold zAH at key
  refine zBa zA3 3 124 ?_
  by_cases hn:0<pre.length
  ·obtain ⟨bf,of_,hFA,hbf,hcf⟩:=hF.at_ (show pre.length - 1<(zAQ (krd l x.r) pre).length by rw [zDH];omega)
   have hF':=hF
   rw [hFA] at hF'
   have:InS w bf of_ encI 1 (zAQ (krd l x.r) pre):=⟨hF'⟩
   have:zAT (zAQ (krd l x.r) pre) (pre.length - 1) X:=⟨hX ▸ zIw hn⟩
   by_cases hfk:(x.r.sigs.length:Int) - (zBH pre).right≤l.fakes
   ·(repeat' (first|((with_reducible refine zG ?_);first|refine zD rfl rfl rfl ?_|refine zC rfl rfl rfl ?_|(refine zJ rfl rfl rfl ?_;refine ⟨_,rfl,?_⟩)|refine zL rfl rfl rfl ?_|(refine zS rfl rfl rfl rfl rfl (fun h=>?_) (fun h=>?_)<;>(dsimp only [cmpP] at h;(try (exfalso;omega))))|refine zCf rfl rfl rfl rfl (fun _ _ q=>hla _ q.below) (fun A' c'=>?_)|(refine zB6 (enc:=zA3) [⟨⟨RA,pre.map (·.sig),rc⟩,⟨FA,zAQ (krd l x.r) pre,fc⟩,⟨A',zAz (krd l x.r) 0 pre,c'⟩⟩] rfl rfl rfl (by (repeat constructor)) rfl rfl (zAF (enc:=zA3) (by simp only [zA3,List.length_map,zDH];exact rfl)) ⟨by simp,by decide⟩ (fun A9 c9=>?_))|refine zAc rfl rfl rfl rfl (IntWalk.i64_in _ (by omega)) ?_|refine zn rfl rfl rfl ?_|(refine zAZ rfl rfl rfl ?_;refine ⟨_,rfl,?_⟩)|(refine zi rfl rfl rfl ?_;refine ⟨rfl,_,rfl,fun b=>?_⟩))|(with_reducible first|refine zI ?_|refine zB ?_|refine zE ?_|refine zA ?_|refine zR ?_|refine zz ?_|refine zZ ?_|refine ze ?_)|((with_reducible refine zH ?_ ?_);(· exact rfl))|((with_reducible refine zF ?_ ?_);(· exact rfl))))
    rw [hFA]
    (repeat' (first|((with_reducible refine zG ?_);first|refine zD rfl rfl rfl ?_|refine zC rfl rfl rfl ?_|(refine zJ rfl rfl rfl ?_;refine ⟨_,rfl,?_⟩)|refine zL rfl rfl rfl ?_|refine zo (I:=pre.length - 1) rfl rfl rfl rfl (by omega) (by omega) ?_|refine zo (I:=pre.length) rfl rfl rfl rfl rfl (by omega) ?_|refine zBp rfl rfl rfl rfl (IntWalk.i64_in _ (by omega)) ?_)|(with_reducible first|refine zI ?_|refine zB ?_|refine zE ?_|refine zA ?_|refine zQ ?_)))
    rw [← hFA]
    have e15:X=X:=rfl
    refine zBF (H':=[.row zA3 3 124 (.slice A9 1 c9) [⟨⟨RA,pre.map (·.sig),rc⟩,⟨FA,zAQ (krd l x.r) pre,fc⟩,⟨A',zAz (krd l x.r) 0 pre,c'⟩⟩],.rows [⟨A',zAz (krd l x.r) 0 pre,c'⟩],.blk b7 [.slice (some ⟨bl,ol,none⟩) l.bms.length lc,.slice TA x.r.sigs.length tc,.slice SA x.r.sigs.length sc],.blk b3 [.int .i64 x.r.start,.int .i64 x.r.now,.slice x.A x.r.sigs.length x.c],.blk b2 (zAH l)]) (fun _ h=>(Own.zEk c' (l:=[]) (A:=A') (xs:=zAz (krd l x.r) 0 pre) (H:=[.row zA3 3 124 (.slice A9 1 c9) [⟨⟨RA,pre.map (·.sig),rc⟩,⟨FA,zAQ (krd l x.r) pre,fc⟩,⟨A',zAz (krd l x.r) 0 pre,c'⟩⟩],.blk b7 [.slice (some ⟨bl,ol,none⟩) l.bms.length lc,.slice TA x.r.sigs.length tc,.slice SA x.r.sigs.length sc],.blk b3 [.int .i64 x.r.start,.int .i64 x.r.now,.slice x.A x.r.sigs.length x.c],.blk b2 (zAH l)]) ((Own.zCa h).sub (by unfold zAH;(repeat constructor)))).sub (by (repeat constructor))) ?_
    exact U.sub (by (try simp only [e15]);(repeat first|exact lK1|refine zT rfl ?_)) (by (repeat constructor)) (key (.slice A9 1 c9,[⟨⟨RA,pre.map (·.sig),rc⟩,⟨FA,zAQ (krd l x.r) pre,fc⟩,⟨A',zAz (krd l x.r) 0 pre,c'⟩⟩],[⟨A',zAz (krd l x.r) 0 pre,c'⟩]) ⟨by rw [if_pos hfk];exact .cons ⟨rfl,rfl,rfl⟩ .nil,fun y hy s hs=>by
     simp only [List.mem_singleton] at hy;subst hy
     simp only [List.mem_cons,List.not_mem_nil,or_false] at hs
     rcases hs with rfl|rfl|rfl
     ·exact .inr (.inl rfl)
     ·exact .inr (.inr rfl)
     ·exact .inl (List.mem_singleton.2 rfl)⟩)
   ·(repeat' (first|((with_reducible refine zG ?_);first|refine zD rfl rfl rfl ?_|refine zC rfl rfl rfl ?_|(refine zJ rfl rfl rfl ?_;refine ⟨_,rfl,?_⟩)|refine zL rfl rfl rfl ?_|(refine zS rfl rfl rfl rfl rfl (fun h=>?_) (fun h=>?_)<;>(dsimp only [cmpP] at h;(try (exfalso;omega))))|refine zAc rfl rfl rfl rfl (IntWalk.i64_in _ (by omega)) ?_|refine zn rfl rfl rfl ?_)|(with_reducible first|refine zI ?_|refine zB ?_|refine zE ?_|refine zA ?_|refine zR ?_|refine zz ?_|refine zZ ?_|refine ze ?_)|((with_reducible refine zH ?_ ?_);(· exact rfl))|((with_reducible refine zF ?_ ?_);(· exact rfl))))
    rw [hFA]
    (repeat' (first|((with_reducible refine zG ?_);first|refine zD rfl rfl rfl ?_|refine zC rfl rfl rfl ?_|(refine zJ rfl rfl rfl ?_;refine ⟨_,rfl,?_⟩)|refine zL rfl rfl rfl ?_|refine zo (I:=pre.length - 1) rfl rfl rfl rfl (by omega) (by omega) ?_|refine zo (I:=pre.length) rfl rfl rfl rfl rfl (by omega) ?_|refine zBp rfl rfl rfl rfl (IntWalk.i64_in _ (by omega)) ?_)|(with_reducible first|refine zI ?_|refine zB ?_|refine zE ?_|refine zA ?_|refine zQ ?_)))
    rw [← hFA]
    have e15:X=X:=rfl
    refine zBF (H':=[.row zA3 3 124 (.slice none 0 0) [],.rows [],.blk b7 [.slice (some ⟨bl,ol,none⟩) l.bms.length lc,.slice TA x.r.sigs.length tc,.slice SA x.r.sigs.length sc],.blk b3 [.int .i64 x.r.start,.int .i64 x.r.now,.slice x.A x.r.sigs.length x.c],.blk b2 (zAH l)]) (fun _ h=>(Own.zCa h).sub (by unfold zAH;(repeat constructor))) ?_
    exact U.sub (by (try simp only [e15]);(repeat first|exact lK1|refine zT rfl ?_)) (by (repeat constructor)) (key (.slice none 0 0,[],[]) ⟨by rw [if_neg hfk];exact .nil,fun y hy=>by cases hy⟩)
  ·by_cases hfk:(x.r.sigs.length:Int) - (zBH pre).right≤l.fakes
   ·have e15:X=x.r.start:=by rw [hX,show pre=[] from List.length_eq_zero_iff.1 (by omega)];rfl
    (repeat' (first|((with_reducible refine zG ?_);first|refine zD rfl rfl rfl ?_|refine zC rfl rfl rfl ?_|(refine zJ rfl rfl rfl ?_;refine ⟨_,rfl,?_⟩)|refine zL rfl rfl rfl ?_|(refine zS rfl rfl rfl rfl rfl (fun h=>?_) (fun h=>?_)<;>(dsimp only [cmpP] at h;(try (exfalso;omega))))|refine zCf rfl rfl rfl rfl (fun _ _ q=>hla _ q.below) (fun A' c'=>?_)|(refine zB6 (enc:=zA3) [⟨⟨RA,pre.map (·.sig),rc⟩,⟨FA,zAQ (krd l x.r) pre,fc⟩,⟨A',zAz (krd l x.r) 0 pre,c'⟩⟩] rfl rfl rfl (by (repeat constructor)) rfl rfl (zAF (enc:=zA3) (by simp only [zA3,List.length_map,zDH];exact rfl)) ⟨by simp,by decide⟩ (fun A9 c9=>?_))|refine zo (I:=pre.length) rfl rfl rfl rfl rfl (by omega) ?_|refine zBp rfl rfl rfl rfl (IntWalk.i64_in _ (by omega)) ?_|refine zAc rfl rfl rfl rfl (IntWalk.i64_in _ (by omega)) ?_|refine zn rfl rfl rfl ?_|(refine zAZ rfl rfl rfl ?_;refine ⟨_,rfl,?_⟩)|(refine zi rfl rfl rfl ?_;refine ⟨rfl,_,rfl,fun b=>?_⟩))|(with_reducible first|refine zI ?_|refine zB ?_|refine zE ?_|refine zA ?_|refine zR ?_|refine zQ ?_|refine zz ?_|refine zZ ?_|refine ze ?_)|((with_reducible refine zH ?_ ?_);(· exact rfl))|((with_reducible refine zF ?_ ?_);(· exact rfl))))
    refine zBF (H':=[.row zA3 3 124 (.slice A9 1 c9) [⟨⟨RA,pre.map (·.sig),rc⟩,⟨FA,zAQ (krd l x.r) pre,fc⟩,⟨A',zAz (krd l x.r) 0 pre,c'⟩⟩],.rows [⟨A',zAz (krd l x.r) 0 pre,c'⟩],.blk b7 [.slice (some ⟨bl,ol,none⟩) l.bms.length lc,.slice TA x.r.sigs.length tc,.slice SA x.r.sigs.length sc],.blk b3 [.int .i64 x.r.start,.int .i64 x.r.now,.slice x.A x.r.sigs.length x.c],.blk b2 (zAH l)]) (fun _ h=>(Own.zEk c' (l:=[]) (A:=A') (xs:=zAz (krd l x.r) 0 pre) (H:=[.row zA3 3 124 (.slice A9 1 c9) [⟨⟨RA,pre.map (·.sig),rc⟩,⟨FA,zAQ (krd l x.r) pre,fc⟩,⟨A',zAz (krd l x.r) 0 pre,c'⟩⟩],.blk b7 [.slice (some ⟨bl,ol,none⟩) l.bms.length lc,.slice TA x.r.sigs.length tc,.slice SA x.r.sigs.length sc],.blk b3 [.int .i64 x.r.start,.int .i64 x.r.now,.slice x.A x.r.sigs.length x.c],.blk b2 (zAH l)]) ((Own.zCa h).sub (by unfold zAH;(repeat constructor)))).sub (by (repeat constructor))) ?_
    exact U.sub (by (try simp only [e15]);(repeat first|exact lK1|refine zT rfl ?_)) (by (repeat constructor)) (key (.slice A9 1 c9,[⟨⟨RA,pre.map (·.sig),rc⟩,⟨FA,zAQ (krd l x.r) pre,fc⟩,⟨A',zAz (krd l x.r) 0 pre,c'⟩⟩],[⟨A',zAz (krd l x.r) 0 pre,c'⟩]) ⟨by rw [if_pos hfk];exact .cons ⟨rfl,rfl,rfl⟩ .nil,fun y hy s hs=>by
     simp only [List.mem_singleton] at hy;subst hy
     simp only [List.mem_cons,List.not_mem_nil,or_false] at hs
     rcases hs with rfl|rfl|rfl
     ·exact .inr (.inl rfl)
     ·exact .inr (.inr rfl)
     ·exact .inl (List.mem_singleton.2 rfl)⟩)
   ·have e15:X=x.r.start:=by rw [hX,show pre=[] from List.length_eq_zero_iff.1 (by omega)];rfl
    (repeat' (first|((with_reducible refine zG ?_);first|refine zD rfl rfl rfl ?_|refine zC rfl rfl rfl ?_|(refine zJ rfl rfl rfl ?_;refine ⟨_,rfl,?_⟩)|refine zL rfl rfl rfl ?_|(refine zS rfl rfl rfl rfl rfl (fun h=>?_) (fun h=>?_)<;>(dsimp only [cmpP] at h;(try (exfalso;omega))))|refine zo (I:=pre.length) rfl rfl rfl rfl rfl (by omega) ?_|refine zBp rfl rfl rfl rfl (IntWalk.i64_in _ (by omega)) ?_|refine zAc rfl rfl rfl rfl (IntWalk.i64_in _ (by omega)) ?_|refine zn rfl rfl rfl ?_)|(with_reducible first|refine zI ?_|refine zB ?_|refine zE ?_|refine zA ?_|refine zR ?_|refine zQ ?_|refine zz ?_|refine zZ ?_|refine ze ?_)|((with_reducible refine zF ?_ ?_);(· exact rfl))))
    refine zBF (H':=[.row zA3 3 124 (.slice none 0 0) [],.rows [],.blk b7 [.slice (some ⟨bl,ol,none⟩) l.bms.length lc,.slice TA x.r.sigs.length tc,.slice SA x.r.sigs.length sc],.blk b3 [.int .i64 x.r.start,.int .i64 x.r.now,.slice x.A x.r.sigs.length x.c],.blk b2 (zAH l)]) (fun _ h=>(Own.zCa h).sub (by unfold zAH;(repeat constructor))) ?_
    exact U.sub (by (try simp only [e15]);(repeat first|exact lK1|refine zT rfl ?_)) (by (repeat constructor)) (key (.slice none 0 0,[],[]) ⟨by rw [if_neg hfk];exact .nil,fun y hy=>by cases hy⟩)
 ·rintro ⟨v0,xs0,own0⟩ ⟨hw0,hm0⟩
  simp only at hw0 hm0 ⊢
  obtain ⟨F,hF0⟩:∃ F:Opn→List (List Opn),F=fun o=>if zAi (krd l x.r) pre.length X o≤min o.hi (krd l x.r).now then zCJ (krd l x.r) g (pre++[o]) (zAi (krd l x.r) pre.length X o) else []:=⟨_,rfl⟩
  obtain ⟨pl,hpl⟩:∃ pl:List (List Opn),pl=if (x.r.sigs.length:Int) - (zBH pre).right≤l.fakes then [pre] else []:=⟨_,rfl⟩
  have hW:zCJ (krd l x.r) (g+1) pre X=pl++((krd l x.r).opts pre.length).flatMap F:=by rw [hpl,hF0];exact zGw hms hz
  rw [← hpl] at hw0
  refine zAB (ι:=Nat × Value × List WyM × List Sli) [3,4,5,6,7,10,12,15] rfl (fun q=>q.1≤x.r.sigs.length+1∧zBS (krd l x.r) q.2.2.1 (pl++(zBs l x.r pre.length q.1).flatMap F)∧∀ y∈q.2.2.1,∀ s∈[y.R,y.F,y.L],s∈q.2.2.2∨s=⟨RA,pre.map (·.sig),rc⟩∨s=⟨FA,zAQ (krd l x.r) pre,fc⟩) (fun q=>[(16,.int .i64 ((q.1:Int) - 1)),(11,q.2.1)]) (fun q=>[.row zA3 3 124 q.2.1 q.2.2.1,.rows q.2.2.2,.blk b7 [.slice (some ⟨bl,ol,none⟩) l.bms.length lc,.slice TA x.r.sigs.length tc,.slice SA x.r.sigs.length sc],.blk b3 [.int .i64 x.r.start,.int .i64 x.r.now,.slice x.A x.r.sigs.length x.c],.blk b2 (zAH l)]) (fun q=>x.r.sigs.length+1 - q.1) (0,v0,xs0,own0) ⟨Nat.zero_le _,by simpa [zBs] using hw0,hm0⟩ (by (repeat first|exact lK1|refine zT rfl ?_)) (by (repeat constructor)) ?_
  rintro ⟨i,v,xs,own⟩ ⟨hi,hWA,hM⟩
  simp only at hi hWA hM
  simp only [zAk,List.cons_append,List.nil_append]
  by_cases hil:i<x.r.sigs.length+1
  ·(repeat' (first|((with_reducible refine zG ?_);first|refine zD rfl rfl rfl ?_|(refine zJ rfl rfl rfl ?_;refine ⟨_,rfl,?_⟩)|refine zL rfl rfl rfl ?_|(refine zS rfl rfl rfl rfl rfl (fun h=>?_) (fun h=>?_)<;>(dsimp only [cmpP] at h;(try (exfalso;omega))))|refine zn rfl rfl rfl ?_)|(with_reducible first|refine zI ?_|refine zB ?_|refine zE ?_|refine zA ?_|refine zR ?_|refine zQ ?_)|((with_reducible refine zH ?_ ?_);(· exact rfl))))
   apply meet (ι:=Opn) (fun o=>OpT l x.r o∧zBs l x.r pre.length (i+1)=zBs l x.r pre.length i++[o]∧o.sig=(i:Int) - 1∧max (X+zAY l pre.length) o.lo≤min x.r.now o.hi) (fun o=>[(16,.int .i64 ((i:Int) - 1)),(11,v),(17,.int .i64 (max (X+zAY l pre.length) o.lo)),(18,.int .i64 (min x.r.now o.hi)),(3,.slice RA pre.length rc),(4,.slice FA pre.length fc),(5,.pointer (some ⟨b2,0,none⟩)),(6,.pointer (some ⟨b3,0,none⟩)),(7,.pointer (some ⟨b7,0,none⟩)),(10,.slice none 0 0),(12,.int .i64 (pre.length:Int)),(15,.int .i64 (X+zAY l pre.length))]) (fun o=>[.row zA3 3 124 v xs,.rows own,.blk b7 [.slice (some ⟨bl,ol,none⟩) l.bms.length lc,.slice TA x.r.sigs.length tc,.slice SA x.r.sigs.length sc],.blk b3 [.int .i64 x.r.start,.int .i64 x.r.now,.slice x.A x.r.sigs.length x.c],.blk b2 (zAH l)])
   ·intro key
    unfold zAH at key ⊢
    have hFo:∀ o,zBs l x.r pre.length (i+1)=zBs l x.r pre.length i++[o]→¬ max (X+zAY l pre.length) o.lo≤min x.r.now o.hi→zBS (krd l x.r) xs (pl++(zBs l x.r pre.length (i+1)).flatMap F):=fun o h1 h2=>by
     rw [h1,List.flatMap_append,List.flatMap_singleton,show F o=[] by rw [hF0];exact if_neg (fun h3=>h2 (Int.min_comm _ _ ▸ h3)),List.append_nil]
     exact hWA
    rcases Nat.eq_zero_or_pos i with hi0|hi0
    ·have e0:zBs l x.r pre.length (i+1)=zBs l x.r pre.length i++[⟨-1,x.r.start,x.r.now⟩]:=by rw [hi0];exact zKc _ _ _
     have em:max (X+zAY l pre.length) x.r.start=X+zAY l pre.length:=by omega
     have em2:min x.r.now x.r.now=x.r.now:=by omega
     (refine zAD (by kernel_rfl) (by kernel_rfl) (by kernel_rfl) ?_)
     (repeat' (first|((with_reducible refine zAP ?_);first|refine zM (zl rfl rfl) rfl ?_|refine zM (zW rfl rfl (by exact rfl)) rfl ?_|refine zM (zY rfl rfl) rfl ?_|refine zM (zt rfl rfl) rfl ?_)|(with_reducible refine zAe ?_)))
     (repeat' (first|((with_reducible refine zG ?_);first|refine zD rfl rfl rfl ?_|refine zC rfl rfl rfl ?_|(refine zS rfl rfl rfl rfl rfl (fun h=>?_) (fun h=>?_)<;>(dsimp only [cmpP] at h;(try (exfalso;omega))))|refine zBp rfl rfl rfl rfl (IntWalk.i64_in _ (by omega)) ?_)|(with_reducible first|refine zI ?_|refine zB ?_|refine zE ?_|refine zA ?_|refine zR ?_|refine zj ?_)|((with_reducible refine zH ?_ ?_);(· exact rfl))|((with_reducible refine zF ?_ ?_);(· exact rfl))))
     all_goals first|exact U.sub (by (try simp only [em,em2]);(repeat first|exact lK1|refine zT rfl ?_)) (by (repeat constructor)) (key ⟨-1,x.r.start,x.r.now⟩ ⟨.inl ⟨rfl,rfl,rfl⟩,e0,by simp only;omega,by simp only;omega⟩)|exact zd (ι:=Nat × Value × List WyM × List Sli) (i+1,v,xs,own) ⟨by simp only;omega,hFo ⟨-1,x.r.start,x.r.now⟩ e0 (by simp only;omega),hM⟩ (by simp only;omega) (by simp only [show ((i+1:Nat):Int) - 1=(i:Int) - 1+1 by omega];(repeat first|exact lK1|refine zT rfl ?_)) (by (repeat constructor))
    ·obtain ⟨j,hj⟩:∃ j,j=i - 1:=⟨_,rfl⟩
     obtain ⟨s,hx⟩:∃ s,x.r.sigs[j]?=some s:=⟨_,List.getElem?_eq_getElem (by omega)⟩
     obtain ⟨bs,os_,hSA,hbs,hcs⟩:=hSg.at_ (show j<x.r.sigs.length by omega)
     obtain ⟨bt,ot,hTA,hbt,hct⟩:=hT.at_ (show j<(zBX l x.r x.r.sigs.length).length by rw [zEg (Nat.le_refl _)];omega)
     obtain ⟨bo,oo,hOA,hbo,hco⟩:=hS.at_ (show j<(zCu l x.r x.r.sigs.length).length by rw [zG7 (Nat.le_refl _)];omega)
     have hSg':=hSg;have hT':=hT;have hS':=hS
     rw [hSA] at hSg';rw [hTA] at hT';rw [hOA] at hS'
     have:InS w bs os_ zAw 2 x.r.sigs:=⟨hSg'⟩
     have:InS w bt ot zAr 2 (zBX l x.r x.r.sigs.length):=⟨hT'⟩
     have:InS w bo oo zDk 1 (zCu l x.r x.r.sigs.length):=⟨hS'⟩
     have:zAT x.r.sigs j s:=⟨hx⟩
     have:zAT (zBX l x.r x.r.sigs.length) j (zAm l s):=⟨by unfold zBX;rw [List.take_length,List.getElem?_map,hx];rfl⟩
     have:zAT (zCu l x.r x.r.sigs.length) j (decide ((zAm l s).lo≤(zAm l s).hi)):=⟨by unfold zCu;rw [List.take_length,List.getElem?_map,hx];rfl⟩
     have hopt:=zJc (l:=l) (b:=pre.length) hx
     rw [show j+2=i+1 by omega,show j+1=i by omega] at hopt
     have ej:(i:Int) - 1=(j:Int):=by omega
     have hwin:=zEc l s
     have hOT:OpT l x.r ⟨j,(zAm l s).lo,(zAm l s).hi⟩:=.inr ⟨j,s,hx,rfl,rfl,rfl⟩
     rw [hSA,hTA,hOA] at key ⊢
     generalize hws:zAm l s=ws at *
     by_cases hb:s.beam=(pre.length:Int)
     ·by_cases hsm:ws.lo≤ws.hi
      ·rw [if_pos ⟨hb,hsm⟩] at hopt
       rw [decide_eq_true hsm] at *
       (refine zAD (by kernel_rfl) (by kernel_rfl) (by kernel_rfl) ?_)
       (repeat' (first|((with_reducible refine zAP ?_);first|refine zM (zl rfl rfl) rfl ?_|refine zM (zW rfl rfl (by exact rfl)) rfl ?_|refine zM (zY rfl rfl) rfl ?_|refine zM (zt rfl rfl) rfl ?_)|(with_reducible refine zAe ?_)))
       (repeat' (first|((with_reducible refine zG ?_);first|refine zD rfl rfl rfl ?_|(refine zJ rfl rfl rfl ?_;refine ⟨_,rfl,?_⟩)|refine zL rfl rfl rfl ?_|refine z7 rfl rfl rfl rfl ?_|(refine zS rfl rfl rfl rfl rfl (fun h=>?_) (fun h=>?_)<;>(dsimp only [cmpP] at h;(try (exfalso;omega))))|refine zo (I:=j) rfl rfl rfl rfl (by omega) (by omega) ?_|refine zAI rfl rfl rfl ?_)|(with_reducible first|refine zI ?_|refine zB ?_|refine zE ?_|refine zA ?_|refine zR ?_)|((with_reducible refine zH ?_ ?_);(· exact rfl))|((with_reducible refine zF ?_ ?_);(· exact rfl))))
       (refine zAD (by kernel_rfl) (by kernel_rfl) (by kernel_rfl) ?_)
       (repeat' (first|((with_reducible refine zAP ?_);first|refine zM (zl rfl rfl) rfl ?_|refine zM (zW rfl rfl (by exact rfl)) rfl ?_|refine zM (zY rfl rfl) rfl ?_|refine zM (zt rfl rfl) rfl ?_|refine zM (zw (I:=j) rfl rfl rfl (by omega) (by first|omega|(dsimp only;omega))) rfl ?_|refine zM (zGZ rfl rfl rfl) rfl ?_|refine zM (e_max rfl rfl rfl) rfl ?_)|(with_reducible refine zAe ?_)))
       all_goals (repeat' (first|((with_reducible refine zG ?_);first|refine zD rfl rfl rfl ?_|refine zC rfl rfl rfl ?_|(refine zS rfl rfl rfl rfl rfl (fun h=>?_) (fun h=>?_)<;>(dsimp only [cmpP] at h;(try (exfalso;omega))))|refine zBp rfl rfl rfl rfl (IntWalk.i64_in _ (by omega)) ?_)|(with_reducible first|refine zI ?_|refine zB ?_|refine zE ?_|refine zA ?_|refine zR ?_|refine zj ?_)|((with_reducible refine zH ?_ ?_);(· exact rfl))|((with_reducible refine zF ?_ ?_);(· exact rfl))))
       all_goals first|exact U.sub (by (repeat first|exact lK1|refine zT rfl ?_)) (by (repeat constructor)) (key ⟨j,ws.lo,ws.hi⟩ ⟨hOT,hopt,by simp only;try omega,by simp only;omega⟩)|exact zd (ι:=Nat × Value × List WyM × List Sli) (i+1,v,xs,own) ⟨by simp only;omega,hFo ⟨j,ws.lo,ws.hi⟩ hopt (by simp only;omega),hM⟩ (by simp only;omega) (by simp only [show ((i+1:Nat):Int) - 1=(i:Int) - 1+1 by omega];(repeat first|exact lK1|refine zT rfl ?_)) (by (repeat constructor))
      ·rw [if_neg (fun h9=>hsm h9.2),List.append_nil] at hopt
       rw [decide_eq_false hsm] at *
       (refine zAD (by kernel_rfl) (by kernel_rfl) (by kernel_rfl) ?_)
       (repeat' (first|((with_reducible refine zAP ?_);first|refine zM (zl rfl rfl) rfl ?_|refine zM (zW rfl rfl (by exact rfl)) rfl ?_|refine zM (zY rfl rfl) rfl ?_|refine zM (zt rfl rfl) rfl ?_)|(with_reducible refine zAe ?_)))
       (repeat' (first|((with_reducible refine zG ?_);first|refine zD rfl rfl rfl ?_|refine zC rfl rfl rfl ?_|(refine zJ rfl rfl rfl ?_;refine ⟨_,rfl,?_⟩)|refine zL rfl rfl rfl ?_|refine z7 rfl rfl rfl rfl ?_|(refine zS rfl rfl rfl rfl rfl (fun h=>?_) (fun h=>?_)<;>(dsimp only [cmpP] at h;(try (exfalso;omega))))|refine zo (I:=j) rfl rfl rfl rfl (by omega) (by omega) ?_|refine zAI rfl rfl rfl ?_|refine zBp rfl rfl rfl rfl (IntWalk.i64_in _ (by omega)) ?_)|(with_reducible first|refine zI ?_|refine zB ?_|refine zE ?_|refine zA ?_|refine zz ?_|refine zZ ?_|refine ze ?_)|((with_reducible refine zH ?_ ?_);(· exact rfl))))
       all_goals first|exact zd (ι:=Nat × Value × List WyM × List Sli) (i+1,v,xs,own) ⟨by simp only;omega,by simp only;rw [hopt];exact hWA,hM⟩ (by simp only;omega) (by simp only [show ((i+1:Nat):Int) - 1=(i:Int) - 1+1 by omega];(repeat first|exact lK1|refine zT rfl ?_)) (by (repeat constructor))|(exfalso;omega)
     ·rw [if_neg (fun h9=>hb h9.1),List.append_nil] at hopt
      (refine zAD (by kernel_rfl) (by kernel_rfl) (by kernel_rfl) ?_)
      (repeat' (first|((with_reducible refine zAP ?_);first|refine zM (zl rfl rfl) rfl ?_|refine zM (zW rfl rfl (by exact rfl)) rfl ?_|refine zM (zY rfl rfl) rfl ?_|refine zM (zt rfl rfl) rfl ?_)|(with_reducible refine zAe ?_)))
      (repeat' (first|((with_reducible refine zG ?_);first|refine zD rfl rfl rfl ?_|refine zC rfl rfl rfl ?_|(refine zJ rfl rfl rfl ?_;refine ⟨_,rfl,?_⟩)|refine zL rfl rfl rfl ?_|refine z7 rfl rfl rfl rfl ?_|refine zf rfl rfl rfl ?_|(refine zS rfl rfl rfl rfl rfl (fun h=>?_) (fun h=>?_)<;>(dsimp only [cmpP] at h;(try (exfalso;omega))))|refine zo (I:=j) rfl rfl rfl rfl (by omega) (by omega) ?_|refine zBp rfl rfl rfl rfl (IntWalk.i64_in _ (by omega)) ?_)|(with_reducible first|refine zI ?_|refine zB ?_|refine zE ?_|refine zA ?_|refine zz ?_|refine zZ ?_|refine ze ?_)|((with_reducible refine zH ?_ ?_);(· exact rfl))))
      all_goals first|exact zd (ι:=Nat × Value × List WyM × List Sli) (i+1,v,xs,own) ⟨by simp only;omega,by simp only;rw [hopt];exact hWA,hM⟩ (by simp only;omega) (by simp only [show ((i+1:Nat):Int) - 1=(i:Int) - 1+1 by omega];(repeat first|exact lK1|refine zT rfl ?_)) (by (repeat constructor))|(exfalso;omega)
   ·rintro o ⟨hOT,hopt,hsig,hle⟩
    unfold zAH
    have hfi:=zJv (k:=krd l x.r) (pre:=pre) (o:=o)
    have hst:zAi (krd l x.r) pre.length X o=max (X+zAY l pre.length) o.lo:=rfl
    have hlx:zA2 (krd l x.r) 0 x.r.start (pre++[o])=max (X+zAY l pre.length) o.lo:=by rw [zB4,← hX,Nat.zero_add];rfl
    rw [show (krd l x.r).start=x.r.start from rfl,← hX,hst] at hfi
    have hFo:F o=zCJ (krd l x.r) g (pre++[o]) (max (X+zAY l pre.length) o.lo):=by rw [hF0];simp only [hst];exact if_pos (by rw [Int.min_comm];exact hle)
    have hwl:=zFy l x.r g (pre++[o]) (max (X+zAY l pre.length) o.lo) (by simp;omega)
    have hwl2:(zCJ (krd l x.r) g (pre++[o]) (max (X+zAY l pre.length) o.lo)).length≤8000:=by
     have h1:=zHS x.r (pre++[o]).length
     have h2:2 ^ zDP x.r (pre++[o]).length≤2 ^ 10:=Nat.pow_le_pow_right (by decide) (by omega)
     have h3:=Nat.mul_le_mul (show g+1≤7 by omega) h2
     omega
    rw [← hFo] at hwl2
    have hxl:xs.length≤500000:=by
     rw [hWA.len,List.length_append]
     have h1:=zEq (F:=F) (m:=8000) (zBs l x.r pre.length i) (fun o' _=>by
      rw [hF0]
      simp only
      split
      ·have q1:=zFy l x.r g (pre++[o']) (zAi (krd l x.r) pre.length X o') (by simp;omega)
       have h1:=zHS x.r (pre++[o']).length
       have h2:2 ^ zDP x.r (pre++[o']).length≤2 ^ 10:=Nat.pow_le_pow_right (by decide) (by omega)
       have h3:=Nat.mul_le_mul (show g+1≤7 by omega) h2
       omega
      ·exact Nat.zero_le _)
     have h2:=zHJ l x.r pre.length i
     have h3:atB x.r pre.length≤x.r.sigs.length:=List.countP_le_length
     have h4:pl.length≤1:=by rw [hpl];split<;>simp
     have h5:=Nat.mul_le_mul (show (zBs l x.r pre.length i).length≤11 by omega) (Nat.le_refl 8000)
     omega
    have hfl:=zDH (k:=krd l x.r) (os:=pre)
    have hcall:=fun W RA' rc' FA' fc' n1 n2 (hW:Below w.heap.size w W) (e1:n1=pre.length+1) (e2:n2=pre.length+1) (q1:zAC encI 1 W RA' (([]++pre.map (·.sig))++[(i:Int) - 1])) (q2:zAC encI 1 W FA' (([]++zAQ (krd l x.r) pre)++[max (X+zAY l pre.length) o.lo]))=>(show Ret Tryz.prog 55 [.agg #[.slice l.TA l.t.length l.tc,.int .i64 l.fast,.slice l.CA l.cks.length l.cc,.slice l.BA l.bms.length l.bc,.int .i64 l.finish,.int .i64 l.fakes,.int .i64 l.misses],.agg #[.int .i64 x.r.start,.int .i64 x.r.now,.slice x.A x.r.sigs.length x.c],.agg #[.slice (some ⟨bl,ol,none⟩) l.bms.length lc,.slice TA x.r.sigs.length tc,.slice SA x.r.sigs.length sc],.slice RA' n1 rc',.slice FA' n2 fc'] W (fun z:(Option Addr × Nat) × List WyM × List Sli=>.slice z.1.1 z.2.1.length z.1.2) (fun z=>[.sl zA3 3 z.1.1 z.2.1,.rows z.2.2]) (fun z=>zBS (krd l x.r) z.2.1 (F o)∧∀ y∈z.2.1,∀ s∈[y.R,y.F,y.L],s∈z.2.2∨s=⟨RA',([]++pre.map (·.sig))++[(i:Int) - 1],rc'⟩∨s=⟨FA',([]++zAQ (krd l x.r) pre)++[max (X+zAY l pre.length) o.lo],fc'⟩) from by
     have eR:([]++pre.map (·.sig))++[(i:Int) - 1]=(pre++[o]).map (·.sig):=by simp [hsig]
     have eF:([]++zAQ (krd l x.r) pre)++[max (X+zAY l pre.length) o.lo]=zAQ (krd l x.r) (pre++[o]):=by rw [hfi,List.nil_append]
     rw [eR] at q1 ⊢
     rw [eF] at q2 ⊢
     have h:=IH g (by omega) (pre++[o]) RA' FA' rc' fc' W (by simp;omega) (fun o' ho'=>by
      rcases List.mem_append.1 ho' with h|h
      ·exact ho o' h
      ·rw [List.mem_singleton.1 h];exact hOT) (hLn.below hW) (hSg.below hW) (hL.below hW) (hT.below hW) (hS.below hW) q1 q2 (by rw [hlx];omega) (by rw [hlx];omega)
     unfold vLn vRd at h
     rw [hLA,hlx,← hFo,List.length_append,List.length_singleton] at h
     subst e1 e2
     exact h)
    have k1:pre.length=(pre.map (·.sig)).length:=by rw [List.length_map]
    have k2:pre.length=(zAQ (krd l x.r) pre).length:=hfl.symm
    generalize hFF:F o=Fo at *
    (refine z9 [(4,6),(6,9),(10,12),(12,15)] [(17,0,0,[.row zA3 3 124 v xs])] [(17,0,0)] rfl (show ([17]:List Nat).Nodup by decide) (H0:=[.rows own,.blk b7 [.slice (some ⟨bl,ol,none⟩) l.bms.length lc,.slice TA x.r.sigs.length tc,.slice SA x.r.sigs.length sc],.blk b3 [.int .i64 x.r.start,.int .i64 x.r.now,.slice x.A x.r.sigs.length x.c],.blk b2 [.slice l.TA l.t.length l.tc,.int .i64 l.fast,.slice l.CA l.cks.length l.cc,.slice l.BA l.bms.length l.bc,.int .i64 l.finish,.int .i64 l.fakes,.int .i64 l.misses]]) (fun _ h=>h.sub (by (repeat constructor))) (by kernel_rfl) [[],[Y],[Y,Y],[Y,Y,Y],[Y,Y,Y,Y],[Y,Y,Y,Y,Y],[Z,Z,Y,Y,Y,Y],[Y,Y,Y,Y,Y,Y,Y],[Z,Y,Y,Y,Y,Y,Y,Y],[Z,Z,Z,Z,Z,Y,Y,Y,Y],[Y,Y,Y,Y,Y,Y,Y,Y,Y,Y],[Y,Y,Y,Y,Y,Y,Y,Y,Y,Y,Y],[Z,Z,Z,Z,Z,Z,Z,Z,Y,Y,Y,Y],[Y,Y,Y,Y,Y,Y,Y,Y,Y,Y,Y,Y,Y],[Z,Y,Y,Y,Y,Y,Y,Y,Y,Y,Y,Y,Y,Y],[Z,Z,Z,Z,Z,Z,Z,Z,Z,Z,Z,Y,Y,Y,Y],[Z,Z,Z,Z,Z,Z,Z,Z,Z,Z,Z,Z,Z,Z,Z,Y],[Z,Z,Z,Z,Z,Z,Z,Z,Z,Z,Z,Z,Z,Z,Z,Z,Z],[Z,Z,Z,Z,Z,Z,Z,Z,Z,Z,Z,Z,Z,Z,Z,Z,Z,Z]] (by kernel_rfl) (by kernel_rfl) (by kernel_rfl) (by kernel_rfl) (by kernel_rfl) ?_)
    (repeat' (first|(((with_reducible refine zA0 ?_ ?_);(· exact rfl);refine ⟨_,fun G=>(by (try simp (decide:=true) only [vis,see,fltT,zq,Nat.reduceAdd,Nat.reduceSub,if_true,if_false,List.set_cons_zero,List.set_cons_succ,List.set_nil,List.nil_append,List.cons_append]);rfl),?_⟩);first|refine zN _ (fun _=>zl rfl rfl) (fun _=>rfl) rfl (by intro G G' h;simp (decide:=true) only [h]) ?_|refine zN _ (fun _=>zW rfl rfl (by exact rfl)) (fun _=>rfl) rfl (by intro G G' h;simp (decide:=true) only [h]) ?_|refine zN _ (fun _=>zt rfl rfl) (fun _=>rfl) rfl (by intro G G' h;simp (decide:=true) only [h]) ?_|refine zK0 encI rfl (fun _=>rfl) rfl ?_|(refine c_retL (α:=(Option Addr × Nat) × List WyM × List Sli) rfl (fun _=>rfl) rfl (fun _=>rfl) (fun _=>rfl) (fun G _ _ q=>hcall _ _ _ _ _ _ _ q.below (by simp) (by simp;omega) (row_at q.own (by (repeat constructor))) (row_at q.own (by (repeat constructor)))) (by intro G G' h;simp (decide:=true) only [h]) ?_)|refine zB5 rfl (fun _=>rfl) rfl (fun _=>rfl) (by exact rfl) (by exact fun _=>rfl) (by intro G G' h;simp (decide:=true) only [h]) ?_)|(refine zFA (enc:=encI) (xs:=[]) (pre.map (·.sig)) 4 (by decide) rfl rfl (fun _=>rfl) rfl (fun _=>rfl) (fun _=>rfl) (fun _=>rfl) k1 (fun G=>(by (try simp (decide:=true) only [vis,see,fltT,zq,Nat.reduceAdd,Nat.reduceSub,if_true,if_false,List.set_cons_zero,List.set_cons_succ,List.set_nil,List.nil_append,List.cons_append]);rfl)) (fun _=>src_in hR) ⟨by simp;omega,by decide⟩ ?_)|(refine zFA (enc:=encI) (xs:=[]++pre.map (·.sig)) [(i:Int) - 1] 6 (by decide) rfl rfl (fun _=>rfl) rfl (fun _=>rfl) (fun _=>rfl) (fun _=>rfl) rfl (fun G=>(by (try simp (decide:=true) only [vis,see,fltT,zq,Nat.reduceAdd,Nat.reduceSub,if_true,if_false,List.set_cons_zero,List.set_cons_succ,List.set_nil,List.nil_append,List.cons_append]);rfl)) (fun _ W hW h=>zAF (enc:=encI) (by exact rfl) W hW h) ⟨by simp;omega,by decide⟩ ?_)|(refine zFA (enc:=encI) (xs:=[]) (zAQ (krd l x.r) pre) 10 (by decide) rfl rfl (fun _=>rfl) rfl (fun _=>rfl) (fun _=>rfl) (fun _=>rfl) k2 (fun G=>(by (try simp (decide:=true) only [vis,see,fltT,zq,Nat.reduceAdd,Nat.reduceSub,if_true,if_false,List.set_cons_zero,List.set_cons_succ,List.set_nil,List.nil_append,List.cons_append]);rfl)) (fun _=>src_in hF) ⟨by simp;omega,by decide⟩ ?_)|(refine zFA (enc:=encI) (xs:=[]++zAQ (krd l x.r) pre) [max (X+zAY l pre.length) o.lo] 12 (by decide) rfl rfl (fun _=>rfl) rfl (fun _=>rfl) (fun _=>rfl) (fun _=>rfl) rfl (fun G=>(by (try simp (decide:=true) only [vis,see,fltT,zq,Nat.reduceAdd,Nat.reduceSub,if_true,if_false,List.set_cons_zero,List.set_cons_succ,List.set_nil,List.nil_append,List.cons_append]);rfl)) (fun _ W hW h=>zAF (enc:=encI) (by exact rfl) W hW h) ⟨by simp;omega,by decide⟩ ?_)|(refine zK1 (enc:=zA3) (xs:=xs) (vx:=v) (fun G=>(deC ((Option Addr × Nat) × List WyM × List Sli) (G 16).g).2.1) List.mem_cons_self rfl rfl (fun _=>rfl) rfl (fun _=>rfl) (fun _=>rfl) (fun _=>rfl) (fun G=>(by (try simp (decide:=true) only [vis,see,fltT,zq,Nat.reduceAdd,Nat.reduceSub,if_true,if_false,List.set_cons_zero,List.set_cons_succ,List.set_nil,List.nil_append,List.cons_append]);rfl)) (fun _ W hW h=>src_sl (by (repeat constructor)) W hW h) (fun G W h=>⟨by have h9:=fact_use h (by (repeat constructor));have h8:=h9.1.len;omega,by decide⟩) (by intro G G' h;simp (decide:=true) only [h]) ?_)|(with_reducible refine zAx ?_)))
    intro G
    simp only [regsT,List.nil_append,List.cons_append]
    refine U.sub (R':=[(11,.slice (G 17).A (xs++(deC ((Option Addr × Nat) × List WyM × List Sli) (G 16).g).2.1).length (G 17).m),(16,.int .i64 ((i:Int) - 1)),(3,.slice RA pre.length rc),(4,.slice FA pre.length fc),(5,.pointer (some ⟨b2,0,none⟩)),(6,.pointer (some ⟨b3,0,none⟩)),(7,.pointer (some ⟨b7,0,none⟩)),(10,.slice none 0 0),(12,.int .i64 (pre.length:Int)),(15,.int .i64 (X+zAY l pre.length))]) (H':=[.row zA3 3 124 (.slice (G 17).A (xs++(deC ((Option Addr × Nat) × List WyM × List Sli) (G 16).g).2.1).length (G 17).m) (xs++(deC ((Option Addr × Nat) × List WyM × List Sli) (G 16).g).2.1),.fact (zBS (krd l x.r) (deC ((Option Addr × Nat) × List WyM × List Sli) (G 16).g).2.1 Fo∧∀ y∈(deC ((Option Addr × Nat) × List WyM × List Sli) (G 16).g).2.1,∀ s∈[y.R,y.F,y.L],s∈(deC ((Option Addr × Nat) × List WyM × List Sli) (G 16).g).2.2∨s=⟨(G 9).A,([]++pre.map fun z:Opn=>z.sig)++[(i:Int) - 1],(G 9).m⟩∨s=⟨(G 15).A,([]++zAQ (krd l x.r) pre)++[max (X+zAY l pre.length) o.lo],(G 15).m⟩),.sl zA3 3 (deC ((Option Addr × Nat) × List WyM × List Sli) (G 16).g).1.1 (deC ((Option Addr × Nat) × List WyM × List Sli) (G 16).g).2.1,.rows (deC ((Option Addr × Nat) × List WyM × List Sli) (G 16).g).2.2,.row encI 1 3 (.slice (G 15).A (([]++zAQ (krd l x.r) pre)++[max (X+zAY l pre.length) o.lo]).length (G 15).m) (([]++zAQ (krd l x.r) pre)++[max (X+zAY l pre.length) o.lo]),.row encI 1 3 (.slice (G 9).A (([]++pre.map fun z:Opn=>z.sig)++[(i:Int) - 1]).length (G 9).m) (([]++pre.map fun z:Opn=>z.sig)++[(i:Int) - 1]),.rows own,.blk b7 [.slice (some ⟨bl,ol,none⟩) l.bms.length lc,.slice TA x.r.sigs.length tc,.slice SA x.r.sigs.length sc],.blk b3 [.int .i64 x.r.start,.int .i64 x.r.now,.slice x.A x.r.sigs.length x.c],.blk b2 [.slice l.TA l.t.length l.tc,.int .i64 l.fast,.slice l.CA l.cks.length l.cc,.slice l.BA l.bms.length l.bc,.int .i64 l.finish,.int .i64 l.fakes,.int .i64 l.misses]]) (by (repeat first|exact lK1|refine zT rfl ?_)) (by (repeat constructor)) ?_
    generalize (deC ((Option Addr × Nat) × List WyM × List Sli) (G 16).g)=Z
    generalize (G 17).A=A17
    generalize (G 17).m=c17
    generalize (G 15).A=A15
    generalize (G 15).m=c15
    generalize (G 9).A=A9
    generalize (G 9).m=c9
    obtain ⟨⟨ZA,zc⟩,ys,own'⟩:=Z
    simp only
    refine zK8 (by (repeat constructor)) fun hp=>?_
    obtain ⟨hpW,hpM⟩:=hp
    refine zBF (H':=[.row zA3 3 124 (.slice A17 (xs++ys).length c17) (xs++ys),.rows (⟨A9,([]++pre.map fun z:Opn=>z.sig)++[(i:Int) - 1],c9⟩::⟨A15,([]++zAQ (krd l x.r) pre)++[max (X+zAY l pre.length) o.lo],c15⟩::(own'++own)),.blk b7 [.slice (some ⟨bl,ol,none⟩) l.bms.length lc,.slice TA x.r.sigs.length tc,.slice SA x.r.sigs.length sc],.blk b3 [.int .i64 x.r.start,.int .i64 x.r.now,.slice x.A x.r.sigs.length x.c],.blk b2 [.slice l.TA l.t.length l.tc,.int .i64 l.fast,.slice l.CA l.cks.length l.cc,.slice l.BA l.bms.length l.bc,.int .i64 l.finish,.int .i64 l.fakes,.int .i64 l.misses]]) (fun W hO=>?_) ?_
    ·have o1:=((hO.zCN (xs:=([]++pre.map fun z:Opn=>z.sig)++[(i:Int) - 1]) (enc:=encI) (by (repeat constructor))).zCN (xs:=([]++zAQ (krd l x.r) pre)++[max (X+zAY l pre.length) o.lo]) (enc:=encI) (by (repeat constructor)))
     have o2:Own w.heap.size W [.rows own',.rows own,.sl encI 1 A15 (([]++zAQ (krd l x.r) pre)++[max (X+zAY l pre.length) o.lo]),.sl encI 1 A9 (([]++pre.map fun z:Opn=>z.sig)++[(i:Int) - 1]),.row zA3 3 124 (.slice A17 (xs++ys).length c17) (xs++ys),.blk b7 [.slice (some ⟨bl,ol,none⟩) l.bms.length lc,.slice TA x.r.sigs.length tc,.slice SA x.r.sigs.length sc],.blk b3 [.int .i64 x.r.start,.int .i64 x.r.now,.slice x.A x.r.sigs.length x.c],.blk b2 [.slice l.TA l.t.length l.tc,.int .i64 l.fast,.slice l.CA l.cks.length l.cc,.slice l.BA l.bms.length l.bc,.int .i64 l.finish,.int .i64 l.fakes,.int .i64 l.misses]]:=o1.sub (by (repeat constructor))
     have o3:Own w.heap.size W [.sl encI 1 A15 (([]++zAQ (krd l x.r) pre)++[max (X+zAY l pre.length) o.lo]),.rows (own'++own),.sl encI 1 A9 (([]++pre.map fun z:Opn=>z.sig)++[(i:Int) - 1]),.row zA3 3 124 (.slice A17 (xs++ys).length c17) (xs++ys),.blk b7 [.slice (some ⟨bl,ol,none⟩) l.bms.length lc,.slice TA x.r.sigs.length tc,.slice SA x.r.sigs.length sc],.blk b3 [.int .i64 x.r.start,.int .i64 x.r.now,.slice x.A x.r.sigs.length x.c],.blk b2 [.slice l.TA l.t.length l.tc,.int .i64 l.fast,.slice l.CA l.cks.length l.cc,.slice l.BA l.bms.length l.bc,.int .i64 l.finish,.int .i64 l.fakes,.int .i64 l.misses]]:=(Own.rows_app o2).sub (by (repeat constructor))
     have o4:Own w.heap.size W [.sl encI 1 A9 (([]++pre.map fun z:Opn=>z.sig)++[(i:Int) - 1]),.rows (⟨A15,([]++zAQ (krd l x.r) pre)++[max (X+zAY l pre.length) o.lo],c15⟩::(own'++own)),.row zA3 3 124 (.slice A17 (xs++ys).length c17) (xs++ys),.blk b7 [.slice (some ⟨bl,ol,none⟩) l.bms.length lc,.slice TA x.r.sigs.length tc,.slice SA x.r.sigs.length sc],.blk b3 [.int .i64 x.r.start,.int .i64 x.r.now,.slice x.A x.r.sigs.length x.c],.blk b2 [.slice l.TA l.t.length l.tc,.int .i64 l.fast,.slice l.CA l.cks.length l.cc,.slice l.BA l.bms.length l.bc,.int .i64 l.finish,.int .i64 l.fakes,.int .i64 l.misses]]:=(Own.zEk c15 o3).sub (by (repeat constructor))
     exact (Own.zEk c9 o4).sub (by (repeat constructor))
    (repeat' (first|((with_reducible refine zG ?_);first|refine zD rfl rfl rfl ?_|refine zC rfl rfl rfl ?_|refine zBp rfl rfl rfl rfl (IntWalk.i64_in _ (by omega)) ?_)|(with_reducible first|refine zB ?_|refine zE ?_|refine zA ?_|refine zj ?_)))
    refine zd (ι:=Nat × Value × List WyM × List Sli) (i+1,.slice A17 (xs++ys).length c17,xs++ys,⟨A9,([]++pre.map fun z:Opn=>z.sig)++[(i:Int) - 1],c9⟩::⟨A15,([]++zAQ (krd l x.r) pre)++[max (X+zAY l pre.length) o.lo],c15⟩::(own'++own)) ⟨by simp only;omega,?_,fun y hy s hs=>?_⟩ (by simp only;omega) (by simp only [show ((i+1:Nat):Int) - 1=(i:Int) - 1+1 by omega];(repeat first|exact lK1|refine zT rfl ?_)) (by (repeat constructor))
    ·simp only
     rw [hopt,List.flatMap_append,List.flatMap_singleton,hFF,← List.append_assoc]
     exact hWA.app hpW
    ·simp only at hy ⊢
     rcases List.mem_append.1 hy with hy|hy
     ·rcases hM y hy s hs with h9|h9|h9
      ·exact .inl (List.mem_cons_of_mem _ (List.mem_cons_of_mem _ (List.mem_append_right _ h9)))
      ·exact .inr (.inl h9)
      ·exact .inr (.inr h9)
     ·rcases hpM y hy s hs with h9|h9|h9
      ·exact .inl (List.mem_cons_of_mem _ (List.mem_cons_of_mem _ (List.mem_append_left _ h9)))
      ·exact .inl (by rw [h9];exact List.mem_cons_self)
      ·exact .inl (by rw [h9];exact List.mem_cons_of_mem _ List.mem_cons_self)
  ·obtain rfl:i=x.r.sigs.length+1:=by omega
   rw [zHK,← hW] at hWA
   refine zBT (xs:=xs) (enc:=zA3) (by (repeat constructor)) ?_
   rintro A1 k1 rfl
   (repeat' (first|((with_reducible refine zG ?_);first|refine zD rfl rfl rfl ?_|refine zC rfl rfl rfl ?_|(refine zJ rfl rfl rfl ?_;refine ⟨_,rfl,?_⟩)|refine zL rfl rfl rfl ?_|(refine zS rfl rfl rfl rfl rfl (fun h=>?_) (fun h=>?_)<;>(dsimp only [cmpP] at h;(try (exfalso;omega))))|refine zn rfl rfl rfl ?_)|(with_reducible first|refine zI ?_|refine zB ?_|refine zE ?_|refine zA ?_|refine zV ?_|refine zz ?_|refine zZ ?_|refine ze ?_)|((with_reducible refine zF ?_ ?_);(· exact rfl))))
   exact zP (by exact rTm rfl) ((A1,k1),xs,own) ⟨hWA,hM⟩ rfl (fun _ h=>(h.zCN (xs:=xs) (enc:=zA3) (by (repeat constructor))).sub (by (repeat constructor)))
end Go.Proofs.YtfiekidciiighaaGreat.Two
namespace Go.Proofs.YtfiekidciiighaaGreat
open Go.RowKit
set_option maxRecDepth 20000
section
variable {P : Program} {w0:World} {n:Nat} {d:List Deferred} {R:List (Nat × Value)} {H:List Ent} {Q:Exit→Act→World→Prop}
theorem zFX {ι α:Type} {g:Operand} {ps:Array Tmp} {assign body:Code} {gf:FuncId} {lb:List Value} {bs:List Nat} (D:List α→List Ent) (enc:α→List Value) (N:List α→α→Prop) (E:List α→Prop) (I:List α→ι→Prop) (C:ι→List Ent) (s0:ι)
  (hg:evR R g=some (.func (.func gf) #[] lb.toArray)) [ci:zr P gf] (hs:Out H (D []++(C s0++[.dfr bs]))) (h0:I [] s0)
  (hps:∀ x,(enc x).length=ps.size) (hpn:∀ p∈ps.toList,p<n)
  (hit:SeqG P gf lb D enc N E w0)
  (hround:∀ (l:Nat) (ys:List α) (x:α) (s:ι) (r:Loop) (W:World) (HH:List Ent),N ys x→I ys s→r.state = .ready→r.pending=none→Below w0.heap.size w0 W →
   U w0 n [] (zHF ps.toList (enc x)++R) ((D (ys++[x])++(C s++[.lrec l r,.dfr (r.defers::bs)]))++[.oldx W w0.heap.size (feet HH)]) (assign.wpI (some l) P (rndA P l body (rndB P l W HH true (fun s'=>D (ys++[x])++(C s'++[.lrec l r,.dfr (r.defers::bs)])) (I (ys++[x]))))))
  (hdone:∀ b ys s,E ys→I ys s→U w0 n (dL (b::bs)) R (D ys++(C s++[.dfr (b::bs)])) (Q .normal)):U w0 n (dL bs) R H ((Code.rangeFunc g ps assign body).wpI none P Q) :=
 u_rangeG D enc N E I C s0 hg hs h0 hps hpn hit (fun l ys x s r W h1 h2 h3 h4 h5=>hround l ys x s r W _ h1 h2 h3 h4 h5) hdone
end
end Go.Proofs.YtfiekidciiighaaGreat
