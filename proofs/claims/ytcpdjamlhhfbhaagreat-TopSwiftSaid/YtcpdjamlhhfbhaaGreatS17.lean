/- S17 -/
import Derived.Test.YtcpdjamlhhfbhaaGreatS10
import Derived.Test.YtcpdjamlhhfbhaaGreatS16
import Derived.Test.YtcpdjamlhhfbhaaGreatS7
import Derived.Test.YtcpdjamlhhfbhaaGreatS5
set_option linter.unusedSimpArgs false
set_option linter.unusedVariables false
namespace Go.Proofs.YtcpdjamlhhfbhaaGreat.Two
def zBw (i:Nat):Bm:=⟨⟨(i:Int),⟨0,0⟩⟩,0⟩
def zAS (i:Nat):List Bm:=(List.range i).map fun k=>zBw (k+1)
theorem zFh {i:Nat}:zAS (i+1)=zAS i++[zBw (i+1)]:=by unfold zAS;rw [List.range_succ,List.map_append];rfl
theorem zCP {i:Nat}:(zAS i).length=i:=by simp [zAS]
theorem zEq {m b:Nat} (h:b<m):(zAS m)[b]?=some (zBw (b+1)):=by
 unfold zAS;rw [List.getElem?_map,List.getElem?_range h];rfl
theorem zFv {t:List St} {i:Nat} {x:St} (h:t[i]?=some x):zQ t i (i+1)=x.long:=by
 have hi:=(List.getElem?_eq_some_iff.1 h).1
 have e:(longs t).extract i (i+1)=[x.long]:=by
  rw [List.extract_eq_take_drop,show i+1 - i=1 by omega]
  apply List.ext_getElem?
  intro k
  rw [List.getElem?_take]
  by_cases hk:k<1
  ·obtain rfl:k=0:=by omega
   rw [if_pos (by omega),List.getElem?_drop,Nat.add_zero]
   unfold longs
   rw [List.getElem?_map,h];rfl
  ·rw [if_neg hk,List.getElem?_eq_none (by simp;omega)]
 unfold zQ
 rw [e]
 cases x with|mk a b c d e f=>simp [zDo,zAG]
theorem topWay {l:LnM} {m b:Nat} {x:St} (hb:l.bms=zAS m) (hm:b<m) (hf:FineL l) (hx:l.t[b]?=some x):zAv l b=x.long.lo:=by
 have hat:∀ k,k<m→bmOf l k=zBw (k+1):=fun k hk=>zB3 (by rw [hb];exact zEq hk)
 have hok:∀ k,k<m→zj l.t (zBw (k+1)).spot=true:=fun k hk=>(hf.bm _ (by rw [hb];exact List.mem_of_getElem? (zEq hk))).1
 have hv:=hf.valid
 unfold zAv
 cases b with
 | zero =>
  rw [if_pos rfl,hat 0 hm]
  unfold atT
  rw [hv,hok 0 hm,if_pos (by rfl)]
  have e:mark l.t (zBw (0+1)).spot.st.toNat=x.long:=zFv hx
  rw [e]
  simp [zAG,zBw]
 | succ b =>
  rw [if_neg (by omega),show b+1 - 1=b by omega,hat b (by omega),hat (b+1) hm]
  unfold apT
  rw [hv,hok b (by omega),hok (b+1) hm,if_pos (by rfl),if_neg (by simp [zBw];omega)]
  have e:zQ l.t (zBw (b+1)).spot.st.toNat (zBw (b+1+1)).spot.st.toNat=x.long:=by
   have:(zBw (b+1)).spot.st.toNat=b+1:=rfl
   rw [this]
   exact zFv hx
  unfold ap0
  rw [e]
  simp [zBw]
theorem zFg {l:LnM} {m b:Nat} {x:St} (hb:l.bms=zAS m) (hm:b<m) (hf:FineL l) (hx:l.t[b]?=some x):zEV l b=upI (1000 * x.long.lo) l.fast:=by
 unfold zEV;rw [topWay hb hm hf hx]
end Go.Proofs.YtcpdjamlhhfbhaaGreat.Two
namespace Go.Proofs.YtcpdjamlhhfbhaaGreat.Two
variable {ro : Option Nat}
open Go.RowKit
set_option maxRecDepth 20000
set_option maxHeartbeats 1000000 in
theorem zEd (l:LnM) (i:Nat) (w:World) (h:zDT w l) (hs:zBa l) (h0:zCv l=0) (hi:i<l.bms.length):Gv Tryz.prog 11 [vLn l,.int .i64 (i:Int)] w (.tuple #[.int .i64 (zEV l i),.int .i64 0]):=by
 have hC:=fun W (hW:Below w.heap.size w W)=>zGg l W (h.below hW) hs
 have hWy:=fun W (hW:Below w.heap.size w W)=>zF6 l i W (h.below hW) hs hi
 have hf:=zEY h0
 have h1:=wayI_le hf hi
 have h2:=hf.fast
 have hU:=fun W=>up_ok (1000 * zAv l i) l.fast W (by omega) (by omega) h2.1 (by omega)
 have e:inB 0 ((l.bms.length:Int) - 1) (i:Int)=true:=by rw [zy];omega
 have hb:=hs.b
 rw [h0] at hC
 unfold zEV
 generalize zAv l i=v at *
 generalize upI (1000 * v) l.fast=u at *
 unfold Gv
 unfold vLn at *
 (refine zD (n:=27) Tryz.func11 rfl rfl rfl ?_)
 (repeat' (first|((with_reducible refine zH ?_);first|refine zF rfl rfl rfl ?_|refine zC rfl rfl rfl ?_|(refine zM rfl rfl rfl ?_;refine ⟨_,rfl,?_⟩)|refine zP rfl rfl rfl ?_|(refine zS rfl rfl rfl rfl rfl (fun h=>?_) (fun h=>?_)<;>(dsimp only [cmpP] at h;(try (exfalso;omega))))|refine zE rfl rfl rfl rfl (fun _ _ q=>hC _ q.below) ?_|(refine zE rfl rfl rfl rfl (fun _ _ q=>e ▸ bin1 _ _ _ _ _ _ (zo (enc:=encI) (by exact rfl) _ q.below q.own)) ?_)|refine zAB rfl rfl rfl ?_|refine zBu rfl rfl rfl rfl (IntWalk.i64_in _ (by omega)) ?_|refine zz rfl rfl rfl ?_|(refine zf rfl rfl rfl rfl (fun b=>?_))|(refine zc rfl rfl rfl ?_;refine ⟨rfl,_,rfl,fun b=>?_⟩))|(with_reducible first|refine zK ?_|refine zB ?_|refine zG ?_|refine zA ?_|refine zU ?_)|((with_reducible refine zI ?_ ?_);(· exact rfl))))
 (refine zBv (by kernel_rfl) (by kernel_rfl) (by kernel_rfl) ?_)
 (repeat' (first|((with_reducible refine zCj ?_);first|refine zp (zAi rfl rfl) rfl ?_|refine zp (zAC rfl rfl (by exact rfl)) rfl ?_|refine zp (zAd rfl rfl) rfl ?_|refine zp (zAa rfl rfl) rfl ?_|refine zBy rfl rfl rfl rfl (fun _ _ q=>hWy _ q.below) ?_|refine zBy rfl rfl rfl rfl (fun _ _ q=>hU _) ?_|refine zp (e_mul rfl rfl rfl (IntWalk.i64_in _ (by omega))) rfl ?_)|(with_reducible refine zDt ?_)))
 all_goals (repeat' (first|(with_reducible first|refine zA ?_|refine zR ?_)))
 all_goals exact zN (by (exact zi.cons (by exact zAo.tmp rfl) (zi.cons (by exact zAo.tmp rfl) zi.nil))) () trivial rfl (fun _ h=>h.sub (by (repeat constructor)))
theorem zBi (a b:Int) (w:World):Gv Tryz.prog 19 [.int .i64 a,.int .i64 b] w (.agg #[.int .i64 a,.int .i64 b]):=by
 unfold Gv
 (refine zD (n:=8) Tryz.func19 rfl rfl rfl ?_)
 (repeat' (first|((with_reducible refine zH ?_);first|refine zF rfl rfl rfl ?_|(refine zV rfl rfl rfl rfl rfl ?_;refine ⟨rfl,by first|decide|exact Nat.le_of_ble_eq_true rfl|(simp;omega),_,rfl,?_⟩)|(refine zX rfl rfl (fun b=>?_))|(refine zAJ rfl rfl rfl ?_;refine ⟨_,rfl,?_⟩))|(with_reducible first|refine zK ?_|refine zB ?_|refine zG ?_|refine zA ?_|refine zR ?_)))
 exact zN (by (exact zi.cons (by exact res1c rfl (by exact rfl)) zi.nil)) () trivial rfl (fun _ h=>h.sub (by (repeat constructor)))
theorem elem_bm : Elem Tryz.prog 37 82 4 32 (.agg #[.int .i64 0,.int .i64 0,.int .i64 0,.int .i64 0]):=⟨by rfl,by exact ⟨_,rfl,rfl,rfl,rfl⟩,by decide,by decide⟩
instance : ElI Tryz.prog 37 82 4 32:=⟨⟨_,elem_bm⟩⟩
def zCD (t:List St) (A:Option Addr) (c:Nat) (fast:Int) (bS bC m:Nat) (BA:Option Addr) (bc:Nat):LnM:=⟨t,A,c,fast,[⟨⟨0,[⟨0,⟨0,0⟩⟩]⟩,some ⟨bS,0,none⟩,1⟩],some ⟨bC,0,none⟩,1,zAS m,BA,bc,0,0,0⟩
def zAz (t:List St):Nat:=min (t.length - 1) 6
def topE (t:List St) (fast:Int):Int:=zCv (zCD t none 0 fast 0 0 (zAz t) none 0)
theorem zDE {t:List St} {A:Option Addr} {c:Nat} {fast:Int} {bS bC:Nat} {BA:Option Addr} {bc:Nat}:zCv (zCD t A c fast bS bC (zAz t) BA bc)=topE t fast:=rfl
theorem zC4 {t:List St} {A:Option Addr} {c:Nat} {fast:Int} {bS bC:Nat} {BA:Option Addr} {bc:Nat} (hf:zBs t) (hl:t.length≤20):zBa (zCD t A c fast bS bC (zAz t) BA bc):=by
 refine ⟨hf,hl,by simp [zCD],fun x hx=>?_,?_⟩
 ·simp only [zCD,List.mem_singleton] at hx
  subst hx;simp
 ·show (zAS (zAz t)).length≤10
  rw [zCP];unfold zAz;omega
theorem zFL {t:List St} {A:Option Addr} {c:Nat} {fast:Int} {bS bC:Nat} {BA:Option Addr} {bc:Nat} {W:World} (ht:zg zq 9 W A t) (h1:zg zBb 2 W (some ⟨bC,0,none⟩) [⟨⟨0,[⟨0,⟨0,0⟩⟩]⟩,some ⟨bS,0,none⟩,1⟩]) (h2:zg zAf 3 W (some ⟨bS,0,none⟩) [⟨0,⟨0,0⟩⟩]) (h3:zg zAn 4 W BA (zAS (zAz t))):zDT W (zCD t A c fast bS bC (zAz t) BA bc) :=
 ⟨ht,h1,fun x hx=>by simp only [zCD,List.mem_singleton] at hx;subst hx;exact h2,fun x hx=>by simp only [zCD,List.mem_singleton] at hx;subst hx;simp,h3⟩
structure TopD where
 bS:Nat
 bC:Nat
 BA:Option Addr
 bc:Nat
set_option maxHeartbeats 4000000 in
theorem zDn (t:List St) (A:Option Addr) (c:Nat) (fast:Int) (w:World) (ht:zg zq 9 w A t) (hf:zBs t) (hl:t.length≤20) (hl1:1≤t.length):Ret Tryz.prog 10 [.agg #[.slice A t.length c],.int .i64 fast] w (fun d:TopD=>.tuple #[vLn (zCD t A c fast d.bS d.bC (zAz t) d.BA d.bc),.bool (decide (topE t fast=0))]) (fun d=>[.blk d.bC [.int .i64 0,.slice (some ⟨d.bS,0,none⟩) 1 1],.blk d.bS [.int .i64 0,.int .i64 0,.int .i64 0],.sl zAn 4 d.BA (zAS (zAz t))]) (fun _=>True):=by
 have hC:=fun W bS bC BA bc (hW:Below w.heap.size w W) (h1:zg zBb 2 W (some ⟨bC,0,none⟩) [⟨⟨0,[⟨0,⟨0,0⟩⟩]⟩,some ⟨bS,0,none⟩,1⟩]) (h2:zg zAf 3 W (some ⟨bS,0,none⟩) [⟨0,⟨0,0⟩⟩]) (h3:zg zAn 4 W BA (zAS (zAz t)))=>(zDE (t:=t) (A:=A) (c:=c) (fast:=fast) (bS:=bS) (bC:=bC) (BA:=BA) (bc:=bc)) ▸ zFt (zCD t A c fast bS bC (zAz t) BA bc) W (zFL (ht.below hW) h1 h2 h3) (zC4 hf hl)
 generalize topE t fast=e at *
 (refine zD (n:=40) Tryz.func10 rfl rfl rfl ?_)
 (repeat' (first|((with_reducible refine zH ?_);first|refine zF rfl rfl rfl ?_|refine zC rfl rfl rfl ?_|(refine zM rfl rfl rfl ?_;refine ⟨_,rfl,?_⟩)|(refine zV rfl rfl rfl rfl rfl ?_;refine ⟨rfl,by first|decide|exact Nat.le_of_ble_eq_true rfl|(simp;omega),_,rfl,?_⟩)|(refine zX rfl rfl (fun b=>?_))|(refine zf rfl rfl rfl rfl (fun b=>?_))|(refine zAJ rfl rfl rfl ?_;refine ⟨_,rfl,?_⟩)|(refine zc rfl rfl rfl ?_;refine ⟨rfl,_,rfl,fun b=>?_⟩))|(with_reducible first|refine zK ?_|refine zB ?_|refine zG ?_|refine zA ?_|refine zT ?_)))
 rename_i b2 b4 bS bC
 obtain ⟨b6,hb6⟩:∃ y,y=b:=⟨_,rfl⟩
 subst hb6
 refine zBh zAn 4 82 ?_
 have hm:zAz t≤6∧zAz t≤t.length - 1∧(zAz t=6∨zAz t=t.length - 1):=by unfold zAz;omega
 generalize zAz t=m at *
 refine z9 (ι:=Nat × Value) [2,4,6] rfl (fun q=>q.1≤m) (fun q=>[(7,.int .i64 ((q.1+1:Nat):Int))]) (fun q=>[.row zAn 4 82 q.2 (zAS q.1),.blk b6 [.slice A t.length c,.int .i64 fast,.slice (some ⟨bC,0,none⟩) 1 1,q.2,.int .i64 0,.int .i64 0,.int .i64 0],.blk bC [.int .i64 0,.slice (some ⟨bS,0,none⟩) 1 1],.blk bS [.int .i64 0,.int .i64 0,.int .i64 0],.blk b4 [.slice none 0 0,.int .i64 0,.slice none 0 0,.slice none 0 0,.int .i64 0,.int .i64 0,.int .i64 0],.blk b2 [.slice A t.length c]])  (fun q=>m - q.1) (0,.slice none 0 0) (Nat.zero_le _) (by (repeat first|exact lK1|refine za rfl ?_)) (by (repeat constructor)) ?_
 rintro ⟨k,v⟩ hk
 simp only at hk
 simp only [zAu,List.cons_append,List.nil_append]
 have hlen:=zCP (i:=k)
 refine zBS (xs:=zAS k) (enc:=zAn) (by (repeat constructor)) ?_
 rintro A9 c9 rfl
 by_cases hlt:k<m
 ·have hs1:=zFh (i:=k)
  generalize zAS k=bl at *
  (repeat' (first|((with_reducible refine zH ?_);first|refine zF rfl rfl rfl ?_|refine zC rfl rfl rfl ?_|(refine zM rfl rfl rfl ?_;refine ⟨_,rfl,?_⟩)|refine zP rfl rfl rfl ?_|refine zn rfl rfl rfl rfl ?_|(refine zS rfl rfl rfl rfl rfl (fun h=>?_) (fun h=>?_)<;>(dsimp only [cmpP] at h;(try (exfalso;omega))))|(refine zCC (enc:=zAn) [zBw (k+1)] rfl rfl rfl (by (repeat constructor)) rfl rfl (zo (enc:=zAn) (by exact rfl)) (by refine ⟨?_,by decide⟩;(try simp only [List.length_append,List.length_cons,List.length_nil]);omega) (fun A' c'=>?_))|refine zAD rfl rfl rfl rfl (by omega) ?_|refine zz rfl rfl rfl ?_|(refine zV rfl rfl rfl rfl rfl ?_;refine ⟨rfl,by first|decide|exact Nat.le_of_ble_eq_true rfl|(simp;omega),_,rfl,?_⟩)|(refine zAJ rfl rfl rfl ?_;refine ⟨_,rfl,?_⟩)|(refine zc rfl rfl rfl ?_;refine ⟨rfl,_,rfl,fun b=>?_⟩))|(with_reducible first|refine zK ?_|refine zB ?_|refine zG ?_|refine zA ?_|refine zU ?_|refine zT ?_|refine zu ?_)|((with_reducible refine zO ?_ ?_);(· exact rfl))))
  exact zl (ι:=Nat × Value) (k+1,.slice A' (bl++[zBw (k+1)]).length c') (by simp only;omega) (by simp only;omega) (by (repeat first|exact lK1|refine za rfl ?_)) (by rw [hs1];(repeat constructor))
 ·obtain rfl:k=m:=by omega
  refine zBk (H':=[.sl zAn 4 A9 (zAS k),.blk b6 [.slice A t.length c,.int .i64 fast,.slice (some ⟨bC,0,none⟩) 1 1,.slice A9 (zAS k).length c9,.int .i64 0,.int .i64 0,.int .i64 0],.blk bC [.int .i64 0,.slice (some ⟨bS,0,none⟩) 1 1],.blk bS [.int .i64 0,.int .i64 0,.int .i64 0],.blk b4 [.slice none 0 0,.int .i64 0,.slice none 0 0,.slice none 0 0,.int .i64 0,.int .i64 0,.int .i64 0],.blk b2 [.slice A t.length c]]) (fun _ h=>(h.zDe (xs:=zAS k) (enc:=zAn) (by (repeat constructor))).sub (by (repeat constructor))) ?_
  unfold vLn zCD at *
  simp only at hC ⊢
  generalize zAS k=bl at *
  by_cases he:e=0
  ·subst he
   rw [decide_eq_true (show (0:Int)=0 from rfl)]
   (repeat' (first|((with_reducible refine zH ?_);first|refine zF rfl rfl rfl ?_|(refine zM rfl rfl rfl ?_;refine ⟨_,rfl,?_⟩)|refine zP rfl rfl rfl ?_|refine zn rfl rfl rfl rfl ?_|refine zd rfl rfl rfl ?_|(refine zS rfl rfl rfl rfl rfl (fun h=>?_) (fun h=>?_)<;>(dsimp only [cmpP] at h;(try (exfalso;omega))))|refine zz rfl rfl rfl ?_)|(with_reducible first|refine zK ?_|refine zB ?_|refine zG ?_|refine zA ?_|refine zr ?_|refine zZ ?_|refine ze ?_)|((with_reducible refine zI ?_ ?_);(· exact rfl))))
   all_goals
    (refine zAP [] [(4,0,0,[.blk b4 [.slice none 0 0,.int .i64 0,.slice none 0 0,.slice none 0 0,.int .i64 0,.int .i64 0,.int .i64 0]])] [(4,0,0)] rfl (show ([4]:List Nat).Nodup by decide) (H0:=[.sl zAn 4 A9 bl,.blk b6 [.slice A t.length c,.int .i64 fast,.slice (some ⟨bC,0,none⟩) 1 1,.slice A9 bl.length c9,.int .i64 0,.int .i64 0,.int .i64 0],.blk bC [.int .i64 0,.slice (some ⟨bS,0,none⟩) 1 1],.blk bS [.int .i64 0,.int .i64 0,.int .i64 0],.blk b2 [.slice A t.length c]]) (fun _ h=>h.sub (by (repeat constructor))) (by kernel_rfl) [[],[Y],[Z,Y],[Z,Z,Y],[Y,Z,Z,Z],[Z,Z,Z,Z,Z]] (by kernel_rfl) (by kernel_rfl) (by kernel_rfl) (by kernel_rfl) (by kernel_rfl) ?_)
    (repeat' (first|(((with_reducible refine zCL ?_ ?_);(· exact rfl);refine ⟨_,fun G=>(by (try simp (decide:=true) only [vis,see,fltT,z8,Nat.reduceAdd,Nat.reduceSub,if_true,if_false,List.set_cons_zero,List.set_cons_succ,List.set_nil,List.nil_append,List.cons_append]);rfl),?_⟩);first|refine zW _ (fun _=>zAC rfl rfl (by exact rfl)) (fun _=>rfl) rfl (by intro G G' h;simp (decide:=true) only [h]) ?_|refine zW _ (fun _=>zAa rfl rfl) (fun _=>rfl) rfl (by intro G G' h;simp (decide:=true) only [h]) ?_|(refine c_cmp rfl rfl (fun _=>rfl) rfl (fun _=>rfl) (fun _=>rfl) (fun h=>?_) (fun h=>?_)<;>(dsimp only [cmpP] at h;(try (exfalso;omega))))|refine zAR _ rfl (fun _=>rfl) rfl (fun _=>rfl) (fun _=>rfl) (fun _ _ _ q=>hC _ _ _ _ _ q.below (zo (enc:=zBb) (by exact rfl) _ q.below q.own) (zo (enc:=zAf) (by exact rfl) _ q.below q.own) (zEw q.own (Below.refl _ _))) (by intro G G' h;simp (decide:=true) only [h]) ?_)|(refine zDM (cs:=[.slice none 0 0,.int .i64 0,.slice none 0 0,.slice none 0 0,.int .i64 0,.int .i64 0,.int .i64 0]) (cs':=fun _=>[.slice A t.length c,.int .i64 fast,.slice (some ⟨bC,0,none⟩) 1 1,.slice A9 bl.length c9,.int .i64 0,.int .i64 0,.int .i64 0]) List.mem_cons_self rfl rfl (fun _=>rfl) rfl (fun _=>rfl) (fun _=>rfl) (fun _=>rfl) (fun _=>rfl) rfl (fun _=>rfl) (fun _ _ _=>rfl) ?_)|(with_reducible refine zB2 ?_)))
    intro G
    simp only [regsT,List.nil_append,List.cons_append]
    refine zBk (H':=[.blk b4 [.slice A t.length c,.int .i64 fast,.slice (some ⟨bC,0,none⟩) 1 1,.slice A9 bl.length c9,.int .i64 0,.int .i64 0,.int .i64 0],.sl zAn 4 A9 bl,.blk b6 [.slice A t.length c,.int .i64 fast,.slice (some ⟨bC,0,none⟩) 1 1,.slice A9 bl.length c9,.int .i64 0,.int .i64 0,.int .i64 0],.blk bC [.int .i64 0,.slice (some ⟨bS,0,none⟩) 1 1],.blk bS [.int .i64 0,.int .i64 0,.int .i64 0],.blk b2 [.slice A t.length c]]) (fun _ h=>h) ?_
    (repeat' (first|(with_reducible first|refine zA ?_|refine zR ?_)))
    exact zN (by (exact zi.cons (by exact res1c rfl (by exact rfl)) (zi.cons (by exact zAo.tmp rfl) zi.nil))) ⟨bS,bC,A9,c9⟩ trivial rfl (fun _ h=>h.sub (by (repeat constructor)))
  ·rw [decide_eq_false he]
   (repeat' (first|((with_reducible refine zH ?_);first|refine zF rfl rfl rfl ?_|(refine zM rfl rfl rfl ?_;refine ⟨_,rfl,?_⟩)|refine zP rfl rfl rfl ?_|refine zn rfl rfl rfl rfl ?_|refine zd rfl rfl rfl ?_|(refine zS rfl rfl rfl rfl rfl (fun h=>?_) (fun h=>?_)<;>(dsimp only [cmpP] at h;(try (exfalso;omega))))|refine zz rfl rfl rfl ?_)|(with_reducible first|refine zK ?_|refine zB ?_|refine zG ?_|refine zA ?_|refine zr ?_|refine zZ ?_|refine ze ?_)|((with_reducible refine zI ?_ ?_);(· exact rfl))))
   all_goals
    (refine zAP [] [(4,0,0,[.blk b4 [.slice none 0 0,.int .i64 0,.slice none 0 0,.slice none 0 0,.int .i64 0,.int .i64 0,.int .i64 0]])] [(4,0,0)] rfl (show ([4]:List Nat).Nodup by decide) (H0:=[.sl zAn 4 A9 bl,.blk b6 [.slice A t.length c,.int .i64 fast,.slice (some ⟨bC,0,none⟩) 1 1,.slice A9 bl.length c9,.int .i64 0,.int .i64 0,.int .i64 0],.blk bC [.int .i64 0,.slice (some ⟨bS,0,none⟩) 1 1],.blk bS [.int .i64 0,.int .i64 0,.int .i64 0],.blk b2 [.slice A t.length c]]) (fun _ h=>h.sub (by (repeat constructor))) (by kernel_rfl) [[],[Y],[Z,Y],[Z,Z,Y],[Y,Z,Z,Z],[Z,Z,Z,Z,Z]] (by kernel_rfl) (by kernel_rfl) (by kernel_rfl) (by kernel_rfl) (by kernel_rfl) ?_)
    (repeat' (first|(((with_reducible refine zCL ?_ ?_);(· exact rfl);refine ⟨_,fun G=>(by (try simp (decide:=true) only [vis,see,fltT,z8,Nat.reduceAdd,Nat.reduceSub,if_true,if_false,List.set_cons_zero,List.set_cons_succ,List.set_nil,List.nil_append,List.cons_append]);rfl),?_⟩);first|refine zW _ (fun _=>zAC rfl rfl (by exact rfl)) (fun _=>rfl) rfl (by intro G G' h;simp (decide:=true) only [h]) ?_|refine zW _ (fun _=>zAa rfl rfl) (fun _=>rfl) rfl (by intro G G' h;simp (decide:=true) only [h]) ?_|(refine c_cmp rfl rfl (fun _=>rfl) rfl (fun _=>rfl) (fun _=>rfl) (fun h=>?_) (fun h=>?_)<;>(dsimp only [cmpP] at h;(try (exfalso;omega))))|refine zAR _ rfl (fun _=>rfl) rfl (fun _=>rfl) (fun _=>rfl) (fun _ _ _ q=>hC _ _ _ _ _ q.below (zo (enc:=zBb) (by exact rfl) _ q.below q.own) (zo (enc:=zAf) (by exact rfl) _ q.below q.own) (zEw q.own (Below.refl _ _))) (by intro G G' h;simp (decide:=true) only [h]) ?_)|(refine zDM (cs:=[.slice none 0 0,.int .i64 0,.slice none 0 0,.slice none 0 0,.int .i64 0,.int .i64 0,.int .i64 0]) (cs':=fun _=>[.slice A t.length c,.int .i64 fast,.slice (some ⟨bC,0,none⟩) 1 1,.slice A9 bl.length c9,.int .i64 0,.int .i64 0,.int .i64 0]) List.mem_cons_self rfl rfl (fun _=>rfl) rfl (fun _=>rfl) (fun _=>rfl) (fun _=>rfl) (fun _=>rfl) rfl (fun _=>rfl) (fun _ _ _=>rfl) ?_)|(with_reducible refine zB2 ?_)))
    intro G
    simp only [regsT,List.nil_append,List.cons_append]
    refine zBk (H':=[.blk b4 [.slice A t.length c,.int .i64 fast,.slice (some ⟨bC,0,none⟩) 1 1,.slice A9 bl.length c9,.int .i64 0,.int .i64 0,.int .i64 0],.sl zAn 4 A9 bl,.blk b6 [.slice A t.length c,.int .i64 fast,.slice (some ⟨bC,0,none⟩) 1 1,.slice A9 bl.length c9,.int .i64 0,.int .i64 0,.int .i64 0],.blk bC [.int .i64 0,.slice (some ⟨bS,0,none⟩) 1 1],.blk bS [.int .i64 0,.int .i64 0,.int .i64 0],.blk b2 [.slice A t.length c]]) (fun _ h=>h) ?_
    (repeat' (first|(with_reducible first|refine zA ?_|refine zR ?_)))
    exact zN (by (exact zi.cons (by exact res1c rfl (by exact rfl)) (zi.cons (by exact zAo.tmp rfl) zi.nil))) ⟨bS,bC,A9,c9⟩ trivial rfl (fun _ h=>h.sub (by (repeat constructor)))
end Go.Proofs.YtcpdjamlhhfbhaaGreat.Two
namespace Go.Proofs.YtcpdjamlhhfbhaaGreat
variable {ro : Option Nat}
open Go.RowKit
set_option maxRecDepth 20000
section
variable {P : Program} {w0:World} {n:Nat} {d:List Deferred} {R:List (Nat × Value)} {H H':List Ent} {Q:Exit→Act→World→Prop} {ops:Array Oper} {rest:List Oper} {o:Oper} {t:Tmp} {x y:Operand}
theorem zFd {T1 e k bytes m c:Nat} {A:Option Addr} [el:ElI P T1 e k bytes] (hop:o.op = .call { callee:=.builtin .append,args:=#[x,y],argTypes:=#[T1,T1] }) (hrd:rdy R ops n o=some t) (hx:evR R x=some (.slice A m c)) (hy:evR R y=some (.slice none 0 0)) (hm:Nat.ble m c=true)
  (h:U w0 n d ((t,.slice A m c)::R) H (wpL ro P ops Q rest)):U w0 n d R H (wpL ro P ops Q (o::rest)):=by
 refine zAI hrd (fun a w q=>?_) h
 obtain ⟨z,hE⟩:=el.el
 obtain ⟨i,i1,i2,i3,i4⟩:=hE.info
 have hm':=Nat.le_of_ble_eq_true hm
 have e1:(Builtin.append_ #[T1,T1] o.type #[.slice A m c,.slice none 0 0]).run P w = .ok (.slice A m c) w:=by
  cases A<;>simp [Builtin.append_,run_underlying hE.under,sizeOf,typeInfo,i1,Builtin.lenOf,Builtin.firstCells,hm',storeCells]
 unfold execOp
 simp only [hop,resolve,invoke,builtin,Sem.run_bind,Sem.run_pure,Result.andThen_ok,List.map_toArray,List.map_cons,List.map_nil,q.ev hx,q.ev hy,e1]
end
theorem cin_fn (x lo hi:Int) (b c:Nat) (w:World) (h1:InC w b 0 [.int .i64 lo]) (h2:InC w c 0 [.int .i64 hi]):Gv Tryz.prog 74 [.int .i64 x,.pointer (some ⟨b,0,none⟩),.pointer (some ⟨c,0,none⟩)] w (.bool (!inB lo hi x)):=by
 unfold Gv
 (refine zD (n:=13) Tryz.func74 rfl rfl rfl ?_)
 (repeat' (first|((with_reducible refine zH ?_);first|refine zF rfl rfl rfl ?_|refine zC rfl rfl rfl ?_|(refine zM rfl rfl rfl ?_;refine ⟨_,rfl,?_⟩)|refine zn rfl rfl rfl rfl ?_|refine zd rfl rfl rfl ?_|(refine zS rfl rfl rfl rfl rfl (fun h=>?_) (fun h=>?_)<;>(dsimp only [cmpP] at h;(try (exfalso;omega)))))|(with_reducible first|refine zK ?_|refine zB ?_|refine zG ?_|refine zA ?_|refine zR ?_)))
 all_goals exact zN (by exact rTm rfl) () trivial (by simp [resV,inB];omega) (fun _ h=>h.sub (by (repeat constructor)))
theorem cin_all (lo hi:Int) (l:List Int) (A:Option Addr) (cap:Nat) (w:World) (hk:zg encI 1 w A l) (hl:l.length≤1000000):Gv Tryz.prog 42 [.int .i64 lo,.int .i64 hi,.slice A l.length cap] w (.bool (l.all (inB lo hi))):=by
 unfold Gv
 rw [← zFX]
 (refine zD (n:=11) Tryz.func42 rfl rfl rfl ?_)
 (repeat' (first|((with_reducible refine zH ?_);first|refine zF rfl rfl rfl ?_|refine zC rfl rfl rfl ?_|refine zE rfl rfl rfl rfl (fun _ _ q=>ci_con l A cap _ _ (fun n=>!inB lo hi n) _ (hk.below q.below) hl (fun x W' _ hW'=>cin_fn x lo hi _ _ W' (zBp q.own hW' rfl) (zBp q.own hW' rfl))) ?_|refine zAB rfl rfl rfl ?_|(refine zf rfl rfl rfl rfl (fun b=>?_))|refine zAq rfl rfl rfl rfl ?_)|(with_reducible first|refine zK ?_|refine zB ?_|refine zG ?_|refine zA ?_|refine zR ?_)))
 all_goals exact zN (by exact rTm rfl) () trivial rfl (fun _ h=>h.sub (by (repeat constructor)))
theorem zHN (kf:FuncId) (cs:Array Value) (w:World):Gv Tryz.prog 116 [.slice none 0 0,.func (.func kf) #[] cs] w (.bool false):=by
 have h1:∀ W,Gv Tryz.prog 139 [.slice none 0 0,.func (.func kf) #[] cs] W (.int .i64 (-1)):=fun W=>by
  unfold Gv
  (refine zD (n:=19) Tryz.func139 rfl rfl rfl ?_)
  (repeat' (first|((with_reducible refine zH ?_);first|refine zF rfl rfl rfl ?_|refine zC rfl rfl rfl ?_|refine zz rfl rfl rfl ?_)|(with_reducible first|refine zK ?_|refine zB ?_|refine zG ?_|refine zA ?_|refine zT ?_)))
  refine z9 (ι:=Unit) [] rfl (fun _=>True) (fun _=>[(7,.int .i64 0),(8,.int .i64 0)]) (fun _=>[]) (fun _=>0) () trivial (by (repeat first|exact lK1|refine za rfl ?_)) (by (repeat constructor)) ?_
  rintro ⟨⟩ -
  simp only [zAu,List.cons_append,List.nil_append]
  (repeat' (first|((with_reducible refine zH ?_);first|refine zC rfl rfl rfl ?_|(refine zS rfl rfl rfl rfl rfl (fun h=>?_) (fun h=>?_)<;>(dsimp only [cmpP] at h;(try (exfalso;omega)))))|(with_reducible first|refine zK ?_|refine zB ?_|refine zG ?_|refine zA ?_|refine zR ?_|refine zr ?_|refine zZ ?_|refine ze ?_)|((with_reducible refine zI ?_ ?_);(· exact rfl))))
  exact zN (by exact rTm rfl) () trivial rfl (fun _ h=>h.sub (by (repeat constructor)))
 unfold Gv
 (refine zD (n:=9) Tryz.func116 rfl rfl rfl ?_)
 (repeat' (first|((with_reducible refine zH ?_);first|refine zF rfl rfl rfl ?_|refine zC rfl rfl rfl ?_|(refine zS rfl rfl rfl rfl rfl (fun h=>?_) (fun h=>?_)<;>(dsimp only [cmpP] at h;(try (exfalso;omega))))|refine zE rfl rfl rfl rfl (fun _ _ q=>h1 _) ?_)|(with_reducible first|refine zK ?_|refine zB ?_|refine zG ?_|refine zA ?_|refine zR ?_)))
 exact zN (by exact rTm rfl) () trivial rfl (fun _ h=>h.sub (by (repeat constructor)))
theorem cin_1 (lo hi a:Int) (c:Nat) (A:Option Addr) (w:World) (hk:zg encI 1 w A [a]):Gv Tryz.prog 42 [.int .i64 lo,.int .i64 hi,.slice A 1 c] w (.bool (inB lo hi a)):=by
 have:=cin_all lo hi [a] A c w hk (by simp)
 simpa using this
theorem cin_y (lo hi a:Int) (c:Nat) (A:Option Addr) (w:World) (hk:zg encI 1 w A [a]) (h:inB lo hi a=true):Gv Tryz.prog 42 [.int .i64 lo,.int .i64 hi,.slice A 1 c] w (.bool true):=h ▸ cin_1 lo hi a c A w hk
theorem cbare_0 (w:World):Gv Tryz.prog 117 [.agg #[.slice none 0 0,.int .i64 500,.int .i64 0,.int .i64 0,.slice none 0 0,.slice none 0 0,.int .i64 0,.bool false]] w (.bool true):=by
 unfold Gv
 (refine zD (n:=43) Tryz.func117 rfl rfl rfl ?_)
 (repeat' (first|((with_reducible refine zH ?_);first|refine zF rfl rfl rfl ?_|refine zC rfl rfl rfl ?_|(refine zM rfl rfl rfl ?_;refine ⟨_,rfl,?_⟩)|refine zP rfl rfl rfl ?_|refine zn rfl rfl rfl rfl ?_|(refine zS rfl rfl rfl rfl rfl (fun h=>?_) (fun h=>?_)<;>(dsimp only [cmpP] at h;(try (exfalso;omega))))|refine zE rfl rfl rfl rfl (fun _ _ q=>cin_y _ _ _ _ _ _ (zo (enc:=encI) (by exact rfl) _ q.below q.own) (by decide)) ?_|refine zFd rfl rfl rfl rfl rfl ?_|refine zz rfl rfl rfl ?_|(refine zf rfl rfl rfl rfl (fun b=>?_))|(refine zc rfl rfl rfl ?_;refine ⟨rfl,_,rfl,fun b=>?_⟩))|(with_reducible first|refine zK ?_|refine zB ?_|refine zG ?_|refine zA ?_|refine zR ?_)))
 exact zN (by exact rTm rfl) () trivial rfl (fun _ h=>h.sub (by (repeat constructor)))
theorem cfits_0 (g:Nat) (w:World):Gv Tryz.prog 71 [.pointer (some ⟨g,0,none⟩),.agg #[.slice none 0 0,.int .i64 500,.int .i64 0,.int .i64 0,.slice none 0 0,.slice none 0 0,.int .i64 0,.bool false]] w (.bool true):=by
 unfold Gv
 (refine zD (n:=22) Tryz.func71 rfl rfl rfl ?_)
 (repeat' (first|((with_reducible refine zH ?_);first|refine zF rfl rfl rfl ?_|refine zC rfl rfl rfl ?_|(refine zM rfl rfl rfl ?_;refine ⟨_,rfl,?_⟩)|refine zP rfl rfl rfl ?_|refine zn rfl rfl rfl rfl ?_|(refine zS rfl rfl rfl rfl rfl (fun h=>?_) (fun h=>?_)<;>(dsimp only [cmpP] at h;(try (exfalso;omega))))|refine zE rfl rfl rfl rfl (fun _ _ q=>zHN _ _ _) ?_|refine zE rfl rfl rfl rfl (fun _ _ q=>cbare_0 _) ?_|refine zAB rfl rfl rfl ?_|refine zz rfl rfl rfl ?_|(refine zf rfl rfl rfl rfl (fun b=>?_))|refine zAq rfl rfl rfl rfl ?_)|(with_reducible first|refine zK ?_|refine zB ?_|refine zG ?_|refine zA ?_|refine zR ?_)))
 exact zN (by exact rTm rfl) () trivial rfl (fun _ h=>h.sub (by (repeat constructor)))
def zCt (_:Unit):List Value:=[.slice none 0 0,.int .i64 500,.int .i64 0,.int .i64 0,.slice none 0 0,.slice none 0 0,.int .i64 0,.bool false]
instance : zDA zCt 8:=⟨fun _=>rfl,fun x v hv=>by simp [zCt] at hv;rcases hv with rfl|rfl|rfl|rfl|rfl|rfl|rfl|rfl<;>rfl⟩
def zBK (i:Int):Value:=.int .i64 i
def zBD (h m:Nat):List Ent:=[.blk h [.slice none 0 0,.map (some m)],.ml m zBK zBK ([]:List (Int × Int × Nat)) 0]
theorem copen_0 (w:World):Ret Tryz.prog 70 [.agg #[.slice none 0 0]] w (fun p:Nat × Nat=>.tuple #[.pointer (some ⟨p.1,0,none⟩),.int .i64 0]) (fun p=>zBD p.1 p.2) (fun _=>True):=by
 unfold zBD
 (refine zD (n:=43) Tryz.func70 rfl rfl rfl ?_)
 (repeat' (first|((with_reducible refine zH ?_);first|refine zF rfl rfl rfl ?_|refine zC rfl rfl rfl ?_|(refine zM rfl rfl rfl ?_;refine ⟨_,rfl,?_⟩)|refine zP rfl rfl rfl ?_|refine zEp rfl rfl (fun m=>?_)|refine zz rfl rfl rfl ?_|(refine zf rfl rfl rfl rfl (fun b=>?_))|(refine zAJ rfl rfl rfl ?_;refine ⟨_,rfl,?_⟩))|(with_reducible first|refine zK ?_|refine zB ?_|refine zG ?_|refine zA ?_|refine zT ?_)))
 obtain ⟨bh,hbh⟩:∃ y,y=b:=⟨_,rfl⟩
 subst hbh
 refine zBk (H':=[.blk bh [.slice none 0 0,.map (some m)],.ml m zBK zBK ([]:List (Int × Int × Nat)) 0,.blk b [.slice none 0 0]]) (fun _ h=>h) ?_
 refine z9 (ι:=Unit) [1,4] rfl (fun _=>True) (fun _=>[(14,.int .i64 0),(15,.int .i64 0)]) (fun _=>[.blk bh [.slice none 0 0,.map (some m)],.ml m zBK zBK ([]:List (Int × Int × Nat)) 0,.blk b [.slice none 0 0]]) (fun _=>0) () trivial (by (repeat first|exact lK1|refine za rfl ?_)) (by (repeat constructor)) ?_
 rintro ⟨⟩ -
 simp only [zAu,List.cons_append,List.nil_append]
 (repeat' (first|((with_reducible refine zH ?_);first|refine zF rfl rfl rfl ?_|refine zC rfl rfl rfl ?_|(refine zM rfl rfl rfl ?_;refine ⟨_,rfl,?_⟩)|refine zP rfl rfl rfl ?_|(refine zS rfl rfl rfl rfl rfl (fun h=>?_) (fun h=>?_)<;>(dsimp only [cmpP] at h;(try (exfalso;omega))))|refine zz rfl rfl rfl ?_)|(with_reducible first|refine zK ?_|refine zB ?_|refine zG ?_|refine zA ?_|refine zR ?_|refine zU ?_|refine zr ?_|refine zZ ?_|refine ze ?_)|((with_reducible refine zI ?_ ?_);(· exact rfl))))
 exact zN (by (exact zi.cons (by exact zAo.tmp rfl) (zi.cons (by exact zAo.tmp rfl) zi.nil))) (bh,m) trivial rfl (fun _ h=>h.sub (by (repeat constructor)))
set_option maxHeartbeats 1000000 in
theorem casked_0 (A:Option Addr) (w:World) (hA:zg zCt 8 w A [()]):Ret Tryz.prog 38 [.agg #[.slice none 0 0],.slice A 1 1] w (fun p:Nat × Nat=>.tuple #[.pointer (some ⟨p.1,0,none⟩),.int .i64 0]) (fun p=>zBD p.1 p.2) (fun _=>True):=by
 obtain ⟨bA,oA,rfl,_,_⟩:=hA.at_ (show 0 < [()].length by simp)
 have:InS w bA oA zCt 8 [()]:=⟨hA⟩
 have:zA5 [()] 0 ():=⟨rfl⟩
 unfold zBD
 (refine zD (n:=30) Tryz.func38 rfl rfl rfl ?_)
 (repeat' (first|((with_reducible refine zH ?_);first|refine zF rfl rfl rfl ?_|refine zC rfl rfl rfl ?_|(refine zM rfl rfl rfl ?_;refine ⟨_,rfl,?_⟩)|(refine zS rfl rfl rfl rfl rfl (fun h=>?_) (fun h=>?_)<;>(dsimp only [cmpP] at h;(try (exfalso;omega))))|(refine zB8 rfl rfl rfl rfl (fun _ _ q=>copen_0 _) ?_;rintro ⟨bh,m⟩ -;unfold zBD;dsimp only [List.cons_append,List.nil_append])|refine zh rfl rfl rfl rfl ?_|refine zz rfl rfl rfl ?_|(refine zf rfl rfl rfl rfl (fun b=>?_)))|(with_reducible first|refine zK ?_|refine zB ?_|refine zG ?_|refine zA ?_|refine zU ?_|refine zT ?_)|((with_reducible refine zI ?_ ?_);(· exact rfl))))
 refine z9 (ι:=Nat) [6,18,19] rfl (fun i=>i≤1) (fun i=>[(20,.int .i64 (i:Int))]) (fun _=>[.blk bh [.slice none 0 0,.map (some m)],.ml m zBK zBK ([]:List (Int × Int × Nat)) 0]) (fun i=>1 - i) 0 (by omega) (by (repeat first|exact lK1|refine za rfl ?_)) (by (repeat constructor)) ?_
 rintro i hi
 simp only [zAu,List.cons_append,List.nil_append]
 by_cases hlt:i<1
 ·obtain rfl:i=0:=by omega
  (repeat' (first|((with_reducible refine zH ?_);first|refine zF rfl rfl rfl ?_|(refine zM rfl rfl rfl ?_;refine ⟨_,rfl,?_⟩)|(refine zS rfl rfl rfl rfl rfl (fun h=>?_) (fun h=>?_)<;>(dsimp only [cmpP] at h;(try (exfalso;omega))))|refine zAN (I:=0) rfl rfl rfl rfl rfl (by decide) ?_|refine zE rfl rfl rfl rfl (fun _ _ q=>cfits_0 _ _) ?_|refine zAB rfl rfl rfl ?_|refine zAD rfl rfl rfl rfl (by omega) ?_|(refine zV rfl rfl rfl rfl rfl ?_;refine ⟨rfl,by first|decide|exact Nat.le_of_ble_eq_true rfl|(simp;omega),_,rfl,?_⟩)|(refine zX rfl rfl (fun b=>?_)))|(with_reducible first|refine zK ?_|refine zB ?_|refine zG ?_|refine zA ?_|refine zU ?_|refine zT ?_|refine zu ?_)|((with_reducible refine zO ?_ ?_);(· exact rfl))|((with_reducible refine zI ?_ ?_);(· exact rfl))))
  exact zl (ι:=Nat) 1 (by omega) (by omega) (by (repeat first|exact lK1|refine za rfl ?_)) (by (repeat constructor))
 ·obtain rfl:i=1:=by omega
  (repeat' (first|((with_reducible refine zH ?_);first|refine zF rfl rfl rfl ?_|refine zC rfl rfl rfl ?_|(refine zS rfl rfl rfl rfl rfl (fun h=>?_) (fun h=>?_)<;>(dsimp only [cmpP] at h;(try (exfalso;omega)))))|(with_reducible first|refine zK ?_|refine zB ?_|refine zG ?_|refine zA ?_|refine zR ?_|refine zr ?_|refine zZ ?_|refine ze ?_)|((with_reducible refine zI ?_ ?_);(· exact rfl))))
  exact zN (by (exact zi.cons (by exact zAo.tmp rfl) (zi.cons (by exact zAo.tmp rfl) zi.nil))) (bh,m) trivial rfl (fun _ h=>h.sub (by (repeat constructor)))
set_option maxHeartbeats 1000000 in
theorem cused_0 (gh m:Nat) (w:World) (wb:World) (hwb:Below wb.heap.size wb w) (hO:Own wb.heap.size w (zBD gh m)):zEg Tryz.prog 43 [.pointer (some ⟨gh,0,none⟩),.agg #[.slice none 0 0,.int .i64 500,.int .i64 0,.int .i64 0,.slice none 0 0,.slice none 0 0,.int .i64 0,.bool false]] w (zBD gh m) (fun _:Unit=>.slice none 0 0) (fun _=>zBD gh m) (fun _=>True):=by
 unfold zBD at *
 refine zC5 (n:=56) hwb hO Tryz.func43 rfl rfl rfl ?_
 simp only [List.cons_append,List.nil_append]
 (repeat' (first|((with_reducible refine zH ?_);first|refine zF rfl rfl rfl ?_|refine zC rfl rfl rfl ?_|(refine zM rfl rfl rfl ?_;refine ⟨_,rfl,?_⟩)|refine zP rfl rfl rfl ?_|refine zEp rfl rfl (fun m2=>?_)|refine u_rangeM (kv:=zBK) (vv:=zBK) rfl rfl rfl (by (repeat constructor)) (fun r=>?_)|(refine zf rfl rfl rfl rfl (fun b=>?_))|refine zEF rfl rfl rfl ?_)|(with_reducible first|refine zK ?_|refine zB ?_|refine zG ?_|refine zA ?_|refine zT ?_)))
 refine z9 (ι:=Unit) [0,3,17] rfl (fun _=>True) (fun _=>[]) (fun _=>[.itl r m 0 [],.blk b [.slice none 0 0,.int .i64 500,.int .i64 0,.int .i64 0,.slice none 0 0,.slice none 0 0,.int .i64 0,.bool false],.blk gh [.slice none 0 0,.map (some m)],.ml m zBK zBK ([]:List (Int × Int × Nat)) 0,.oldx w wb.heap.size (feet [.blk gh [.slice none 0 0,.map (some m)],.ml m zBK zBK ([]:List (Int × Int × Nat)) 0])]) (fun _=>0) () trivial (by (repeat first|exact lK1|refine za rfl ?_)) (by (repeat constructor)) ?_
 rintro ⟨⟩ -
 simp only [zAu,List.cons_append,List.nil_append]
 (repeat' (first|((with_reducible refine zH ?_);first|refine zF rfl rfl rfl ?_|(refine zM rfl rfl rfl ?_;refine ⟨_,rfl,?_⟩)|refine zP rfl rfl rfl ?_|(refine u_nextM (kv:=zBK) (vv:=zBK) rfl rfl rfl (by (repeat constructor)) (by (repeat constructor)) (MOk.nil 0) (fun hend=>?_) (fun p hp hpn=>by cases hp))|refine zh rfl rfl rfl rfl ?_|refine zz rfl rfl rfl ?_)|(with_reducible first|refine zK ?_|refine zB ?_|refine zG ?_|refine zA ?_|refine zT ?_|refine zr ?_|refine zZ ?_|refine ze ?_)|((with_reducible refine zI ?_ ?_);(· exact rfl))))
 refine z9 (ι:=Unit) [0,3] rfl (fun _=>True) (fun _=>[(26,.int .i64 0),(27,.int .i64 0)]) (fun _=>[.blk b [.slice none 0 0,.int .i64 500,.int .i64 0,.int .i64 0,.slice none 0 0,.slice none 0 0,.int .i64 0,.bool false],.blk gh [.slice none 0 0,.map (some m)],.ml m zBK zBK ([]:List (Int × Int × Nat)) 0,.oldx w wb.heap.size (feet [.blk gh [.slice none 0 0,.map (some m)],.ml m zBK zBK ([]:List (Int × Int × Nat)) 0])]) (fun _=>0) () trivial (by (repeat first|exact lK1|refine za rfl ?_)) (by (repeat constructor)) ?_
 rintro ⟨⟩ -
 simp only [zAu,List.cons_append,List.nil_append]
 (repeat' (first|((with_reducible refine zH ?_);first|refine zF rfl rfl rfl ?_|refine zC rfl rfl rfl ?_|(refine zM rfl rfl rfl ?_;refine ⟨_,rfl,?_⟩)|refine zP rfl rfl rfl ?_|(refine zS rfl rfl rfl rfl rfl (fun h=>?_) (fun h=>?_)<;>(dsimp only [cmpP] at h;(try (exfalso;omega))))|refine zz rfl rfl rfl ?_|refine zEF rfl rfl rfl ?_)|(with_reducible first|refine zK ?_|refine zB ?_|refine zG ?_|refine zA ?_|refine zT ?_|refine zr ?_|refine zZ ?_|refine ze ?_)|((with_reducible refine zI ?_ ?_);(· exact rfl))))
 refine z9 (ι:=Unit) [0] rfl (fun _=>True) (fun _=>[(9,.slice none 0 0),(40,.int .i64 0),(41,.int .i64 0)]) (fun _=>[.blk b [.slice none 0 0,.int .i64 500,.int .i64 0,.int .i64 0,.slice none 0 0,.slice none 0 0,.int .i64 0,.bool false],.blk gh [.slice none 0 0,.map (some m)],.ml m zBK zBK ([]:List (Int × Int × Nat)) 0,.oldx w wb.heap.size (feet [.blk gh [.slice none 0 0,.map (some m)],.ml m zBK zBK ([]:List (Int × Int × Nat)) 0])]) (fun _=>0) () trivial (by (repeat first|exact lK1|refine za rfl ?_)) (by (repeat constructor)) ?_
 rintro ⟨⟩ -
 simp only [zAu,List.cons_append,List.nil_append]
 (repeat' (first|((with_reducible refine zH ?_);first|refine zF rfl rfl rfl ?_|refine zC rfl rfl rfl ?_|(refine zS rfl rfl rfl rfl rfl (fun h=>?_) (fun h=>?_)<;>(dsimp only [cmpP] at h;(try (exfalso;omega)))))|(with_reducible first|refine zK ?_|refine zB ?_|refine zG ?_|refine zA ?_|refine zR ?_|refine zr ?_|refine zZ ?_|refine ze ?_)|((with_reducible refine zI ?_ ?_);(· exact rfl))))
 exact zFI (by exact rTm rfl) () trivial rfl hwb (fun _ h=>h.sub (by (repeat constructor)))
set_option maxHeartbeats 1000000 in
theorem zHM (gh m:Nat) (w:World) (wb:World) (hwb:Below wb.heap.size wb w) (hO:Own wb.heap.size w (zBD gh m)):zEg Tryz.prog 39 [.pointer (some ⟨gh,0,none⟩),.agg #[.slice none 0 0,.int .i64 500,.int .i64 0,.int .i64 0,.slice none 0 0,.slice none 0 0,.int .i64 0,.bool false]] w (zBD gh m) (fun p:Nat=>.slice (some ⟨p,0,none⟩) 1 1) (fun p=>.blk p [.int .i64 500,.int .i64 500]::zBD gh m) (fun _=>True):=by
 refine zC5 (n:=29) hwb hO Tryz.func39 rfl rfl rfl ?_
 unfold zBD
 simp only [List.cons_append,List.nil_append]
 (repeat' (first|((with_reducible refine zH ?_);first|refine zF rfl rfl rfl ?_|refine zC rfl rfl rfl ?_|(refine zM rfl rfl rfl ?_;refine ⟨_,rfl,?_⟩)|refine zP rfl rfl rfl ?_|(refine zV rfl rfl rfl rfl rfl ?_;refine ⟨rfl,by first|decide|exact Nat.le_of_ble_eq_true rfl|(simp;omega),_,rfl,?_⟩)|(refine zX rfl rfl (fun b=>?_))|(refine zf rfl rfl rfl rfl (fun b=>?_))|(refine zAJ rfl rfl rfl ?_;refine ⟨_,rfl,?_⟩)|(refine zc rfl rfl rfl ?_;refine ⟨rfl,_,rfl,fun b=>?_⟩)|refine zAq rfl rfl rfl rfl ?_)|(with_reducible first|refine zK ?_|refine zB ?_|refine zG ?_|refine zA ?_)))
 rename_i b3 b14
 obtain ⟨b5,hb5⟩:∃ y,y=b:=⟨_,rfl⟩
 subst hb5
 refine zGl (zBD gh m) [.blk b5 [.slice (some ⟨b14,0,none⟩) 1 1],.blk b14 [.int .i64 500,.int .i64 500],.blk b3 [.slice none 0 0,.int .i64 500,.int .i64 0,.int .i64 0,.slice none 0 0,.slice none 0 0,.int .i64 0,.bool false],.oldx w wb.heap.size (feet [.blk gh [.slice none 0 0,.map (some m)],.ml m zBK zBK ([]:List (Int × Int × Nat)) 0])] rfl rfl rfl rfl (by unfold zBD;simp only [List.cons_append,List.nil_append];(repeat constructor)) (fun a W q=>cused_0 gh m W wb q.below (Own.append.1 q.own).1) ?_
 rintro ⟨⟩ -
 unfold zBD
 simp only [List.cons_append,List.nil_append]
 (repeat' (first|((with_reducible refine zH ?_);first|refine zF rfl rfl rfl ?_|refine zz rfl rfl rfl ?_)|(with_reducible first|refine zG ?_|refine zA ?_|refine zT ?_)))
 refine z9 (ι:=Unit) [5] rfl (fun _=>True) (fun _=>[(19,.int .i64 0),(20,.int .i64 0)]) (fun _=>[.blk gh [.slice none 0 0,.map (some m)],.ml m zBK zBK ([]:List (Int × Int × Nat)) 0,.blk b5 [.slice (some ⟨b14,0,none⟩) 1 1],.blk b14 [.int .i64 500,.int .i64 500],.blk b3 [.slice none 0 0,.int .i64 500,.int .i64 0,.int .i64 0,.slice none 0 0,.slice none 0 0,.int .i64 0,.bool false],.oldx w wb.heap.size (feet [.blk gh [.slice none 0 0,.map (some m)],.ml m zBK zBK ([]:List (Int × Int × Nat)) 0])]) (fun _=>0) () trivial (by (repeat first|exact lK1|refine za rfl ?_)) (by (repeat constructor)) ?_
 rintro ⟨⟩ -
 simp only [zAu,List.cons_append,List.nil_append]
 (repeat' (first|((with_reducible refine zH ?_);first|refine zC rfl rfl rfl ?_|(refine zM rfl rfl rfl ?_;refine ⟨_,rfl,?_⟩)|(refine zS rfl rfl rfl rfl rfl (fun h=>?_) (fun h=>?_)<;>(dsimp only [cmpP] at h;(try (exfalso;omega)))))|(with_reducible first|refine zK ?_|refine zB ?_|refine zG ?_|refine zA ?_|refine zR ?_|refine zr ?_|refine zZ ?_|refine ze ?_)|((with_reducible refine zI ?_ ?_);(· exact rfl))))
 exact zFI (by exact rTm rfl) b14 trivial rfl hwb (fun _ h=>h.sub (by (try unfold zBD);(try simp only [List.cons_append,List.nil_append]);(repeat constructor)))
set_option maxHeartbeats 1000000 in
theorem zHP (w:World):Ret Tryz.prog 16 [.agg #[.slice none 0 0],.agg #[.slice none 0 0,.int .i64 500,.int .i64 0,.int .i64 0,.slice none 0 0,.slice none 0 0,.int .i64 0,.bool false]] w (fun p:Nat=>.tuple #[.slice (some ⟨p,0,none⟩) 1 1,.int .i64 0]) (fun p=>[.blk p [.int .i64 500,.int .i64 500]]) (fun _=>True):=by
 have hA:=fun W A (h:zg zCt 8 W A [()])=>casked_0 A W h
 unfold zBD at hA
 (refine zD (n:=26) Tryz.func16 rfl rfl rfl ?_)
 (repeat' (first|((with_reducible refine zH ?_);first|refine zF rfl rfl rfl ?_|refine zC rfl rfl rfl ?_|(refine zM rfl rfl rfl ?_;refine ⟨_,rfl,?_⟩)|(refine zS rfl rfl rfl rfl rfl (fun h=>?_) (fun h=>?_)<;>(dsimp only [cmpP] at h;(try (exfalso;omega))))|(refine zB8 rfl rfl rfl rfl (fun _ _ q=>hA _ _ (zo (enc:=zCt) (by exact rfl) _ q.below q.own)) ?_;rintro ⟨gh,m⟩ -;dsimp only [List.cons_append,List.nil_append])|refine zh rfl rfl rfl rfl ?_|(refine zf rfl rfl rfl rfl (fun b=>?_))|(refine zc rfl rfl rfl ?_;refine ⟨rfl,_,rfl,fun b=>?_⟩))|(with_reducible first|refine zK ?_|refine zB ?_|refine zG ?_|refine zA ?_|refine zU ?_)|((with_reducible refine zI ?_ ?_);(· exact rfl))))
 refine zGl (zBD gh m) [] rfl rfl rfl rfl (by unfold zBD;simp only [List.cons_append,List.nil_append];(repeat constructor)) (fun a W q=>zHM gh m W w q.below (Own.append.1 q.own).1) ?_
 rintro bp -
 unfold zBD
 simp only [List.cons_append,List.nil_append]
 (repeat' (first|((with_reducible refine zH ?_);first|refine zF rfl rfl rfl ?_|refine zC rfl rfl rfl ?_|(refine zS rfl rfl rfl rfl rfl (fun h=>?_) (fun h=>?_)<;>(dsimp only [cmpP] at h;(try (exfalso;omega))))|refine zz rfl rfl rfl ?_)|(with_reducible first|refine zK ?_|refine zB ?_|refine zG ?_|refine zA ?_|refine zR ?_|refine zU ?_)|((with_reducible refine zI ?_ ?_);(· exact rfl))))
 exact zN (by (exact zi.cons (by exact zAo.tmp rfl) (zi.cons (by exact zAo.tmp rfl) zi.nil))) bp trivial rfl (fun _ h=>h.sub (by (repeat constructor)))
end Go.Proofs.YtcpdjamlhhfbhaaGreat
namespace Go.Proofs.YtcpdjamlhhfbhaaGreat.Two
variable {ro : Option Nat}
open Go.RowKit
set_option maxRecDepth 20000
section
variable {S : List (Nat × Nat)} {I:List (Nat × Nat × Nat × List Ent)} {w0:World} {n:Nat} {d:List Deferred} {R R0:List (Nat × Value)} {H H' H0:List Ent} {Q:Exit→Act→World→Prop} {ops:Array Oper} {bs:List (List Bool)} {b:List Bool} {k:Nat} {o:Oper} {rest:List Oper} {T:List Rw} {t:Tmp} {Hk:zAU→List Ent} {x y:Operand} {v:Value}
theorem c_eqspT {a b' c e:Int} {T':TypeId} (hop:o.op = .binOp .eql 26 x y T') (hw:∀ G,want (Rk R0 ops b o T G) ops o=some true) (hd:o.dst=some t) (hx:∀ G,evR (Rk R0 ops b o T G) x=some (.agg #[.int .i64 a,.int .i64 b'])) (hy:∀ G,evR (Rk R0 ops b o T G) y=some (.agg #[.int .i64 c,.int .i64 e]))
  (h1:a=c∧b'=e→zAc ro S I Tryz.prog w0 n d ops R0 H0 Q bs (k+1) rest (⟨k,some t,fun _=>(.bool true,[])⟩::T)) (h2:¬ (a=c∧b'=e)→zAc ro S I Tryz.prog w0 n d ops R0 H0 Q bs (k+1) rest (⟨k,some t,fun _=>(.bool false,[])⟩::T)):CAt ro S I Tryz.prog w0 n d ops R0 H0 Q b bs k o rest T Hk :=
 c_eql hop hw hd hx hy (fun w=>gd_sp _ _ _ _ _ w) (fun w=>zGL a b' c e w) (fun h=>h1 (by simpa using zCk.1 h)) (fun h=>h2 (by simpa using zGu.1 h))
end
end Go.Proofs.YtcpdjamlhhfbhaaGreat.Two
