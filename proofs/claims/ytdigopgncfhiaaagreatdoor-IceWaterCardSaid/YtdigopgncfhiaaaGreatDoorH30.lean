/- H30 -/
import Derived.Test.YtdigopgncfhiaaaGreatDoorH27
import Derived.Test.YtdigopgncfhiaaaGreatDoorH26
import Derived.Test.YtdigopgncfhiaaaGreatDoorH9
import Derived.Test.YtdigopgncfhiaaaGreatDoorH24
import Derived.Test.YtdigopgncfhiaaaGreatDoorH16
import Derived.Test.YtdigopgncfhiaaaGreatDoorH28
set_option linter.unusedSimpArgs false
set_option linter.unusedVariables false
namespace Go.Proofs.YtdigopgncfhiaaaGreatDoor
open Go.RowKit
open Flow (sumL)
set_option maxRecDepth 20000
def zFs (xss:List (List Int)) (r m j:Nat):Int:=sumL (List.range r) (fun h=>((xss.getD h []).count (j:Int):Int))+(((xss.getD r []).take m).count (j:Int):Int)
def zGU (xss:List (List Int)) (nb r m:Nat):List Int:=(List.range nb).map (zFs xss r m)
section
variable {xss : List (List Int)} {nb r m j:Nat}
theorem zQ5 : zFs xss r (xss.getD r []).length j=zFs xss (r+1) 0 j:=by
 unfold zFs
 rw [Flow.zAI,List.take_length];simp
theorem zLb {x:Int} (hx:(xss.getD r [])[m]?=some x):zFs xss r (m+1) j=zFs xss r m j+(if x=(j:Int) then 1 else 0):=by
 unfold zFs
 rw [List.take_add_one,hx,Option.toList_some,List.count_append,List.count_singleton]
 simp only [beq_iff_eq]
 split<;>simp_all<;>omega
theorem zQ7 : zGU xss nb r (xss.getD r []).length=zGU xss nb (r+1) 0:=by
 unfold zGU
 exact List.map_congr_left fun j _=>zQ5
theorem zFt : (zGU xss nb r m).length=nb:=by simp [zGU]
theorem zHX (hj:j<nb):(zGU xss nb r m)[j]?=some (zFs xss r m j):=by simp [zGU,hj]
theorem cntL_set {x:Int} (hx:(xss.getD r [])[m]?=some x) (hj:j<nb) (e:x=(j:Int)):(zGU xss nb r m).set j (zFs xss r m j+1)=zGU xss nb r (m+1):=by
 apply List.ext_getElem?
 intro i
 rw [List.getElem?_set,zFt]
 by_cases h:j=i
 ·subst h
  rw [if_pos rfl,if_pos hj,zHX hj,zLb hx,if_pos e]
 ·rw [if_neg h]
  by_cases hi:i<nb
  ·rw [zHX hi,zHX hi,zLb hx,if_neg (by omega),Int.add_zero]
  ·rw [List.getElem?_eq_none (by rw [zFt];omega),List.getElem?_eq_none (by rw [zFt];omega)]
theorem zQ6 : zGU xss nb 0 0=List.replicate nb 0:=by
 unfold zGU
 rw [show zFs xss 0 0=fun _=>(0:Int) from funext fun j=>by simp [zFs,sumL],List.map_const',List.length_range]
theorem zPe (h:∀ s∈xss,s.length≤20):0≤zFs xss r m j∧zFs xss r m j≤20 * (r:Int)+20:=by
 have hr:∀ k,((xss.getD k []).count (j:Int):Int)≤20:=fun k=>by
  have h1:(xss.getD k []).count (j:Int)≤(xss.getD k []).length:=List.count_le_length
  have h2:(xss.getD k []).length≤20:=by
   rw [List.getD_eq_getElem?_getD]
   cases e:xss[k]? with
   | none=>simp
   | some s=>exact h s (List.mem_of_getElem? e)
  omega
 have h3:((xss.getD r []).take m).count (j:Int)≤(xss.getD r []).count (j:Int):=by
  have h:=congrArg (List.count (j:Int)) (List.take_append_drop m (xss.getD r []))
  rw [List.count_append] at h
  omega
 have h4:=hr r
 have h5:∀ k,0≤sumL (List.range k) (fun h=>((xss.getD h []).count (j:Int):Int))∧sumL (List.range k) (fun h=>((xss.getD h []).count (j:Int):Int))≤20 * (k:Int):=fun k=>by
  induction k with
  | zero=>simp [sumL]
  | succ k ih=>have:=hr k;rw [Flow.zAI];omega
 have:=h5 r
 unfold zFs;omega
theorem zNt (h:∀ k,(xss.getD k []).Pairwise (· < ·)) (k:Nat):zFs xss k 0 j=zGT xss j k:=by
 have hz:(((xss.getD k []).take 0).count (j:Int):Int)=0:=by simp
 unfold zFs zGT
 rw [hz,Int.add_zero]
 refine zAF k fun q _=>?_
 have hn:(xss.getD q []).Nodup:=(h q).imp fun h=>by omega
 by_cases hm:(j:Int)∈xss.getD q []
 ·rw [hn.count,if_pos hm,if_pos (List.contains_iff_mem.2 hm)];rfl
 ·rw [hn.count,if_neg hm,if_neg (fun q=>hm (List.contains_iff_mem.1 q))];rfl
end
set_option maxHeartbeats 4000000 in
theorem zOi (c:Cov) (A:Option Addr) (ca:Nat) (B:Option Addr) (cb:Nat) (C:Option Addr) (cc:Nat) (pl:List Sli) (P:Option Addr) (cp:Nat) (w:World) (hb:c.beds.length≤20) (hp:zBJ w P pl) (hl:pl.length≤12) (hrl:∀ s∈pl,s.xs.length≤20) (hin:∀ s∈pl,∀ x∈s.xs,∃ j:Nat,x=(j:Int)∧j<c.beds.length) :
  zB4 encI 1 (zGU (pl.map Sli.xs) c.beds.length pl.length 0) (fun v=>v) Tryz.prog 28 [zAS c A ca B cb C cc,.slice P pl.length cp] w:=by
 refine Ret.newsl ?_
 have hpp:=hp.p
 have hat:∀ i s,pl[i]?=some s→(pl.map Sli.xs).getD i []=s.xs:=fun i s h=>by
  rw [List.getD_eq_getElem?_getD,List.getElem?_map,h];rfl
 have hrl2:∀ s∈pl.map Sli.xs,s.length≤20:=fun s hs=>by
  obtain ⟨z,hz,rfl⟩:=List.mem_map.1 hs
  exact hrl z hz
 have hcl:=fun r m=>zFt (xss:=pl.map Sli.xs) (nb:=c.beds.length) (r:=r) (m:=m)
 have hz0:=zQ6 (xss:=pl.map Sli.xs) (nb:=c.beds.length)
 have hstep:=fun r m j x h1 h2 h3=>cntL_set (xss:=pl.map Sli.xs) (nb:=c.beds.length) (r:=r) (m:=m) (j:=j) (x:=x) h1 h2 h3
 have hnext:=fun r=>zQ7 (xss:=pl.map Sli.xs) (nb:=c.beds.length) (r:=r)
 have hca:=fun r m j h=>zHX (xss:=pl.map Sli.xs) (nb:=c.beds.length) (r:=r) (m:=m) (j:=j) h
 have hci:=fun r m j=>zPe (xss:=pl.map Sli.xs) (r:=r) (m:=m) (j:=j) hrl2
 generalize hCL:zGU (pl.map Sli.xs) c.beds.length=CL at *
 generalize hCO:zFs (pl.map Sli.xs)=CO at *
 unfold zAS zN
 (refine zJ (n:=43) Tryz.func28 rfl rfl rfl ?_)
 (repeat' (first|((with_reducible refine zF ?_);first|refine zE rfl rfl rfl ?_|refine zC rfl rfl rfl ?_|(refine zL rfl rfl rfl ?_;refine ⟨_,rfl,?_⟩)|refine zb rfl rfl rfl ?_|refine u_makeR (enc:=encI) (0:Int) (n0:=c.beds.length) rfl rfl rfl rfl rfl rfl rfl rfl rfl rfl (by omega) (fun gr=>?_)|refine zq rfl rfl rfl ?_|(refine zy rfl rfl rfl rfl (fun b=>?_)))|(with_reducible first|refine zH ?_|refine zB ?_|refine zD ?_|refine zA ?_|refine zP ?_)))
 rw [← hz0]
 refine zw (ι:=Nat) [1,5,14,15] rfl (fun r=>r≤pl.length) (fun r=>[(16,.int .i64 (r:Int))]) (fun r=>[.row encI 1 3 (.slice (some ⟨gr,0,none⟩) c.beds.length c.beds.length) (CL r 0)]) (fun r=>pl.length - r) 0 (Nat.zero_le _) (by (repeat first|exact lK1|refine zI rfl ?_)) (by (repeat constructor)) ?_
 rintro r hr
 simp only [zA1,List.cons_append,List.nil_append]
 by_cases hlt:r<pl.length
 ·obtain ⟨s,hs⟩:∃ s,pl[r]?=some s:=⟨_,List.getElem?_eq_getElem hlt⟩
  have hsm:=List.mem_of_getElem? hs
  have hxr:=hat r s hs
  have hsl:=hrl s hsm
  have hrow:=hp.rows s hsm
  have hins:=hin s hsm
  have hnx:=hnext r
  rw [hxr] at hnx
  obtain ⟨bb,o,rfl,_,_⟩:=hpp.at_ hlt
  have:InS w bb o zBC 1 pl:=⟨hpp⟩
  obtain ⟨sA,xs,sc⟩:=s
  have:zAQ pl r ⟨sA,xs,sc⟩:=⟨hs⟩
  simp only at hsl hrow hxr hins hnx
  (repeat' (first|((with_reducible refine zF ?_);first|refine zE rfl rfl rfl ?_|refine zC rfl rfl rfl ?_|(refine zL rfl rfl rfl ?_;refine ⟨_,rfl,?_⟩)|(refine zQ rfl rfl rfl rfl rfl (fun h=>?_) (fun h=>?_)<;>(dsimp only [cmpP] at h;(try (exfalso;omega))))|refine zk rfl rfl rfl rfl rfl (by omega) ?_|refine zq rfl rfl rfl ?_)|(with_reducible first|refine zH ?_|refine zB ?_|refine zD ?_|refine zA ?_|refine zS ?_|refine zP ?_)|((with_reducible refine zK ?_ ?_);(· exact rfl))))
  refine zw (ι:=Nat) [1,5,14,15,16,20,21] rfl (fun m=>m≤xs.length) (fun m=>[(22,.int .i64 (m:Int))]) (fun m=>[.row encI 1 3 (.slice (some ⟨gr,0,none⟩) c.beds.length c.beds.length) (CL r m)]) (fun m=>xs.length - m) 0 (Nat.zero_le _) (by (repeat first|exact lK1|refine zI rfl ?_)) (by (repeat constructor)) ?_
  rintro m hm
  simp only [zA1,List.cons_append,List.nil_append]
  by_cases hml:m<xs.length
  ·obtain ⟨x,hx⟩:∃ x,xs[m]?=some x:=⟨_,List.getElem?_eq_getElem hml⟩
   obtain ⟨j,rfl,hj⟩:=hins x (List.mem_of_getElem? hx)
   obtain ⟨b2,o2,rfl,_,_⟩:=hrow.at_ hml
   have:InS w b2 o2 encI 1 xs:=⟨hrow⟩
   have:zAQ xs m (j:Int):=⟨hx⟩
   have:zAQ (CL r m) j (CO r m j):=⟨hca r m j hj⟩
   have hc1:=hci r m j
   have hc2:=hcl r m
   have hst:=hstep r m j (j:Int) (by rw [hxr];exact hx) hj rfl
   (repeat' (first|((with_reducible refine zF ?_);first|refine zE rfl rfl rfl ?_|refine zC rfl rfl rfl ?_|(refine zL rfl rfl rfl ?_;refine ⟨_,rfl,?_⟩)|refine zAY rfl rfl rfl rfl ?_|(refine zQ rfl rfl rfl rfl rfl (fun h=>?_) (fun h=>?_)<;>(dsimp only [cmpP] at h;(try (exfalso;omega))))|refine zCq (enc:=encI) (i:=j) (CO r m j+1) rfl rfl rfl rfl rfl rfl rfl rfl (by omega) ?_|refine zi rfl rfl rfl rfl (by omega) ?_|refine zFL rfl rfl rfl rfl (IntWalk.i64_in _ (by omega)) ?_|refine zk rfl rfl rfl rfl rfl (by omega) ?_|refine zq rfl rfl rfl ?_)|(with_reducible first|refine zH ?_|refine zB ?_|refine zD ?_|refine zA ?_|refine zS ?_|refine zP ?_|refine zg ?_)|((with_reducible refine zK ?_ ?_);(· exact rfl))))
   rw [hst]
   exact zZ (ι:=Nat) (m+1) (by omega) (by omega) (by (repeat first|exact lK1|refine zI rfl ?_)) (by (repeat constructor))
  ·obtain rfl:m=xs.length:=by omega
   rw [hnx]
   (repeat' (first|((with_reducible refine zF ?_);first|refine zE rfl rfl rfl ?_|(refine zQ rfl rfl rfl rfl rfl (fun h=>?_) (fun h=>?_)<;>(dsimp only [cmpP] at h;(try (exfalso;omega))))|refine zi rfl rfl rfl rfl (by omega) ?_)|(with_reducible first|refine zH ?_|refine zB ?_|refine zD ?_|refine zA ?_|refine zl ?_|refine zg ?_|refine zV ?_|refine zX ?_)|((with_reducible refine zG ?_ ?_);(· exact rfl))))
   exact zZ (ι:=Nat) (r+1) (by omega) (by omega) (by (repeat first|exact lK1|refine zI rfl ?_)) (by (repeat constructor))
 ·obtain rfl:r=pl.length:=by omega
  (repeat' (first|((with_reducible refine zF ?_);first|refine zE rfl rfl rfl ?_|refine zC rfl rfl rfl ?_|(refine zQ rfl rfl rfl rfl rfl (fun h=>?_) (fun h=>?_)<;>(dsimp only [cmpP] at h;(try (exfalso;omega)))))|(with_reducible first|refine zH ?_|refine zB ?_|refine zD ?_|refine zA ?_|refine zW ?_|refine zl ?_|refine zV ?_|refine zX ?_)|((with_reducible refine zG ?_ ?_);(· exact rfl))))
  exact zR (by exact rTm rfl) (some ⟨gr,0,none⟩,c.beds.length) trivial (by simp [resV,hcl]) (fun _ h=>(h.zET (enc:=encI) (by (repeat constructor))).sub (by (repeat constructor)))
end Go.Proofs.YtdigopgncfhiaaaGreatDoor
namespace Go.Proofs.YtdigopgncfhiaaaGreatDoor
open Go.RowKit
set_option maxRecDepth 20000
theorem zLy {base:Nat} {w:World} {H H1 H2:List Ent} {P:Option Addr} {pl:List Sli} (h:Own base w H) (ht:Take H (.sl zBC 1 P pl) H1) (ht2:Take H (.rows pl) H2):zBJ w P pl:=⟨h.here _ ht.mem,h.here _ ht2.mem⟩
end Go.Proofs.YtdigopgncfhiaaaGreatDoor
namespace Go.Proofs.YtdigopgncfhiaaaGreatDoor
open Go.RowKit
open Flow (sumL)
set_option maxRecDepth 20000
theorem zNU (c:Cov) (A:Option Addr) (ca:Nat) (B:Option Addr) (cb:Nat) (C:Option Addr) (cc:Nat) (ch:List Int) (D:Option Addr) (cd f:Nat) (w:World) (hc:zAp w c A B C) (hs:Small c) (hD:zp encU 1 w D ch) (hf:FitW ch) (hff:f≤1000) :
  Ret Tryz.prog 17 [zAS c A ca B cb C cc,.slice D ch.length cd,.int .i64 (f:Int)] w (fun p:(Option Addr × Nat) × List Sli=>.slice p.1.1 p.2.length p.1.2) (fun p=>[.sl zBC 1 p.1.1 p.2,.rows p.2]) (fun p=>p.2.map Sli.xs=zAP c ch f):=by
 refine (zOh c A ca B cb C cc ch D cd f w hc hs hD hf hff).conv fun p hp=>⟨((some ⟨p.1,0,none⟩,c.hours.length),p.2.map zz.sli),by simp only;rw [sli_xs];exact hp,?_,fun w'=>zM3⟩
 have:p.2.length=c.hours.length:=by have:=congrArg List.length hp;rw [zB0] at this;simpa using this
 simp only [List.length_map,this]
end Go.Proofs.YtdigopgncfhiaaaGreatDoor
namespace Go.Proofs.YtdigopgncfhiaaaGreatDoor
open Go.RowKit
set_option maxRecDepth 20000
theorem iof_any (s:Sp) (n:Int) (w:World) (h:s.lo≤s.hi) (h1:-100000≤s.lo) (h2:s.hi≤100000) (hn:0≤n∧n≤4294967295):Gv Tryz.prog 41 [.agg #[.int .i64 s.lo,.int .i64 s.hi],.int .i64 n] w (.int .i64 (ofS s n)):=by
 have h3:=mod_in (x:=n) (n:=s.hi - s.lo+1) (by omega)
 unfold ofS
 unfold Gv
 (refine zJ (n:=16) Tryz.func41 rfl rfl rfl ?_)
 (repeat' (first|((with_reducible refine zF ?_);first|refine zC rfl rfl rfl ?_|(refine zy rfl rfl rfl rfl (fun b=>?_)))|(with_reducible first|refine zH ?_|refine zB ?_|refine zD ?_|refine zA ?_)))
 (refine zBW (by kernel_rfl) (by kernel_rfl) (by kernel_rfl) ?_)
 (repeat' (first|((with_reducible refine zBy ?_);first|refine zj (zAO rfl rfl) rfl ?_|refine zj (zu rfl rfl (by exact rfl)) rfl ?_|refine zj (zAE rfl rfl) rfl ?_|refine zj (zBr rfl rfl) rfl ?_|refine zj (zIc rfl rfl rfl (IntWalk.i64_in _ (by omega))) rfl ?_|refine zj (e_sub rfl rfl rfl (IntWalk.i64_in _ (by omega))) rfl ?_|refine zj (e_rem rfl rfl rfl (by omega) (by omega)) rfl ?_)|(with_reducible refine zCx ?_)))
 (repeat' (first|(with_reducible first|refine zA ?_|refine zW ?_)))
 exact zR (by exact rTm rfl) () trivial rfl (fun _ h=>h.sub (by (repeat constructor)))
end Go.Proofs.YtdigopgncfhiaaaGreatDoor
namespace Go.Proofs.YtdigopgncfhiaaaGreatDoor
open Go.RowKit
set_option maxRecDepth 20000
set_option maxHeartbeats 4000000 in
theorem left_k1 (t:List St) (A:Option Addr) (cap:Nat) (kb:KB) (ms:List Me) (m:Nat) (w:World) (ht:zp zAK 9 w A t) (hv:valid t=true) (hok:∀ x∈ms,zHK t.length x=true) (hkb:kb.ok ms.length) (hm:w.heap[m]?=some (.map (zAv kb ms) kb.c)) (b4 b6 b8 g c':Nat) (c:Code) (hc:Tryz.f96.body.bind zCm=some c) (AG:Act→World→Prop) (Q:Exit→Act→World→Prop)
  (hag:fine1 t ms→U w 164 [] (zJs m b4 b6 b8 t.length 2) (zJt b4 b6 b8 g t.length c' (stg t ms 2)) AG)
  (hret:zDX t ms=false→∀ a W,Kn w 164 [] [(4,.pointer (some ⟨b4,0,none⟩)),(5,.bool false)] [.blk b4 [.slice none 0 0]] a W→Q .ret a W) :
  U w 164 [] (zJs m b4 b6 b8 t.length 1) (zJt b4 b6 b8 g t.length c' (stg t ms 1)) (c.wpI none Tryz.prog (Exit.then AG Q)):=by
 obtain rfl:_=c:=Option.some.inj ((rfl:Tryz.f96.body.bind zCm=some _).symm.trans hc)
 clear hc
 have ho:=zCE hv
 have hlen:=zCN hv
 have hmlt:m<w.heap.size:=(Array.getElem?_eq_some_iff.1 hm).1
 have hmap:∀ W,Below w.heap.size w W→W.heap[m]?=some (.map (zAv kb ms) kb.c):=fun W h=>(h.block m hmlt).trans hm
 have bd1:∀ s∈t,-400000≤s.long.lo∧s.long.lo≤400000:=fun s hs=>by have:=ho s hs;have:=this.l0;have:=(ho s hs).l1;have:=(ho s hs).l2;omega
 have okS1:zFi (longs t):=fun i=>by
  unfold zCA longs
  rw [List.getD_eq_getElem?_getD,List.getElem?_map]
  cases h:t[i]? with
  | none=>simp
  | some z =>
   have hz:=ho z (List.mem_of_getElem? h)
   have:=hz.l0;have:=hz.l1;have:=hz.l2
   simp only [Option.map_some,Option.getD_some];omega
 unfold zJs zJt
 have tlen:t.length=t.length:=rfl
 ·rw [show stg t ms 1=t from rfl]
  (repeat' (first|((with_reducible refine zF ?_);first|refine zE rfl rfl rfl ?_|(refine zQ rfl rfl rfl rfl rfl (fun h=>?_) (fun h=>?_)<;>(dsimp only [cmpP] at h;(try (exfalso;omega))))|(refine zh rfl rfl (fun b=>?_)))|(with_reducible first|refine zH ?_|refine zB ?_|refine zD ?_|refine zA ?_|refine zS ?_|refine zP ?_)|((with_reducible refine zK ?_ ?_);(· exact rfl))))
  rw [zKg]
  obtain ⟨bm,hbm⟩:∃ x,x=b:=⟨b,rfl⟩
  subst hbm
  refine zCF (ι:=Nat × Mat) (fun j=>j.1≤t.length+1∧zFS (t.length+1) j.1 0 j.2) (fun j=>[(1,.map (some m)),(4,.pointer (some ⟨b4,0,none⟩)),(6,.pointer (some ⟨b6,0,none⟩)),(7,.int .i64 ((t.length+1:Nat):Int)),(8,.pointer (some ⟨b8,0,none⟩)),(9,.int .i64 (1:Int)),(10,.pointer (some ⟨bm,0,none⟩)),(32,.int .i64 ((t.length+1:Nat):Int)),(33,.int .i64 (j.1:Int))]) (fun j=>[.blk bm (zAU j.2),.blk b4 [.slice none 0 0],.blk b6 [.slice (some ⟨g,0,none⟩) t.length c'],.blk b8 [.nilFunc,.func (.func 143) #[] #[],.func (.func 144) #[] #[]],.arr zAK 9 g (t)]) (fun j=>t.length+1 - j.1) (0,fun _ _=>0) ⟨Nat.zero_le _,zIa _⟩ (by (repeat first|exact lK1|refine zI rfl ?_)) (by (repeat constructor)) ?_
  rintro ⟨i,M⟩ ⟨hi,hM⟩
  simp only at hi hM ⊢
  by_cases hlt:i<t.length+1
  ·(repeat' (first|((with_reducible refine zF ?_);first|refine zE rfl rfl rfl ?_|refine zC rfl rfl rfl ?_|(refine zQ rfl rfl rfl rfl rfl (fun h=>?_) (fun h=>?_)<;>(dsimp only [cmpP] at h;(try (exfalso;omega)))))|(with_reducible first|refine zH ?_|refine zB ?_|refine zD ?_|refine zA ?_|refine zS ?_|refine zP ?_)|((with_reducible refine zK ?_ ?_);(· exact rfl))))
   refine zCF (ι:=Nat × Mat) (fun j=>j.1≤t.length+1∧zFS (t.length+1) i j.1 j.2) (fun j=>[(1,.map (some m)),(4,.pointer (some ⟨b4,0,none⟩)),(6,.pointer (some ⟨b6,0,none⟩)),(7,.int .i64 ((t.length+1:Nat):Int)),(8,.pointer (some ⟨b8,0,none⟩)),(9,.int .i64 (1:Int)),(10,.pointer (some ⟨bm,0,none⟩)),(32,.int .i64 ((t.length+1:Nat):Int)),(33,.int .i64 (i:Int)),(11,.int .i64 (i:Int)),(36,.int .i64 ((t.length+1:Nat):Int)),(37,.int .i64 (j.1:Int))]) (fun j=>[.blk bm (zAU j.2),.blk b4 [.slice none 0 0],.blk b6 [.slice (some ⟨g,0,none⟩) t.length c'],.blk b8 [.nilFunc,.func (.func 143) #[] #[],.func (.func 144) #[] #[]],.arr zAK 9 g (t)]) (fun j=>t.length+1 - j.1) (0,M) ⟨Nat.zero_le _,hM⟩ (by (repeat first|exact lK1|refine zI rfl ?_)) (by (repeat constructor)) ?_
   clear hM M
   rintro ⟨k,M⟩ ⟨hk,hM⟩
   simp only at hk hM ⊢
   by_cases hlk:k<t.length+1
   ·have m3:zFK i k:=⟨by omega,by omega⟩
    (repeat' (first|((with_reducible refine zF ?_);first|refine zE rfl rfl rfl ?_|refine zC rfl rfl rfl ?_|(refine zQ rfl rfl rfl rfl rfl (fun h=>?_) (fun h=>?_)<;>(dsimp only [cmpP] at h;(try (exfalso;omega))))|refine zCr rfl rfl rfl rfl rfl ?_|refine zi rfl rfl rfl rfl (by omega) ?_|refine zG2 rfl rfl rfl rfl rfl (by first|decide|omega) ?_)|(with_reducible first|refine zH ?_|refine zB ?_|refine zD ?_|refine zA ?_|refine zS ?_|refine zP ?_|refine zg ?_)|((with_reducible refine zK ?_ ?_);(· exact rfl))|((with_reducible refine zG ?_ ?_);(· exact rfl))))
    ·exact zZ (k+1,zBu M i k far) ⟨by omega,zLU hM (by omega)⟩ (by simp only;omega) (by (repeat first|exact lK1|refine zI rfl ?_)) (by (repeat constructor))
    ·obtain rfl:i=k:=by omega
     exact zZ (i+1,M) ⟨by omega,zJ6 hM⟩ (by simp only;omega) (by (repeat first|exact lK1|refine zI rfl ?_)) (by (repeat constructor))
   ·obtain rfl:k=t.length+1:=by omega
    (repeat' (first|((with_reducible refine zF ?_);first|refine zE rfl rfl rfl ?_|(refine zQ rfl rfl rfl rfl rfl (fun h=>?_) (fun h=>?_)<;>(dsimp only [cmpP] at h;(try (exfalso;omega))))|refine zi rfl rfl rfl rfl (by omega) ?_)|(with_reducible first|refine zH ?_|refine zB ?_|refine zD ?_|refine zA ?_|refine zl ?_|refine zg ?_|refine zV ?_|refine zX ?_)|((with_reducible refine zG ?_ ?_);(· exact rfl))))
    exact zZ (i+1,M) ⟨by omega,zLV hM⟩ (by simp only;omega) (by (repeat first|exact lK1|refine zI rfl ?_)) (by (repeat constructor))
  obtain rfl:i=t.length+1:=by omega
  (repeat' (first|((with_reducible refine zF ?_);first|refine zE rfl rfl rfl ?_|(refine zL rfl rfl rfl ?_;refine ⟨_,rfl,?_⟩)|refine zb rfl rfl rfl ?_|(refine zQ rfl rfl rfl rfl rfl (fun h=>?_) (fun h=>?_)<;>(dsimp only [cmpP] at h;(try (exfalso;omega))))|refine zq rfl rfl rfl ?_)|(with_reducible first|refine zH ?_|refine zB ?_|refine zD ?_|refine zA ?_|refine zP ?_|refine zl ?_|refine zV ?_|refine zX ?_)|((with_reducible refine zG ?_ ?_);(· exact rfl))))
  refine zCF (ι:=Nat × Mat) (fun j=>j.1≤t.length∧SpTo (t.length+1) (longs t) j.1 j.2) (fun j=>[(1,.map (some m)),(4,.pointer (some ⟨b4,0,none⟩)),(6,.pointer (some ⟨b6,0,none⟩)),(7,.int .i64 ((t.length+1:Nat):Int)),(8,.pointer (some ⟨b8,0,none⟩)),(9,.int .i64 (1:Int)),(10,.pointer (some ⟨bm,0,none⟩)),(51,.int .i64 (t.length:Int)),(52,.int .i64 (j.1:Int))]) (fun j=>[.blk bm (zAU j.2),.blk b4 [.slice none 0 0],.blk b6 [.slice (some ⟨g,0,none⟩) t.length c'],.blk b8 [.nilFunc,.func (.func 143) #[] #[],.func (.func 144) #[] #[]],.arr zAK 9 g (t)]) (fun j=>t.length - j.1) (0,M) ⟨Nat.zero_le _,zJI hM⟩ (by (repeat first|exact lK1|refine zI rfl ?_)) (by (repeat constructor)) ?_
  clear hM M hi hlt
  rintro ⟨i,M⟩ ⟨hi,hM⟩
  simp only at hi hM ⊢
  by_cases hlt:i<t.length
  ·have hz:(t)[i]?=some ((t)[i]'(by rw [tlen];exact hlt)):=by simp
   have:zAQ (t) i ((t)[i]'(by rw [tlen];exact hlt)):=⟨hz⟩
   have hsp:zCA (longs t) i=((t)[i]'(by rw [tlen];exact hlt)).long:=by
    rw [zCA,List.getD_eq_getElem?_getD,longs,List.getElem?_map,hz];rfl
   have hbz:=bd1 _ (List.getElem_mem (by rw [tlen];exact hlt:i<(t).length))
   generalize (t)[i]'(by rw [tlen];exact hlt)=z at *
   have m1:zFK i (i+1):=⟨by omega,by omega⟩
   have m2:zFK (i+1) i:=⟨by omega,by omega⟩
   (repeat' (first|((with_reducible refine zF ?_);first|refine zE rfl rfl rfl ?_|refine zC rfl rfl rfl ?_|(refine zQ rfl rfl rfl rfl rfl (fun h=>?_) (fun h=>?_)<;>(dsimp only [cmpP] at h;(try (exfalso;omega)))))|(with_reducible first|refine zH ?_|refine zB ?_|refine zD ?_|refine zA ?_|refine zS ?_|refine zP ?_)|((with_reducible refine zK ?_ ?_);(· exact rfl))))
   (refine Two.zAV [] [] [] rfl (show ([]:List Nat).Nodup by decide) (fun _ h=>h) (by kernel_rfl) [[],[Z],[Z,Z],[Z,Z,Z],[Y,Y,Y,Y],[Z,Y,Y,Y,Y],[Y,Y,Y,Y,Y,Y],[Z,Z,Z,Y,Y,Y,Y],[Z,Z,Z,Z,Z,Z,Z,Z],[Z,Z,Z,Z,Z,Z,Z,Z,Z],[Z,Z,Z,Z,Z,Z,Z,Z,Z,Z],[Y,Y,Y,Y,Y,Y,Y,Y,Y,Y,Y],[Z,Z,Z,Z,Z,Z,Z,Z,Z,Z,Z,Z]] (by kernel_rfl) (by kernel_rfl) (by kernel_rfl) (by kernel_rfl) (by kernel_rfl) ?_)
   (repeat' (first|(((with_reducible refine Two.zCC ?_ ?_);(· exact rfl);refine ⟨_,fun G=>(by (try simp (decide:=true) only [Two.vis,Two.see,fltT,zm,Nat.reduceAdd,Nat.reduceSub,if_true,if_false,List.set_cons_zero,List.set_cons_succ,List.set_nil,List.nil_append,List.cons_append]);rfl),?_⟩);first|refine Two.zU _ (fun _=>zAO rfl rfl) (fun _=>rfl) rfl (by intro G G' h;simp (decide:=true) only [h]) ?_|refine Two.zU _ (fun _=>zu rfl rfl (by exact rfl)) (fun _=>rfl) rfl (by intro G G' h;simp (decide:=true) only [h]) ?_|(refine Two.zAC rfl ?_;refine Two.zU _ (fun _=>zAE rfl rfl) (fun _=>rfl) rfl (by intro G G' h;simp (decide:=true) only [h]) ?_)|refine Two.zB1 _ rfl (fun _=>rfl) rfl (fun _=>rfl) (fun _=>rfl) (fun _ _ _ q=>zLH _ _ _) (by intro G G' h;simp (decide:=true) only [h]) ?_|refine Two.zU _ (fun _=>zAl rfl rfl rfl rfl (by omega)) (fun _=>rfl) rfl (by intro G G' h;simp (decide:=true) only [h]) ?_|refine Two.zU _ (fun _=>zCK rfl rfl rfl rfl (by first|decide|omega)) (fun _=>rfl) rfl (by intro G G' h;simp (decide:=true) only [h]) ?_|refine Two.zU _ (fun _=>zAJ rfl rfl) (fun _=>rfl) rfl (by intro G G' h;simp (decide:=true) only [h]) ?_|refine Two.zGR rfl (fun _=>rfl) rfl ?_)|((with_reducible refine Two.zA8 ?_ ?_);(· exact rfl))))
   (intro G;simp only [regsT,zm,Two.zAq,Two.ini,List.nil_append,List.cons_append])
   (repeat' (first|((with_reducible refine zF ?_);first|(refine za rfl rfl rfl rfl rfl ?_;refine ⟨rfl,by first|decide|exact Nat.le_of_ble_eq_true rfl|(simp;omega),_,rfl,?_⟩))|(with_reducible first|refine zD ?_|refine zA ?_)))
   (refine zMZ ⟨13,[.blk bm (zAU M)],[.blk bm (zAU (zBu M i (i+1) z.long.hi))]⟩ (H0:=_) (fun _ h=>(h.take (by (repeat constructor)))) (by kernel_rfl) [[],[Y],[Z,Y],[Y,Y,Y],[Z,Y,Y,Y],[Y,Y,Y,Y,Y],[Y,Y,Y,Y,Y,Y],[Z,Y,Y,Y,Y,Y,Y],[Y,Y,Y,Y,Y,Y,Y,Y],[Z,Y,Y,Y,Y,Y,Y,Y,Y],[Z,Z,Y,Y,Y,Y,Y,Y,Y,Y],[Y,Y,Y,Y,Y,Y,Y,Y,Y,Y,Z],[Z,Y,Y,Y,Z,Z,Y,Y,Y,Z,Z,Z],[Z,Z,Y,Y,Y,Z,Z,Y,Y,Y,Z,Z,Z],[Y,Y,Y,Y,Y,Y,Y,Y,Y,Z,Z,Y,Y,Y],[Z,Z,Z,Z,Z,Z,Z,Z,Z,Z,Z,Z,Z,Z,Z],[Z,Z,Z,Z,Z,Z,Z,Z,Z,Z,Z,Z,Z,Z,Z,Z]] (by kernel_rfl) (by kernel_rfl) (by kernel_rfl) ?_)
   (repeat' (first|(((with_reducible refine zCC ?_ ?_);(· exact rfl);refine ⟨_,fun G=>(by (try simp only [fltT,zm,List.nil_append,List.cons_append]);rfl),?_⟩);first|refine zU _ (fun _=>zAO rfl rfl) (fun _=>rfl) rfl (by intro G G' h;simp (decide:=true) only [h]) ?_|refine zU _ (fun _=>zu rfl rfl (by exact rfl)) (fun _=>rfl) rfl (by intro G G' h;simp (decide:=true) only [h]) ?_|(refine zAC rfl ?_;refine zU _ (fun _=>zAE rfl rfl) (fun _=>rfl) rfl (by intro G G' h;simp (decide:=true) only [h]) ?_)|refine zU _ (fun _=>zGu rfl rfl rfl (by omega)) (fun _=>rfl) rfl (by intro G G' h;simp (decide:=true) only [h]) ?_|refine zU _ (fun _=>zCK rfl rfl rfl rfl (by first|decide|omega)) (fun _=>rfl) rfl (by intro G G' h;simp (decide:=true) only [h]) ?_|refine zU _ (fun _=>zLX rfl rfl (by rw [Int.zero_sub];exact IntWalk.i64_in _ (by omega))) (fun _=>rfl) rfl (by intro G G' h;simp (decide:=true) only [h]) ?_)|(refine zPi (cs:=zAU M) (cs':=zAU (zBu M i (i+1) z.long.hi)) rfl (fun _=>rfl) rfl rfl rfl rfl (fun _=>rfl) (fun _=>rfl) rfl rfl (Nat.ble_eq_true_of_le (by simp [zAU];omega)) (zGy m1.lt _) ?_)|((with_reducible refine zA8 ?_ ?_);(· exact rfl))))
   (intro G;simp only [regsT,zm,Pend.zPl,List.nil_append,List.cons_append])
   simp (decide:=true) only [Pend.at_lt,List.nil_append,List.cons_append]
   (repeat' (first|((with_reducible refine zF ?_);first|refine zE rfl rfl rfl ?_|refine zCr rfl rfl rfl rfl rfl ?_|refine zi rfl rfl rfl rfl (by omega) ?_)|(with_reducible first|refine zB ?_|refine zD ?_|refine zA ?_|refine zg ?_)))
   refine zZ (i+1,zBu (zBu M i (i+1) z.long.hi) (i+1) i (-z.long.lo)) ⟨by omega,?_⟩ (by simp only;omega) (by (repeat first|exact lK1|refine zI rfl ?_)) (by (repeat constructor))
   exact zMh hM (by rw [hsp]) (by rw [hsp])
  obtain rfl:i=t.length:=by omega
  have hA:=zMi hM rfl
  clear hM hi hlt
  (repeat' (first|((with_reducible refine zF ?_);first|refine zE rfl rfl rfl ?_|(refine zQ rfl rfl rfl rfl rfl (fun h=>?_) (fun h=>?_)<;>(dsimp only [cmpP] at h;(try (exfalso;omega))))|refine zMY rfl rfl rfl hmap ?_;intro r)|(with_reducible first|refine zH ?_|refine zB ?_|refine zD ?_|refine zA ?_|refine zP ?_|refine zl ?_|refine zV ?_|refine zX ?_)|((with_reducible refine zG ?_ ?_);(· exact rfl))))
  refine zCF (ι:=List Nat × Mat) (fun j=>j.1.Nodup∧(∀ i∈j.1,i<ms.length)∧zD8 (t.length+1) j.2 (meas 1 (T0 (longs t)) (gotten ms j.1))) (fun j=>[(1,.map (some m)),(4,.pointer (some ⟨b4,0,none⟩)),(6,.pointer (some ⟨b6,0,none⟩)),(7,.int .i64 ((t.length+1:Nat):Int)),(8,.pointer (some ⟨b8,0,none⟩)),(9,.int .i64 (1:Int)),(10,.pointer (some ⟨bm,0,none⟩)),(83,.pointer (some ⟨r,0,none⟩))]) (fun j=>[.it r m kb j.1,.blk bm (zAU j.2),.blk b4 [.slice none 0 0],.blk b6 [.slice (some ⟨g,0,none⟩) t.length c'],.blk b8 [.nilFunc,.func (.func 143) #[] #[],.func (.func 144) #[] #[]],.arr zAK 9 g (t)]) (fun j=>ms.length - j.1.length) ([],M) ⟨List.nodup_nil,by simp,hA⟩ (by (repeat first|exact lK1|refine zI rfl ?_)) (by (repeat constructor)) ?_
  clear hA M
  rintro ⟨seen,M⟩ ⟨hnd,hsl,hA⟩
  simp only at hnd hsl hA ⊢
  (repeat' (first|((with_reducible refine zF ?_);first|refine zE rfl rfl rfl ?_|refine u_next rfl rfl rfl (by (repeat constructor)) hmap hkb hsl (fun hall=>?_) (fun i me hi hni=>?_)|refine zc rfl rfl rfl rfl ?_)|(with_reducible first|refine zH ?_|refine zB ?_|refine zD ?_|refine zA ?_|refine zS ?_|refine zP ?_|refine zl ?_|refine zV ?_|refine zX ?_)|((with_reducible refine zK ?_ ?_);(· exact rfl))|((with_reducible refine zG ?_ ?_);(· exact rfl))))
  ·have hokm:∀ x∈ms,zCn (t.length+1) x:=fun x hx=>zDi (hok x hx)
   have hsame:=zJd (s:=longs t) hokm (zJ3 hall) 1
   have hdg:zDe (t.length+1) M:=fun a ha=>(hA a a ha ha).trans (zB6 _ _ (zGO hokm) (zEQ _ _) a ha)
   have hbm:BdM (t.length+1) M:=fun i k hi hk=>by
    rw [hA i k hi hk];exact zL5 _ _ (zGO hokm) (T0_bd okS1 _) i k hi hk
   (repeat' (first|((with_reducible refine zF ?_);first|refine zE rfl rfl rfl ?_|refine zC rfl rfl rfl ?_|(refine zL rfl rfl rfl ?_;refine ⟨_,rfl,?_⟩)|refine zb rfl rfl rfl ?_|(refine zPF rfl rfl rfl rfl (by (repeat constructor)) (fun W hB=>zJM (t.length+1) M bm W hB (by omega) hdg hbm) ?_;rintro ⟨fl,D⟩ ⟨hy,hn⟩;cases fl)|refine zAd rfl rfl rfl ?_|refine zq rfl rfl rfl ?_|(refine za rfl rfl rfl rfl rfl ?_;refine ⟨rfl,by first|decide|exact Nat.le_of_ble_eq_true rfl|(simp;omega),_,rfl,?_⟩)|(refine zAo rfl rfl rfl ?_;refine ⟨_,rfl,?_⟩))|(with_reducible first|refine zH ?_|refine zB ?_|refine zD ?_|refine zA ?_|refine zW ?_|refine zS ?_|refine ze ?_|refine zP ?_|refine zBb ?_)|((with_reducible refine zK ?_ ?_);(· exact rfl))|((with_reducible refine zG ?_ ?_);(· exact rfl))))
   ·have hnf:¬ zBS 1 (longs t) ms (t.length+1):=fun hf=>hn rfl (zHR hA.symm (Nat.le_refl _) (hsame.1.2 hf))
    exact fun a W q=>hret (zQZ hnf) a W (q.sub (by (repeat first|exact lK1|refine zI rfl ?_)) (by (repeat constructor)))
   ·obtain ⟨hf1,hD⟩:=hy rfl
    simp only at hD
    have hfi:zBS 1 (longs t) ms (t.length+1):=hsame.1.1 (zHR hA (Nat.le_refl _) hf1)
    have hDE:zD8 (t.length+1) D (dist 1 (longs t) ms (t.length+1)):=fun a b ha hb=>by
     rw [hD a b ha hb]
     exact (zHP hA _ (Nat.le_refl _) a b ha hb).trans (hsame.2 (hsame.1.2 hfi) a b ha hb)
    have hDb:∀ a b,a<t.length+1→b<t.length+1→-8796093022208≤D a b∧D a b≤8796093022208:=fun a b ha hb=>by
     rw [hD a b ha hb];exact zIx hbm (by omega) (Nat.le_refl _) ha hb
    refine zCF (ι:=Nat) (fun i=>i≤t.length) (fun i=>[(1,.map (some m)),(4,.pointer (some ⟨b4,0,none⟩)),(6,.pointer (some ⟨b6,0,none⟩)),(7,.int .i64 ((t.length+1:Nat):Int)),(8,.pointer (some ⟨b8,0,none⟩)),(9,.int .i64 (1:Int)),(10,.pointer (some ⟨bm,0,none⟩)),(134,.int .i64 (t.length:Int)),(135,.int .i64 (i:Int))]) (fun i=>[.blk bm (zAU D),.blk b4 [.slice none 0 0],.blk b6 [.slice (some ⟨g,0,none⟩) t.length c'],.blk b8 [.nilFunc,.func (.func 143) #[] #[],.func (.func 144) #[] #[]],.arr zAK 9 g (zCY (zCc D) (t) i)]) (fun i=>t.length - i) 0 (Nat.zero_le _) (by (repeat first|exact lK1|refine zI rfl ?_)) (by (try simp only [zI7]);(repeat constructor)) ?_
    intro i hi
    by_cases hlt:i<t.length
    ·have hz:(t)[i]?=some ((t)[i]'(by rw [tlen];exact hlt)):=by simp
     generalize (t)[i]'(by rw [tlen];exact hlt)=z at hz
     have hz2:(zCY (zCc D) (t) i)[i]?=some z:=by rw [zBP,hz];simp
     have:zAQ (zCY (zCc D) (t) i) i z:=⟨hz2⟩
     have m1:zFK i (i+1):=⟨by omega,by omega⟩
     have m2:zFK (i+1) i:=⟨by omega,by omega⟩
     have hb1:=hDb (i+1) i (by omega) (by omega)
     have hb2:=hDb i (i+1) (by omega) (by omega)
     (repeat' (first|((with_reducible refine zF ?_);first|refine zE rfl rfl rfl ?_|refine zC rfl rfl rfl ?_|(refine zQ rfl rfl rfl rfl rfl (fun h=>?_) (fun h=>?_)<;>(dsimp only [cmpP] at h;(try (exfalso;omega)))))|(with_reducible first|refine zH ?_|refine zB ?_|refine zD ?_|refine zA ?_|refine zS ?_|refine zP ?_)|((with_reducible refine zK ?_ ?_);(· exact rfl))))
     (refine Two.zAV [] [] [] rfl (show ([]:List Nat).Nodup by decide) (fun _ h=>h) (by kernel_rfl) [[],[Z],[Z,Z],[Z,Z,Z],[Y,Y,Y,Y],[Z,Y,Y,Y,Y],[Y,Y,Y,Y,Y,Y],[Z,Z,Z,Y,Y,Y,Y],[Z,Z,Z,Z,Z,Z,Z,Z],[Y,Y,Y,Y,Y,Y,Y,Y,Y],[Z,Y,Y,Y,Y,Y,Y,Y,Y,Y],[Y,Y,Y,Y,Y,Y,Y,Y,Y,Y,Y],[Y,Z,Z,Y,Y,Y,Y,Y,Y,Y,Y,Y],[Z,Z,Z,Z,Y,Y,Y,Y,Y,Y,Y,Y,Y],[Z,Z,Z,Z,Z,Y,Y,Y,Y,Y,Y,Y,Y,Y],[Z,Z,Z,Z,Z,Z,Y,Y,Y,Y,Y,Y,Y,Y,Y],[Y,Y,Y,Y,Y,Y,Y,Y,Y,Y,Y,Y,Y,Y,Y,Y],[Y,Y,Y,Y,Y,Y,Y,Y,Y,Y,Y,Y,Y,Y,Y,Y,Y],[Z,Y,Y,Y,Y,Y,Y,Y,Y,Y,Y,Y,Y,Y,Y,Y,Y,Y],[Y,Y,Z,Y,Y,Y,Y,Y,Y,Y,Y,Y,Y,Y,Y,Y,Y,Y,Y],[Z,Z,Z,Z,Y,Y,Y,Y,Y,Y,Y,Y,Y,Y,Y,Y,Y,Y,Y,Y],[Z,Z,Z,Z,Z,Y,Y,Y,Y,Y,Y,Y,Y,Y,Y,Y,Y,Y,Y,Y,Y],[Z,Z,Z,Z,Z,Z,Z,Z,Z,Z,Z,Z,Z,Y,Y,Y,Y,Y,Y,Y,Y,Y],[Z,Z,Z,Z,Z,Z,Z,Z,Z,Z,Z,Z,Z,Z,Z,Z,Z,Z,Z,Z,Z,Z,Z],[Z,Z,Z,Z,Z,Z,Z,Z,Z,Z,Z,Z,Z,Z,Z,Z,Z,Z,Z,Z,Z,Z,Z,Z]] (by kernel_rfl) (by kernel_rfl) (by kernel_rfl) (by kernel_rfl) (by kernel_rfl) ?_)
     (repeat' (first|(((with_reducible refine Two.zCC ?_ ?_);(· exact rfl);refine ⟨_,fun G=>(by (try simp (decide:=true) only [Two.vis,Two.see,fltT,zm,Nat.reduceAdd,Nat.reduceSub,if_true,if_false,List.set_cons_zero,List.set_cons_succ,List.set_nil,List.nil_append,List.cons_append]);rfl),?_⟩);first|refine Two.zU _ (fun _=>zAO rfl rfl) (fun _=>rfl) rfl (by intro G G' h;simp (decide:=true) only [h]) ?_|refine Two.zU _ (fun _=>zu rfl rfl (by exact rfl)) (fun _=>rfl) rfl (by intro G G' h;simp (decide:=true) only [h]) ?_|(refine Two.zAC rfl ?_;refine Two.zU _ (fun _=>zAE rfl rfl) (fun _=>rfl) rfl (by intro G G' h;simp (decide:=true) only [h]) ?_)|refine Two.zB1 _ rfl (fun _=>rfl) rfl (fun _=>rfl) (fun _=>rfl) (fun _ _ _ q=>zLH _ _ _) (by intro G G' h;simp (decide:=true) only [h]) ?_|refine Two.zU _ (fun _=>zGu rfl rfl rfl (by omega)) (fun _=>rfl) rfl (by intro G G' h;simp (decide:=true) only [h]) ?_|refine Two.zU _ (fun _=>zAl rfl rfl rfl rfl (by omega)) (fun _=>rfl) rfl (by intro G G' h;simp (decide:=true) only [h]) ?_|refine Two.zU _ (fun _=>zCK rfl rfl rfl rfl (by first|decide|omega)) (fun _=>rfl) rfl (by intro G G' h;simp (decide:=true) only [h]) ?_|refine Two.zU _ (fun _=>zAJ rfl rfl) (fun _=>rfl) rfl (by intro G G' h;simp (decide:=true) only [h]) ?_|refine Two.zU _ (fun _=>zLX rfl rfl (by rw [Int.zero_sub];exact IntWalk.i64_in _ (by omega))) (fun _=>rfl) rfl (by intro G G' h;simp (decide:=true) only [h]) ?_|refine Two.zU _ (fun _=>zDN rfl rfl (by exact rfl)) (fun _=>rfl) rfl (by intro G G' h;simp (decide:=true) only [h]) ?_)|((with_reducible refine Two.zA8 ?_ ?_);(· exact rfl))))
     (intro G;simp only [regsT,zm,Two.zAq,Two.ini,List.nil_append,List.cons_append])
     (repeat' (first|((with_reducible refine zF ?_);first|refine zE rfl rfl rfl ?_|refine zFV (zCc D i z) rfl rfl rfl rfl rfl rfl rfl rfl (by decide) ?_|refine zi rfl rfl rfl rfl (by omega) ?_)|(with_reducible first|refine zB ?_|refine zD ?_|refine zA ?_|refine zg ?_)))
     rw [zKi hz rfl]
     exact zZ (i+1) (by omega) (by omega) (by (repeat first|exact lK1|refine zI rfl ?_)) (by (repeat constructor))
    ·obtain rfl:i=t.length:=by omega
     have e:zCY (zCc D) (t) t.length=stg t ms (1+1):=(zKj (F:=zCc) (fun j s hj=>by unfold zCc;rw [zGB hDE hj]) (by rw [tlen]) _).trans rfl
     rw [e]
     (repeat' (first|((with_reducible refine zF ?_);first|refine zE rfl rfl rfl ?_|refine zC rfl rfl rfl ?_|(refine zQ rfl rfl rfl rfl rfl (fun h=>?_) (fun h=>?_)<;>(dsimp only [cmpP] at h;(try (exfalso;omega))))|refine zFL rfl rfl rfl rfl (IntWalk.i64_in _ (by omega)) ?_)|(with_reducible first|refine zH ?_|refine zB ?_|refine zD ?_|refine zA ?_|refine zl ?_|refine zg ?_|refine zV ?_|refine zX ?_)|((with_reducible refine zG ?_ ?_);(· exact rfl))))
     exact U.sub (by (repeat first|exact lK1|refine zI rfl ?_)) (by (repeat constructor)) (hag hfi)
  ·have hme:=hok me (List.mem_of_getElem? hi)
   have hme':=of_decide_eq_true hme
   have hN:=zJh hnd hni
   have hS:∀ x∈seen++[i],x<ms.length:=fun x hx=>by
    rcases List.mem_append.1 hx with h|h
    ·exact hsl x h
    ·simp at h;subst h;exact (List.getElem?_eq_some_iff.1 hi).1
   have hL:=zH0 ms.length _ hN hS
   simp only [List.length_append,List.length_singleton] at hL
   have hmu:ms.length - (seen++[i]).length<ms.length - seen.length:=by simp only [List.length_append,List.length_singleton];omega
   have hG:=zIZ (seen:=seen) hi
   have hP:=zKw (kind:=1) (zDi hme) hA
   rw [← zK6,← hG] at hP
   obtain ⟨kd,fr,to_,vl⟩:=me
   simp only at hme'
   obtain ⟨F,rfl⟩:∃ F:Nat,fr=F:=⟨fr.toNat,by omega⟩
   obtain ⟨Zt,rfl⟩:∃ Zt:Nat,to_=Zt:=⟨to_.toNat,by omega⟩
   have hk1:1≤(Me.mk kd F Zt vl).kind∧(Me.mk kd F Zt vl).kind≤2:=⟨hme'.1,hme'.2.1⟩
   have hv1:0≤(Me.mk kd F Zt vl).value.lo∧(Me.mk kd F Zt vl).value.lo≤360000:=⟨hme'.2.2.2.2.2.2.2.1,by simp only;omega⟩
   have m1:zFK F Zt:=⟨by omega,by omega⟩
   have m2:zFK Zt F:=⟨by omega,by omega⟩
   (repeat' (first|((with_reducible refine zF ?_);first|refine zE rfl rfl rfl ?_|(refine zL rfl rfl rfl ?_;refine ⟨_,rfl,?_⟩)|refine zb rfl rfl rfl ?_|(refine zQ rfl rfl rfl rfl rfl (fun h=>?_) (fun h=>?_)<;>(dsimp only [cmpP] at h;(try (exfalso;omega))))|refine zPC rfl rfl rfl (by (repeat constructor)) hmap hkb hi ?_|refine zc rfl rfl rfl rfl ?_|(refine za rfl rfl rfl rfl rfl ?_;refine ⟨rfl,by first|decide|exact Nat.le_of_ble_eq_true rfl|(simp;omega),_,rfl,?_⟩)|(refine zh rfl rfl (fun b=>?_))|refine zF2 rfl rfl rfl (IntWalk.i64_in _ (by omega)) ?_)|(with_reducible first|refine zH ?_|refine zB ?_|refine zD ?_|refine zA ?_|refine zS ?_|refine zg ?_)|((with_reducible refine zK ?_ ?_);(· exact rfl))|((with_reducible refine zG ?_ ?_);(· exact rfl))))
   ·(refine Two.zAV [] [] [] rfl (show ([]:List Nat).Nodup by decide) (fun _ h=>h) (by kernel_rfl) [[],[Z],[Y,Y],[Z,Y,Y],[Y,Y,Y,Y],[Z,Y,Y,Y,Y],[Y,Y,Y,Y,Y,Y],[Z,Y,Y,Y,Y,Y,Y],[Y,Y,Z,Z,Y,Y,Y,Y],[Z,Z,Z,Z,Z,Y,Y,Y,Y],[Z,Z,Z,Z,Z,Z,Y,Y,Y,Y],[Y,Y,Y,Y,Y,Y,Y,Y,Y,Y,Y],[Z,Y,Y,Y,Y,Y,Y,Y,Y,Y,Y,Y],[Z,Z,Y,Y,Y,Y,Y,Y,Y,Y,Y,Y,Y],[Z,Z,Z,Z,Z,Z,Z,Z,Z,Z,Y,Y,Y,Y],[Y,Y,Y,Y,Y,Y,Y,Y,Y,Y,Y,Y,Y,Z,Z],[Z,Z,Z,Z,Z,Z,Z,Z,Z,Z,Z,Z,Z,Z,Z,Z],[Z,Z,Z,Z,Z,Z,Z,Z,Z,Z,Z,Z,Z,Z,Z,Z,Z]] (by kernel_rfl) (by kernel_rfl) (by kernel_rfl) (by kernel_rfl) (by kernel_rfl) ?_)
    (repeat' (first|(((with_reducible refine Two.zCC ?_ ?_);(· exact rfl);refine ⟨_,fun G=>(by (try simp (decide:=true) only [Two.vis,Two.see,fltT,zm,Nat.reduceAdd,Nat.reduceSub,if_true,if_false,List.set_cons_zero,List.set_cons_succ,List.set_nil,List.nil_append,List.cons_append]);rfl),?_⟩);first|refine Two.zU _ (fun _=>zu rfl rfl (by exact rfl)) (fun _=>rfl) rfl (by intro G G' h;simp (decide:=true) only [h]) ?_|(refine Two.zAC rfl ?_;refine Two.zU _ (fun _=>zAE rfl rfl) (fun _=>rfl) rfl (by intro G G' h;simp (decide:=true) only [h]) ?_)|refine Two.zU _ (fun _=>zCK rfl rfl rfl rfl (by first|decide|omega)) (fun _=>rfl) rfl (by intro G G' h;simp (decide:=true) only [h]) ?_|refine Two.zU _ (fun _=>zNl rfl rfl rfl) (fun _=>rfl) rfl (by intro G G' h;simp (decide:=true) only [h]) ?_)|((with_reducible refine Two.zA8 ?_ ?_);(· exact rfl))))
    (intro G;simp only [regsT,zm,Two.zAq,Two.ini,List.nil_append,List.cons_append])
    (repeat' (first|((with_reducible refine zF ?_);first|refine zCr rfl rfl rfl rfl rfl ?_)|(with_reducible first|refine zD ?_|refine zA ?_)))
    (refine Two.zAV [] [] [] rfl (show ([]:List Nat).Nodup by decide) (fun _ h=>h) (by kernel_rfl) [[],[Z],[Y,Y],[Z,Y,Y],[Y,Y,Y,Y],[Z,Y,Y,Y,Y],[Y,Y,Y,Y,Y,Y],[Z,Y,Y,Y,Y,Y,Y],[Y,Y,Z,Z,Y,Y,Y,Y],[Z,Z,Z,Z,Z,Y,Y,Y,Y],[Z,Z,Z,Z,Z,Z,Y,Y,Y,Y],[Y,Y,Y,Y,Y,Y,Y,Y,Y,Y,Y],[Z,Y,Y,Y,Y,Y,Y,Y,Y,Y,Y,Y],[Z,Z,Y,Y,Y,Y,Y,Y,Y,Y,Y,Y,Y],[Z,Z,Z,Y,Y,Y,Y,Y,Y,Y,Y,Y,Y,Y],[Z,Z,Z,Z,Z,Z,Z,Z,Z,Z,Z,Y,Y,Y,Y],[Y,Y,Y,Y,Y,Y,Y,Y,Y,Y,Y,Y,Y,Y,Z,Z],[Z,Z,Z,Z,Z,Z,Z,Z,Z,Z,Z,Z,Z,Z,Z,Z,Z],[Z,Z,Z,Z,Z,Z,Z,Z,Z,Z,Z,Z,Z,Z,Z,Z,Z,Z]] (by kernel_rfl) (by kernel_rfl) (by kernel_rfl) (by kernel_rfl) (by kernel_rfl) ?_)
    (repeat' (first|(((with_reducible refine Two.zCC ?_ ?_);(· exact rfl);refine ⟨_,fun G=>(by (try simp (decide:=true) only [Two.vis,Two.see,fltT,zm,Nat.reduceAdd,Nat.reduceSub,if_true,if_false,List.set_cons_zero,List.set_cons_succ,List.set_nil,List.nil_append,List.cons_append]);rfl),?_⟩);first|refine Two.zU _ (fun _=>zu rfl rfl (by exact rfl)) (fun _=>rfl) rfl (by intro G G' h;simp (decide:=true) only [h]) ?_|(refine Two.zAC rfl ?_;refine Two.zU _ (fun _=>zAE rfl rfl) (fun _=>rfl) rfl (by intro G G' h;simp (decide:=true) only [h]) ?_)|refine Two.zU _ (fun _=>zCK rfl rfl rfl rfl (by first|decide|omega)) (fun _=>rfl) rfl (by intro G G' h;simp (decide:=true) only [h]) ?_|refine Two.zU _ (fun _=>zLX rfl rfl (by rw [Int.zero_sub];exact IntWalk.i64_in _ (by omega))) (fun _=>rfl) rfl (by intro G G' h;simp (decide:=true) only [h]) ?_|refine Two.zU _ (fun _=>zNl rfl rfl rfl) (fun _=>rfl) rfl (by intro G G' h;simp (decide:=true) only [h]) ?_)|((with_reducible refine Two.zA8 ?_ ?_);(· exact rfl))))
    (intro G;simp only [regsT,zm,Two.zAq,Two.ini,List.nil_append,List.cons_append])
    (repeat' (first|((with_reducible refine zF ?_);first|refine zCr rfl rfl rfl rfl rfl ?_)|(with_reducible first|refine zD ?_|refine zA ?_|refine zg ?_)))
    refine zZ (seen++[i],_) ⟨hN,hS,?_⟩ hmu (by (repeat first|exact lK1|refine zI rfl ?_)) (by (repeat constructor))
    have e:zCU 1 M ⟨kd,F,Zt,vl⟩=zBu (zBu M F Zt (min (M F Zt) vl.hi)) Zt F (min (zBu M F Zt (min (M F Zt) vl.hi) Zt F) (-vl.lo)):=by
     unfold zCU;rw [if_pos (by first|exact h|omega)];rfl
    rw [e] at hP
    exact hP
   ·refine zZ (seen++[i],M) ⟨hN,hS,?_⟩ hmu (by (repeat first|exact lK1|refine zI rfl ?_)) (by (repeat constructor))
    have e:zCU 1 M ⟨kd,F,Zt,vl⟩=M:=by
     unfold zCU;rw [if_neg (by first|exact h|omega)]
    rw [e] at hP
    exact hP
end Go.Proofs.YtdigopgncfhiaaaGreatDoor
