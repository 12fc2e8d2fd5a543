/- F18 -/
import Derived.Test.YtdigopgncfhiaaaGreatDoorF17
import Derived.Test.YtdigopgncfhiaaaGreatDoorF11
set_option linter.unusedSimpArgs false
set_option linter.unusedVariables false
namespace Go.Proofs.YtdigopgncfhiaaaGreatDoor
open Go.RowKit
open Flow (Nd)
set_option maxRecDepth 20000
def vSl (s:zx Nd):Value:=.slice s.A s.xs.length s.c
def vI (z:Int):Value:=.int .i64 z
def vB (b:Bool):Value:=.bool b
abbrev zBq := List (Nd × zx Nd)
def lookN : zBq→Nd→Option (zx Nd)
 | [],_=>none
 | x::r,k=>if k=x.1 then some x.2 else lookN r k
def zC4 (p:Nd × zx Nd):Ent:=rowOf zO 3 168 p.2
def rmN (N:zBq) (k:Nd):zBq:=N.filter fun p=>decide (p.1≠k)
def nxN (N:zBq) (k:Nd):List Nd:=((lookN N k).getD zAs).xs
structure zFY (N:zBq):Prop where
 keys:(N.map (·.1)).Nodup
 ne:∀ p∈N,p.2.xs≠[]
def Ent.net (mn:Nat) (N:zBq):Ent:=.all (.fm mn vNd vSl (lookN N)::N.map zC4)
theorem zK7 {N:zBq} {k k':Nd}:lookN (rmN N k) k'=if k'=k then none else lookN N k':=by
 induction N with
 | nil=>simp [rmN,lookN]
 | cons x r ih =>
  unfold rmN at ih ⊢
  by_cases h:x.1=k
  ·rw [List.filter_cons_of_neg (by simp [h]),ih]
   by_cases h2:k'=k
   ·rw [if_pos h2,if_pos h2]
   ·rw [if_neg h2,if_neg h2]
    simp only [lookN]
    rw [if_neg (fun e=>h2 (e.trans h))]
  ·rw [List.filter_cons_of_pos (by simp [h])]
   simp only [lookN]
   rw [ih]
   by_cases h2:k'=x.1
   ·rw [if_pos h2,if_pos h2,if_neg (fun e=>h (h2.symm.trans e))]
   ·rw [if_neg h2,if_neg h2]
theorem zL6 {N:zBq} {k:Nd} (h:lookN N k=none):rmN N k=N:=by
 induction N with
 | nil=>rfl
 | cons x r ih =>
  simp only [lookN] at h
  by_cases e:k=x.1
  ·rw [if_pos e] at h;cases h
  ·rw [if_neg e] at h
   have:=ih h
   unfold rmN at this ⊢
   rw [List.filter_cons_of_pos (by simp;exact fun h=>e h.symm),this]
theorem zL5 {N:zBq} {k:Nd} {s:zx Nd} (hn:(N.map (·.1)).Nodup) (h:lookN N k=some s):N.Perm ((k,s)::rmN N k):=by
 induction N with
 | nil=>cases h
 | cons x r ih =>
  rw [List.map_cons,List.nodup_cons] at hn
  simp only [lookN] at h
  by_cases e:k=x.1
  ·rw [if_pos e] at h
   cases h
   subst e
   unfold rmN
   rw [List.filter_cons_of_neg (by simp)]
   have:r.filter (fun p=>decide (p.1≠x.1))=r:=by
    rw [List.filter_eq_self]
    intro p hp
    have:p.1≠x.1:=fun e=>hn.1 (List.mem_map.2 ⟨p,hp,e⟩)
    simp [this]
   rw [this]
  ·rw [if_neg e] at h
   have:=ih hn.2 h
   unfold rmN at this ⊢
   rw [List.filter_cons_of_pos (by simp;exact fun h=>e h.symm)]
   exact (List.Perm.cons x this).trans (List.Perm.swap _ _ _)
theorem zGp {N:zBq} {k:Nd} {s:zx Nd} (h:lookN N k=some s):(k,s)∈N:=by
 induction N with
 | nil=>cases h
 | cons x r ih =>
  simp only [lookN] at h
  by_cases e:k=x.1
  ·rw [if_pos e] at h;cases h;subst e;exact List.mem_cons_self
  ·rw [if_neg e] at h;exact List.mem_cons_of_mem _ (ih h)
theorem zHQ {N:zBq} {k:Nd}:(rmN N k).Sublist N:=List.filter_sublist
theorem zHw {N:zBq} {k:Nd} (h:(N.map (·.1)).Nodup):((rmN N k).map (·.1)).Nodup:=h.sublist (zHQ.map _)
theorem zMq {N:zBq} {k:Nd}:k ∉ (rmN N k).map (·.1):=by
 intro h
 obtain ⟨p,hp,e⟩:=List.mem_map.1 h
 have:=(List.mem_filter.1 hp).2
 simp [e] at this
theorem rmN_not2 {N:zBq} {k k':Nd} (h:k' ∉ N.map (·.1)):k' ∉ (rmN N k).map (·.1):=fun hm=>h ((zHQ.map _).subset hm)
section
variable {base mn:Nat} {w:World} {H:List Ent} {N:zBq}
theorem zG7 (k:Nd) (hn:(N.map (·.1)).Nodup) {A:List Ent} (h:Own base w (A++(N.map zC4++H))):Own base w (A++(rowOf zO 3 168 ((lookN N k).getD zAs)::((rmN N k).map zC4++H))):=by
 cases hl:lookN N k with
 | none =>
  rw [zL6 hl]
  obtain ⟨a1,a2,a3⟩:=Own.append.1 h
  refine Own.append.2 ⟨a1,⟨fun f hf=>?_,fun f hf b hb=>?_,List.pairwise_cons.2 ⟨fun f hf b hb=>?_,a2.apart⟩⟩,fun e he f hf b hb hb'=>?_⟩
  ·rcases List.mem_cons.1 hf with rfl|hf
   ·exact Row.nil
   ·exact a2.here f hf
  ·rcases List.mem_cons.1 hf with rfl|hf
   ·cases hb
   ·exact a2.foot f hf b hb
  ·cases hb
  ·rcases List.mem_cons.1 hf with rfl|hf
   ·cases hb'
   ·exact a3 e he f hf b hb hb'
 | some s =>
  refine h.perm (List.Perm.append_left A ?_)
  have:=((zL5 hn hl).map zC4).append_right H
  exact this
theorem zKt (k1 k2:Nd) (hne:k1≠k2) (hn:(N.map (·.1)).Nodup) (h:Own base w (.net mn N::H)):Own base w (.fm mn vNd vSl (lookN N)::rowOf zO 3 168 ((lookN N k1).getD zAs)::rowOf zO 3 168 ((lookN N k2).getD zAs) :: .all ((rmN (rmN N k1) k2).map zC4)::H):=by
 have h1:Own base w ((.fm mn vNd vSl (lookN N)::N.map zC4)++H):=zBI.2 h
 have h2:=zG7 (A:=[.fm mn vNd vSl (lookN N)]) k1 hn h1
 have h3:=zG7 (A:=[.fm mn vNd vSl (lookN N),rowOf zO 3 168 ((lookN N k1).getD zAs)]) (N:=rmN N k1) k2 (zHw hn) h2
 rw [zK7,if_neg (fun e=>hne e.symm)] at h3
 exact (zBA (D:=[.fm mn vNd vSl (lookN N),rowOf zO 3 168 ((lookN N k1).getD zAs),rowOf zO 3 168 ((lookN N k2).getD zAs)]) (L:=(rmN (rmN N k1) k2).map zC4) (B:=H)).1 h3
def putN (N:zBq) (k1 k2:Nd) (s1 s2:zx Nd):zBq:=(k1,s1)::(k2,s2)::rmN (rmN N k1) k2
theorem zJJ {k1 k2:Nd} {s1 s2:zx Nd} (hne:k1≠k2):lookN (putN N k1 k2 s1 s2)=zAM (zAM (lookN N) k1 (some s1)) k2 (some s2):=by
 funext k
 simp only [putN,lookN,zAM,zK7]
 by_cases h1:k=k1
 ·rw [if_pos h1,if_neg (fun e=>hne (h1.symm.trans e)),if_pos h1]
 ·rw [if_neg h1]
  by_cases h2:k=k2
  ·rw [if_pos h2,if_pos h2]
  ·rw [if_neg h2,if_neg h2,if_neg h2,if_neg h1,if_neg h1]
theorem putN_ok {k1 k2:Nd} {s1 s2:zx Nd} (hne:k1≠k2) (h:zFY N) (h1:s1.xs≠[]) (h2:s2.xs≠[]):zFY (putN N k1 k2 s1 s2):=by
 refine ⟨?_,fun p hp=>?_⟩
 ·unfold putN
  rw [List.map_cons,List.nodup_cons,List.map_cons,List.nodup_cons]
  refine ⟨fun hm=>?_,zMq,zHw (zHw h.keys)⟩
  rcases List.mem_cons.1 hm with e|hm
  ·exact hne e
  ·exact rmN_not2 zMq hm
 ·unfold putN at hp
  rcases List.mem_cons.1 hp with rfl|hp
  ·exact h1
  ·rcases List.mem_cons.1 hp with rfl|hp
   ·exact h2
   ·exact h.ne p (zHQ.subset (zHQ.subset hp))
theorem zKs {k1 k2:Nd} {s1 s2:zx Nd} (hne:k1≠k2) (h:Own base w (.fm mn vNd vSl (zAM (zAM (lookN N) k1 (some s1)) k2 (some s2))::rowOf zO 3 168 s1::rowOf zO 3 168 s2 :: .all ((rmN (rmN N k1) k2).map zC4)::H)):Own base w (.net mn (putN N k1 k2 s1 s2)::H):=by
 rw [← zJJ hne] at h
 have h1:=(zBA (D:=[.fm mn vNd vSl (lookN (putN N k1 k2 s1 s2)),rowOf zO 3 168 s1,rowOf zO 3 168 s2]) (L:=(rmN (rmN N k1) k2).map zC4) (B:=H)).2 h
 exact zBI.1 h1
end
theorem nxN_put {N:zBq} {k1 k2:Nd} {s1 s2:zx Nd} (hne:k1≠k2):nxN (putN N k1 k2 s1 s2)=zAM (zAM (nxN N) k1 s1.xs) k2 s2.xs:=by
 funext k
 unfold nxN
 rw [zJJ hne]
 simp only [zAM]
 by_cases h2:k=k2
 ·rw [if_pos h2,if_pos h2];rfl
 ·rw [if_neg h2,if_neg h2]
  by_cases h1:k=k1
  ·rw [if_pos h1,if_pos h1];rfl
  ·rw [if_neg h1,if_neg h1]
theorem zNH {w0:World} {n:Nat} {d:List Deferred} {R:List (Nat × Value)} {H H':List Ent} {X:Act→World→Prop} {mn:Nat} {N:zBq} (k1 k2:Nd) (hne:k1≠k2) (hn:zFY N) (ht:Take H (.net mn N) H') (h:U w0 n d R (.fm mn vNd vSl (lookN N)::rowOf zO 3 168 ((lookN N k1).getD zAs)::rowOf zO 3 168 ((lookN N k2).getD zAs) :: .all ((rmN (rmN N k1) k2).map zC4)::H') X):U w0 n d R H X:=fun a w q =>
 h a w (q.heap q.below (zKt k1 k2 hne hn.keys (q.own.take ht)))
end Go.Proofs.YtdigopgncfhiaaaGreatDoor
namespace Go.Proofs.YtdigopgncfhiaaaGreatDoor
open Go.RowKit
open Flow (Nd)
set_option maxRecDepth 20000
theorem zA3 : ∀ w,(zeroValue 3).run Tryz.prog w = .ok (vI 0) w:=fun w=>Tryz.zeroValue3 w
theorem zGU : ∀ w,(zeroValue 4).run Tryz.prog w = .ok (vB false) w:=fun w=>Tryz.zeroValue4 w
theorem zFu : ∀ w,(zeroValue 171).run Tryz.prog w = .ok (vSl zAs) w:=fun w=>Tryz.zeroValue171 w
def zEI (br bn mr mn:Nat) (rm:Nd × Nd→Option Int) (N:zBq):List Ent:=[.blk br [.map (some mr)],.blk bn [.map (some mn)],.fm mr vNN vI rm,.net mn N]
def grN (rm:Nd × Nd→Option Int) (N:zBq):Flow.Gr:=⟨rm,nxN N⟩
end Go.Proofs.YtdigopgncfhiaaaGreatDoor
namespace Go.Proofs.YtdigopgncfhiaaaGreatDoor.Two
open Go.RowKit
open Flow (Nd)
set_option maxRecDepth 20000
set_option maxHeartbeats 4000000 in
theorem zIP (x y:Nd) (c:Int) (hne:x≠y) (br bn mr mn:Nat) (rm:Nd × Nd→Option Int) (N:zBq) (hN:zFY N) (hlen:∀ k,(nxN N k).length≤100000) (lo:Nat) (w:World) (hlo:lo≤w.heap.size) (hO:Own lo w (zEI br bn mr mn rm N)) :
  zFN Tryz.prog 107 [vNd x,vNd y,.int .i64 c,.pointer (some ⟨br,0,none⟩),.pointer (some ⟨bn,0,none⟩)] w (zEI br bn mr mn rm N) (fun _:zBq=>.tuple #[])
   (fun N'=>zEI br bn mr mn (zAM rm (x,y) (some c)) N') (fun N'=>zFY N'∧grN (zAM rm (x,y) (some c)) N'=Flow.zEz (grN rm N) (x,y,c)):=by
 have hadd:Flow.zEz (grN rm N) (x,y,c)=⟨zAM rm (x,y) (some c),if (rm (x,y)).isSome then nxN N else zAM (zAM (nxN N) x (nxN N x++[y])) y (nxN N y++[x])⟩:=rfl
 unfold zEI at hO ⊢
 unfold vNd
 refine zHz (n:=43) lo hlo hO Tryz.func107 rfl rfl rfl ?_
 simp only [List.cons_append,List.nil_append]
 rw [hadd]
 cases hrm:rm (x,y) with
 | some c0 =>
  (repeat' (first|((with_reducible refine zF ?_);first|refine zE rfl rfl rfl ?_|refine zC rfl rfl rfl ?_|(refine zK rfl rfl rfl ?_;refine ⟨_,rfl,?_⟩)|(refine zBp rfl rfl rfl ?_;refine ⟨_,rfl,?_⟩)|refine zAL rfl (zLN (kv:=vNN) (vv:=vI) (f:=rm) (x,y) c0 true rfl zBe zA3 rfl rfl (by rw [hrm];rfl) (by rw [hrm];rfl)) ?_|refine zFw (kv:=vNN) (vv:=vI) (x,y) c rfl zBe rfl rfl rfl rfl rfl (by (repeat constructor)) ?_|refine zc rfl rfl rfl rfl ?_|refine zAN rfl rfl rfl ?_|(refine zu rfl rfl rfl rfl (fun b=>?_)))|(with_reducible first|refine zH ?_|refine zB ?_|refine zD ?_|refine zA ?_|refine zT ?_)|((with_reducible refine zG ?_ ?_);(· exact rfl))))
  exact u_endF (zFx (by (exact zi.nil)) N ⟨hN,rfl⟩ rfl hlo (fun _ h=>h.sub (by (repeat constructor))))
 | none =>
  (repeat' (first|((with_reducible refine zF ?_);first|refine zE rfl rfl rfl ?_|refine zC rfl rfl rfl ?_|(refine zK rfl rfl rfl ?_;refine ⟨_,rfl,?_⟩)|(refine zBp rfl rfl rfl ?_;refine ⟨_,rfl,?_⟩)|refine zAL rfl (zLN (kv:=vNN) (vv:=vI) (f:=rm) (x,y) 0 false rfl zBe zA3 rfl rfl (by rw [hrm];rfl) (by rw [hrm];rfl)) ?_|refine zc rfl rfl rfl rfl ?_|refine zAN rfl rfl rfl ?_|(refine zu rfl rfl rfl rfl (fun b=>?_)))|(with_reducible first|refine zH ?_|refine zB ?_|refine zD ?_|refine zA ?_)|((with_reducible refine zI ?_ ?_);(· exact rfl))))
  rename_i bx
  refine zNH x y hne hN (by (repeat constructor)) ?_
  have hx1:nxN N x=((lookN N x).getD zAs).xs:=rfl
  have hy1:nxN N y=((lookN N y).getD zAs).xs:=rfl
  have hlx:=hlen x
  have hly:=hlen y
  rw [hx1] at hlx
  rw [hy1] at hly
  rw [hx1,hy1]
  obtain ⟨s1,hs1⟩:∃ s,(lookN N x).getD zAs=s:=⟨_,rfl⟩
  obtain ⟨s2,hs2⟩:∃ s,(lookN N y).getD zAs=s:=⟨_,rfl⟩
  rw [hs1] at hlx ⊢
  rw [hs2] at hly ⊢
  simp only [rowOf]
  (refine zA1 [(16,18)] [(9,0,0,[.row zO 3 168 (.slice s1.A s1.xs.length s1.c) s1.xs]),(15,0,0,[.row zO 3 168 (.slice s2.A s2.xs.length s2.c) s2.xs]),(16,6,13,[.fm mn vNd vSl (lookN N)])] [(9,0,0),(15,0,0),(16,6,13)] rfl (show ([9,15,16]:List Nat).Nodup by decide) (H0:=[.blk b (zO y),.blk bx (zO x),.blk br [.map (some mr)],.blk bn [.map (some mn)],.fm mr vNN vI rm,.all ((rmN (rmN N x) y).map zC4),.oldx w lo (feet [.blk br [.map (some mr)],.blk bn [.map (some mn)],.fm mr vNN vI rm,.net mn N])]) (fun _ h=>h.sub (by (repeat constructor))) (by kernel_rfl) [[],[Y],[Y,Y],[Y,Y,Y],[Y,Y,Y,Y],[Y,Y,Y,Y,Y],[Z,Z,Y,Y,Y,Y],[Y,Y,Y,Y,Y,Y,Y],[Z,Y,Y,Y,Y,Y,Y,Y],[Z,Z,Z,Z,Z,Y,Y,Y,Y],[Y,Y,Y,Y,Y,Y,Y,Y,Y,Y],[Y,Y,Y,Y,Y,Y,Y,Y,Y,Y,Y],[Z,Z,Y,Y,Y,Y,Y,Y,Y,Y,Y,Y],[Y,Y,Y,Y,Y,Y,Y,Y,Y,Y,Y,Y,Y],[Z,Y,Y,Y,Y,Y,Y,Y,Y,Y,Y,Y,Y,Y],[Z,Z,Z,Z,Z,Z,Z,Z,Z,Z,Z,Y,Y,Y,Y],[Z,Z,Z,Z,Z,Z,Z,Z,Z,Z,Z,Z,Y,Y,Z,Z],[Z,Z,Z,Z,Z,Z,Z,Z,Z,Z,Z,Z,Z,Y,Y,Z,Z],[Z,Z,Z,Z,Z,Z,Z,Z,Z,Z,Z,Z,Z,Z,Y,Y,Z,Z],[Z,Z,Z,Z,Z,Z,Z,Z,Z,Z,Z,Z,Z,Z,Z,Z,Z,Z,Z]] (by kernel_rfl) (by kernel_rfl) (by kernel_rfl) (by kernel_rfl) (by kernel_rfl) ?_)
  (repeat' (first|(((with_reducible refine zDQ ?_ ?_);(· exact rfl);refine ⟨_,fun G=>(by (try simp (decide:=true) only [vis,see,fltT,zAF,Nat.reduceAdd,Nat.reduceSub,if_true,if_false,List.set_cons_zero,List.set_cons_succ,List.set_nil,List.nil_append,List.cons_append]);rfl),?_⟩);first|refine zm _ (fun _=>zAG rfl rfl (by exact rfl)) (fun _=>rfl) rfl (by intro G G' h;simp (decide:=true) only [h]) ?_|refine zm _ (fun _=>zBc (kv:=vNd) (vv:=vSl) (f:=lookN N) x s1 rfl zDG zFu rfl rfl hs1) (fun _=>rfl) rfl (by exact fun _ _ _=>rfl) ?_|refine zm _ (fun _=>zBc (kv:=vNd) (vv:=vSl) (f:=lookN N) y s2 rfl zDG zFu rfl rfl hs2) (fun _=>rfl) rfl (by exact fun _ _ _=>rfl) ?_|refine zm _ (fun _=>zJZ rfl rfl rfl) (fun _=>rfl) rfl (by intro G G' h;simp (decide:=true) only [h]) ?_|refine zBn rfl (fun _=>rfl) rfl (fun _=>rfl) (by exact rfl) (by exact fun _=>rfl) (by intro G G' h;simp (decide:=true) only [h]) ?_)|(refine zED (enc:=zO) (xs:=s1.xs) (vx:=.slice s1.A s1.xs.length s1.c) [y] List.mem_cons_self rfl rfl (fun _=>rfl) rfl (fun _=>rfl) (fun _=>rfl) rfl (fun G=>(by (try simp (decide:=true) only [vis,see,fltT,zAF,Nat.reduceAdd,Nat.reduceSub,if_true,if_false,List.set_cons_zero,List.set_cons_succ,List.set_nil,List.nil_append,List.cons_append]);rfl)) (fun _ W hW h=>zAY (enc:=zO) (by exact rfl) W hW h) ⟨by simp;omega,by decide⟩ ?_)|(refine zED (enc:=zO) (xs:=s2.xs) (vx:=.slice s2.A s2.xs.length s2.c) [x] (List.mem_cons_of_mem _ List.mem_cons_self) rfl rfl (fun _=>rfl) rfl (fun _=>rfl) (fun _=>rfl) rfl (fun G=>(by (try simp (decide:=true) only [vis,see,fltT,zAF,Nat.reduceAdd,Nat.reduceSub,if_true,if_false,List.set_cons_zero,List.set_cons_succ,List.set_nil,List.nil_append,List.cons_append]);rfl)) (fun _ W hW h=>zAY (enc:=zO) (by exact rfl) W hW h) ⟨by simp;omega,by decide⟩ ?_)|(refine c_fmEnt (kv:=vNd) (vv:=vSl) (f:=lookN N) x (List.mem_cons_of_mem _ (List.mem_cons_of_mem _ List.mem_cons_self)) rfl rfl zDG zFu (fun _=>rfl) rfl (fun _=>rfl) (fun _=>rfl) ?_)|(refine c_fmSto (kv:=vNd) (vv:=vSl) (fun G=>⟨(G 9).A,s1.xs++[y],(G 9).m⟩) (fun G=>(G 16).g) 16 List.mem_cons_self rfl rfl (fun _=>rfl) rfl (fun _=>rfl) (fun _=>rfl) (fun _=>rfl) (fun _=>rfl) (by intro G G' h;simp (decide:=true) only [h]) ?_)|((with_reducible refine zB3 ?_ ?_);(· exact rfl))))
  intro G
  simp only [regsT,List.nil_append,List.cons_append]
  refine zEj (H':=[.fm mn vNd vSl (zAM (zAM (lookN N) x (some ((lookN N x).getD zAs))) x (some ⟨(G 9).A,s1.xs++[y],(G 9).m⟩)),.row zO 3 168 (.slice (G 15).A (s2.xs++[x]).length (G 15).m) (s2.xs++[x]),.blk (G 14).g (zO x),.row zO 3 168 (.slice (G 9).A (s1.xs++[y]).length (G 9).m) (s1.xs++[y]),.blk (G 8).g (zO y),.blk b (zO y),.blk bx (zO x),.blk br [.map (some mr)],.blk bn [.map (some mn)],.fm mr vNN vI rm,.all ((rmN (rmN N x) y).map zC4),.oldx w lo (feet [.blk br [.map (some mr)],.blk bn [.map (some mn)],.fm mr vNN vI rm,.net mn N])]) (fun _ h=>h) ?_
  rw [zFb]
  (repeat' (first|((with_reducible refine zF ?_);first|refine zE rfl rfl rfl ?_|(refine zK rfl rfl rfl ?_;refine ⟨_,rfl,?_⟩)|(refine zBp rfl rfl rfl ?_;refine ⟨_,rfl,?_⟩)|refine zFw (kv:=vNd) (vv:=vSl) y ⟨(G 15).A,s2.xs++[x],(G 15).m⟩ rfl zDG rfl rfl rfl rfl rfl (by (repeat constructor)) ?_|refine zFw (kv:=vNN) (vv:=vI) (x,y) c rfl zBe rfl rfl rfl rfl rfl (by (repeat constructor)) ?_)|(with_reducible first|refine zB ?_|refine zD ?_|refine zA ?_)))
  refine u_endF (zFx (by (exact zi.nil)) (putN N x y ⟨(G 9).A,s1.xs++[y],(G 9).m⟩ ⟨(G 15).A,s2.xs++[x],(G 15).m⟩) ⟨putN_ok hne hN (by simp) (by simp),?_⟩ rfl hlo (fun w' h=>?_))
  ·unfold grN;rw [nxN_put hne];rfl
  ·have h1:Own lo w' [.fm mn vNd vSl (zAM (zAM (lookN N) x (some ⟨(G 9).A,s1.xs++[y],(G 9).m⟩)) y (some ⟨(G 15).A,s2.xs++[x],(G 15).m⟩)),rowOf zO 3 168 ⟨(G 9).A,s1.xs++[y],(G 9).m⟩,rowOf zO 3 168 ⟨(G 15).A,s2.xs++[x],(G 15).m⟩,.all ((rmN (rmN N x) y).map zC4),.blk br [.map (some mr)],.blk bn [.map (some mn)],.fm mr vNN vI (zAM rm (x,y) (some c)),.oldx w lo (feet [.blk br [.map (some mr)],.blk bn [.map (some mn)],.fm mr vNN vI rm,.net mn N])]:=h.sub (by (repeat constructor))
   have h2:=zKs hne h1
   exact h2.sub (by (repeat constructor))
end Go.Proofs.YtdigopgncfhiaaaGreatDoor.Two
namespace Go.Proofs.YtdigopgncfhiaaaGreatDoor
variable {ro : Option Nat}
open Go.RowKit
section
variable {P : Program} {w0:World} {n:Nat} {d:List Deferred} {R R':List (Nat × Value)} {H H':List Ent} {Q:Exit→Act→World→Prop} {ops:Array Oper} {o:Oper} {K:Act→World→Prop} {c:Code}
theorem zz {i:Nat} {l:List Nat} {fuel:Nat} {listed:Array Bool} (listed':Array Bool) (hl:listed.setIfInBounds i true=listed') (ho:ops[i]?=some o) (h:U w0 n d R H (wpL ro P ops (qk (wpA ro P ops Q fuel listed')) [o])) (hr:zBV w0 n d R H ro P ops Q fuel listed l):zBV w0 n d R H ro P ops Q fuel listed (i::l) :=
 zBV.cons ho (by rw [hl];exact h) hr
theorem u_viaN (R1:List (Nat × Value)) (H1:List Ent) (hreg:∀ K:Act→World→Prop,U w0 n d R1 H1 K→U w0 n d R H (c.wpI ro P (qk K))) (h:U w0 n d R1 H1 (Q .normal)):U w0 n d R H (c.wpI ro P Q):=fun a w q =>
 Code.wpIn_mono (fun e a w hq=>by cases e<;>first|exact hq|exact False.elim hq) (hreg (Q .normal) h a w q)
theorem zIu {id:Nat} {l:List Oper} (N:Nat) (hN:l.length=N) (hm:P.follows .mixedOrders=true) (h:∀ ops:Array Oper,ops=l.toArray→U w0 n d R H (wpA ro P ops (qk K) N (Array.replicate N false))):U w0 n d R H ((Code.region id l.toArray true).wpI ro P (qk K)):=by
 subst hN
 refine u_orders hm ?_
 have:=h l.toArray rfl
 simpa using this
end
end Go.Proofs.YtdigopgncfhiaaaGreatDoor
namespace Go.Proofs.YtdigopgncfhiaaaGreatDoor
variable {ro : Option Nat}
open Go.RowKit
open Flow (Nd nE)
set_option maxRecDepth 20000
section
variable {w0 : World} {n:Nat} {d:List Deferred} {R R':List (Nat × Value)} {H H':List Ent} {Q:Exit→Act→World→Prop} {ops:Array Oper} {rest:List Oper} {o:Oper} {t:Tmp} {x y:Operand}
theorem zLo (u v:Nd) (w:World):(binOp .eql 168 (vNd u) (vNd v)).run Tryz.prog w = .ok (.bool (decide (u=v))) w:=by
 have:=zEo 9998 u v w
 unfold vNd at this ⊢
 rw [run_eql_struct,this];rfl
theorem u_eqnd (u v:Nd) {T':TypeId} (hop:o.op = .binOp .eql 168 x y T') (hrd:rdy R ops n o=some t) (hx:evR R x=some (vNd u)) (hy:evR R y=some (vNd v))
  (h1:u=v→U w0 n d ((t,.bool true)::R) H (wpL ro Tryz.prog ops Q rest)) (h2:¬ u=v→U w0 n d ((t,.bool false)::R) H (wpL ro Tryz.prog ops Q rest)):U w0 n d R H (wpL ro Tryz.prog ops Q (o::rest)) :=
 u_eql hop hrd hx hy (fun w=>by unfold vNd;exact run_eqGuard_agg _ _ _ _ _ _ _ (by kernel_rfl)) (fun w=>zLo u v w) (fun h=>h1 (of_decide_eq_true h)) (fun h=>h2 (of_decide_eq_false h))
end
def fuM (un:Nd→Bool):Nd→Option Bool:=fun k=>cond (un k) (some true) none
theorem fuM_del {un:Nd→Bool} {u:Nd}:zAM (fuM un) u none=fuM (Flow.upd un u false):=by
 funext k
 simp only [zAM,fuM,Flow.upd]
 by_cases h:k=u<;>simp [h]
theorem zM1 {un:Nd→Bool} {u:Nd}:zAM (fuM un) u (some true)=fuM (Flow.upd un u true):=by
 funext k
 simp only [zAM,fuM,Flow.upd]
 by_cases h:k=u<;>simp [h]
theorem zKC {un:Nd→Bool} {u:Nd}:(fuM un u).getD false=un u:=by
 unfold fuM;cases un u<;>rfl
class zKP (H:List Ent) (mn:outParam Nat) (N:outParam zBq) (H':outParam (List Ent)):Prop where tk:Take H (.net mn N) H'
instance (priority := high) takeNt_here {H:List Ent} {mn:Nat} {N:zBq}:zKP (.net mn N::H) mn N H:=⟨Take.here _ _⟩
instance takeNt_there {H H':List Ent} {f:Ent} {mn:Nat} {N:zBq} [i:zKP H mn N H']:zKP (f::H) mn N (f::H'):=⟨Take.there _ i.tk⟩
class RowIn (N:zBq) (gs:Nat) (xs:outParam (List Nd)):Prop where mem:∃ p∈N,p.2.A=some ⟨gs,0,none⟩∧p.2.xs=xs
theorem zMu {base mn:Nat} {w:World} {H H':List Ent} {N:zBq} (ho:Own base w H) (ht:Take H (.net mn N) H'):∀ p∈N,Row zO 3 168 0 w (.slice p.2.A p.2.xs.length p.2.c) p.2.xs:=fun p hp=>by
 have h1:Own base w ((.fm mn vNd vSl (lookN N)::N.map zC4)++H'):=zBI.2 (ho.take ht)
 exact h1.here (zC4 p) (by simp;exact .inr (.inl ⟨p.1,p.2,hp,rfl⟩))
instance srcI_net {w0:World} {H H':List Ent} {mn:Nat} {N:zBq} {gs i:Nat} {xs:List Nd} {z:Nd} [i1:zKP H mn N H'] [i2:RowIn N gs xs] [i3:zAT xs i z]:zFs w0 H gs (0+i * 3) (zO z):=⟨fun w hb ho j v hv=>by
 obtain ⟨p,hp,hA,hxs⟩:=i2.mem
 have h1:=(zDC (encI_nd.len) (zMu ho i1.tk p hp)).2
 rw [hA,hxs] at h1
 obtain ⟨b,o,hA2,hlt,hc⟩:=h1 i z i3.get
 cases hA2
 exact hc j v hv⟩
instance mapR_net {H:List Ent} {mn:Nat} {N:zBq}:MapR (.net mn N::H) mn vNd vSl (lookN N):=⟨fun b w ho=>by
 have h1:Own b w ((.fm mn vNd vSl (lookN N)::N.map zC4)++H):=zBI.2 ho
 exact h1.here (.fm mn vNd vSl (lookN N)) (by simp)⟩
theorem zNG {w0:World} {n:Nat} {d:List Deferred} {R:List (Nat × Value)} {H H':List Ent} {X:Act→World→Prop} {mn:Nat} {N:zBq} {k:Nd} {s:zx Nd} (ht:Take H (.net mn N) H') (hl:lookN N k=some s) (h0:0<s.xs.length) (h:∀ g,s.A=some ⟨g,0,none⟩→U w0 n d R H X):U w0 n d R H X:=fun a w q=>by
 have hr:=zMu q.own ht (k,s) (zGp hl)
 rcases hr.2 with ⟨_,h4⟩ | ⟨b,cap,cur,hv,_⟩
 ·simp only at h4;omega
 ·simp only at hv
  cases hA:s.A with
  | none=>rw [hA] at hv;cases hv
  | some g =>
   rw [hA] at hv
   cases hv
   exact h b hA a w q
end Go.Proofs.YtdigopgncfhiaaaGreatDoor
