/- F20 -/
import Derived.Test.YtdigopgncfhiaaaGreatDoorF14
import Derived.Test.YtdigopgncfhiaaaGreatDoorF19
import Derived.Test.YtdigopgncfhiaaaGreatDoorF16
import Derived.Test.YtdigopgncfhiaaaGreatDoorF17
set_option linter.unusedSimpArgs false
set_option linter.unusedVariables false
namespace Go.Proofs.YtdigopgncfhiaaaGreatDoor.Flow
def upI (J:Job) (i n h:Nat):List (Nd × Nd × Int):=(List.range i).flatMap (edgR J)++((List.range n).flatMap (edgS J i)++(List.range h).flatMap (fun h=>if J.my i h then edg J i n h else []))
theorem upI_all (J:Job):upI J J.nb 0 0=edges J:=by simp [upI,edges]
theorem upI_row (J:Job) (i n:Nat):upI J i n (J.due i n)=upI J i (n+1) 0:=by
 simp [upI,List.range_succ,List.flatMap_append,edgS]
theorem upI_rows (J:Job) (i:Nat):upI J i (J.top i) 0=upI J (i+1) 0 0:=by
 simp [upI,List.range_succ,List.flatMap_append,edgR]
theorem upI_h (J:Job) (i n h:Nat):upI J i n (h+1)=upI J i n h++(if J.my i h then edg J i n h else []):=by
 simp [upI,List.range_succ,List.flatMap_append]
def upG (J:Job) (i n h:Nat):Gr:=(upI J i n h).foldl zEz gr0
theorem upG_all (J:Job):upG J J.nb 0 0=graph J:=by unfold upG graph;rw [upI_all]
theorem upG_row (J:Job) (i n:Nat):upG J i n (J.due i n)=upG J i (n+1) 0:=by unfold upG;rw [upI_row]
theorem upG_rows (J:Job) (i:Nat):upG J i (J.top i) 0=upG J (i+1) 0 0:=by unfold upG;rw [upI_rows]
theorem upG_no {J:Job} {i n h:Nat} (hm:J.my i h=false):upG J i n (h+1)=upG J i n h:=by unfold upG;rw [upI_h,hm];simp
theorem upG_yes {J:Job} {i n h:Nat} (hm:J.my i h=true):upG J i n (h+1)=zEz (zEz (zEz (upG J i n h) (nS i n,nT i h,1)) (nT i h,nH h,1)) (nH h,nE,J.hd h):=by
 unfold upG;rw [upI_h,hm,if_pos rfl,List.foldl_append];rfl
theorem zGP (g:Gr) (x:Nd × Nd × Int) (k:Nd):((zEz g x).nx k).length≤(g.nx k).length+1:=by
 unfold zEz
 simp only
 split
 ·omega
 ·unfold upd
  split
  ·rename_i h;subst h;simp
  ·split
   ·rename_i h;subst h;simp
   ·omega
theorem zN1 (l:List (Nd × Nd × Int)):∀ (g:Gr) (k:Nd),((l.foldl zEz g).nx k).length≤(g.nx k).length+l.length:=by
 induction l with
 | nil=>intro g k;simp
 | cons x r ih =>
  intro g k
  have h1:=ih (zEz g x) k
  have h2:=zGP g x k
  simp only [List.foldl_cons,List.length_cons]
  omega
theorem zCw {α β:Type} (f:α→List β) (b:Nat):∀ l:List α,(∀ x∈l,(f x).length≤b)→(l.flatMap f).length≤b * l.length
 | [],_=>by simp
 | x::r,h=>by
  have h1:=h x (by simp)
  have h2:=zCw f b r (fun y hy=>h y (by simp [hy]))
  simp only [List.flatMap_cons,List.length_append,List.length_cons,Nat.mul_add,Nat.mul_one]
  omega
theorem upI_len {J:Job} {i n h:Nat} (ht:∀ j,j<i→J.top j≤12) (hd:∀ j n,j≤i→J.due j n≤12):(upI J i n h).length≤432 * i+36 * n+3 * h:=by
 have he:∀ j n h,((fun h=>if J.my j h then edg J j n h else []) h).length≤3:=fun j n h=>by
  simp only;split<;>simp [edg]
 have h1:∀ j,j≤i→∀ n,(edgS J j n).length≤36:=fun j hj n=>by
  have:=zCw (fun h=>if J.my j h then edg J j n h else []) 3 (List.range (J.due j n)) (fun h _=>he j n h)
  have h3:=hd j n hj
  rw [List.length_range] at this
  unfold edgS;omega
 have h2:∀ j,j<i→(edgR J j).length≤432:=fun j hj=>by
  have:=zCw (edgS J j) 36 (List.range (J.top j)) (fun n _=>h1 j (by omega) n)
  have h3:=ht j hj
  rw [List.length_range] at this
  unfold edgR;omega
 have a1:=zCw (edgR J) 432 (List.range i) (fun j hj=>h2 j (List.mem_range.1 hj))
 have a2:=zCw (edgS J i) 36 (List.range n) (fun m _=>h1 i (Nat.le_refl _) m)
 have a3:=zCw (fun h=>if J.my i h then edg J i n h else []) 3 (List.range h) (fun m _=>he i n m)
 rw [List.length_range] at a1 a2 a3
 unfold upI
 rw [List.length_append,List.length_append]
 omega
theorem upG_len {J:Job} {i n h:Nat} (ht:∀ j,j<i→J.top j≤12) (hd:∀ j n,j≤i→J.due j n≤12) (k:Nd):((upG J i n h).nx k).length≤432 * i+36 * n+3 * h:=by
 have h1:=zN1 (upI J i n h) gr0 k
 have h2:=upI_len (n:=n) (h:=h) ht hd
 have h3:(gr0.nx k).length=0:=rfl
 unfold upG
 omega
def upS (J:Job) (i n:Nat):List Nd:=(List.range i).flatMap (fun i=>(List.range (J.top i)).map (nS i))++(List.range n).map (nS i)
theorem upS_all (J:Job):upS J J.nb 0=zB8 J:=by simp [upS,zB8]
theorem zMh (J:Job) (i:Nat):upS J i (J.top i)=upS J (i+1) 0:=by simp [upS,List.range_succ,List.flatMap_append]
theorem upS_n (J:Job) (i n:Nat):upS J i (n+1)=upS J i n++[nS i n]:=by simp [upS,List.range_succ]
theorem zMi {J:Job} {i n:Nat} (ht:∀ j,j<i→J.top j≤12):(upS J i n).length≤12 * i+n:=by
 have a1:=zCw (fun i=>(List.range (J.top i)).map (nS i)) 12 (List.range i) (fun j hj=>by
  have:=ht j (List.mem_range.1 hj);simpa using this)
 rw [List.length_range] at a1
 unfold upS
 rw [List.length_append,List.length_map,List.length_range]
 omega
end Go.Proofs.YtdigopgncfhiaaaGreatDoor.Flow
namespace Go.Proofs.YtdigopgncfhiaaaGreatDoor
open Go.RowKit
open Flow (Nd nE nS nT nH)
set_option maxRecDepth 20000
theorem due_fn (x n:Int) (b:Nat) (w:World) (h:zq encI 1 w (some ⟨b,0,none⟩) [n]):Gv Tryz.prog 109 [.int .i64 x,.pointer (some ⟨b,0,none⟩)] w (.bool (decide (n<x))):=by
 have:InS w b 0 encI 1 [n]:=⟨h⟩
 have:zAT [n] 0 n:=⟨rfl⟩
 have hS:∀ H,zFs w H b 0 [Value.int .i64 n]:=fun H=>(inferInstance:zFs w H b (0+0 * 1) (encI n))
 unfold Gv
 (refine zJ (n:=7) Tryz.func109 rfl rfl rfl ?_)
 (repeat' (first|((with_reducible refine zF ?_);first|refine zE rfl rfl rfl ?_|refine zC rfl rfl rfl ?_|(refine zK rfl rfl rfl ?_;refine ⟨_,rfl,?_⟩)|(refine zQ rfl rfl rfl rfl rfl (fun h=>?_) (fun h=>?_)<;>(dsimp only [cmpP] at h;(try (exfalso;omega)))))|(with_reducible first|refine zH ?_|refine zB ?_|refine zD ?_|refine zA ?_|refine zX ?_)))
 all_goals exact zS (by exact rTm rfl) () trivial (by simp [resV];omega) (fun _ h=>h.sub (by (repeat constructor)))
theorem idx_any (l:List Int) (A:Option Addr) (cap:Nat) (n b:Nat) (w:World) (hk:zq encI 1 w A l) (hl:l.length≤1000000) (h:zq encI 1 w (some ⟨b,0,none⟩) [(n:Int)]) (he:∃ x∈l,(n:Int)<x) :
  Gv Tryz.prog 108 [.slice A l.length cap,.func (.func 109) #[] #[.pointer (some ⟨b,0,none⟩)]] w (.int .i64 (Flow.zFq l n:Int)):=by
 have:=zIS l A cap 109 #[.pointer (some ⟨b,0,none⟩)] (fun k=>decide ((n:Int)<k)) w hk hl (fun x W hx hW=>due_fn x n b W (h.below hW))
 have e:zCa (fun k:Int=>decide ((n:Int)<k)) l=(Flow.zFq l n:Int):=by
  obtain ⟨x,hx,h1⟩:=he
  have hlt:l.findIdx (fun k:Int=>decide ((n:Int)<k))<l.length:=List.findIdx_lt_length_of_exists ⟨x,hx,by simp;exact h1⟩
  refine zD3 (i:=Flow.zFq l n) hlt ?_ (fun j y hj hy=>?_)
  ·have:=List.findIdx_getElem (w:=hlt)
   exact this
  ·have h2:=List.not_of_lt_findIdx hj
   obtain ⟨h3,rfl⟩:=List.getElem?_eq_some_iff.1 hy
   simpa using h2
 rw [e] at this
 exact this
end Go.Proofs.YtdigopgncfhiaaaGreatDoor
namespace Go.Proofs.YtdigopgncfhiaaaGreatDoor
open Go.RowKit
open Flow (Nd nE nS nT nH)
set_option maxRecDepth 20000
structure NetS where
 i:Nat
 rm:Nd × Nd→Option Int
 N:zBq
 A:Option Addr
 c:Nat
structure FeasOk (L:List (zx Int)) (M:List (zx Bool)) (hs:List Int):Prop extends zDm L M hs where
 full:∀ s∈L,s.xs.length=hs.length
 some:0<hs.length
def rowB (r:List Int):Bool:=(List.range r.length).all fun h=>decide (r.getD h 0≤h)
theorem zKf {r:List Int} (h:rowB r=true) (hl:r.length≤12):Flow.zBl r≤11:=by
 by_cases h0:r=[]
 ·subst h0;decide
 ·obtain ⟨j,hj⟩:=List.mem_iff_getElem?.1 (Flow.zIB h0)
  obtain ⟨h1,h2⟩:=List.getElem?_eq_some_iff.1 hj
  have h3:=List.all_eq_true.1 h j (List.mem_range.2 h1)
  rw [Flow.zAZ h1,h2] at h3
  simp at h3
  omega
theorem u_net0 {w0:World} {n:Nat} {d:List Deferred} {R:List (Nat × Value)} {H H':List Ent} {X:Act→World→Prop} {mn:Nat} (ht:Take H (.fm mn vNd vSl (fun _=>none)) H') (h:U w0 n d R (.net mn []::H') X):U w0 n d R H X:=fun a w q =>
 h a w (q.heap q.below ((zBI (L:=[.fm mn vNd vSl (lookN [])]) (B:=H')).1 (q.own.take ht)))
theorem jobL_due (nds:List (List Int)) (mys:List (List Bool)) (hs:List Int) (h:∀ r∈nds,r.length≤12) (i n:Nat):(Flow.zCD nds mys hs).due i n≤12:=by
 show Flow.zFq (nds.getD i []) n≤12
 have h1:Flow.zFq (nds.getD i []) n≤(nds.getD i []).length:=List.findIdx_le_length
 by_cases hi:i<nds.length
 ·have:=h _ (List.getElem_mem hi)
  rw [Flow.zAZ hi] at h1 ⊢
  omega
 ·rw [show nds.getD i []=[] by rw [List.getD_eq_getElem?_getD,List.getElem?_eq_none (by omega)];rfl] at h1 ⊢
  simp at h1;omega
theorem mok_born {K V:Type} {l:List (K × V × Nat)} {c:Nat} (h:MOk l c) {p q:K × V × Nat} (hp:p∈l) (hq:q∈l) (e:p.2.2=q.2.2):p=q:=by
 have hb:=h.born
 obtain ⟨i,hi⟩:=List.mem_iff_getElem?.1 hp
 obtain ⟨j,hj⟩:=List.mem_iff_getElem?.1 hq
 obtain ⟨i1,i2⟩:=List.getElem?_eq_some_iff.1 hi
 obtain ⟨j1,j2⟩:=List.getElem?_eq_some_iff.1 hj
 have hm:∀ (x:Nat) (hx:x<l.length),(l.map (·.2.2))[x]'(by simpa using hx)=l[x].2.2:=fun x hx=>by simp
 have:i=j:=by
  have hpw:=List.pairwise_iff_getElem.1 hb
  rcases Nat.lt_trichotomy i j with h1|h1|h1
  ·exact absurd (by rw [hm i i1,hm j j1,i2,j2,e]) (hpw i j (by simpa using i1) (by simpa using j1) h1)
  ·exact h1
  ·exact absurd (by rw [hm i i1,hm j j1,i2,j2,e]) (hpw j i (by simpa using j1) (by simpa using i1) h1)
 subst this
 rw [hi] at hj;exact Option.some.inj hj
theorem zMt : ∀ H:List Ent,Out H H
 | []=>.nil _
 | e::r=>.cons (.here _ _) (zMt r)
theorem zLh {w0:World} {n:Nat} {d:List Deferred} {R:List (Nat × Value)} {H H':List Ent} {X:Act→World→Prop} {mn:Nat} {N:zBq} (ht:Take H (.net mn N) H') (h:U w0 n d R (.fm mn vNd vSl (lookN N) :: .all (N.map zC4)::H') X):U w0 n d R H X:=fun a w q =>
 h a w (q.heap q.below ((zBA (D:=[.fm mn vNd vSl (lookN N)]) (L:=N.map zC4) (B:=H')).1 ((zBI (L:=.fm mn vNd vSl (lookN N)::N.map zC4) (B:=H')).2 (q.own.take ht))))
theorem zNI {w0:World} {n:Nat} {d:List Deferred} {R:List (Nat × Value)} {H H' H'':List Ent} {X:Act→World→Prop} {mn:Nat} {N:zBq} (ht:Take H (.fm mn vNd vSl (lookN N)) H') (ht2:Take H' (.all (N.map zC4)) H'') (h:U w0 n d R (.net mn N::H'') X):U w0 n d R H X:=fun a w q=>by
 have h1:Own w0.heap.size w (.fm mn vNd vSl (lookN N) :: .all (N.map zC4)::H''):=by
  have h2:=(q.own.take ht)
  exact h2.sub (.cons (.here _ _) (.cons ht2 (zMt _)))
 exact h a w (q.heap q.below ((zBI (L:=.fm mn vNd vSl (lookN N)::N.map zC4) (B:=H'')).1 ((zBA (D:=[.fm mn vNd vSl (lookN N)]) (L:=N.map zC4) (B:=H'')).2 h1)))
theorem zL7 {N:zBq} (hN:zFY N) {l:List (Nd × zx Nd × Nat)} (he:look l=lookN N) {un:Nd→Bool} (h1:∀ x,un x=true→x=nE∨∃ p∈l,p.1=x) (h2:un nE=true) (h3:∀ p∈l,un p.1=true) (hk:(l.map (·.1)).Nodup):un=fun x=>decide (x=nE) || !(nxN N x).isEmpty:=by
 funext x
 have hx:(!(nxN N x).isEmpty)=(lookN N x).isSome:=by
  unfold nxN
  cases h:lookN N x with
  | none=>rfl
  | some s =>
   have:=hN.ne _ (zGp h)
   cases hs:s.xs with
   | nil=>exact absurd hs this
   | cons a r=>simp [hs]
 rw [hx,← he]
 cases hu:un x with
 | true =>
  rcases h1 x hu with h | ⟨p,hp,rfl⟩
  ·simp [h]
  ·have:=look_mem (k:=p.1) (v:=p.2.1) (b:=p.2.2) hk (by simpa using hp)
   rw [this];simp
 | false =>
  have:¬ x=nE:=fun e=>by rw [e,h2] at hu;cases hu
  cases hl:look l x with
  | none=>simp [this]
  | some v =>
   obtain ⟨j,b,_,hj⟩:=zCh 0 hl
   have:=h3 _ (List.mem_of_getElem? hj)
   simp only at this
   rw [hu] at this;cases this
theorem zLH : (fun _=>none)=fuM (fun _=>false):=rfl
set_option maxHeartbeats 8000000 in
theorem zNt (L:List (zx Int)) (A:Option Addr) (ca:Nat) (M:List (zx Bool)) (B:Option Addr) (cb:Nat) (hs:List Int) (C:Option Addr) (cc:Nat) (w:World) (hL:zCX encI 1 w A L) (hM:zCX zAo 1 w B M) (hh:zq encI 1 w C hs) (hok:FeasOk L M hs) (hne:0<L.length) :
  Gv Tryz.prog 66 [.agg (zA2 A L.length ca B M.length cb C hs.length cc).toArray] w (.bool (Flow.zLL (L.map (·.xs)) (M.map (·.xs)) hs)):=by
 have n1:=hok.len;have n2:=hok.len2;have n3:=hok.hlen;have n4:=hok.some
 have hLp:=hL.p;have hMp:=hM.p
 obtain ⟨J,hJ⟩:∃ J,J=Flow.zCD (L.map (·.xs)) (M.map (·.xs)) hs:=⟨_,rfl⟩
 have hfeas:Flow.zLL (L.map (·.xs)) (M.map (·.xs)) hs=((L.map (·.xs)).all rowB && Flow.solve nE (Flow.graph J).nx (Flow.seen0 (Flow.graph J)) ((Flow.nodes J).length+1) (Flow.zB8 J) (Flow.graph J).rm):=by subst hJ;rfl
 have jtop:∀ i s,L[i]?=some s→J.top i=(Flow.zBl s.xs).toNat:=fun i s h=>by subst hJ;simp only [Flow.zCD];rw [getD_map h]
 have jdue:∀ i s n,L[i]?=some s→J.due i n=Flow.zFq s.xs n:=fun i s n h=>by subst hJ;simp only [Flow.zCD];rw [getD_map h]
 have jmy:∀ i t h,M[i]?=some t→J.my i h=t.xs.getD h false:=fun i t h h1=>by subst hJ;simp only [Flow.zCD];rw [getD_map h1]
 have jhd:∀ h,J.hd h=hs.getD h 0:=fun h=>by subst hJ;rfl
 have jnb:J.nb=L.length:=by subst hJ;simp [Flow.zCD]
 have jdl:∀ i n,J.due i n≤12:=fun i n=>by
  subst hJ
  refine jobL_due _ _ _ (fun r hr=>?_) i n
  obtain ⟨s,hs1,rfl⟩:=List.mem_map.1 hr
  exact hok.rlen s hs1
 have jtl:∀ i,i≤L.length→(∀ j r,j<i→L[j]?=some r→rowB r.xs=true)→∀ j,j<i→J.top j≤12:=fun i hi h j hj=>by
  have e:L[j]?=some L[j]:=List.getElem?_eq_getElem (by omega)
  have h1:=zKf (h j _ hj e) (hok.rlen _ (List.mem_of_getElem? e))
  rw [jtop j _ e];omega
 have hgl:∀ (i n h:Nat) (rm:Nd × Nd→Option Int) (N:zBq),i≤L.length→(∀ j r,j<i→L[j]?=some r→rowB r.xs=true)→n≤12→h≤12→grN rm N=Flow.upG J i n h→∀ k,(nxN N k).length≤10000:=fun i n h rm N hi hr hn hh hg k=>by
  have h1:=Flow.upG_len (J:=J) (i:=i) (n:=n) (h:=h) (jtl i hi hr) (fun j n _=>jdl j n) k
  rw [← hg] at h1
  have h2:((grN rm N).nx k)=nxN N k:=rfl
  rw [h2] at h1
  omega
 obtain ⟨b2,o2,rfl,_,_⟩:=hLp.at_ hne
 obtain ⟨b5,o5,rfl,_,_⟩:=hMp.at_ (i:=0) (by omega)
 have:InS w b2 o2 zp 1 L:=⟨hLp⟩
 have:InS w b5 o5 zp 1 M:=⟨hMp⟩
 unfold Gv zA2
 (refine zJ (n:=121) Tryz.func66 rfl rfl rfl ?_)
 (repeat' (first|((with_reducible refine zF ?_);first|refine zC rfl rfl rfl ?_|(refine zu rfl rfl rfl rfl (fun b=>?_)))|(with_reducible first|refine zH ?_|refine zB ?_|refine zD ?_|refine zA ?_)))
 obtain ⟨b1,hb1⟩:∃ x,x=b:=⟨_,rfl⟩
 subst hb1
 refine zHg (Nd × Nd) Int vNN vI rfl rfl (fun mr=>?_)
 (repeat' (first|((with_reducible refine zF ?_);first|(refine zb rfl rfl rfl rfl rfl ?_;refine ⟨rfl,by first|decide|exact Nat.le_of_ble_eq_true rfl|(simp;omega),_,rfl,?_⟩)|(refine zj rfl rfl (fun b=>?_)))|(with_reducible first|refine zH ?_|refine zB ?_|refine zD ?_|refine zA ?_)))
 obtain ⟨b3,hb3⟩:∃ x,x=b:=⟨_,rfl⟩
 subst hb3
 refine zHg Nd (zx Nd) vNd vSl rfl rfl (fun mn=>?_)
 (repeat' (first|((with_reducible refine zF ?_);first|refine zE rfl rfl rfl ?_|refine zC rfl rfl rfl ?_|(refine zK rfl rfl rfl ?_;refine ⟨_,rfl,?_⟩)|refine za rfl rfl rfl ?_|refine zo rfl rfl rfl ?_|(refine zb rfl rfl rfl rfl rfl ?_;refine ⟨rfl,by first|decide|exact Nat.le_of_ble_eq_true rfl|(simp;omega),_,rfl,?_⟩)|(refine zj rfl rfl (fun b=>?_))|refine zBx rfl rfl rfl rfl ?_)|(with_reducible first|refine zH ?_|refine zB ?_|refine zD ?_|refine zA ?_|refine zP ?_)))
 rename_i b4
 obtain ⟨b6,hb6⟩:∃ x,x=b:=⟨_,rfl⟩
 subst hb6
 refine u_net0 (by (repeat constructor)) ?_
 refine zHf (enc:=zO) (k:=3) (e:=168) ?_
 refine zw (ι:=NetS) [1,2,3,4,5,6,26,27] rfl (fun s=>s.i≤L.length∧(∀ j r,j<s.i→L[j]?=some r→rowB r.xs=true)∧zFY s.N∧grN s.rm s.N=Flow.upG J s.i 0 0) (fun s=>[(28,.int .i64 (s.i:Int)),(7,.slice s.A (Flow.upS J s.i 0).length s.c)])
  (fun s=>[.blk b3 [.map (some mr)],.blk b4 [.map (some mn)],.fm mr vNN vI s.rm,.net mn s.N,.blk b6 (zO nE),.blk b1 [.slice (some ⟨b2,o2,none⟩) L.length ca,.slice (some ⟨b5,o5,none⟩) M.length cb,.slice C hs.length cc],.row zO 3 168 (.slice s.A (Flow.upS J s.i 0).length s.c) (Flow.upS J s.i 0)]) (fun s=>L.length - s.i) ⟨0,fun _=>none,[],none,0⟩ ⟨Nat.zero_le _,fun j r h=>by simp only at h;omega,⟨List.nodup_nil,fun p hp=>by cases hp⟩,rfl⟩ (by (repeat first|exact lK1|refine zL rfl ?_)) (by (repeat constructor)) ?_
 rintro ⟨i,rm,N,sA,sc⟩ ⟨hi,hrows,hN,hg⟩
 simp only at hi hrows hN hg
 simp only [zAt,List.cons_append,List.nil_append]
 by_cases hlt:i<L.length
 ·obtain ⟨s,hs1⟩:∃ s,L[i]?=some s:=⟨_,List.getElem?_eq_getElem hlt⟩
  obtain ⟨t,ht1⟩:∃ t,M[i]?=some t:=⟨_,List.getElem?_eq_getElem (by omega)⟩
  have:zAT L i s:=⟨hs1⟩
  have:zAT M i t:=⟨ht1⟩
  have hsx:=hL.rows s (List.mem_of_getElem? hs1)
  have htx:=hM.rows t (List.mem_of_getElem? ht1)
  have hsf:=hok.full s (List.mem_of_getElem? hs1)
  have hst:=hok.row i s t hs1 ht1
  have hbg:=zKB (hok.big s (List.mem_of_getElem? hs1))
  have jtop:=jtop i s hs1
  have jdue:=fun n=>jdue i s n hs1
  have jmy:=fun h=>jmy i t h ht1
  obtain ⟨uA,sx,uc⟩:=s
  obtain ⟨tA,tx,tc⟩:=t
  simp only at hsx htx hsf hst hbg jtop jdue jmy
  obtain ⟨b7,o7,rfl,_,_⟩:=hsx.at_ (i:=0) (by omega)
  obtain ⟨b8,o8,rfl,_,_⟩:=htx.at_ (i:=0) (by omega)
  have:InS w b7 o7 encI 1 sx:=⟨hsx⟩
  have:InS w b8 o8 zAo 1 tx:=⟨htx⟩
  (repeat' (first|((with_reducible refine zF ?_);first|refine zE rfl rfl rfl ?_|refine zC rfl rfl rfl ?_|(refine zK rfl rfl rfl ?_;refine ⟨_,rfl,?_⟩)|(refine zQ rfl rfl rfl rfl rfl (fun h=>?_) (fun h=>?_)<;>(dsimp only [cmpP] at h;(try (exfalso;omega))))|refine zl rfl rfl rfl rfl rfl (by omega) ?_|refine zo rfl rfl rfl ?_)|(with_reducible first|refine zH ?_|refine zB ?_|refine zD ?_|refine zA ?_|refine zT ?_|refine zP ?_)|((with_reducible refine zI ?_ ?_);(· exact rfl))))
  refine zw (ι:=Nat) [1,2,3,4,5,6,26,27,28,7,8,9,33,34] rfl (fun k=>k≤sx.length∧∀ h,h<k→sx.getD h 0≤(h:Int)) (fun k=>[(35,.int .i64 (k:Int))]) (fun _=>[.blk b3 [.map (some mr)],.blk b4 [.map (some mn)],.fm mr vNN vI rm,.net mn N,.blk b6 (zO nE),.blk b1 [.slice (some ⟨b2,o2,none⟩) L.length ca,.slice (some ⟨b5,o5,none⟩) M.length cb,.slice C hs.length cc],.row zO 3 168 (.slice sA (Flow.upS J i 0).length sc) (Flow.upS J i 0)]) (fun k=>sx.length - k) 0 ⟨Nat.zero_le _,fun h h1=>by omega⟩ (by (repeat first|exact lK1|refine zL rfl ?_)) (by (repeat constructor)) ?_
  rintro k ⟨hk,hal⟩
  simp only [zAt,List.cons_append,List.nil_append]
  by_cases hkl:k<sx.length
  ·have:zAT sx k (sx.getD k 0):=⟨by rw [Flow.zAZ hkl];simp⟩
   have hbk:=hbg k
   generalize hx:sx.getD k 0=x at *
   (repeat' (first|((with_reducible refine zF ?_);first|refine zE rfl rfl rfl ?_|refine zC rfl rfl rfl ?_|(refine zK rfl rfl rfl ?_;refine ⟨_,rfl,?_⟩)|(refine zQ rfl rfl rfl rfl rfl (fun h=>?_) (fun h=>?_)<;>(dsimp only [cmpP] at h;(try (exfalso;omega))))|refine zh rfl rfl rfl rfl (by omega) ?_|refine zl rfl rfl rfl rfl rfl (by omega) ?_)|(with_reducible first|refine zH ?_|refine zB ?_|refine zD ?_|refine zA ?_|refine zX ?_|refine zT ?_|refine zZ ?_|refine zP ?_|refine zg ?_|refine zAP ?_)|((with_reducible refine zI ?_ ?_);(· exact rfl))|((with_reducible refine zG ?_ ?_);(· exact rfl))))
   ·refine zS (by exact rTm rfl) () trivial ?_ (fun _ h=>h.sub (by (repeat constructor)))
    have e:(L.map (·.xs)).all rowB=false:=by
     refine List.all_eq_false.2 ⟨sx,List.mem_map.2 ⟨_,List.mem_of_getElem? hs1,rfl⟩,?_⟩
     intro h9
     have:=List.all_eq_true.1 h9 k (List.mem_range.2 hkl)
     rw [hx] at this
     simp at this;omega
    rw [hfeas,e];rfl
   ·exact zf (k+1) (by
     refine ⟨by omega,fun m hm=>?_⟩
     by_cases e:m=k
     ·subst e;omega
     ·exact hal m (by omega)) (by omega) (by (repeat first|exact lK1|refine zL rfl ?_)) (by (repeat constructor))
  ·obtain rfl:k=sx.length:=by omega
   have hrow:rowB sx=true:=List.all_eq_true.2 fun h hm=>decide_eq_true (hal h (List.mem_range.1 hm))
   have hmx:=zKf hrow (by omega)
   have hme:Flow.zBl sx∈sx:=Flow.zIB (fun e=>by rw [e] at hsf;simp at hsf;omega)
   have hml:=hok.big _ (List.mem_of_getElem? hs1) _ hme
   have hrows2:∀ j r,j<i+1→L[j]?=some r→rowB r.xs=true:=fun j r hj hr=>by
    by_cases e:j=i
    ·subst e;rw [hs1] at hr;cases hr;exact hrow
    ·exact hrows j r (by omega) hr
   (repeat' (first|((with_reducible refine zF ?_);first|refine zE rfl rfl rfl ?_|(refine zQ rfl rfl rfl rfl rfl (fun h=>?_) (fun h=>?_)<;>(dsimp only [cmpP] at h;(try (exfalso;omega))))|refine zV rfl rfl rfl rfl (fun _ _ q=>zHS sx _ _ _ (hsx.below q.below) (by omega) (by omega)) ?_)|(with_reducible first|refine zH ?_|refine zB ?_|refine zD ?_|refine zA ?_|refine zP ?_|refine zk ?_|refine zR ?_|refine zW ?_)|((with_reducible refine zG ?_ ?_);(· exact rfl))))
   have htl:=jtl i hi hrows
   refine zw (ι:=NetS) [1,2,3,4,5,6,26,27,28,8,9,45] rfl (fun s=>s.i≤J.top i∧zFY s.N∧grN s.rm s.N=Flow.upG J i s.i 0) (fun s=>[(46,.int .i64 (s.i:Int)),(7,.slice s.A (Flow.upS J i s.i).length s.c)])
    (fun s=>[.blk b3 [.map (some mr)],.blk b4 [.map (some mn)],.fm mr vNN vI s.rm,.net mn s.N,.blk b6 (zO nE),.blk b1 [.slice (some ⟨b2,o2,none⟩) L.length ca,.slice (some ⟨b5,o5,none⟩) M.length cb,.slice C hs.length cc],.row zO 3 168 (.slice s.A (Flow.upS J i s.i).length s.c) (Flow.upS J i s.i)]) (fun s=>J.top i - s.i) ⟨0,rm,N,sA,sc⟩ ⟨Nat.zero_le _,hN,hg⟩ (by (repeat first|exact lK1|refine zL rfl ?_)) (by (repeat constructor)) ?_
   clear hN hg
   rintro ⟨n,rm,N,sA,sc⟩ ⟨hn,hN,hg⟩
   simp only at hn hN hg
   simp only [zAt,List.cons_append,List.nil_append]
   by_cases hnl:n<J.top i
   ·have hex:∃ x∈sx,(n:Int)<x:=⟨_,hme,by omega⟩
    have hul:=Flow.zMi (J:=J) (i:=i) (n:=n) htl
    have hdl:=jdl i n
    rw [jdue] at hdl
    (repeat' (first|((with_reducible refine zF ?_);first|refine zE rfl rfl rfl ?_|refine zC rfl rfl rfl ?_|(refine zK rfl rfl rfl ?_;refine ⟨_,rfl,?_⟩)|(refine zQ rfl rfl rfl rfl rfl (fun h=>?_) (fun h=>?_)<;>(dsimp only [cmpP] at h;(try (exfalso;omega))))|refine zAn (enc:=zO) [nS i n] rfl rfl rfl (by (repeat constructor)) rfl rfl (zAY (enc:=zO) (by exact rfl)) (by refine ⟨?_,by decide⟩;simp only [List.length_cons,List.length_nil];omega) (fun A' c'=>?_)|refine zV rfl rfl rfl rfl (fun _ _ q=>idx_any sx _ _ n _ _ (hsx.below q.below) (by omega) (zAY (enc:=encI) (by exact rfl) _ q.below q.own) hex) ?_|(refine zb rfl rfl rfl rfl rfl ?_;refine ⟨rfl,by first|decide|exact Nat.le_of_ble_eq_true rfl|(simp;omega),_,rfl,?_⟩)|(refine zj rfl rfl (fun b=>?_))|(refine zAl rfl rfl rfl ?_;refine ⟨_,rfl,?_⟩)|(refine zY rfl rfl rfl ?_;refine ⟨rfl,_,rfl,fun b=>?_⟩)|refine zBx rfl rfl rfl rfl ?_)|(with_reducible first|refine zH ?_|refine zB ?_|refine zD ?_|refine zA ?_|refine zT ?_|refine zP ?_)|((with_reducible refine zI ?_ ?_);(· exact rfl))))
    rename_i b12 b13
    rw [← Flow.upS_n]
    have hdl2:Flow.zFq sx n<sx.length:=List.findIdx_lt_length_of_exists (by obtain ⟨x,h1,h2⟩:=hex;exact ⟨x,h1,by simpa using h2⟩)
    refine zw (ι:=NetS) [1,2,3,4,5,6,26,27,28,8,9,45,46,7,13,59] rfl (fun s=>s.i≤Flow.zFq sx n∧zFY s.N∧grN s.rm s.N=Flow.upG J i n s.i) (fun s=>[(60,.int .i64 (s.i:Int))])
     (fun s=>[.blk b3 [.map (some mr)],.blk b4 [.map (some mn)],.fm mr vNN vI s.rm,.net mn s.N,.blk b6 (zO nE),.blk b1 [.slice (some ⟨b2,o2,none⟩) L.length ca,.slice (some ⟨b5,o5,none⟩) M.length cb,.slice C hs.length cc],.row zO 3 168 (.slice A' (Flow.upS J i (n+1)).length c') (Flow.upS J i (n+1)),.blk b13 (zO (nS i n))]) (fun s=>Flow.zFq sx n - s.i) ⟨0,rm,N,none,0⟩ ⟨Nat.zero_le _,hN,hg⟩ (by (repeat first|exact lK1|refine zL rfl ?_)) (by (repeat constructor)) ?_
    clear hN hg
    rintro ⟨u,rm,N,_,_⟩ ⟨hh1,hN,hg⟩
    simp only at hh1 hN hg
    simp only [zAt,List.cons_append,List.nil_append]
    by_cases hhl:u<Flow.zFq sx n
    ·have:zAT tx u (tx.getD u false):=⟨by rw [Flow.zAZ (by omega)];simp⟩
     have hmh:=jmy u
     generalize tx.getD u false=z at *
     cases z with
     | false =>
      (repeat' (first|((with_reducible refine zF ?_);first|refine zE rfl rfl rfl ?_|refine zC rfl rfl rfl ?_|(refine zK rfl rfl rfl ?_;refine ⟨_,rfl,?_⟩)|refine za rfl rfl rfl ?_|(refine zQ rfl rfl rfl rfl rfl (fun h=>?_) (fun h=>?_)<;>(dsimp only [cmpP] at h;(try (exfalso;omega))))|refine zl (I:=u) rfl rfl rfl rfl rfl (by dsimp only;omega) ?_|refine zh rfl rfl rfl rfl (by omega) ?_|refine zl rfl rfl rfl rfl rfl (by omega) ?_)|(with_reducible first|refine zH ?_|refine zB ?_|refine zD ?_|refine zA ?_|refine zT ?_|refine zP ?_|refine zg ?_)|((with_reducible refine zI ?_ ?_);(· exact rfl))|((with_reducible refine zG ?_ ?_);(· exact rfl))))
      exact zf (ι:=NetS) ⟨u+1,rm,N,none,0⟩ (by exact ⟨by simp only;omega,hN,by simp only;rw [Flow.upG_no hmh];exact hg⟩) (by simp only;omega) (by (repeat first|exact lK1|refine zL rfl ?_)) (by (repeat constructor))
     | true =>
      have hl0:=hgl i n u rm N (by omega) hrows (by omega) (by omega) hg
      (repeat' (first|((with_reducible refine zF ?_);first|refine zE rfl rfl rfl ?_|refine zC rfl rfl rfl ?_|(refine zK rfl rfl rfl ?_;refine ⟨_,rfl,?_⟩)|refine za rfl rfl rfl ?_|(refine zQ rfl rfl rfl rfl rfl (fun h=>?_) (fun h=>?_)<;>(dsimp only [cmpP] at h;(try (exfalso;omega))))|refine zl (I:=u) rfl rfl rfl rfl rfl (by dsimp only;omega) ?_|refine zl rfl rfl rfl rfl rfl (by omega) ?_|(refine zAl rfl rfl rfl ?_;refine ⟨_,rfl,?_⟩))|(with_reducible first|refine zH ?_|refine zB ?_|refine zD ?_|refine zA ?_|refine zT ?_|refine zP ?_)|((with_reducible refine zI ?_ ?_);(· exact rfl))))
      refine zEM (zEI b3 b4 mr mn (rm) N) [.blk b13 (zO (nS i n)),.row zO 3 168 (.slice A' (Flow.upS J i (n+1)).length c') (Flow.upS J i (n+1)),.blk b6 (zO nE),.blk b1 [.slice (some ⟨b2,o2,none⟩) L.length ca,.slice (some ⟨b5,o5,none⟩) M.length cb,.slice C hs.length cc]] rfl rfl rfl rfl (by unfold zEI;(repeat constructor)) (fun a W q=>Two.zIP (nS i n) (nT i u) (1) (by simp [nS,nT,nH,nE]) b3 b4 mr mn (rm) N hN (fun k=>by have:=hl0 k;omega) _ W q.base (Own.append.1 q.own).1) (fun N1 hN1=>?_)
      unfold zEI
      simp only [List.cons_append,List.nil_append]
      obtain ⟨hN1a,hg1⟩:=hN1
      have hl1:∀ k,(nxN N1 k).length≤10000+1:=fun k=>by
       have h1:=Flow.zGP (grN (rm) N) (nS i n,nT i u,1) k
       rw [← hg1] at h1
       have h2:=hl0 k
       exact Nat.le_trans h1 (Nat.succ_le_succ h2)
      (repeat' (first|((with_reducible refine zF ?_);first|refine zE rfl rfl rfl ?_|(refine zAl rfl rfl rfl ?_;refine ⟨_,rfl,?_⟩))|(with_reducible first|refine zH ?_|refine zB ?_|refine zD ?_|refine zA ?_)))
      refine zEM (zEI b3 b4 mr mn (zAM rm (nS i n,nT i u) (some 1)) N1) [.blk b13 (zO (nS i n)),.row zO 3 168 (.slice A' (Flow.upS J i (n+1)).length c') (Flow.upS J i (n+1)),.blk b6 (zO nE),.blk b1 [.slice (some ⟨b2,o2,none⟩) L.length ca,.slice (some ⟨b5,o5,none⟩) M.length cb,.slice C hs.length cc]] rfl rfl rfl rfl (by unfold zEI;(repeat constructor)) (fun a W q=>Two.zIP (nT i u) (nH u) (1) (by simp [nS,nT,nH,nE]) b3 b4 mr mn (zAM rm (nS i n,nT i u) (some 1)) N1 hN1a (fun k=>by have:=hl1 k;omega) _ W q.base (Own.append.1 q.own).1) (fun N2 hN2=>?_)
      unfold zEI
      simp only [List.cons_append,List.nil_append]
      obtain ⟨hN2a,hg2⟩:=hN2
      have hl2:∀ k,(nxN N2 k).length≤10000+2:=fun k=>by
       have h1:=Flow.zGP (grN (zAM rm (nS i n,nT i u) (some 1)) N1) (nT i u,nH u,1) k
       rw [← hg2] at h1
       have h2:=hl1 k
       exact Nat.le_trans h1 (Nat.succ_le_succ h2)
      (refine Two.zA1 [] [] [] rfl (show ([]:List Nat).Nodup by decide) (fun _ h=>h) (by kernel_rfl) [[],[Y],[Z,Y],[Y,Y,Y],[Y,Y,Y,Y],[Z,Y,Y,Y,Y],[Y,Y,Y,Y,Y,Y],[Z,Z,Z,Y,Y,Y,Y],[Z,Z,Z,Z,Y,Y,Y,Y],[Z,Z,Z,Z,Z,Z,Z,Z,Z]] (by kernel_rfl) (by kernel_rfl) (by kernel_rfl) (by kernel_rfl) (by kernel_rfl) ?_)
      have:zAT hs u (J.hd u):=⟨by rw [jhd,Flow.zAZ (by omega)];simp⟩
      obtain ⟨b9,o9,rfl,_,_⟩:=hh.at_ (i:=u) (by omega)
      have:InS w b9 o9 encI 1 hs:=⟨hh⟩
      (repeat' (first|(((with_reducible refine Two.zDQ ?_ ?_);(· exact rfl);refine ⟨_,fun G=>(by (try simp (decide:=true) only [Two.vis,Two.see,fltT,zAF,Nat.reduceAdd,Nat.reduceSub,if_true,if_false,List.set_cons_zero,List.set_cons_succ,List.set_nil,List.nil_append,List.cons_append]);rfl),?_⟩);first|refine Two.zm _ (fun _=>zAi rfl rfl) (fun _=>rfl) rfl (by intro G G' h;simp (decide:=true) only [h]) ?_|refine Two.zm _ (fun _=>zAG rfl rfl (by exact rfl)) (fun _=>rfl) rfl (by intro G G' h;simp (decide:=true) only [h]) ?_|(refine Two.zAj rfl ?_;refine Two.zm _ (fun _=>zAU rfl rfl) (fun _=>rfl) rfl (by intro G G' h;simp (decide:=true) only [h]) ?_)|refine Two.zm _ (fun _=>zAr (I:=u) rfl rfl rfl rfl (by omega)) (fun _=>rfl) rfl (by exact fun _ _ _=>rfl) ?_|refine Two.zm _ (fun _=>zD9 rfl rfl (by exact rfl)) (fun _=>rfl) rfl (by intro G G' h;simp (decide:=true) only [h]) ?_)|((with_reducible refine Two.zB3 ?_ ?_);(· exact rfl))))
      (intro G;simp only [regsT,zAF,Two.zBb,Two.ini,List.nil_append,List.cons_append])
      refine zEM (zEI b3 b4 mr mn (zAM (zAM rm (nS i n,nT i u) (some 1)) (nT i u,nH u) (some 1)) N2) [.blk b13 (zO (nS i n)),.row zO 3 168 (.slice A' (Flow.upS J i (n+1)).length c') (Flow.upS J i (n+1)),.blk b6 (zO nE),.blk b1 [.slice (some ⟨b2,o2,none⟩) L.length ca,.slice (some ⟨b5,o5,none⟩) M.length cb,.slice (some ⟨b9,o9,none⟩) hs.length cc]] rfl rfl rfl rfl (by unfold zEI;(repeat constructor)) (fun a W q=>Two.zIP (nH u) (nE) (J.hd u) (by simp [nS,nT,nH,nE]) b3 b4 mr mn (zAM (zAM rm (nS i n,nT i u) (some 1)) (nT i u,nH u) (some 1)) N2 hN2a (fun k=>by have:=hl2 k;omega) _ W q.base (Own.append.1 q.own).1) (fun N3 hN3=>?_)
      unfold zEI
      simp only [List.cons_append,List.nil_append]
      obtain ⟨hN3a,hg3⟩:=hN3
      have hl3:∀ k,(nxN N3 k).length≤10000+3:=fun k=>by
       have h1:=Flow.zGP (grN (zAM (zAM rm (nS i n,nT i u) (some 1)) (nT i u,nH u) (some 1)) N2) (nH u,nE,J.hd u) k
       rw [← hg3] at h1
       have h2:=hl2 k
       exact Nat.le_trans h1 (Nat.succ_le_succ h2)
      (repeat' (first|((with_reducible refine zF ?_);first|refine zE rfl rfl rfl ?_|refine zh rfl rfl rfl rfl (by omega) ?_)|(with_reducible first|refine zB ?_|refine zD ?_|refine zA ?_|refine zg ?_)))
      exact zf (ι:=NetS) ⟨u+1,zAM (zAM (zAM rm (nS i n,nT i u) (some 1)) (nT i u,nH u) (some 1)) (nH u,nE) (some (J.hd u)),N3,none,0⟩ (by exact ⟨by simp only;omega,hN3a,by simp only;rw [Flow.upG_yes hmh,← hg,← hg1,← hg2];exact hg3⟩) (by simp only;omega) (by (repeat first|exact lK1|refine zL rfl ?_)) (by (repeat constructor))
    ·obtain rfl:u=Flow.zFq sx n:=by omega
     (repeat' (first|((with_reducible refine zF ?_);first|refine zE rfl rfl rfl ?_|(refine zQ rfl rfl rfl rfl rfl (fun h=>?_) (fun h=>?_)<;>(dsimp only [cmpP] at h;(try (exfalso;omega))))|refine zh rfl rfl rfl rfl (by omega) ?_)|(with_reducible first|refine zH ?_|refine zB ?_|refine zD ?_|refine zA ?_|refine zk ?_|refine zg ?_|refine zR ?_|refine zW ?_)|((with_reducible refine zG ?_ ?_);(· exact rfl))))
     rw [← jdue,Flow.upG_row] at hg
     exact zf (ι:=NetS) ⟨n+1,rm,N,A',c'⟩ (by exact ⟨by simp only;omega,hN,hg⟩) (by simp only;omega) (by (repeat first|exact lK1|refine zL rfl ?_)) (by (repeat constructor))
   ·obtain rfl:n=J.top i:=by omega
    (repeat' (first|((with_reducible refine zF ?_);first|refine zE rfl rfl rfl ?_|(refine zQ rfl rfl rfl rfl rfl (fun h=>?_) (fun h=>?_)<;>(dsimp only [cmpP] at h;(try (exfalso;omega))))|refine zh rfl rfl rfl rfl (by omega) ?_)|(with_reducible first|refine zH ?_|refine zB ?_|refine zD ?_|refine zA ?_|refine zk ?_|refine zg ?_|refine zR ?_|refine zW ?_)|((with_reducible refine zG ?_ ?_);(· exact rfl))))
    rw [Flow.upG_rows] at hg
    exact zf (ι:=NetS) ⟨i+1,rm,N,sA,sc⟩ (by exact ⟨by simp only;omega,hrows2,hN,hg⟩) (by simp only;omega) (by simp only [← Flow.zMh];(repeat first|exact lK1|refine zL rfl ?_)) (by simp only [← Flow.zMh];(repeat constructor))
 ·obtain rfl:i=L.length:=by omega
  have hall:(L.map (·.xs)).all rowB=true:=List.all_eq_true.2 fun r hr=>by
   obtain ⟨s,hs1,rfl⟩:=List.mem_map.1 hr
   obtain ⟨j,hj⟩:=List.mem_iff_getElem?.1 hs1
   exact hrows j s (List.getElem?_eq_some_iff.1 hj).1 hj
  rw [hall,Bool.true_and] at hfeas
  have hul:=Flow.zMi (J:=J) (i:=L.length) (n:=0) (jtl _ (Nat.le_refl _) hrows)
  have hl0:=hgl L.length 0 0 rm N (Nat.le_refl _) hrows (by omega) (by omega) hg
  have htops:=jtl _ (Nat.le_refl _) hrows
  rw [← jnb,Flow.upG_all] at hg
  rw [← jnb,Flow.upS_all] at hul ⊢
  have hgr:rm=(Flow.graph J).rm:=congrArg Flow.Gr.rm hg
  have hgn:nxN N=(Flow.graph J).nx:=congrArg Flow.Gr.nx hg
  have hJok:J.Ok:=by
   rw [hJ]
   refine Flow.zMz (fun r hr=>?_) (fun n hn=>(hok.hbig n hn).1) n4
   obtain ⟨s,hs1,rfl⟩:=List.mem_map.1 hr
   exact hok.full s hs1
  have hV:∀ u v,v∈nxN N u→v∈Flow.nodes J:=by rw [hgn];exact (Flow.zJT hJok).inV
  have hun0:(fun x=>decide (x=nE) || !(nxN N x).isEmpty)=Flow.seen0 (Flow.graph J):=by rw [hgn];rfl
  have hhd:∀ x,0≤J.hd x∧J.hd x≤1000:=fun x=>by
   rw [jhd]
   by_cases hx:x<hs.length
   ·rw [Flow.zAZ hx];exact hok.hbig _ (List.getElem_mem hx)
   ·rw [List.getD_eq_getElem?_getD,List.getElem?_eq_none (by omega)];simp
  have hbd0:∀ x y,-1000≤Flow.rg rm x y∧Flow.rg rm x y≤1000:=fun x y=>by
   rw [hgr]
   by_cases h0:Flow.rg (Flow.graph J).rm x y=0
   ·rw [h0];omega
   ·obtain ⟨i,n,h,_,hm⟩:=Flow.zB6.1 (Flow.zLq h0)
    have h1:=hhd h
    simp only [Flow.edg,List.mem_cons,Prod.mk.injEq,List.mem_nil_iff,or_false] at hm
    rcases hm with ⟨_,_,h2⟩ | ⟨_,_,h2⟩ | ⟨_,_,h2⟩<;>omega
  have hFl:(Flow.nodes J).length≤600:=by
   have a2:=Flow.zCw (fun i=>(List.range J.nh).map (nT i)) 12 (List.range J.nb) (fun x _=>by
    have:J.nh=hs.length:=by rw [hJ];rfl
    simp [this];omega)
   have a3:(Flow.zH9 J).length=J.nh:=by simp [Flow.zH9]
   have:J.nh=hs.length:=by rw [hJ];rfl
   rw [List.length_range] at a2
   simp only [Flow.nodes,List.length_append,List.length_cons,List.length_nil,Flow.zKy]
   rw [a3]
   omega
  rw [← hgn,← hgr,← hun0] at hfeas
  generalize hS:Flow.zB8 J=S at *
  generalize hF:(Flow.nodes J).length+1=F at *
  rw [hfeas]
  clear hfeas hun0 hgr hgn hg hJok hhd
  (repeat' (first|((with_reducible refine zF ?_);first|refine zE rfl rfl rfl ?_|(refine zQ rfl rfl rfl rfl rfl (fun h=>?_) (fun h=>?_)<;>(dsimp only [cmpP] at h;(try (exfalso;omega))))|refine zHg Nd Bool vNd vB rfl rfl (fun mu=>?_)|refine zo rfl rfl rfl ?_|(refine zb rfl rfl rfl rfl rfl ?_;refine ⟨rfl,by first|decide|exact Nat.le_of_ble_eq_true rfl|(simp;omega),_,rfl,?_⟩)|(refine zj rfl rfl (fun b=>?_))|refine zBx rfl rfl rfl rfl ?_)|(with_reducible first|refine zH ?_|refine zB ?_|refine zD ?_|refine zA ?_|refine zP ?_|refine zk ?_|refine zR ?_|refine zW ?_)|((with_reducible refine zG ?_ ?_);(· exact rfl))))
  rename_i b16
  obtain ⟨b17,hb17⟩:∃ x,x=b:=⟨_,rfl⟩
  subst hb17
  rw [zLH]
  refine zw (ι:=Nat × (Nd × Nd→Option Int) × (Nd→Bool)) [2,4,6,16,17,99,100] rfl (fun q=>q.1≤S.length∧Flow.solve nE (nxN N) (fun x=>decide (x=nE) || !(nxN N x).isEmpty) F (S.drop q.1) q.2.1=Flow.solve nE (nxN N) (fun x=>decide (x=nE) || !(nxN N x).isEmpty) F S rm∧∀ x y,-(1000+601 * (q.1:Int))≤Flow.rg q.2.1 x y∧Flow.rg q.2.1 x y≤1000+601 * (q.1:Int)) (fun q=>[(101,.int .i64 (q.1:Int))])
   (fun q=>[.blk b6 (zO nE),.blk b16 [.map (some mu)],.blk b4 [.map (some mn)],.blk b3 [.map (some mr)],.blk b17 [zt b6 b16 b4 b3 b17],.fm mu vNd vB (fuM q.2.2),.fm mr vNN vI q.2.1,.net mn N,.row zO 3 168 (.slice sA S.length sc) S]) (fun q=>S.length - q.1) (0,rm,fun _=>false) ⟨Nat.zero_le _,rfl,fun x y=>by have:=hbd0 x y;simp only;omega⟩ (by (repeat first|exact lK1|refine zL rfl ?_)) (by (repeat constructor)) ?_
  rintro ⟨k,rk,un⟩ ⟨hk,hsol,hbk⟩
  simp only at hk hsol hbk
  simp only [zAt,List.cons_append,List.nil_append]
  by_cases hkl:k<S.length
  ·obtain ⟨s,hs1⟩:∃ s,S[k]?=some s:=⟨_,List.getElem?_eq_getElem hkl⟩
   have:zAT S k s:=⟨hs1⟩
   refine zGY (by (repeat constructor)) (by omega) (fun g hA=>?_)
   obtain rfl:sA=some ⟨g,0,none⟩:=hA
   rw [show S.drop k=s::S.drop (k+1) by rw [List.drop_eq_getElem_cons hkl];rw [List.getElem?_eq_getElem hkl] at hs1;cases hs1;rfl] at hsol
   (repeat' (first|((with_reducible refine zF ?_);first|(refine zK rfl rfl rfl ?_;refine ⟨_,rfl,?_⟩)|(refine zQ rfl rfl rfl rfl rfl (fun h=>?_) (fun h=>?_)<;>(dsimp only [cmpP] at h;(try (exfalso;omega))))|refine u_fmClr (kv:=vNd) (vv:=vB) rfl rfl rfl rfl (by (repeat constructor)) ?_|refine zFw (kv:=vNd) (vv:=vB) nE true rfl zDG rfl rfl rfl rfl rfl (by (repeat constructor)) ?_|refine zl rfl rfl rfl rfl rfl (by omega) ?_|(refine zb rfl rfl rfl rfl rfl ?_;refine ⟨rfl,by first|decide|exact Nat.le_of_ble_eq_true rfl|(simp;omega),_,rfl,?_⟩)|(refine zj rfl rfl (fun b=>?_)))|(with_reducible first|refine zH ?_|refine zB ?_|refine zD ?_|refine zA ?_|refine zT ?_|refine zP ?_)|((with_reducible refine zI ?_ ?_);(· exact rfl))))
   obtain ⟨b19,hb19⟩:∃ x,x=b:=⟨_,rfl⟩
   subst hb19
   rw [show zAM (fun _:Nd=>(none:Option Bool)) nE (some true)=fuM (Flow.upd (fun _=>false) nE true) from by rw [zLH,zM1]]
   refine zLh (by (repeat constructor)) ?_
   refine u_fmOpen (kv:=vNd) (vv:=vSl) (by (repeat constructor)) (fun l c hlo hle=>?_)
   (repeat' (first|((with_reducible refine zF ?_);first|refine u_rangeM (kv:=vNd) (vv:=vSl) rfl rfl rfl (by (repeat constructor)) (fun r=>?_))|(with_reducible first|refine zD ?_|refine zA ?_|refine zP ?_)))
   refine zw (ι:=List Nat × (Nd→Bool)) [2,4,6,16,17,99,100,101,19,109] rfl (fun q=>(∀ x,q.2 x=true→x=nE∨∃ p∈l,p.1=x)∧q.2 nE=true∧∀ p∈l,p.2.2∈q.1→q.2 p.1=true) (fun q=>[])
    (fun q=>[.itl r mn c q.1,.fm mu vNd vB (fuM q.2),.ml mn vNd vSl l c,.all (N.map zC4),.blk b19 (zO s),.blk b6 (zO nE),.blk b16 [.map (some mu)],.blk b4 [.map (some mn)],.blk b3 [.map (some mr)],.blk b17 [zt b6 b16 b4 b3 b17],.fm mr vNN vI rk,.row zO 3 168 (.slice (some ⟨g,0,none⟩) S.length sc) S]) (fun q=>leftN l q.1) ([],Flow.upd (fun _=>false) nE true) ⟨fun x hx=>(by simp only [Flow.upd] at hx;split at hx;exact .inl (by assumption);cases hx),(by simp [Flow.upd]),fun p _ hp=>(by cases hp)⟩ (by (repeat first|exact lK1|refine zL rfl ?_)) (by (repeat constructor)) ?_
   clear un
   rintro ⟨seen,un⟩ ⟨hu1,hu2,hu3⟩
   simp only at hu1 hu2 hu3
   simp only [zAt,List.cons_append,List.nil_append]
   (repeat' (first|((with_reducible refine zF ?_);first|(refine zK rfl rfl rfl ?_;refine ⟨_,rfl,?_⟩)|(refine u_nextM (kv:=vNd) (vv:=vSl) rfl rfl rfl (by (repeat constructor)) (by (repeat constructor)) hlo (fun hend=>?_) (fun p hp hpn=>?_)<;>skip)|refine zc rfl rfl rfl rfl ?_)|(with_reducible first|refine zH ?_|refine zB ?_|refine zD ?_|refine zA ?_|refine zT ?_|refine zP ?_|refine zk ?_|refine zR ?_|refine zW ?_)|((with_reducible refine zI ?_ ?_);(· exact rfl))|((with_reducible refine zG ?_ ?_);(· exact rfl))))
   ·have hun:=zL7 hN hle hu1 hu2 (fun p hp=>hu3 p hp (hend p hp)) hlo.keys
    rw [← hun] at hsol
    refine u_fmShut (kv:=vNd) (vv:=vSl) (by (repeat constructor)) hlo hle ?_
    refine zNI (by (repeat constructor)) (by (repeat constructor)) ?_
    have hcn:Flow.cnt (Flow.nodes J) (Flow.upd un s false)<F:=Nat.lt_of_le_of_lt Flow.zHV (by omega)
    have hcall:=fun W lo (hl:lo≤W.heap.size) ho=>push_any b6 b16 b4 b3 b17 mu mr mn N (Flow.nodes J) hV hN (fun k=>by have:=hl0 k;omega) F s un rk (1000+601 * (k:Int)) lo W hcn hbk (by omega) (by omega) hl ho
    have hbd:=zJ0 (e:=nE) hV F s ⟨rk,un⟩ (1000+601 * (k:Int)) hcn hbk
    simp only [Flow.solve] at hsol
    cases hp:Flow.push nE (nxN N) F s ⟨rk,un⟩ with
    | mk bb st =>
    obtain ⟨rk',un'⟩:=st
    simp only [hp] at hcall hbd hsol
    refine zEM (zEH b6 b16 b4 b3 b17 mu mr mn un rk N) [.row zO 3 168 (.slice (some ⟨g,0,none⟩) S.length sc) S] rfl rfl rfl rfl (by unfold zEH;(repeat constructor)) (fun a W q=>hcall W _ q.base (Own.append.1 q.own).1) (fun _ _=>?_)
    unfold zEH
    simp only [List.cons_append,List.nil_append]
    cases bb with
    | true =>
     simp only [if_true] at hsol
     (repeat' (first|((with_reducible refine zF ?_);first|refine zE rfl rfl rfl ?_|refine zAN rfl rfl rfl ?_|refine zh rfl rfl rfl rfl (by omega) ?_)|(with_reducible first|refine zB ?_|refine zD ?_|refine zA ?_|refine zT ?_|refine zg ?_)|((with_reducible refine zG ?_ ?_);(· exact rfl))))
     rw [hun] at hsol
     exact zf (ι:=Nat × (Nd × Nd→Option Int) × (Nd→Bool)) (k+1,rk',un') (by exact ⟨by simp only;omega,hsol,fun x y=>by have:=hbd x y;simp only;omega⟩) (by simp only;omega) (by (repeat first|exact lK1|refine zL rfl ?_)) (by (repeat constructor))
    | false =>
     simp only [Bool.false_eq_true,if_false] at hsol
     rw [hun] at hsol
     rw [← hsol]
     (repeat' (first|((with_reducible refine zF ?_);first|refine zC rfl rfl rfl ?_|refine zAN rfl rfl rfl ?_)|(with_reducible first|refine zH ?_|refine zB ?_|refine zD ?_|refine zA ?_|refine zX ?_|refine zZ ?_|refine zAP ?_)|((with_reducible refine zI ?_ ?_);(· exact rfl))))
     exact zS (by exact rTm rfl) () trivial rfl (fun _ h=>h.sub (by (repeat constructor)))
   ·(repeat' (first|((with_reducible refine zF ?_);first|(refine zK rfl rfl rfl ?_;refine ⟨_,rfl,?_⟩)|refine u_entryM (kv:=vNd) (vv:=vSl) (p:=p) rfl rfl rfl (by (repeat constructor)) (by (repeat constructor)) hlo hp ?_|refine zFw (kv:=vNd) (vv:=vB) p.1 true rfl zDG rfl rfl rfl rfl rfl (by (repeat constructor)) ?_|refine zc rfl rfl rfl rfl ?_|(refine zb rfl rfl rfl rfl rfl ?_;refine ⟨rfl,by first|decide|exact Nat.le_of_ble_eq_true rfl|(simp;omega),_,rfl,?_⟩)|(refine zj rfl rfl (fun b=>?_)))|(with_reducible first|refine zB ?_|refine zD ?_|refine zA ?_|refine zg ?_)))
    rw [zM1]
    refine zf (ι:=List Nat × (Nd→Bool)) (seen++[p.2.2],Flow.upd un p.1 true) (by
     refine ⟨fun x hx=>?_,?_,fun p2 hp2 hs2=>?_⟩
     ·simp only [Flow.upd] at hx
      split at hx
      ·rename_i e;exact .inr ⟨p,hp,e.symm⟩
      ·exact hu1 x hx
     ·simp only [Flow.upd];split
      ·rfl
      ·exact hu2
     ·simp only [Flow.upd];split
      ·rfl
      ·rename_i e
       rcases List.mem_append.1 hs2 with h9|h9
       ·exact hu3 p2 hp2 h9
       ·have h9:p2.2.2=p.2.2:=by simpa using h9
        exact absurd (mok_born hlo hp2 hp h9) (fun e2=>e (by rw [e2]))) (leftN_lt hp hpn) (by (repeat first|exact lK1|refine zL rfl ?_)) (by (repeat constructor))
  ·obtain rfl:k=S.length:=by omega
   rw [List.drop_length] at hsol
   simp only [Flow.solve] at hsol
   rw [← hsol]
   (repeat' (first|((with_reducible refine zF ?_);first|refine zC rfl rfl rfl ?_|(refine zQ rfl rfl rfl rfl rfl (fun h=>?_) (fun h=>?_)<;>(dsimp only [cmpP] at h;(try (exfalso;omega)))))|(with_reducible first|refine zH ?_|refine zB ?_|refine zD ?_|refine zA ?_|refine zX ?_|refine zk ?_|refine zR ?_|refine zW ?_)|((with_reducible refine zG ?_ ?_);(· exact rfl))))
   exact zS (by exact rTm rfl) () trivial rfl (fun _ h=>h.sub (by (repeat constructor)))
end Go.Proofs.YtdigopgncfhiaaaGreatDoor
namespace Go.Proofs.YtdigopgncfhiaaaGreatDoor
open Go.RowKit
theorem feas_can {nds:List (List Int)} {mys:List (List Bool)} {hs:List Int} (hr:∀ r∈nds,r.length=hs.length) (hh:∀ n∈hs,0≤n) (h1:0<hs.length):Flow.zLL nds mys hs=zGx nds mys hs:=by
 have key:∀ m:Nat,Flow.shortF (Flow.zCD nds mys hs) m.testBit↔0<zLk nds mys hs m:=fun m=>by
  have e:Flow.sumL (List.range nds.length) (fun i=>zEh nds mys m i (nds.getD i []).length)=Flow.sumL (List.range nds.length) (fun i=>(Flow.lackF ((Flow.zCD nds mys hs).nd i) ((Flow.zCD nds mys hs).my i) m.testBit hs.length).1):=by
   refine Flow.zAJ fun i hi=>?_
   have hi:=List.mem_range.1 hi
   rw [show (nds.getD i []).length=hs.length by rw [Flow.zAZ hi];exact hr _ (List.getElem_mem hi)]
   rfl
  unfold zLk
  rw [e]
  unfold Flow.shortF zD0
  simp only [Flow.zCD]
  omega
 rw [Bool.eq_iff_iff,Flow.feas_iff hr hh h1]
 unfold Flow.canL zGx
 rw [List.all_eq_true]
 constructor
 ·intro h m hm
  have:=h m (List.mem_range.1 hm)
  rw [key] at this
  simp [this]
 ·intro h m hm h2
  have:=h m (List.mem_range.2 hm)
  rw [key] at h2
  simp [h2] at this
end Go.Proofs.YtdigopgncfhiaaaGreatDoor
namespace Go.Proofs.YtdigopgncfhiaaaGreatDoor
open Go.RowKit
set_option maxRecDepth 20000
theorem zN3 {nb nh h i:Nat} {s:PS} (ok:zDn nb nh h i s) {L:List (zx Int)} {M:List (zx Bool)} (hL:L.map (·.xs)=s.nds) (hM:M.map (·.xs)=s.may) (hnb:nb≤20) (hnh:nh≤12) (h0:0<nh):FeasOk L M s.hands :=
 ⟨zI8 ok hL hM hnb hnh,fun x hx=>by rw [ok.hl,(ok.nr _ (by rw [← hL];exact List.mem_map_of_mem hx)).len],by rw [ok.hl];exact h0⟩
theorem zGr {nb nh h i:Nat} {s:PS} (ok:zDn nb nh h i s) {L:List (zx Int)} {M:List (zx Bool)} (hL:L.map (·.xs)=s.nds) (hM:M.map (·.xs)=s.may) (hnb:nb≤20) (hnh:nh≤12) (h0:0<nh) (h1:0<nb) (A B C:Option Addr) (ca cb cc:Nat) (w:World) (a1:zCX encI 1 w A L) (a2:zCX zAo 1 w B M) (a3:zq encI 1 w C s.hands) :
  Gv Tryz.prog 66 [.agg (zA2 A nb ca B nb cb C nh cc).toArray] w (.bool (zGx s.nds s.may s.hands)):=by
 have hLl:L.length=nb:=by have:=congrArg List.length hL;rw [ok.nl] at this;simpa using this
 have hMl:M.length=nb:=by have:=congrArg List.length hM;rw [ok.ml] at this;simpa using this
 have:=zNt L A ca M B cb s.hands C cc w a1 a2 a3 (zN3 ok hL hM hnb hnh h0) (by omega)
 rw [hL,hM,hLl,hMl,ok.hl,feas_can (fun r hr=>by rw [ok.hl];exact (ok.nr r hr).len) (fun n hn=>(ok.hr n hn).1) (by rw [ok.hl];exact h0)] at this
 exact this
theorem zNq (c:Cov) (A:Option Addr) (ca:Nat) (B:Option Addr) (cb:Nat) (C:Option Addr) (cc:Nat) (w:World) (h:zAe w c A B C) (hs:Small c) (h0:zAm c≠0) :
  Gv Tryz.prog 25 [zAH c A ca B cb C cc] w (.tuple #[.slice none 0 0,.int .i64 (zAm c)]):=by
 have h1:=fun W (hb:Below w.heap.size w W)=>zEw c A ca B cb C cc W (h.below hb) hs h0
 unfold Gv zAH
 unfold zAH at h1
 generalize zAm c=e at *
 unfold zM at h1 ⊢
 (refine zJ (n:=140) Tryz.func25 rfl rfl rfl ?_)
 (repeat' (first|((with_reducible refine zF ?_);first|refine zE rfl rfl rfl ?_|refine zC rfl rfl rfl ?_|(refine zK rfl rfl rfl ?_;refine ⟨_,rfl,?_⟩)|(refine zQ rfl rfl rfl rfl rfl (fun h=>?_) (fun h=>?_)<;>(dsimp only [cmpP] at h;(try (exfalso;omega))))|refine zV rfl rfl rfl rfl (fun _ _ q=>h1 _ q.below) ?_|refine zc rfl rfl rfl rfl ?_|(refine zu rfl rfl rfl rfl (fun b=>?_)))|(with_reducible first|refine zH ?_|refine zB ?_|refine zD ?_|refine zA ?_|refine zX ?_|refine zZ ?_)|((with_reducible refine zI ?_ ?_);(· exact rfl))))
 exact zS (by (exact zi.cons (by exact zAR.tmp rfl) (zi.cons (by exact zAR.tmp rfl) zi.nil))) () trivial rfl (fun _ h=>h.sub (by (repeat constructor)))
end Go.Proofs.YtdigopgncfhiaaaGreatDoor
