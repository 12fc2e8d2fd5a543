/- A25 -/
import Derived.Test.YtfiekidciiighaaGreatA24
set_option linter.unusedSimpArgs false
set_option linter.unusedVariables false
namespace Go.Proofs.YtfiekidciiighaaGreat.Two
variable {ro : Option Nat}
open Go.RowKit
set_option maxRecDepth 20000
set_option maxHeartbeats 4000000 in
theorem zHd (l:LnM) (x:RdM) (w:World) (h:zCY w l) (hs:zBA l) (hS:zAC zAw 2 w x.A x.r.sigs) (hn:x.r.sigs.length≤1000):zCe encI 1 (zFg l x.r) (fun v=>.tuple #[v,.int .i64 (zAt l x.r)]) Tryz.prog 47 [vLn l,vRd x] w:=by
 have hOp:=fun W (hW:Below w.heap.size w W)=>zFf l x [] none 0 W (h.below hW) hs (hS.below hW) hn zAC.nil (by decide) (fun _ p hp=>by cases hp)
 unfold zCe
 unfold vLn vRd at hOp ⊢
 by_cases h0:zAt l x.r=0
 rotate_left
 ·rw [zJf h0]
  generalize he:zAt l x.r=e at *
  (refine zK (n:=19) Tryz.func47 rfl rfl rfl ?_)
  (repeat' (first|((with_reducible refine zG ?_);first|refine zD rfl rfl rfl ?_|refine zC rfl rfl rfl ?_|(refine zJ rfl rfl rfl ?_;refine ⟨_,rfl,?_⟩)|(refine zS rfl rfl rfl rfl rfl (fun h=>?_) (fun h=>?_)<;>(dsimp only [cmpP] at h;(try (exfalso;omega))))|(refine zBL rfl rfl rfl rfl (fun _ _ q=>hOp _ q.below) ?_;rintro (_|d) hp;rotate_left;(exact absurd hp.1 h0);dsimp only [List.cons_append,List.nil_append])|refine zk rfl rfl rfl rfl ?_|(refine zp rfl rfl rfl rfl (fun b=>?_)))|(with_reducible first|refine zI ?_|refine zB ?_|refine zE ?_|refine zA ?_|refine zV ?_|refine zU ?_)|((with_reducible refine zH ?_ ?_);(· exact rfl))))
  exact zP (by (exact zh.cons (by exact zAO.tmp rfl) (zh.cons (by exact zAO.tmp rfl) zh.nil))) (none,0) trivial rfl (fun _ h=>(zDN h).sub (by (repeat constructor)))
 rw [zGn h0]
 rw [h0] at hOp ⊢
 (refine zK (n:=19) Tryz.func47 rfl rfl rfl ?_)
 (repeat' (first|((with_reducible refine zG ?_);first|refine zD rfl rfl rfl ?_|refine zC rfl rfl rfl ?_|(refine zJ rfl rfl rfl ?_;refine ⟨_,rfl,?_⟩)|(refine zS rfl rfl rfl rfl rfl (fun h=>?_) (fun h=>?_)<;>(dsimp only [cmpP] at h;(try (exfalso;omega))))|(refine zBL rfl rfl rfl rfl (fun _ _ q=>hOp _ q.below) ?_;rintro (_|d) hp;(exact absurd rfl hp);dsimp only [List.cons_append,List.nil_append])|refine zk rfl rfl rfl rfl ?_|(refine zp rfl rfl rfl rfl (fun b=>?_)))|(with_reducible first|refine zI ?_|refine zB ?_|refine zE ?_|refine zA ?_|refine zR ?_)|((with_reducible refine zF ?_ ?_);(· exact rfl))))
 rename_i b2
 obtain ⟨b3,hb3⟩:∃ y,y=b:=⟨_,rfl⟩
 subst hb3
 obtain ⟨z,g,gf,gb,T,F,B⟩:=d
 obtain ⟨-,rfl,rfl,hz,hT,hF,hB⟩:=hp
 simp only at hF hB hT
 skip
 refine zIg (WH z g gf gb T F B) [.blk b3 (zAN z.x),.blk b2 (zAH z.l)] rfl rfl rfl rfl (by unfold WH;simp only [List.cons_append,List.nil_append];unfold zAN zAH;(repeat constructor)) (fun a W q=>zGX z g gf gb T F B w W hz hF q.below (Own.append.1 q.own).1) ?_
 rintro ⟨A8,c8⟩ -
 (repeat' (first|((with_reducible refine zG ?_);first|refine zC rfl rfl rfl ?_)|(with_reducible first|refine zE ?_|refine zA ?_|refine zV ?_)))
 exact zP (by (exact zh.cons (by exact zAO.tmp rfl) (zh.cons (by exact zAO.tmp rfl) zh.nil))) (A8,c8) trivial rfl (fun _ h=>h.sub (by (repeat constructor)))
theorem zLF {L:List Int} (hs:L.Pairwise (· < ·)) {i j:Nat} {a b:Int} (h:i<j) (hi:L[i]?=some a) (hj:L[j]?=some b):a<b:=by
 obtain ⟨i1,rfl⟩:=List.getElem?_eq_some_iff.1 hi
 obtain ⟨j1,rfl⟩:=List.getElem?_eq_some_iff.1 hj
 exact List.pairwise_iff_getElem.1 hs i j i1 j1 h
theorem min_any (L:List Int) (A:Option Addr) (c:Nat) (p:Int) (w:World) (hA:zAC encI 1 w A L) (hs:L.Pairwise (· < ·)) (hp:L[0]?=some p) (hn:L.length≤1000000):Gv Tryz.prog 52 [.slice A L.length c] w (.int .i64 p):=by
 have h0:=(List.getElem?_eq_some_iff.1 hp).1
 obtain ⟨bA,oA,rfl,_,_⟩:=hA.at_ h0
 have:InS w bA oA encI 1 L:=⟨hA⟩
 have:zAT L 0 p:=⟨hp⟩
 unfold Gv
 (refine zK (n:=25) Tryz.func52 rfl rfl rfl ?_)
 (repeat' (first|((with_reducible refine zG ?_);first|refine zD rfl rfl rfl ?_|refine zC rfl rfl rfl ?_|(refine zJ rfl rfl rfl ?_;refine ⟨_,rfl,?_⟩)|(refine zS rfl rfl rfl rfl rfl (fun h=>?_) (fun h=>?_)<;>(dsimp only [cmpP] at h;(try (exfalso;omega))))|refine zo (I:=0) rfl rfl rfl rfl rfl (by omega) ?_|refine zn rfl rfl rfl ?_)|(with_reducible first|refine zI ?_|refine zB ?_|refine zE ?_|refine zA ?_|refine zR ?_|refine zQ ?_)|((with_reducible refine zF ?_ ?_);(· exact rfl))))
 refine zAB (ι:=Nat) [0,3] rfl (fun i=>1≤i∧i≤L.length) (fun i=>[(4,.int .i64 (i:Int))]) (fun _=>[]) (fun i=>L.length - i) 1 ⟨Nat.le_refl _,h0⟩ (by (repeat first|exact lK1|refine zT rfl ?_)) (by (repeat constructor)) ?_
 rintro i ⟨hi1,hi2⟩
 simp only [zAk,List.cons_append,List.nil_append]
 by_cases hlt:i<L.length
 ·obtain ⟨y,hy⟩:∃ y,L[i]?=some y:=⟨_,List.getElem?_eq_getElem hlt⟩
  have:zAT L i y:=⟨hy⟩
  have hlo:=zLF hs (by omega) hp hy
  have e:min p y=p:=by omega
  (repeat' (first|((with_reducible refine zG ?_);first|refine zD rfl rfl rfl ?_|refine zC rfl rfl rfl ?_|(refine zJ rfl rfl rfl ?_;refine ⟨_,rfl,?_⟩)|(refine zS rfl rfl rfl rfl rfl (fun h=>?_) (fun h=>?_)<;>(dsimp only [cmpP] at h;(try (exfalso;omega))))|refine zo (I:=i) rfl rfl rfl rfl rfl (by omega) ?_|refine zu rfl rfl rfl rfl (by omega) ?_|refine zn rfl rfl rfl ?_|refine zCF rfl rfl rfl rfl ?_)|(with_reducible first|refine zI ?_|refine zB ?_|refine zE ?_|refine zA ?_|refine zR ?_|refine zQ ?_|refine zj ?_)|((with_reducible refine zH ?_ ?_);(· exact rfl))))
  exact zd (ι:=Nat) (i+1) ⟨by omega,by omega⟩ (by omega) (by (try simp only [e]);(repeat first|exact lK1|refine zT rfl ?_)) (by (repeat constructor))
 ·(repeat' (first|((with_reducible refine zG ?_);first|refine zD rfl rfl rfl ?_|refine zC rfl rfl rfl ?_|(refine zS rfl rfl rfl rfl rfl (fun h=>?_) (fun h=>?_)<;>(dsimp only [cmpP] at h;(try (exfalso;omega))))|refine zn rfl rfl rfl ?_)|(with_reducible first|refine zI ?_|refine zB ?_|refine zE ?_|refine zA ?_|refine zV ?_|refine zz ?_|refine zZ ?_|refine ze ?_)|((with_reducible refine zF ?_ ?_);(· exact rfl))))
  exact zP (by exact rTm rfl) () trivial rfl (fun _ h=>h.sub (by (repeat constructor)))
theorem max_any (L:List Int) (A:Option Addr) (c:Nat) (p:Int) (w:World) (hA:zAC encI 1 w A L) (hs:L.Pairwise (· < ·)) (hp:L[L.length - 1]?=some p) (hn:L.length≤1000000):Gv Tryz.prog 53 [.slice A L.length c] w (.int .i64 p):=by
 have h0:0<L.length:=by have:=(List.getElem?_eq_some_iff.1 hp).1;omega
 obtain ⟨bA,oA,rfl,_,_⟩:=hA.at_ h0
 obtain ⟨a0,ha0⟩:∃ y,L[0]?=some y:=⟨_,List.getElem?_eq_getElem h0⟩
 have:InS w bA oA encI 1 L:=⟨hA⟩
 have:zAT L 0 a0:=⟨ha0⟩
 unfold Gv
 (refine zK (n:=25) Tryz.func53 rfl rfl rfl ?_)
 (repeat' (first|((with_reducible refine zG ?_);first|refine zD rfl rfl rfl ?_|refine zC rfl rfl rfl ?_|(refine zJ rfl rfl rfl ?_;refine ⟨_,rfl,?_⟩)|(refine zS rfl rfl rfl rfl rfl (fun h=>?_) (fun h=>?_)<;>(dsimp only [cmpP] at h;(try (exfalso;omega))))|refine zo (I:=0) rfl rfl rfl rfl rfl (by omega) ?_|refine zn rfl rfl rfl ?_)|(with_reducible first|refine zI ?_|refine zB ?_|refine zE ?_|refine zA ?_|refine zR ?_|refine zQ ?_)|((with_reducible refine zF ?_ ?_);(· exact rfl))))
 refine zAB (ι:=Nat × Int) [0] rfl (fun q=>1≤q.1∧q.1≤L.length∧L[q.1 - 1]?=some q.2) (fun q=>[(4,.int .i64 (q.1:Int)),(3,.int .i64 q.2)]) (fun _=>[]) (fun q=>L.length - q.1) (1,a0) ⟨Nat.le_refl _,h0,ha0⟩ (by (repeat first|exact lK1|refine zT rfl ?_)) (by (repeat constructor)) ?_
 rintro ⟨i,v⟩ ⟨hi1,hi2,hi3⟩
 simp only at hi1 hi2 hi3
 simp only [zAk,List.cons_append,List.nil_append]
 by_cases hlt:i<L.length
 ·obtain ⟨y,hy⟩:∃ y,L[i]?=some y:=⟨_,List.getElem?_eq_getElem hlt⟩
  have:zAT L i y:=⟨hy⟩
  have hlo:=zLF hs (by omega) hi3 hy
  have e:max v y=y:=by omega
  (repeat' (first|((with_reducible refine zG ?_);first|refine zD rfl rfl rfl ?_|refine zC rfl rfl rfl ?_|(refine zJ rfl rfl rfl ?_;refine ⟨_,rfl,?_⟩)|(refine zS rfl rfl rfl rfl rfl (fun h=>?_) (fun h=>?_)<;>(dsimp only [cmpP] at h;(try (exfalso;omega))))|refine zo (I:=i) rfl rfl rfl rfl rfl (by omega) ?_|refine zu rfl rfl rfl rfl (by omega) ?_|refine zn rfl rfl rfl ?_|refine zGJ rfl rfl rfl rfl ?_)|(with_reducible first|refine zI ?_|refine zB ?_|refine zE ?_|refine zA ?_|refine zR ?_|refine zQ ?_|refine zj ?_)|((with_reducible refine zH ?_ ?_);(· exact rfl))))
  exact zd (ι:=Nat × Int) (i+1,y) ⟨by simp only;omega,by simp only;omega,by simp only [Nat.add_sub_cancel];exact hy⟩ (by simp only;omega) (by (try simp only [e]);(repeat first|exact lK1|refine zT rfl ?_)) (by (repeat constructor))
 ·obtain rfl:i=L.length:=by omega
  rw [hi3] at hp
  cases hp
  (repeat' (first|((with_reducible refine zG ?_);first|refine zD rfl rfl rfl ?_|refine zC rfl rfl rfl ?_|(refine zS rfl rfl rfl rfl rfl (fun h=>?_) (fun h=>?_)<;>(dsimp only [cmpP] at h;(try (exfalso;omega))))|refine zn rfl rfl rfl ?_)|(with_reducible first|refine zI ?_|refine zB ?_|refine zE ?_|refine zA ?_|refine zV ?_|refine zz ?_|refine zZ ?_|refine ze ?_)|((with_reducible refine zF ?_ ?_);(· exact rfl))))
  exact zP (by exact rTm rfl) () trivial rfl (fun _ h=>h.sub (by (repeat constructor)))
set_option maxHeartbeats 2000000 in
theorem zFV (l:LnM) (x:RdM) (w:World) (h:zCY w l) (hs:zBA l) (hS:zAC zAw 2 w x.A x.r.sigs) (hn:x.r.sigs.length≤1000):Gv Tryz.prog 36 [vLn l,vRd x] w (.tuple #[.int .u8 (zBt l x.r),.int .i64 (zAt l x.r)]):=by
 have hb:=hs.b
 have hWh:=fun W (hW:Below w.heap.size w W)=>zHd l x W (h.below hW) hs (hS.below hW) hn
 unfold Gv
 by_cases h0:zAt l x.r=0
 rotate_left
 ·have e:zBt l x.r=0:=by unfold zBt;rw [if_neg h0]
  rw [e]
  generalize zAt l x.r=e at *
  unfold vRd vLn at hWh
  unfold vRd vLn
  (refine zK (n:=30) Tryz.func36 rfl rfl rfl ?_)
  (repeat' (first|((with_reducible refine zG ?_);first|refine zD rfl rfl rfl ?_|refine zC rfl rfl rfl ?_|(refine zJ rfl rfl rfl ?_;refine ⟨_,rfl,?_⟩)|(refine zS rfl rfl rfl rfl rfl (fun h=>?_) (fun h=>?_)<;>(dsimp only [cmpP] at h;(try (exfalso;omega))))|refine zCf rfl rfl rfl rfl (fun _ _ q=>hWh _ q.below) (fun A' c'=>?_)|refine zk rfl rfl rfl rfl ?_|(refine zp rfl rfl rfl rfl (fun b=>?_)))|(with_reducible first|refine zI ?_|refine zB ?_|refine zE ?_|refine zA ?_|refine zV ?_|refine zU ?_|refine zQ ?_|refine zAV ?_)|((with_reducible refine zH ?_ ?_);(· exact rfl))))
  exact zP (by (exact zh.cons (by exact zAO.tmp rfl) (zh.cons (by exact zAO.tmp rfl) zh.nil))) () trivial rfl (fun _ h=>h.sub (by (repeat constructor)))
 obtain ⟨q1,q2,q3⟩:=zGD.1 h0
 have hf:=zDI q1
 obtain ⟨fin,hfin⟩:∃ fin:Nat,l.finish=fin:=⟨l.finish.toNat,by have:=hf.finish;omega⟩
 have hne:=zIr q3
 have e:zBt l x.r=if fin<(zAs (krd l x.r)).head hne then 2 else if (zAs (krd l x.r)).getLast hne≤fin then 0 else 1:=by
  unfold zBt;rw [if_pos h0,hfin,Int.toNat_natCast];exact zGb (zEo _) hne
 rw [e,h0]
 rw [h0,zGn h0] at hWh
 have hlen:(zAs (krd l x.r)).length≤1000:=Nat.le_trans (List.length_filter_le _ _) (by rw [List.length_range];show l.bms.length+1≤1000;omega)
 have hpos:=List.length_pos_iff.2 hne
 have g1:((zAs (krd l x.r)).map fun n:Nat=>(n:Int))[0]?=some (((zAs (krd l x.r)).head hne:Nat):Int):=by
  rw [List.getElem?_map,List.head_eq_getElem,List.getElem?_eq_getElem hpos];rfl
 have g2:((zAs (krd l x.r)).map fun n:Nat=>(n:Int))[(zAs (krd l x.r)).length - 1]?=some (((zAs (krd l x.r)).getLast hne:Nat):Int):=by
  rw [List.getElem?_map,List.getLast_eq_getElem,List.getElem?_eq_getElem (by omega)];rfl
 have hso:((zAs (krd l x.r)).map fun n:Nat=>(n:Int)).Pairwise (· < ·):=List.pairwise_map.2 ((zEo (krd l x.r)).imp fun h=>by omega)
 have hml:((zAs (krd l x.r)).map fun n:Nat=>(n:Int)).length=(zAs (krd l x.r)).length:=List.length_map _
 generalize (zAs (krd l x.r)).head hne=p at *
 generalize (zAs (krd l x.r)).getLast hne=r at *
 generalize (zAs (krd l x.r)).length=N at *
 generalize (zAs (krd l x.r)).map (fun n:Nat=>(n:Int))=L at *
 subst hml
 have hmi:=fun W A c hA=>min_any L A c p W hA hso g1 (by omega)
 have hma:=fun W A c hA=>max_any L A c r W hA hso g2 (by omega)
 unfold vRd vLn at hWh
 unfold vRd vLn
 rw [hfin] at *
 (refine zK (n:=30) Tryz.func36 rfl rfl rfl ?_)
 (repeat' (first|((with_reducible refine zG ?_);first|refine zD rfl rfl rfl ?_|refine zC rfl rfl rfl ?_|(refine zJ rfl rfl rfl ?_;refine ⟨_,rfl,?_⟩)|(refine zS rfl rfl rfl rfl rfl (fun h=>?_) (fun h=>?_)<;>(dsimp only [cmpP] at h;(try (exfalso;omega))))|refine zCf rfl rfl rfl rfl (fun _ _ q=>hWh _ q.below) (fun A' c'=>?_)|refine zk rfl rfl rfl rfl ?_|(refine zp rfl rfl rfl rfl (fun b=>?_)))|(with_reducible first|refine zI ?_|refine zB ?_|refine zE ?_|refine zA ?_|refine zQ ?_)|((with_reducible refine zF ?_ ?_);(· exact rfl))))
 (refine zAD (by kernel_rfl) (by kernel_rfl) (by kernel_rfl) ?_)
 (repeat' (first|((with_reducible refine zAP ?_);first|refine zM (zl rfl rfl) rfl ?_|refine zM (zW rfl rfl (by exact rfl)) rfl ?_|refine zM (zY rfl rfl) rfl ?_|refine zM (zt rfl rfl) rfl ?_|(refine zAu rfl rfl rfl rfl rfl (fun h=>?_) (fun h=>?_)<;>(dsimp only [cmpP] at h;(try (exfalso;omega))))|refine zCV rfl rfl rfl rfl (fun _ _ q=>hmi _ _ _ (zEi q.own (Below.refl _ _))) ?_)|(with_reducible refine zAe ?_)))
 all_goals (repeat' (first|((with_reducible refine zG ?_);first|refine zC rfl rfl rfl ?_)|(with_reducible first|refine zI ?_|refine zB ?_|refine zE ?_|refine zA ?_|refine zV ?_|refine zU ?_|refine zAV ?_)|((with_reducible refine zH ?_ ?_);(· exact rfl))|((with_reducible refine zF ?_ ?_);(· exact rfl))))
 ·exact zP (by (exact zh.cons (by exact zAO.tmp rfl) (zh.cons (by exact zAO.tmp rfl) zh.nil))) () trivial (by rw [if_pos (by omega)];rfl) (fun _ h=>h.sub (by (repeat constructor)))
 ·(refine zAD (by kernel_rfl) (by kernel_rfl) (by kernel_rfl) ?_)
  (repeat' (first|((with_reducible refine zAP ?_);first|refine zM (zl rfl rfl) rfl ?_|refine zM (zW rfl rfl (by exact rfl)) rfl ?_|refine zM (zY rfl rfl) rfl ?_|refine zM (zt rfl rfl) rfl ?_|(refine zAu rfl rfl rfl rfl rfl (fun h=>?_) (fun h=>?_)<;>(dsimp only [cmpP] at h;(try (exfalso;omega))))|refine zCV rfl rfl rfl rfl (fun _ _ q=>hma _ _ _ (zEi q.own (Below.refl _ _))) ?_)|(with_reducible refine zAe ?_)))
  all_goals (repeat' (first|((with_reducible refine zG ?_);first|refine zC rfl rfl rfl ?_)|(with_reducible first|refine zI ?_|refine zB ?_|refine zE ?_|refine zA ?_|refine zV ?_|refine zR ?_|refine zU ?_|refine zj ?_|refine zAV ?_)|((with_reducible refine zH ?_ ?_);(· exact rfl))|((with_reducible refine zF ?_ ?_);(· exact rfl))))
  ·exact zP (by (exact zh.cons (by exact zAO.tmp rfl) (zh.cons (by exact zAO.tmp rfl) zh.nil))) () trivial (by rw [if_neg (by omega),if_pos (by omega)];rfl) (fun _ h=>h.sub (by (repeat constructor)))
  ·exact zP (by (exact zh.cons (by exact zAO.tmp rfl) (zh.cons (by exact zAO.tmp rfl) zh.nil))) () trivial (by rw [if_neg (by omega),if_neg (by omega)];rfl) (fun _ h=>h.sub (by (repeat constructor)))
end Go.Proofs.YtfiekidciiighaaGreat.Two
namespace Go.Proofs.YtfiekidciiighaaGreat.Two
variable {ro : Option Nat}
open Go.RowKit
set_option maxRecDepth 20000
theorem zKX (g j:Nat) (w:World):Ret Tryz.prog 69 [.pointer (some ⟨g,0,none⟩),.int .i64 (j:Int)] w (fun p:Nat × Nat=>.func (.func 94) #[] #[.pointer (some ⟨p.1,0,none⟩),.pointer (some ⟨p.2,0,none⟩)]) (fun p=>[.blk p.1 [.pointer (some ⟨g,0,none⟩)],.blk p.2 [.int .i64 (j:Int)]]) (fun _=>True):=by
 (refine zK (n:=6) Tryz.func69 rfl rfl rfl ?_)
 (repeat' (first|((with_reducible refine zG ?_);first|refine zC rfl rfl rfl ?_|(refine zp rfl rfl rfl rfl (fun b=>?_))|refine zB2 rfl rfl rfl rfl ?_)|(with_reducible first|refine zI ?_|refine zB ?_|refine zE ?_|refine zA ?_|refine zV ?_)))
 rename_i b2
 exact zP (by exact rTm rfl) (b2,b) trivial rfl (fun _ h=>h.sub (by (repeat constructor)))
def zEX (l:LnM) (x:RdM) (bl ol lc gt gf gb g b1 b2 j:Nat) (TA FA BA:List (Option Nat)) (mt:Nat) (ml:List (Int × Sp × Nat)) (c1 mF:Nat) (lF:List (Tal × Int × Nat)) (cF mB:Nat) (lB:List (Tal × Int × Nat)) (cB:Nat):List Ent:=[.blk b1 [.pointer (some ⟨g,0,none⟩)],.blk b2 [.int .i64 (j:Int)],.blk g (zy (⟨l,x,some ⟨bl,ol,none⟩,lc,gt⟩:Wa) (.slice (some ⟨gf,0,none⟩) (l.bms.length+1) (l.bms.length+1)) (.slice (some ⟨gb,0,none⟩) (l.bms.length+1) (l.bms.length+1))),.sl encI 1 (some ⟨bl,ol,none⟩) (zAK l l.bms.length),.arr zAS 1 gt TA,.ml mt vI vSp ml c1,.arr zAS 1 gf FA,.ml mF vTl vI lF cF,.arr zAS 1 gb BA,.ml mB vTl vI lB cB]
def reqP (k:RdK) (j:Nat) (o:Opn) (a e:Int) (t u:Tal) (y:Opn):Prop:=zAi k j a o≤min e o.hi∧zEN k ((t.plus u).plus (zBm o.sig))=true∧y=⟨o.sig,zAi k j a o,min e o.hi⟩
set_option maxHeartbeats 16000000 in
theorem zKW (l:LnM) (x:RdM) (bl ol lc gt gf gb g b1 b2 j:Nat) (TA FA BA:List (Option Nat)) (mt:Nat) (ml:List (Int × Sp × Nat)) (c1 mF:Nat) (lF:List (Tal × Int × Nat)) (cF mB:Nat) (lB:List (Tal × Int × Nat)) (cB:Nat) (wb:World) (hz:WaOk (⟨l,x,some ⟨bl,ol,none⟩,lc,gt⟩:Wa)) (hjm:j<l.bms.length) (hTA:TA.length=l.bms.length) (hT:TA[j]?=some (some mt)) (hml:MOk ml c1) (hle:look ml=zBr l x.r j x.r.sigs.length)
  (hFA:FA[j]?=some (some mF)) (hlF:MOk lF cF) (hmin:zAy (SF (krd l x.r) j) (look lF)) (hBA:BA[j+1]?=some (some mB)) (hlB:MOk lB cB) (hmax:zA4 (SB (krd l x.r) (j+1)) (look lB)) :
  SeqG Tryz.prog 94 [.pointer (some ⟨b1,0,none⟩),.pointer (some ⟨b2,0,none⟩)] (fun _=>zEX l x bl ol lc gt gf gb g b1 b2 j TA FA BA mt ml c1 mF lF cF mB lB cB) zEZ (fun _ o=>zDv (krd l x.r) (look lF) (look lB) j o.sig o.lo o.hi) (fun ys=>∀ sg lo hi,zDv (krd l x.r) (look lF) (look lB) j sg lo hi→(⟨sg,lo,hi⟩:Opn)∈ys) wb:=by
 intro ι ly0 I Cx s0 w hwb hI0 hO hround
 obtain ⟨hin,hsg,hm1,hm6⟩:=hz.in_
 have hf:=hz.fine
 simp only at hin hsg hm1 hm6 hf
 have:zAT TA j (some mt):=⟨hT⟩
 have:zAT FA j (some mF):=⟨hFA⟩
 have:zAT BA (j+1) (some mB):=⟨hBA⟩
 have:zAT (zAK l l.bms.length) j (zAY l j):=⟨by unfold zAK;rw [List.getElem?_map,List.getElem?_range (by omega)];rfl⟩
 have hle0:=zCo hf hjm
 have hround:=fun ys y s W (h1:zDv (krd l x.r) (look lF) (look lB) j y.sig y.lo y.hi) h2 h3 h4=>hround ys y s W h1 h2 h3 h4
 simp only at hround hO ⊢
 obtain ⟨OLD,hOLD⟩:∃ e,e=Ent.oldx w wb.heap.size (feet (zEX l x bl ol lc gt gf gb g b1 b2 j TA FA BA mt ml c1 mF lF cF mB lB cB++Cx s0)):=⟨_,rfl⟩
 refine zEJ (n:=82) hwb hO Tryz.func94 rfl rfl rfl ?_
 rw [← hOLD]
 refine zBF (fun _ h=>zDA.1 h) ?_
 simp only [zEX,List.cons_append,List.nil_append]
 unfold zy
 simp only
 (repeat' (first|((with_reducible refine zG ?_);first|(refine zJ rfl rfl rfl ?_;refine ⟨_,rfl,?_⟩)|(refine zBL rfl rfl rfl rfl (fun _ _ q=>zEn g j _) ?_;rintro ⟨o1,o2⟩ -;dsimp only [List.cons_append,List.nil_append])|(refine zp rfl rfl rfl rfl (fun b=>?_)))|(with_reducible first|refine zI ?_|refine zB ?_|refine zE ?_|refine zA ?_|refine zQ ?_)))
 obtain ⟨b3,hb3⟩:∃ y,y=b:=⟨_,rfl⟩
 subst hb3
 refine zKF ?_
 refine U.sub (R':=[(13,.func (.func 113) #[] #[.pointer (some ⟨o1,0,none⟩),.pointer (some ⟨o2,0,none⟩)]),(1,.pointer (some ⟨b1,0,none⟩)),(2,.pointer (some ⟨b2,0,none⟩)),(3,.pointer (some ⟨b3,0,none⟩))]) (by (repeat first|exact lK1|refine zT rfl ?_)) (Out.all _) ?_
 refine zFX (ι:=List Opn × ι) (α:=Opn) (gf:=113) (lb:=[.pointer (some ⟨o1,0,none⟩),.pointer (some ⟨o2,0,none⟩)]) (bs:=[]) (fun _=>zDO (⟨l,x,some ⟨bl,ol,none⟩,lc,gt⟩:Wa) (.slice (some ⟨gf,0,none⟩) (l.bms.length+1) (l.bms.length+1)) (.slice (some ⟨gb,0,none⟩) (l.bms.length+1) (l.bms.length+1)) g o1 o2 j TA mt ml c1) zEZ (fun _ o=>o∈(krd l x.r).opts j) (fun ys=>∀ o∈(krd l x.r).opts j,o∈ys) (fun zs st=>I st.1 st.2∧∀ o∈zs,∀ t a u e y,look lF t=some a→look lB u=some e→reqP (krd l x.r) j o a e t u y→y∈st.1) (fun st=>[.blk b3 [.func (.yield ly0) #[] #[]],.blk b1 [.pointer (some ⟨g,0,none⟩)],.blk b2 [.int .i64 (j:Int)],.sl encI 1 (some ⟨bl,ol,none⟩) (zAK l l.bms.length),.arr zAS 1 gf FA,.ml mF vTl vI lF cF,.arr zAS 1 gb BA,.ml mB vTl vI lB cB,.all (Cx st.2),OLD]) ([],s0) rfl (by unfold zDO zy;simp only [List.cons_append,List.nil_append];(repeat constructor)) ⟨hI0,fun o ho=>by cases ho⟩ (fun _=>rfl) (by decide) (zEm (⟨l,x,some ⟨bl,ol,none⟩,lc,gt⟩:Wa) (.slice (some ⟨gf,0,none⟩) (l.bms.length+1) (l.bms.length+1)) (.slice (some ⟨gb,0,none⟩) (l.bms.length+1) (l.bms.length+1)) g o1 o2 j mt c1 _ ml _ (by exact hTA) hT hml hle) ?_ ?_
 rotate_left
 ·rintro bd zs ⟨ys,s⟩ hE ⟨hIs,hcov⟩
  simp only at hIs hcov
  simp only [zDO,zy,List.cons_append,List.nil_append]
  refine zKE ?_
  refine zJE (vs:=[]) (by (repeat constructor)) zh.nil (ys,s) ⟨fun sg lo hi hp=>?_,hIs⟩ rfl hwb (fun W9 h=>?_)
  ·obtain ⟨t,a,o,u,e,h1,h2,h3,rfl,rfl,rfl,h4,h5⟩:=hp
   exact hcov o (hE o h2) t a u e _ h1 h3 ⟨h4,h5,rfl⟩
  ·refine zDA.2 (show Own wb.heap.size W9 (zEX l x bl ol lc gt gf gb g b1 b2 j TA FA BA mt ml c1 mF lF cF mB lB cB ++ .all (Cx s)::[Ent.oldx w wb.heap.size (feet (zEX l x bl ol lc gt gf gb g b1 b2 j TA FA BA mt ml c1 mF lF cF mB lB cB++Cx s0))]) from ?_)
   rw [← hOLD]
   exact h.sub (by unfold zEX zy;simp only [List.cons_append,List.nil_append];(repeat constructor))
 rintro ly zs o st ⟨r1,r2,rfn,rtm,rps,ras,rbo,rde⟩ W HH hN ⟨hIs,hcov⟩ hr hrp hW
 simp only at hr hrp hN hIs hcov
 subst hr hrp
 have hoi:=zKd hN (by omega) (by omega)
 obtain ⟨sg,slo,shi⟩:=o
 obtain ⟨ys0,s1⟩:=st
 simp only at hoi hIs hcov
 simp only [zEZ,zHF,zDO,zy,vSp,List.cons_append,List.nil_append]
 (repeat' (first|((with_reducible refine zG ?_);first|refine zC rfl rfl rfl ?_|(refine zX rfl rfl rfl rfl rfl ?_;refine ⟨rfl,by first|decide|exact Nat.le_of_ble_eq_true rfl|(simp;omega),_,rfl,?_⟩)|(refine zb rfl rfl (fun b=>?_)))|(with_reducible first|refine zI ?_|refine zB ?_|refine zE ?_|refine zA ?_)))
 refine zFa (by (repeat constructor)) rfl ?_
 (repeat' (first|(with_reducible first|refine zI ?_|refine zQ ?_)))
 obtain ⟨b5,hb5⟩:∃ y,y=b:=⟨_,rfl⟩
 subst hb5
 (refine z9 [] [] [] rfl (show ([]:List Nat).Nodup by decide) (fun _ h=>h) (by kernel_rfl) [[],[Z],[Z,Z],[Z,Z,Z],[Y,Y,Y,Y],[Z,Z,Z,Z,Z],[Z,Z,Z,Z,Z,Z],[Z,Z,Z,Z,Z,Z,Z]] (by kernel_rfl) (by kernel_rfl) (by kernel_rfl) (by kernel_rfl) (by kernel_rfl) ?_)
 (repeat' (first|(((with_reducible refine zA0 ?_ ?_);(· exact rfl);refine ⟨_,fun G=>(by (try simp (decide:=true) only [vis,see,fltT,zq,Nat.reduceAdd,Nat.reduceSub,if_true,if_false,List.set_cons_zero,List.set_cons_succ,List.set_nil,List.nil_append,List.cons_append]);rfl),?_⟩);first|refine zN _ (fun _=>zW rfl rfl (by exact rfl)) (fun _=>rfl) rfl (by intro G G' h;simp (decide:=true) only [h]) ?_|(refine zm rfl ?_;refine zN _ (fun _=>zY rfl rfl) (fun _=>rfl) rfl (by intro G G' h;simp (decide:=true) only [h]) ?_)|(refine zAj rfl ?_;refine zN _ (fun _=>zw (I:=j) rfl rfl rfl rfl (by omega)) (fun _=>rfl) rfl (by exact fun _ _ _=>rfl) ?_)|(refine zA6 rfl ?_;refine zN _ (fun _=>z8 rfl rfl) (fun _=>rfl) rfl (by intro G G' h;simp (decide:=true) only [h]) ?_))|((with_reducible refine zBi ?_ ?_);(· exact rfl))))
 (intro G;simp only [regsT,zq,zAa,ini,List.nil_append,List.cons_append])
 (repeat' (first|((with_reducible refine zG ?_);first|refine zD1 (kv:=vTl) (vv:=vI) rfl rfl rfl (by (repeat constructor)) (fun r=>?_))|(with_reducible first|refine zE ?_|refine zA ?_|refine zQ ?_)))
 refine zAB (ι:=List Nat × List Opn × ι) [1,2,3,4,5,23] rfl (fun q=>I q.2.1 q.2.2∧(∀ o∈zs,∀ t a u e y,look lF t=some a→look lB u=some e→reqP (krd l x.r) j o a e t u y→y∈q.2.1)∧∀ p∈lF,p.2.2∈q.1→∀ u e y,look lB u=some e→reqP (krd l x.r) j ⟨sg,slo,shi⟩ p.2.1 e p.1 u y→y∈q.2.1) (fun _=>[]) (fun q=>.itl r mF cF q.1::[.lrec ly ⟨.busy,none,rfn,rtm,rps,ras,rbo,rde⟩,.blk b5 [.int .i64 slo,.int .i64 shi],.blk o1 [.pointer (some ⟨g,0,none⟩)],.blk o2 [.int .i64 (j:Int)],.blk g (zy (⟨l,x,some ⟨bl,ol,none⟩,lc,gt⟩:Wa) (.slice (some ⟨gf,0,none⟩) (l.bms.length+1) (l.bms.length+1)) (.slice (some ⟨gb,0,none⟩) (l.bms.length+1) (l.bms.length+1))),.arr zAS 1 gt TA,.ml mt vI vSp ml c1,.blk b3 [.func (.yield ly0) #[] #[]],.blk b1 [.pointer (some ⟨g,0,none⟩)],.blk b2 [.int .i64 (j:Int)],.sl encI 1 (some ⟨bl,ol,none⟩) (zAK l l.bms.length),.arr zAS 1 gf FA,.ml mF vTl vI lF cF,.arr zAS 1 gb BA,.ml mB vTl vI lB cB,.all (Cx q.2.2),OLD,.dfr [rde],.oldx W wb.heap.size (feet HH)]) (fun q=>zFi lF q.1) ([],ys0,s1) ⟨hIs,hcov,fun p _ hp=>by cases hp⟩ (by (repeat first|exact lK1|refine zT rfl ?_)) (by unfold zy;(repeat constructor)) ?_
 clear hcov hIs
 rintro ⟨seen,ys,s⟩ ⟨hIs,hcov,hmid⟩
 simp only at hIs hcov hmid
 simp only [zAk,zy,List.cons_append,List.nil_append]
 (repeat' (first|((with_reducible refine zG ?_);first|(refine zEz (kv:=vTl) (vv:=vI) rfl rfl rfl (by (repeat constructor)) (by (repeat constructor)) hlF (fun hend=>?_) (fun p hp hpn=>?_)<;>skip)|refine zk rfl rfl rfl rfl ?_)|(with_reducible first|refine zI ?_|refine zB ?_|refine zE ?_|refine zA ?_|refine zR ?_|refine zQ ?_|refine zz ?_|refine zj ?_|refine zZ ?_|refine ze ?_)|((with_reducible refine zH ?_ ?_);(· exact rfl))|((with_reducible refine zF ?_ ?_);(· exact rfl))))
 ·refine zCM none (.inl ⟨rfl,rfl⟩) rfl (by (repeat constructor)) (ys,s) ⟨hIs,fun o ho t a u e y h1 h2 h3=>?_⟩ hW (fun _ h=>h.sub (by (repeat constructor)))
  rcases List.mem_append.1 ho with ho|ho
  ·exact hcov o ho t a u e y h1 h2 h3
  ·rw [List.mem_singleton.1 ho] at h3
   obtain ⟨jj,bn,_,h4⟩:=zCn 0 h1
   have h5:=List.mem_of_getElem? h4
   exact hmid _ h5 (hend _ h5) u e y h2 h3
 (repeat' (first|((with_reducible refine zG ?_);first|refine zC rfl rfl rfl ?_|refine zDa (kv:=vTl) (vv:=vI) (p:=p) rfl rfl rfl (by (repeat constructor)) (by (repeat constructor)) hlF hp ?_|refine zk rfl rfl rfl rfl ?_|(refine zX rfl rfl rfl rfl rfl ?_;refine ⟨rfl,by first|decide|exact Nat.le_of_ble_eq_true rfl|(simp;omega),_,rfl,?_⟩)|(refine zb rfl rfl (fun b=>?_)))|(with_reducible first|refine zI ?_|refine zE ?_|refine zA ?_)))
 obtain ⟨b6,hb6⟩:∃ y,y=b:=⟨_,rfl⟩
 subst hb6
 obtain ⟨t0,a,bn⟩:=p
 have hpa:look lF t0=some a:=zDg hlF.keys hp
 have hsf:=((hmin t0).1 a hpa).1
 have htl:=zKH hsf
 have hab:=sf_in hf (by omega) (by omega) (by omega) (n:=j) (by omega) hsf
 (refine z9 [] [] [] rfl (show ([]:List Nat).Nodup by decide) (fun _ h=>h) (by kernel_rfl) [[],[Z],[Z,Z],[Z,Z,Z],[Y,Y,Y,Y],[Z,Y,Y,Y,Y],[Z,Z,Z,Z,Z,Z],[Z,Z,Z,Z,Z,Z,Z],[Z,Z,Z,Z,Z,Z,Z,Z]] (by kernel_rfl) (by kernel_rfl) (by kernel_rfl) (by kernel_rfl) (by kernel_rfl) ?_)
 (repeat' (first|(((with_reducible refine zA0 ?_ ?_);(· exact rfl);refine ⟨_,fun G=>(by (try simp (decide:=true) only [vis,see,fltT,zq,Nat.reduceAdd,Nat.reduceSub,if_true,if_false,List.set_cons_zero,List.set_cons_succ,List.set_nil,List.nil_append,List.cons_append]);rfl),?_⟩);first|refine zN _ (fun _=>zW rfl rfl (by exact rfl)) (fun _=>rfl) rfl (by intro G G' h;simp (decide:=true) only [h]) ?_|(refine zm rfl ?_;refine zN _ (fun _=>zY rfl rfl) (fun _=>rfl) rfl (by intro G G' h;simp (decide:=true) only [h]) ?_)|(refine zAj rfl ?_;refine zN _ (fun _=>zw (I:=j+1) rfl rfl rfl rfl (by omega)) (fun _=>rfl) rfl (by exact fun _ _ _=>rfl) ?_)|refine zN _ (fun _=>zDy rfl rfl rfl (by omega)) (fun _=>rfl) rfl (by intro G G' h;simp (decide:=true) only [h]) ?_|(refine zA6 rfl ?_;refine zN _ (fun _=>z8 rfl rfl) (fun _=>rfl) rfl (by intro G G' h;simp (decide:=true) only [h]) ?_))|((with_reducible refine zBi ?_ ?_);(· exact rfl))))
 (intro G;simp only [regsT,zq,zAa,ini,List.nil_append,List.cons_append])
 (repeat' (first|((with_reducible refine zG ?_);first|refine zD1 (kv:=vTl) (vv:=vI) rfl rfl rfl (by (repeat constructor)) (fun r3=>?_))|(with_reducible first|refine zE ?_|refine zA ?_|refine zQ ?_)))
 refine zAB (ι:=List Nat × List Opn × ι) [1,2,3,4,5,6,7,23,37] rfl (fun q=>I q.2.1 q.2.2∧(∀ o∈zs,∀ t a u e y,look lF t=some a→look lB u=some e→reqP (krd l x.r) j o a e t u y→y∈q.2.1)∧(∀ p∈lF,p.2.2∈seen→∀ u e y,look lB u=some e→reqP (krd l x.r) j ⟨sg,slo,shi⟩ p.2.1 e p.1 u y→y∈q.2.1)∧∀ p∈lB,p.2.2∈q.1→∀ y,reqP (krd l x.r) j ⟨sg,slo,shi⟩ a p.2.1 t0 p.1 y→y∈q.2.1) (fun _=>[]) (fun q=>.itl r3 mB cB q.1 :: .blk b6 (zFp t0) :: .itl r mF cF (seen++[bn])::[.lrec ly ⟨.busy,none,rfn,rtm,rps,ras,rbo,rde⟩,.blk b5 [.int .i64 slo,.int .i64 shi],.blk o1 [.pointer (some ⟨g,0,none⟩)],.blk o2 [.int .i64 (j:Int)],.blk g (zy (⟨l,x,some ⟨bl,ol,none⟩,lc,gt⟩:Wa) (.slice (some ⟨gf,0,none⟩) (l.bms.length+1) (l.bms.length+1)) (.slice (some ⟨gb,0,none⟩) (l.bms.length+1) (l.bms.length+1))),.arr zAS 1 gt TA,.ml mt vI vSp ml c1,.blk b3 [.func (.yield ly0) #[] #[]],.blk b1 [.pointer (some ⟨g,0,none⟩)],.blk b2 [.int .i64 (j:Int)],.sl encI 1 (some ⟨bl,ol,none⟩) (zAK l l.bms.length),.arr zAS 1 gf FA,.ml mF vTl vI lF cF,.arr zAS 1 gb BA,.ml mB vTl vI lB cB,.all (Cx q.2.2),OLD,.dfr [rde],.oldx W wb.heap.size (feet HH)]) (fun q=>zFi lB q.1) ([],ys,s) ⟨hIs,hcov,hmid,fun p _ hp=>by cases hp⟩ (by (repeat first|exact lK1|refine zT rfl ?_)) (by unfold zy;(repeat constructor)) ?_
 clear hcov hIs hmid
 rintro ⟨seen2,ys,s⟩ ⟨hIs,hcov,hmid,hinn⟩
 simp only at hIs hcov hmid hinn
 simp only [zAk,zy,List.cons_append,List.nil_append]
 (repeat' (first|((with_reducible refine zG ?_);first|(refine zEz (kv:=vTl) (vv:=vI) rfl rfl rfl (by (repeat constructor)) (by (repeat constructor)) hlB (fun hend=>?_) (fun p2 hp2 hpn2=>?_)<;>skip)|refine zk rfl rfl rfl rfl ?_)|(with_reducible first|refine zI ?_|refine zB ?_|refine zE ?_|refine zA ?_|refine zR ?_|refine zQ ?_|refine zz ?_|refine zj ?_|refine zZ ?_|refine ze ?_)|((with_reducible refine zH ?_ ?_);(· exact rfl))|((with_reducible refine zF ?_ ?_);(· exact rfl))))
 ·refine zd (ι:=List Nat × List Opn × ι) (seen++[bn],ys,s) ⟨hIs,hcov,fun p' hp' hs'=>?_⟩ (zDF hp hpn) (by (repeat first|exact lK1|refine zT rfl ?_)) (by (repeat constructor))
  rcases List.mem_append.1 hs' with h9|h9
  ·exact hmid p' hp' h9
  ·have h9:p'.2.2=bn:=by simpa using h9
   rw [zDf hlF hp' hp h9]
   intro u e y h1 h2
   obtain ⟨jj,bn2,_,h4⟩:=zCn 0 h1
   have h5:=List.mem_of_getElem? h4
   exact hinn _ h5 (hend _ h5) y h2
 (repeat' (first|((with_reducible refine zG ?_);first|refine zC rfl rfl rfl ?_|refine zDa (kv:=vTl) (vv:=vI) (p:=p2) rfl rfl rfl (by (repeat constructor)) (by (repeat constructor)) hlB hp2 ?_|refine zk rfl rfl rfl rfl ?_|(refine zX rfl rfl rfl rfl rfl ?_;refine ⟨rfl,by first|decide|exact Nat.le_of_ble_eq_true rfl|(simp;omega),_,rfl,?_⟩)|(refine zb rfl rfl (fun b=>?_)))|(with_reducible first|refine zI ?_|refine zE ?_|refine zA ?_)))
 obtain ⟨b8,hb8⟩:∃ y,y=b:=⟨_,rfl⟩
 subst hb8
 obtain ⟨u0,e,bn2⟩:=p2
 have hpb:look lB u0=some e:=zDg hlB.keys hp2
 have hsb:=((hmax u0).1 e hpb).1
 have hul:=sb_tal hsb
 have heb:=sb_in hf (by omega) hsb
 have hkm:(krd l x.r).m=l.bms.length:=rfl
 (refine z9 [] [] [] rfl (show ([]:List Nat).Nodup by decide) (fun _ h=>h) (by kernel_rfl) [[],[Y],[Z,Y],[Z,Z,Y],[Z,Z,Z,Y],[Y,Y,Y,Y,Y],[Z,Z,Z,Z,Z,Y],[Z,Z,Z,Z,Z,Z,Y],[Z,Z,Z,Z,Z,Z,Z,Z],[Y,Y,Y,Y,Y,Y,Y,Y,Y],[Z,Y,Y,Y,Y,Y,Y,Y,Y,Y],[Z,Z,Z,Z,Z,Z,Z,Z,Z,Z,Z],[Y,Y,Y,Y,Y,Y,Y,Y,Y,Y,Y,Y],[Y,Y,Y,Y,Y,Y,Y,Y,Y,Y,Y,Y,Y],[Z,Y,Y,Y,Y,Y,Y,Y,Y,Y,Y,Y,Y,Y],[Z,Z,Z,Y,Y,Y,Y,Y,Y,Y,Y,Y,Y,Y,Y],[Z,Z,Z,Z,Z,Z,Z,Z,Z,Z,Z,Z,Z,Z,Z,Z],[Y,Y,Y,Y,Y,Y,Y,Y,Y,Y,Y,Y,Y,Y,Y,Y,Y],[Z,Z,Z,Z,Z,Z,Z,Z,Z,Z,Z,Z,Z,Z,Z,Z,Z,Z]] (by kernel_rfl) (by kernel_rfl) (by kernel_rfl) (by kernel_rfl) (by kernel_rfl) ?_)
 (repeat' (first|(((with_reducible refine zA0 ?_ ?_);(· exact rfl);refine ⟨_,fun G=>(by (try simp (decide:=true) only [vis,see,fltT,zq,Nat.reduceAdd,Nat.reduceSub,if_true,if_false,List.set_cons_zero,List.set_cons_succ,List.set_nil,List.nil_append,List.cons_append]);rfl),?_⟩);first|refine zN _ (fun _=>zl rfl rfl) (fun _=>rfl) rfl (by intro G G' h;simp (decide:=true) only [h]) ?_|refine zN _ (fun _=>zW rfl rfl (by exact rfl)) (fun _=>rfl) rfl (by intro G G' h;simp (decide:=true) only [h]) ?_|(refine zm rfl ?_;refine zN _ (fun _=>zY rfl rfl) (fun _=>rfl) rfl (by intro G G' h;simp (decide:=true) only [h]) ?_)|(refine zAj rfl ?_;refine zN _ (fun _=>zw (I:=j) rfl rfl rfl rfl (by omega)) (fun _=>rfl) rfl (by exact fun _ _ _=>rfl) ?_)|refine zN _ (fun _=>zHX rfl rfl rfl (IntWalk.i64_in _ (by omega))) (fun _=>rfl) rfl (by intro G G' h;simp (decide:=true) only [h]) ?_|(refine zA6 rfl ?_;refine zN _ (fun _=>z8 rfl rfl) (fun _=>rfl) rfl (by intro G G' h;simp (decide:=true) only [h]) ?_)|(refine zAM rfl ?_;refine zN _ (fun _=>zGZ rfl rfl rfl) (fun _=>rfl) rfl (by intro G G' h;simp (decide:=true) only [h]) ?_)|(refine zAM rfl ?_;refine zN _ (fun _=>e_max rfl rfl rfl) (fun _=>rfl) rfl (by intro G G' h;simp (decide:=true) only [h]) ?_)|refine zN _ (fun _=>zDK rfl rfl (by exact rfl)) (fun _=>rfl) rfl (by intro G G' h;simp (decide:=true) only [h]) ?_|refine zA1 rfl (fun _=>rfl) rfl ?_)|((with_reducible refine zBi ?_ ?_);(· exact rfl))))
 (intro G;simp only [regsT,zq,zAa,ini,List.nil_append,List.cons_append])
 (repeat' (first|((with_reducible refine zG ?_);first|(refine zX rfl rfl rfl rfl rfl ?_;refine ⟨rfl,by first|decide|exact Nat.le_of_ble_eq_true rfl|(simp;omega),_,rfl,?_⟩))|(with_reducible first|refine zI ?_|refine zE ?_|refine zA ?_)))
 generalize (G (0+1 * 17)).g=b10
 obtain ⟨st,hst⟩:∃ st,st=max (a+zAY l j) slo:=⟨_,rfl⟩
 obtain ⟨en,hen⟩:∃ en,en=min e shi:=⟨_,rfl⟩
 rw [← hst,← hen]
 have hsx:zAi (krd l x.r) j a ⟨sg,slo,shi⟩=st:=hst.symm
 have hpt:(t0.plus u0).right=t0.right+u0.right∧(t0.plus u0).missed=t0.missed+u0.missed:=⟨rfl,rfl⟩
 have ho1:=zKf sg
 refine zBF (H':=[.blk b10 [.int .i64 st,.int .i64 en],.blk b8 (zFp u0),.itl r3 mB cB (seen2++[bn2]),.blk b6 (zFp t0),.itl r mF cF (seen++[bn]),.lrec ly ⟨.busy,none,rfn,rtm,rps,ras,rbo,rde⟩,.blk b5 [.int .i64 slo,.int .i64 shi],.blk o1 [.pointer (some ⟨g,0,none⟩)],.blk o2 [.int .i64 (j:Int)],.blk g (zy (⟨l,x,some ⟨bl,ol,none⟩,lc,gt⟩:Wa) (.slice (some ⟨gf,0,none⟩) (l.bms.length+1) (l.bms.length+1)) (.slice (some ⟨gb,0,none⟩) (l.bms.length+1) (l.bms.length+1))),.arr zAS 1 gt TA,.ml mt vI vSp ml c1,.blk b3 [.func (.yield ly0) #[] #[]],.blk b1 [.pointer (some ⟨g,0,none⟩)],.blk b2 [.int .i64 (j:Int)],.sl encI 1 (some ⟨bl,ol,none⟩) (zAK l l.bms.length),.arr zAS 1 gf FA,.ml mF vTl vI lF cF,.arr zAS 1 gb BA,.ml mB vTl vI lB cB,.all (Cx s),OLD,.dfr [rde],.oldx W wb.heap.size (feet HH)]) (fun _ h=>h) ?_
 have hM:∀ W,InC W g 0 (zy (⟨l,x,some ⟨bl,ol,none⟩,lc,gt⟩:Wa) (.slice (some ⟨gf,0,none⟩) (l.bms.length+1) (l.bms.length+1)) (.slice (some ⟨gb,0,none⟩) (l.bms.length+1) (l.bms.length+1)))→Gv Tryz.prog 89 [.pointer (some ⟨g,0,none⟩),vTl ((t0.plus u0).plus (zBm sg))] W (.bool (zEN (krd l x.r) ((t0.plus u0).plus (zBm sg)))):=fun W hg=>zLH (⟨l,x,some ⟨bl,ol,none⟩,lc,gt⟩:Wa) (.slice (some ⟨gf,0,none⟩) (l.bms.length+1) (l.bms.length+1)) (.slice (some ⟨gb,0,none⟩) (l.bms.length+1) (l.bms.length+1)) g _ W hg (by have h1:((t0.plus u0).plus (zBm sg)).right=(t0.plus u0).right+(zBm sg).right:=rfl;omega) (by show x.r.sigs.length≤1000;omega)
 unfold zy at hM
 simp only at hM
 by_cases hc:st≤en
 ·cases hmy:zEN (krd l x.r) ((t0.plus u0).plus (zBm sg)) with
  | false =>
   simp only [hmy] at hM
   (refine zAD (by kernel_rfl) (by kernel_rfl) (by kernel_rfl) ?_)
   (repeat' (first|((with_reducible refine zAP ?_);first|refine zM (zl rfl rfl) rfl ?_|refine zM (zW rfl rfl (by exact rfl)) rfl ?_|refine zM (zY rfl rfl) rfl ?_|refine zM (zAh rfl rfl rfl) rfl ?_|refine zAJ rfl rfl rfl ?_|(refine zAu rfl rfl rfl rfl rfl (fun h=>?_) (fun h=>?_)<;>(dsimp only [cmpP] at h;(try (exfalso;omega))))|refine zCV rfl rfl rfl rfl (fun _ _ q=>zE2 t0 u0 _ (by omega) (by omega)) ?_|refine zCV rfl rfl rfl rfl (fun _ _ q=>zGm sg _) ?_|refine zCV rfl rfl rfl rfl (fun _ _ q=>zE2 (t0.plus u0) (zBm sg) _ (by omega) (by omega)) ?_|refine zCV rfl rfl rfl rfl (fun _ _ q=>hM _ (zA7 q.own (Below.refl _ _) rfl)) ?_)|(with_reducible refine zAe ?_)))
   all_goals (repeat' (first|(with_reducible first|refine zA ?_|refine zR ?_|refine zj ?_)|((with_reducible refine zF ?_ ?_);(· exact rfl))))
   all_goals refine zd (ι:=List Nat × List Opn × ι) (seen2++[bn2],ys,s) ⟨hIs,hcov,hmid,fun p' hp' hs' y hr=>?_⟩ (zDF hp2 hpn2) (by (repeat first|exact lK1|refine zT rfl ?_)) (by (repeat constructor))
   all_goals rcases List.mem_append.1 hs' with h9|h9
   all_goals first|exact hinn p' hp' h9 y hr|skip
   all_goals have h9:p'.2.2=bn2:=by simpa using h9
   all_goals rw [zDf hlB hp' hp2 h9] at hr
   all_goals have h8:=hr.2.1
   all_goals simp only at h8
   all_goals rw [hmy] at h8
   all_goals cases h8
  | true =>
   simp only [hmy] at hM
   have hPX:zDv (krd l x.r) (look lF) (look lB) j sg st en:=⟨t0,a,⟨sg,slo,shi⟩,u0,e,hpa,hN,hpb,rfl,hst,hen,hc,hmy⟩
   have hY:=fun W9 h3 h4=>hround ys ⟨sg,st,en⟩ s W9 hPX hIs h3 h4
   simp only [zEZ] at hY
   (refine z9 [] [] [] rfl (show ([]:List Nat).Nodup by decide) (fun _ h=>h) (by kernel_rfl) [[],[Z],[Y,Y],[Z,Y,Y],[Z,Z,Z,Z],[Z,Z,Z,Z,Z],[Z,Z,Z,Z,Z,Z],[Y,Z,Z,Z,Z,Z,Z],[Y,Y,Z,Z,Z,Z,Z,Z],[Z,Z,Y,Z,Z,Z,Z,Z,Z],[Y,Y,Y,Y,Z,Z,Z,Z,Z,Z],[Z,Z,Z,Z,Y,Z,Z,Z,Z,Z,Z],[Z,Z,Z,Z,Z,Y,Z,Z,Z,Z,Z,Z],[Z,Z,Z,Z,Z,Z,Z,Z,Z,Z,Z,Z,Z],[Z,Z,Z,Z,Z,Z,Z,Z,Z,Z,Z,Z,Z,Z],[Z,Z,Z,Z,Z,Z,Z,Z,Z,Z,Z,Z,Z,Z,Z],[Z,Z,Z,Z,Z,Z,Z,Z,Z,Z,Z,Z,Z,Z,Z,Z],[Y,Z,Z,Z,Z,Z,Z,Z,Z,Z,Z,Z,Z,Z,Z,Z,Z],[Y,Y,Z,Z,Z,Z,Z,Z,Z,Z,Z,Z,Z,Z,Z,Z,Z,Z],[Z,Z,Z,Z,Z,Z,Z,Z,Z,Z,Z,Z,Z,Z,Z,Z,Z,Z,Z],[Z,Z,Z,Z,Z,Z,Z,Z,Z,Z,Z,Z,Z,Z,Z,Z,Z,Z,Z,Z],[Z,Z,Z,Z,Z,Z,Z,Z,Z,Z,Z,Z,Z,Z,Z,Z,Z,Z,Z,Z,Z]] (by kernel_rfl) (by kernel_rfl) (by kernel_rfl) (by kernel_rfl) (by kernel_rfl) ?_)
   (repeat' (first|(((with_reducible refine zA0 ?_ ?_);(· exact rfl);refine ⟨_,fun G=>(by (try simp (decide:=true) only [vis,see,fltT,zq,Nat.reduceAdd,Nat.reduceSub,if_true,if_false,List.set_cons_zero,List.set_cons_succ,List.set_nil,List.nil_append,List.cons_append]);rfl),?_⟩);first|refine zN _ (fun _=>zl rfl rfl) (fun _=>rfl) rfl (by intro G G' h;simp (decide:=true) only [h]) ?_|refine zN _ (fun _=>zW rfl rfl (by exact rfl)) (fun _=>rfl) rfl (by intro G G' h;simp (decide:=true) only [h]) ?_|(refine zm rfl ?_;refine zN _ (fun _=>zY rfl rfl) (fun _=>rfl) rfl (by intro G G' h;simp (decide:=true) only [h]) ?_)|refine zN _ (fun _=>zAh rfl rfl rfl) (fun _=>rfl) rfl (by intro G G' h;simp (decide:=true) only [h]) ?_|(refine c_cmp rfl rfl (fun _=>rfl) rfl (fun _=>rfl) (fun _=>rfl) (fun h=>?_) (fun h=>?_)<;>(dsimp only [cmpP] at h;(try (exfalso;omega))))|(refine zAM rfl ?_;refine zAR _ rfl (fun _=>rfl) rfl (fun _=>rfl) (fun _=>rfl) (fun _ _ _ q=>zE2 t0 u0 _ (by omega) (by omega)) (by intro G G' h;simp (decide:=true) only [h]) ?_)|(refine zAM rfl ?_;refine zAR _ rfl (fun _=>rfl) rfl (fun _=>rfl) (fun _=>rfl) (fun _ _ _ q=>zGm sg _) (by intro G G' h;simp (decide:=true) only [h]) ?_)|(refine zAM rfl ?_;refine zAR _ rfl (fun _=>rfl) rfl (fun _=>rfl) (fun _=>rfl) (fun _ _ _ q=>zE2 (t0.plus u0) (zBm sg) _ (by omega) (by omega)) (by intro G G' h;simp (decide:=true) only [h]) ?_)|(refine zAM rfl ?_;refine zAR _ rfl (fun _=>rfl) rfl (fun _=>rfl) (fun _=>rfl) (fun _ _ _ q=>hM _ (zA7 q.own (Below.refl _ _) rfl)) (by intro G G' h;simp (decide:=true) only [h]) ?_))|((with_reducible refine zBi ?_ ?_);(· exact rfl))))
   (intro G;simp only [regsT,zq,zAa,ini,List.nil_append,List.cons_append])
   (repeat' (first|((with_reducible refine zG ?_);first|refine z7 rfl rfl rfl rfl ?_|(refine zId (D:=zEX l x bl ol lc gt gf gb g b1 b2 j TA FA BA mt ml c1 mF lF cF mB lB cB) (L:=Cx s) (C:=Cx) (p:=I (ys++([⟨sg,st,en⟩]:List Opn))) (go:=true) rfl rfl rfl rfl [.blk b10 [.int .i64 st,.int .i64 en],.blk b8 (zFp u0),.itl r3 mB cB (seen2++[bn2]),.blk b6 (zFp t0),.itl r mF cF (seen++[bn]),.lrec ly ⟨.busy,none,rfn,rtm,rps,ras,rbo,rde⟩,.blk b5 [.int .i64 slo,.int .i64 shi],.blk o1 [.pointer (some ⟨g,0,none⟩)],.blk o2 [.int .i64 (j:Int)],.blk b3 [.func (.yield ly0) #[] #[]],OLD,.dfr [rde],.oldx W wb.heap.size (feet HH)] (by (repeat constructor)) (fun _ W9 q=>hY W9 q.below (Own.append.1 (zDA.2 q.own)).1) ?_;rintro s2 hs2;simp only [zEX,zy,List.cons_append,List.nil_append])|refine zAI rfl rfl rfl ?_)|(with_reducible first|refine zE ?_|refine zA ?_|refine zR ?_|refine zj ?_)|((with_reducible refine zF ?_ ?_);(· exact rfl))))
   refine zd (ι:=List Nat × List Opn × ι) (seen2++[bn2],ys++([⟨sg,st,en⟩]:List Opn),s2) ⟨hs2,fun o ho t a u e y h1 h2 h3=>List.mem_append_left _ (hcov o ho t a u e y h1 h2 h3),fun p hp hs u e y h1 h2=>List.mem_append_left _ (hmid p hp hs u e y h1 h2),fun p' hp' hs' y hr=>?_⟩ (zDF hp2 hpn2) (by (repeat first|exact lK1|refine zT rfl ?_)) (by (repeat constructor))
   rcases List.mem_append.1 hs' with h9|h9
   ·exact List.mem_append_left _ (hinn p' hp' h9 y hr)
   ·have h9:p'.2.2=bn2:=by simpa using h9
    rw [zDf hlB hp' hp2 h9] at hr
    obtain ⟨-,-,h8⟩:=hr
    simp only [hsx,← hen] at h8
    rw [h8]
    exact List.mem_append_right _ (List.mem_singleton.2 rfl)
 ·(refine zAD (by kernel_rfl) (by kernel_rfl) (by kernel_rfl) ?_)
  (repeat' (first|((with_reducible refine zAP ?_);first|refine zM (zl rfl rfl) rfl ?_|refine zM (zW rfl rfl (by exact rfl)) rfl ?_|refine zM (zY rfl rfl) rfl ?_|refine zM (zAh rfl rfl rfl) rfl ?_|refine zAJ rfl rfl rfl ?_|(refine zAu rfl rfl rfl rfl rfl (fun h=>?_) (fun h=>?_)<;>(dsimp only [cmpP] at h;(try (exfalso;omega)))))|(with_reducible refine zAe ?_)))
  all_goals (repeat' (first|(with_reducible first|refine zA ?_|refine zR ?_|refine zj ?_)|((with_reducible refine zF ?_ ?_);(· exact rfl))))
  all_goals refine zd (ι:=List Nat × List Opn × ι) (seen2++[bn2],ys,s) ⟨hIs,hcov,hmid,fun p' hp' hs' y hr=>?_⟩ (zDF hp2 hpn2) (by (repeat first|exact lK1|refine zT rfl ?_)) (by (repeat constructor))
  all_goals rcases List.mem_append.1 hs' with h9|h9
  all_goals first|exact hinn p' hp' h9 y hr|skip
  all_goals have h9:p'.2.2=bn2:=by simpa using h9
  all_goals rw [zDf hlB hp' hp2 h9] at hr
  all_goals have h8:=hr.1
  all_goals simp only [hsx,← hen] at h8
  all_goals exact absurd h8 hc
end Go.Proofs.YtfiekidciiighaaGreat.Two
