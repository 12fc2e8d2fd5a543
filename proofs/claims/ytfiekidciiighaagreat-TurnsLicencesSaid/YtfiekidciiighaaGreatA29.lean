/- A29 -/
import Derived.Test.YtfiekidciiighaaGreatA28
set_option linter.unusedSimpArgs false
set_option linter.unusedVariables false
namespace Go.Proofs.YtfiekidciiighaaGreat.Two
variable {ro : Option Nat}
open Go.RowKit
set_option maxRecDepth 20000
set_option maxHeartbeats 1000000 in
theorem zGR (t:TrM) (w:World) (h:zCj w t) (hs:zBR t):Gv Tryz.prog 21 [vTn t] w (.int .i64 (zBu t)):=by
 have hC:=fun W (hW:Below w.heap.size w W)=>zGS t.l W (h.l.below hW) hs.l
 have hT:=fun W (hW:Below w.heap.size w W)=>zJR t W (h.below hW) hs
 unfold zBu
 generalize zCd t.l=el at *
 generalize tnB t=B at *
 unfold Gv
 unfold vTn zg vLn at *
 by_cases h0:el=0
 ·subst h0
  rw [if_pos rfl]
  cases B with
  | true =>
   rw [if_pos rfl]
   (refine zK (n:=13) Tryz.func21 rfl rfl rfl ?_)
   (repeat' (first|((with_reducible refine zG ?_);first|refine zD rfl rfl rfl ?_|refine zC rfl rfl rfl ?_|(refine zJ rfl rfl rfl ?_;refine ⟨_,rfl,?_⟩)|refine zL rfl rfl rfl ?_|(refine zS rfl rfl rfl rfl rfl (fun h=>?_) (fun h=>?_)<;>(dsimp only [cmpP] at h;(try (exfalso;omega))))|refine zO rfl rfl rfl rfl (fun _ _ q=>hC _ q.below) ?_|refine zO rfl rfl rfl rfl (fun _ _ q=>hT _ q.below) ?_|refine zAI rfl rfl rfl ?_|(refine zp rfl rfl rfl rfl (fun b=>?_)))|(with_reducible first|refine zI ?_|refine zB ?_|refine zE ?_|refine zA ?_|refine zV ?_|refine zR ?_)|((with_reducible refine zF ?_ ?_);(· exact rfl))))
   exact zP (by exact rTm rfl) () trivial rfl (fun _ h=>h.sub (by (repeat constructor)))
  | false =>
   rw [if_neg (by simp)]
   (refine zK (n:=13) Tryz.func21 rfl rfl rfl ?_)
   (repeat' (first|((with_reducible refine zG ?_);first|refine zD rfl rfl rfl ?_|refine zC rfl rfl rfl ?_|(refine zJ rfl rfl rfl ?_;refine ⟨_,rfl,?_⟩)|refine zL rfl rfl rfl ?_|(refine zS rfl rfl rfl rfl rfl (fun h=>?_) (fun h=>?_)<;>(dsimp only [cmpP] at h;(try (exfalso;omega))))|refine zO rfl rfl rfl rfl (fun _ _ q=>hC _ q.below) ?_|refine zO rfl rfl rfl rfl (fun _ _ q=>hT _ q.below) ?_|refine zAI rfl rfl rfl ?_|(refine zp rfl rfl rfl rfl (fun b=>?_)))|(with_reducible first|refine zI ?_|refine zB ?_|refine zE ?_|refine zA ?_|refine zV ?_|refine zR ?_|refine zU ?_)|((with_reducible refine zH ?_ ?_);(· exact rfl))|((with_reducible refine zF ?_ ?_);(· exact rfl))))
   exact zP (by exact rTm rfl) () trivial rfl (fun _ h=>h.sub (by (repeat constructor)))
 ·rw [if_neg h0]
  (refine zK (n:=13) Tryz.func21 rfl rfl rfl ?_)
  (repeat' (first|((with_reducible refine zG ?_);first|refine zD rfl rfl rfl ?_|refine zC rfl rfl rfl ?_|(refine zJ rfl rfl rfl ?_;refine ⟨_,rfl,?_⟩)|refine zL rfl rfl rfl ?_|(refine zS rfl rfl rfl rfl rfl (fun h=>?_) (fun h=>?_)<;>(dsimp only [cmpP] at h;(try (exfalso;omega))))|refine zO rfl rfl rfl rfl (fun _ _ q=>hC _ q.below) ?_|(refine zp rfl rfl rfl rfl (fun b=>?_)))|(with_reducible first|refine zI ?_|refine zB ?_|refine zE ?_|refine zA ?_|refine zV ?_|refine zU ?_)|((with_reducible refine zH ?_ ?_);(· exact rfl))))
  exact zP (by exact rTm rfl) () trivial rfl (fun _ h=>h.sub (by (repeat constructor)))
set_option maxHeartbeats 1000000 in
theorem zGT (t:TrM) (a c:Int) (w:World) (h:zCj w t) (hs:zBR t):Gv Tryz.prog 15 [vTn t,.int .i64 a,.int .i64 c] w (.int .i64 (zBk t a c)):=by
 have hC:=fun W (hW:Below w.heap.size w W)=>zGR t W (h.below hW) hs
 have ha:=hs.a
 unfold zBk
 generalize zBu t=e8 at *
 unfold Gv
 unfold vTn zg at *
 by_cases h0:e8=0
 ·subst h0
  rw [if_pos rfl]
  cases i1:inB 0 ((t.ats.length:Int) - 1) a with
  | false =>
   rw [if_neg (by simp)]
   (refine zK (n:=25) Tryz.func15 rfl rfl rfl ?_)
   (repeat' (first|((with_reducible refine zG ?_);first|refine zD rfl rfl rfl ?_|refine zC rfl rfl rfl ?_|(refine zJ rfl rfl rfl ?_;refine ⟨_,rfl,?_⟩)|refine zL rfl rfl rfl ?_|refine z7 rfl rfl rfl rfl ?_|refine zf rfl rfl rfl ?_|(refine zS rfl rfl rfl rfl rfl (fun h=>?_) (fun h=>?_)<;>(dsimp only [cmpP] at h;(try (exfalso;omega))))|refine zO rfl rfl rfl rfl (fun _ _ q=>hC _ q.below) ?_|(refine zO rfl rfl rfl rfl (fun _ _ q=>i1 ▸ zAW _ _ _ _) ?_)|refine zAI rfl rfl rfl ?_|refine zAc rfl rfl rfl rfl (IntWalk.i64_in _ (by omega)) ?_|refine zn rfl rfl rfl ?_|(refine zp rfl rfl rfl rfl (fun b=>?_)))|(with_reducible first|refine zI ?_|refine zB ?_|refine zE ?_|refine zA ?_|refine zV ?_|refine zR ?_|refine zU ?_)|((with_reducible refine zH ?_ ?_);(· exact rfl))|((with_reducible refine zF ?_ ?_);(· exact rfl))))
   exact zP (by exact rTm rfl) () trivial rfl (fun _ h=>h.sub (by (repeat constructor)))
  | true =>
   cases i2:inB 1 3 c with
   | false =>
    rw [if_neg (by simp)]
    (refine zK (n:=25) Tryz.func15 rfl rfl rfl ?_)
    (repeat' (first|((with_reducible refine zG ?_);first|refine zD rfl rfl rfl ?_|refine zC rfl rfl rfl ?_|(refine zJ rfl rfl rfl ?_;refine ⟨_,rfl,?_⟩)|refine zL rfl rfl rfl ?_|refine z7 rfl rfl rfl rfl ?_|(refine zS rfl rfl rfl rfl rfl (fun h=>?_) (fun h=>?_)<;>(dsimp only [cmpP] at h;(try (exfalso;omega))))|refine zO rfl rfl rfl rfl (fun _ _ q=>hC _ q.below) ?_|(refine zO rfl rfl rfl rfl (fun _ _ q=>i1 ▸ zAW _ _ _ _) ?_)|(refine zO rfl rfl rfl rfl (fun _ _ q=>i2 ▸ zAW _ _ _ _) ?_)|refine zAI rfl rfl rfl ?_|refine zAc rfl rfl rfl rfl (IntWalk.i64_in _ (by omega)) ?_|refine zn rfl rfl rfl ?_|(refine zp rfl rfl rfl rfl (fun b=>?_)))|(with_reducible first|refine zI ?_|refine zB ?_|refine zE ?_|refine zA ?_|refine zV ?_|refine zR ?_|refine zU ?_)|((with_reducible refine zH ?_ ?_);(· exact rfl))|((with_reducible refine zF ?_ ?_);(· exact rfl))))
    exact zP (by exact rTm rfl) () trivial rfl (fun _ h=>h.sub (by (repeat constructor)))
   | true =>
    rw [if_pos (by simp)]
    (refine zK (n:=25) Tryz.func15 rfl rfl rfl ?_)
    (repeat' (first|((with_reducible refine zG ?_);first|refine zD rfl rfl rfl ?_|refine zC rfl rfl rfl ?_|(refine zJ rfl rfl rfl ?_;refine ⟨_,rfl,?_⟩)|refine zL rfl rfl rfl ?_|refine z7 rfl rfl rfl rfl ?_|(refine zS rfl rfl rfl rfl rfl (fun h=>?_) (fun h=>?_)<;>(dsimp only [cmpP] at h;(try (exfalso;omega))))|refine zO rfl rfl rfl rfl (fun _ _ q=>hC _ q.below) ?_|(refine zO rfl rfl rfl rfl (fun _ _ q=>i1 ▸ zAW _ _ _ _) ?_)|(refine zO rfl rfl rfl rfl (fun _ _ q=>i2 ▸ zAW _ _ _ _) ?_)|refine zAI rfl rfl rfl ?_|refine zAc rfl rfl rfl rfl (IntWalk.i64_in _ (by omega)) ?_|refine zn rfl rfl rfl ?_|(refine zp rfl rfl rfl rfl (fun b=>?_)))|(with_reducible first|refine zI ?_|refine zB ?_|refine zE ?_|refine zA ?_|refine zV ?_|refine zR ?_)|((with_reducible refine zF ?_ ?_);(· exact rfl))))
    exact zP (by exact rTm rfl) () trivial rfl (fun _ h=>h.sub (by (repeat constructor)))
 ·rw [if_neg h0]
  (refine zK (n:=25) Tryz.func15 rfl rfl rfl ?_)
  (repeat' (first|((with_reducible refine zG ?_);first|refine zD rfl rfl rfl ?_|refine zC rfl rfl rfl ?_|(refine zJ rfl rfl rfl ?_;refine ⟨_,rfl,?_⟩)|(refine zS rfl rfl rfl rfl rfl (fun h=>?_) (fun h=>?_)<;>(dsimp only [cmpP] at h;(try (exfalso;omega))))|refine zO rfl rfl rfl rfl (fun _ _ q=>hC _ q.below) ?_|(refine zp rfl rfl rfl rfl (fun b=>?_)))|(with_reducible first|refine zI ?_|refine zB ?_|refine zE ?_|refine zA ?_|refine zV ?_|refine zU ?_)|((with_reducible refine zH ?_ ?_);(· exact rfl))))
  exact zP (by exact rTm rfl) () trivial rfl (fun _ h=>h.sub (by (repeat constructor)))
theorem zKI (x:List Int) (X:Option Addr) (cx:Nat) (Y:Option Addr) (cy:Nat) (w:World) (h1:zAC encI 1 w X x) (h2:zAC encI 1 w Y x) (h3:x.length≤1000):Gv Tryz.prog 11 [.slice X x.length cx,.slice Y x.length cy] w (.bool true):=by
 unfold Gv
 (refine zK (n:=26) Tryz.func11 rfl rfl rfl ?_)
 (repeat' (first|((with_reducible refine zG ?_);first|refine zD rfl rfl rfl ?_|refine zC rfl rfl rfl ?_|(refine zS rfl rfl rfl rfl rfl (fun h=>?_) (fun h=>?_)<;>(dsimp only [cmpP] at h;(try (exfalso;omega))))|refine zn rfl rfl rfl ?_)|(with_reducible first|refine zI ?_|refine zB ?_|refine zE ?_|refine zA ?_|refine zR ?_|refine zQ ?_)|((with_reducible refine zF ?_ ?_);(· exact rfl))))
 refine zAB (ι:=Nat) [0,1] rfl (fun i=>i≤x.length) (fun i=>[(5,.int .i64 (i:Int))]) (fun _=>[]) (fun i=>x.length - i) 0 (Nat.zero_le _) (by (repeat first|exact lK1|refine zT rfl ?_)) (by (repeat constructor)) ?_
 rintro i hi
 simp only [zAk,List.cons_append,List.nil_append]
 by_cases hlt:i<x.length
 ·obtain ⟨v,hv⟩:∃ v,x[i]?=some v:=⟨_,List.getElem?_eq_getElem hlt⟩
  have:zAT x i v:=⟨hv⟩
  obtain ⟨bX,oX,rfl,_,_⟩:=h1.at_ hlt
  obtain ⟨bY,oY,rfl,_,_⟩:=h2.at_ hlt
  have:InS w bX oX encI 1 x:=⟨h1⟩
  have:InS w bY oY encI 1 x:=⟨h2⟩
  (repeat' (first|((with_reducible refine zG ?_);first|refine zD rfl rfl rfl ?_|(refine zS rfl rfl rfl rfl rfl (fun h=>?_) (fun h=>?_)<;>(dsimp only [cmpP] at h;(try (exfalso;omega))))|refine zn rfl rfl rfl ?_)|(with_reducible first|refine zI ?_|refine zB ?_|refine zE ?_|refine zA ?_|refine zR ?_|refine zQ ?_)|((with_reducible refine zH ?_ ?_);(· exact rfl))))
  (refine zAD (by kernel_rfl) (by kernel_rfl) (by kernel_rfl) ?_)
  (repeat' (first|((with_reducible refine zAP ?_);first|refine zM (zl rfl rfl) rfl ?_|refine zM (zW rfl rfl (by exact rfl)) rfl ?_|(refine zAu rfl rfl rfl rfl rfl (fun h=>?_) (fun h=>?_)<;>(dsimp only [cmpP] at h;(try (exfalso;omega))))|refine zM (zw (I:=i) rfl rfl rfl (by omega) (by first|omega|(dsimp only;omega))) rfl ?_)|(with_reducible refine zAe ?_)))
  all_goals (repeat' (first|((with_reducible refine zG ?_);first|refine zD rfl rfl rfl ?_|refine zC rfl rfl rfl ?_|refine zu rfl rfl rfl rfl (by omega) ?_)|(with_reducible first|refine zB ?_|refine zE ?_|refine zA ?_|refine zR ?_|refine zj ?_)|((with_reducible refine zF ?_ ?_);(· exact rfl))))
  all_goals exact zd (ι:=Nat) (i+1) (by omega) (by omega) (by (repeat first|exact lK1|refine zT rfl ?_)) (by (repeat constructor))
 ·(repeat' (first|((with_reducible refine zG ?_);first|refine zD rfl rfl rfl ?_|refine zC rfl rfl rfl ?_|(refine zS rfl rfl rfl rfl rfl (fun h=>?_) (fun h=>?_)<;>(dsimp only [cmpP] at h;(try (exfalso;omega))))|refine zn rfl rfl rfl ?_)|(with_reducible first|refine zI ?_|refine zB ?_|refine zE ?_|refine zA ?_|refine zV ?_|refine zz ?_|refine zZ ?_|refine ze ?_)|((with_reducible refine zF ?_ ?_);(· exact rfl))))
  exact zP (by exact rTm rfl) () trivial rfl (fun _ h=>h.sub (by (repeat constructor)))
end Go.Proofs.YtfiekidciiighaaGreat.Two
