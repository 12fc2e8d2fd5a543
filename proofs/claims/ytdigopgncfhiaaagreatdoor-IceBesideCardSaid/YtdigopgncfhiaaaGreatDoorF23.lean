/- F23 -/
import Derived.Test.YtdigopgncfhiaaaGreatDoorF21
import Derived.Test.YtdigopgncfhiaaaGreatDoorF12
import Derived.Test.YtdigopgncfhiaaaGreatDoorF22
import Derived.Test.YtdigopgncfhiaaaGreatDoorF16
import Derived.Laws.MakeOwn
set_option linter.unusedSimpArgs false
set_option linter.unusedVariables false
namespace Go.Proofs.YtdigopgncfhiaaaGreatDoor
open Go.RowKit
set_option maxRecDepth 20000
def zB4 : Cov:=⟨[],[],[],⟨0,0⟩,⟨0,0⟩,0,0,0⟩
def zCx (z:Bed) (th:Sp):Bed:={ z with thick:=⟨max z.thick.lo th.lo,min z.thick.hi th.hi⟩ }
def zMT (c:Cov) (th:Sp):List Int→Cov × Int
 | [p]=>if p=(c.beds.length:Int) then (zB4,6)
  else if (zCx (c.beds.getD p.toNat default) th).thick.hi<(zCx (c.beds.getD p.toNat default) th).thick.lo then (zB4,8)
  else ({ c with beds:=c.beds.set p.toNat (zCx (c.beds.getD p.toNat default) th) },0)
 | _=>(zB4,6)
def zCm (c:Cov) (a:Int) (th:Sp):Cov × Int :=
 if zAm c=0 then
  if errP c.t a=0∧zBE th 0 2000=true then zMT c th (zCz c.t a) else (zB4,2)
 else (zB4,zAm c)
theorem place_in {t:List St} {a:Int}:∀ p∈zCz t a,∃ i:Nat,p=(i:Int)∧i≤t.length:=fun p hp=>by
 unfold zCz at hp
 split at hp
 ·obtain ⟨i,hi,rfl⟩:=List.mem_map.1 hp
  have h1:=List.mem_range.1 (List.mem_filter.1 hi).1
  have:=zJH t
  exact ⟨i,rfl,by omega⟩
 ·cases hp
theorem zDE {base:Nat} {w:World}:Own base w [.sl zAS 9 none [],.sl zAK 3 none [],.sl zr 5 none []]:=by
 refine ⟨fun e he=>?_,fun e he b hb=>?_,?_⟩
 ·simp only [List.mem_cons,List.not_mem_nil,or_false] at he
  rcases he with rfl|rfl|rfl<;>(intro i x hx;cases hx)
 ·simp only [List.mem_cons,List.not_mem_nil,or_false] at he
  rcases he with rfl|rfl|rfl<;>(obtain ⟨o,h⟩:=hb;cases h)
 ·refine List.Pairwise.cons (fun e _ b hb=>?_) (List.Pairwise.cons (fun e _ b hb=>?_) (List.Pairwise.cons (fun e _ b hb=>?_) List.Pairwise.nil))<;>(obtain ⟨o,h⟩:=hb;cases h)
theorem clone_be (t:List Bed) (A:Option Addr) (c:Nat) (w:World) (ht:zq zAK 3 w A t) (h0:0<t.length) (hl:t.length≤1000) :
  Ret Tryz.prog 82 [.slice A t.length c] w (fun p:Option Addr × Nat=>.slice p.1 t.length p.2) (fun p=>[.row zAK 3 73 (.slice p.1 t.length p.2) t]) (fun _=>True):=by
 obtain ⟨bb,o,rfl,_⟩:=ht.at_ h0
 (refine zJ (n:=8) Tryz.func82 rfl rfl rfl ?_)
 (repeat' (first|((with_reducible refine zF ?_);first|refine zE rfl rfl rfl ?_|refine zC rfl rfl rfl ?_|refine zHh rfl rfl rfl rfl ?_|(refine zCe zAK rfl rfl (fun b=>?_))|(refine zAn (enc:=zAK) t rfl rfl rfl (by (repeat constructor)) rfl rfl (zEP ht) (by refine ⟨?_,by decide⟩;(try simp only [List.length_append,List.length_cons,List.length_nil]);omega) (fun A' c'=>?_)))|(with_reducible first|refine zH ?_|refine zB ?_|refine zD ?_|refine zA ?_|refine zX ?_|refine zT ?_)|((with_reducible refine zG ?_ ?_);(· exact rfl))))
 exact zS (by exact rTm rfl) (A',c') trivial rfl (fun _ h=>h.sub (by (repeat constructor)))
theorem clone_st (t:List St) (A:Option Addr) (c:Nat) (w:World) (ht:zq zAS 9 w A t) (h0:0<t.length) (hl:t.length≤1000) :
  Ret Tryz.prog 81 [.slice A t.length c] w (fun p:Option Addr × Nat=>.slice p.1 t.length p.2) (fun p=>[.row zAS 9 86 (.slice p.1 t.length p.2) t]) (fun _=>True):=by
 obtain ⟨bb,o,rfl,_⟩:=ht.at_ h0
 (refine zJ (n:=8) Tryz.func81 rfl rfl rfl ?_)
 (repeat' (first|((with_reducible refine zF ?_);first|refine zE rfl rfl rfl ?_|refine zC rfl rfl rfl ?_|refine zHh rfl rfl rfl rfl ?_|(refine zCe zAS rfl rfl (fun b=>?_))|(refine zAn (enc:=zAS) t rfl rfl rfl (by (repeat constructor)) rfl rfl (zEP ht) (by refine ⟨?_,by decide⟩;(try simp only [List.length_append,List.length_cons,List.length_nil]);omega) (fun A' c'=>?_)))|(with_reducible first|refine zH ?_|refine zB ?_|refine zD ?_|refine zA ?_|refine zX ?_|refine zT ?_)|((with_reducible refine zG ?_ ?_);(· exact rfl))))
 exact zS (by exact rTm rfl) (A',c') trivial rfl (fun _ h=>h.sub (by (repeat constructor)))
end Go.Proofs.YtdigopgncfhiaaaGreatDoor
namespace Go.Proofs.YtdigopgncfhiaaaGreatDoor.Two
variable {ro : Option Nat}
open Go.RowKit
set_option maxRecDepth 20000
section
variable {S : List (Nat × Nat)} {I:List (Nat × Nat × Nat × List Ent)} {P:Program} {w0:World} {n:Nat} {d:List Deferred} {R R0:List (Nat × Value)} {H H' H0:List Ent} {Q:Exit→Act→World→Prop} {ops:Array Oper} {bs:List (List Bool)} {b:List Bool} {k:Nat} {o:Oper} {rest:List Oper} {T:List Rw} {t:Tmp} {Hk:zA9→List Ent} {x y:Operand} {v:Value}
theorem zGy {α:Type} {enc:α→List Value} {kk e:Nat} {zs:List α} {f:FuncId} {fx:Operand} {xs:Array Operand} {ts:Array TypeId} {vs:zA9→List Value} {cap:Array Value} (hop:o.op = .call ⟨.value fx,xs,ts⟩) (hw:∀ G,want (Rk R0 ops b o T G) ops o=some true) (hd:o.dst=some t) (hf:∀ G,evR (Rk R0 ops b o T G) fx=some (.func (.func f) #[] cap)) (hx:∀ G,evs (Rk R0 ops b o T G) xs.toList=some (vs G)) [ci:zU P f]
  (hc:∀ G a w,Kn w0 n d (Rk R0 ops b o T G) (Hk G) a w→Ret P f (vs G++cap.toList) w (fun p:Option Addr × Nat=>.slice p.1 zs.length p.2) (fun p=>[.row enc kk e (.slice p.1 zs.length p.2) zs]) (fun _=>True)) (h:zBS ro S I P w0 n d ops R0 H0 Q bs (k+1) rest (⟨k,some t,fun G=>(.slice (G k).A zs.length (G k).m,[.row enc kk e (.slice (G k).A zs.length (G k).m) zs])⟩::T)):CAt ro S I P w0 n d ops R0 H0 Q b bs k o rest T Hk:=by
 refine zFW (f:=fun G=>(.slice (G k).A zs.length (G k).m,[.row enc kk e (.slice (G k).A zs.length (G k).m) zs])) (fun G G' hG=>by simp only [hG k (.inl rfl)]) (fun G a w q K hK=>?_) (by rw [hd];exact h)
 rw [zBO q (hw G),if_pos rfl]
 unfold Oper.wp execOp;rw [hop]
 have e1:xs.map a.eval=(vs G).toArray:=by apply Array.ext';simpa using q.evs (hx G)
 have e2:(vs G).toArray++cap=(vs G++cap.toList).toArray:=by apply Array.ext';simp
 simp only [resolve,q.ev (hf G),e1,Deferred.ofValue,Sem.run_bind,Sem.run_pure,Result.andThen_ok,invoke,Array.empty_append,e2,ci.ent,Oper.upon_enter]
 refine Calls.mono (hc G a w q).calls ?_
 rintro e w' ⟨⟨A,m⟩,hp,rfl,hb,hE⟩
 exact hK _ _ _ ⟨⟨0,A,m⟩,by simp [upW]⟩ hb hE
end
set_option maxHeartbeats 8000000 in
theorem zMK (c:Cov) (A:Option Addr) (ca:Nat) (B:Option Addr) (cb:Nat) (C:Option Addr) (cc:Nat) (a:Int) (th:Sp) (w:World) (h:zAe w c A B C) (hs:Small c) :
  Ret Tryz.prog 39 [zAH c A ca B cb C cc,.int .i64 a,vSp th] w (fun p:(Option Addr × Nat) × (Option Addr × Nat) × (Option Addr × Nat)=>.tuple #[zAH (zCm c a th).1 p.1.1 p.1.2 p.2.1.1 p.2.1.2 p.2.2.1 p.2.2.2,.int .i64 (zCm c a th).2]) (fun p=>[.sl zAS 9 p.1.1 (zCm c a th).1.t,.sl zAK 3 p.2.1.1 (zCm c a th).1.beds,.sl zr 5 p.2.2.1 (zCm c a th).1.hours]) (fun _=>True):=by
 have h4:=hs.b;have h5:=hs.h
 by_cases h0:zAm c=0
 ·have hf:=zBu h0
  have hv:valid c.t=true:=by
   cases hv:valid c.t with
   | true=>rfl
   | false=>unfold zAm at h0;rw [hv] at h0;simp at h0
  have hvl:=zCd hv
  have hbl:=zIV h0
  have hbt:=hf.beds
  have hh1:=hf.hours
  rw [zAC] at hh1
  have h1:=fun W (hb:Below w.heap.size w W)=>zCu c A ca B cb C cc W (h.below hb) hs h0
  have h2:=fun W (hb:Below w.heap.size w W)=>zNb c.t A ca a W (h.t.below hb) hs.fit (by omega)
  have h3:=fun W (hb:Below w.heap.size w W)=>clone_st c.t A ca W (h.t.below hb) (by omega) (by omega)
  have h6:=fun W (hb:Below w.heap.size w W)=>clone_be c.beds B cb W (h.b.below hb) (by omega) (by omega)
  have h7:=fun W (hb:Below w.heap.size w W)=>zLW c.hours C cc W (h.h.below hb) (by omega) (by omega)
  have hpi:=place_in (t:=c.t) (a:=a)
  have hX:zCm c a th=if errP c.t a=0∧zBE th 0 2000=true then zMT c th (zCz c.t a) else (zB4,2):=by unfold zCm;rw [if_pos h0]
  generalize zCm c a th=dx at *
  generalize errP c.t a=ep at *
  generalize zCz c.t a=l at *
  have e1:zAH c A ca B cb C cc = .agg (zM c A ca B cb C cc).toArray:=rfl
  rw [e1] at h1 ⊢
  unfold vT at h2
  unfold zM at h1 ⊢
  (refine zJ (n:=107) Tryz.func39 rfl rfl rfl ?_)
  (repeat' (first|((with_reducible refine zF ?_);first|refine zE rfl rfl rfl ?_|refine zC rfl rfl rfl ?_|(refine zK rfl rfl rfl ?_;refine ⟨_,rfl,?_⟩)|refine za rfl rfl rfl ?_|refine zAB rfl rfl rfl rfl ?_|refine zd rfl rfl rfl ?_|(refine zQ rfl rfl rfl rfl rfl (fun h=>?_) (fun h=>?_)<;>(dsimp only [cmpP] at h;(try (exfalso;omega))))|(refine zAQ rfl rfl rfl rfl (fun _ _ q=>h1 _ q.below) ?_;rintro g -;dsimp only [List.cons_append,List.nil_append])|refine zBt rfl rfl rfl rfl (fun _ _ q=>h2 _ q.below) (fun A' c'=>?_)|(refine zAI rfl rfl rfl rfl (fun _ _ q=>zBm th 0 2000 _) (fun h=>?_) (fun h=>?_)<;>skip)|refine zc rfl rfl rfl rfl ?_|refine zAN rfl rfl rfl ?_|(refine zb rfl rfl rfl rfl rfl ?_;refine ⟨rfl,by first|decide|exact Nat.le_of_ble_eq_true rfl|(simp;omega),_,rfl,?_⟩)|(refine zj rfl rfl (fun b=>?_))|(refine zu rfl rfl rfl rfl (fun b=>?_))|(refine zAl rfl rfl rfl ?_;refine ⟨_,rfl,?_⟩))|(with_reducible first|refine zH ?_|refine zB ?_|refine zD ?_|refine zA ?_|refine zX ?_|refine zT ?_|refine zZ ?_)|((with_reducible refine zI ?_ ?_);(· exact rfl))|((with_reducible refine zG ?_ ?_);(· exact rfl))))
  ·rw [show dx=(zB4,2) by rw [hX,if_neg (fun e=>h e.1)]]
   exact zS (by (exact zi.cons (by exact res1c rfl (by exact rfl)) (zi.cons (by exact zAR.tmp rfl) zi.nil))) ((none,0),(none,0),none,0) trivial rfl (fun _ h=>zDE)
  ·rename_i b3 b5 x1 hne
   obtain ⟨b6,hb6⟩:∃ x,x=b:=⟨_,rfl⟩
   subst hb6
   have hep:ep=0:=by omega
   rw [if_pos ⟨hep,h⟩] at hX
   rcases l with _ | ⟨p,_ | ⟨p2,r⟩⟩
   ·rw [show dx=(zB4,6) from hX]
    simp only [List.length_nil]
    (refine zBP (by kernel_rfl) (by kernel_rfl) (by kernel_rfl) ?_)
    (repeat' (first|((with_reducible refine zBr ?_);first|refine zn (zAi rfl rfl) rfl ?_|refine zn (zDM rfl rfl rfl) rfl ?_|refine zBj rfl rfl rfl ?_|(refine zFQ rfl rfl rfl rfl rfl (fun h=>?_) (fun h=>?_)<;>(dsimp only [cmpP] at h;(try (exfalso;omega))))|refine zn (zD8 rfl rfl) rfl ?_)|(with_reducible refine zCZ ?_)))
    all_goals (repeat' (first|((with_reducible refine zF ?_);first|refine zC rfl rfl rfl ?_|(refine zb rfl rfl rfl rfl rfl ?_;refine ⟨rfl,by first|decide|exact Nat.le_of_ble_eq_true rfl|(simp;omega),_,rfl,?_⟩)|(refine zAl rfl rfl rfl ?_;refine ⟨_,rfl,?_⟩))|(with_reducible first|refine zH ?_|refine zB ?_|refine zD ?_|refine zA ?_|refine zX ?_|refine zZ ?_)|((with_reducible refine zI ?_ ?_);(· exact rfl))))
    all_goals exact zS (by (exact zi.cons (by exact res1c rfl (by exact rfl)) (zi.cons (by exact zAR.tmp rfl) zi.nil))) ((none,0),(none,0),none,0) trivial rfl (fun _ h=>zDE)
   ·obtain ⟨i,rfl,hi⟩:=hpi p (by simp)
    simp only [zMT] at hX
    refine u_slS (xs:=[(i:Int)]) (by (repeat constructor)) (by simp) ?_
    rintro b9 o9 rfl
    have:zAT [(i:Int)] 0 (i:Int):=⟨rfl⟩
    simp only [List.length_cons,List.length_nil]
    by_cases hie:i=c.beds.length
    ·rw [show dx=(zB4,6) by rw [hX,if_pos (by omega)]]
     (refine zBP (by kernel_rfl) (by kernel_rfl) (by kernel_rfl) ?_)
     (repeat' (first|((with_reducible refine zBr ?_);first|refine zn (zAi rfl rfl) rfl ?_|refine zn (zAG rfl rfl (by exact rfl)) rfl ?_|refine zn (zAU rfl rfl) rfl ?_|refine zn (zDM rfl rfl rfl) rfl ?_|(refine zFQ rfl rfl rfl rfl rfl (fun h=>?_) (fun h=>?_)<;>(dsimp only [cmpP] at h;(try (exfalso;omega))))|refine zn (zAr (I:=0) rfl rfl rfl (by omega) (by first|omega|(dsimp only;omega))) rfl ?_|refine zn (zD8 rfl rfl) rfl ?_)|(with_reducible refine zCZ ?_)))
     all_goals (repeat' (first|((with_reducible refine zF ?_);first|refine zC rfl rfl rfl ?_|(refine zb rfl rfl rfl rfl rfl ?_;refine ⟨rfl,by first|decide|exact Nat.le_of_ble_eq_true rfl|(simp;omega),_,rfl,?_⟩)|(refine zAl rfl rfl rfl ?_;refine ⟨_,rfl,?_⟩))|(with_reducible first|refine zH ?_|refine zB ?_|refine zD ?_|refine zA ?_|refine zX ?_|refine zZ ?_)|((with_reducible refine zI ?_ ?_);(· exact rfl))))
     all_goals exact zS (by (exact zi.cons (by exact res1c rfl (by exact rfl)) (zi.cons (by exact zAR.tmp rfl) zi.nil))) ((none,0),(none,0),none,0) trivial rfl (fun _ h=>zDE)
    ·rw [if_neg (by omega)] at hX
     obtain ⟨z,hz⟩:∃ z,c.beds[i]?=some z:=⟨_,List.getElem?_eq_getElem (by omega)⟩
     simp only [Int.toNat_natCast,zBB hz] at hX
     (refine zBP (by kernel_rfl) (by kernel_rfl) (by kernel_rfl) ?_)
     (repeat' (first|((with_reducible refine zBr ?_);first|refine zn (zAi rfl rfl) rfl ?_|refine zn (zAG rfl rfl (by exact rfl)) rfl ?_|refine zn (zAU rfl rfl) rfl ?_|refine zn (zDM rfl rfl rfl) rfl ?_|(refine zFQ rfl rfl rfl rfl rfl (fun h=>?_) (fun h=>?_)<;>(dsimp only [cmpP] at h;(try (exfalso;omega))))|refine zn (zAr (I:=0) rfl rfl rfl (by omega) (by first|omega|(dsimp only;omega))) rfl ?_|refine zn (zD8 rfl rfl) rfl ?_)|(with_reducible refine zCZ ?_)))
     all_goals (repeat' (first|((with_reducible refine zF ?_);first|refine zE rfl rfl rfl ?_|(refine zK rfl rfl rfl ?_;refine ⟨_,rfl,?_⟩)|refine za rfl rfl rfl ?_|(refine zb rfl rfl rfl rfl rfl ?_;refine ⟨rfl,by first|decide|exact Nat.le_of_ble_eq_true rfl|(simp;omega),_,rfl,?_⟩)|(refine zj rfl rfl (fun b=>?_))|refine zA6 rfl rfl rfl ?_)|(with_reducible first|refine zH ?_|refine zB ?_|refine zD ?_|refine zA ?_|refine zT ?_)|((with_reducible refine zG ?_ ?_);(· exact rfl))))
     (refine zA1 [] [] [] rfl (by decide) (fun _ h=>h) (by kernel_rfl) [[],[Z],[Z,Z],[Z,Z,Z],[Y,Y,Y,Y],[Z,Y,Y,Y,Y],[Z,Z,Z,Z,Z,Z],[Y,Y,Y,Y,Y,Y,Y],[Z,Y,Y,Y,Y,Y,Y,Y],[Z,Z,Z,Z,Z,Z,Z,Z,Z],[Y,Y,Y,Y,Y,Y,Z,Z,Z,Z],[Z,Y,Y,Y,Y,Y,Y,Z,Z,Z,Z],[Z,Z,Z,Z,Z,Z,Z,Z,Z,Z,Z,Z],[Z,Z,Z,Z,Z,Z,Z,Z,Z,Z,Z,Z,Z],[Z,Z,Z,Z,Z,Z,Z,Z,Z,Z,Z,Z,Z,Z],[Z,Z,Z,Z,Z,Z,Z,Z,Z,Z,Z,Z,Z,Z,Z],[Z,Z,Z,Z,Z,Z,Z,Z,Z,Z,Z,Z,Z,Z,Z,Z]] (by kernel_rfl) (by kernel_rfl) (by kernel_rfl) (by kernel_rfl) (by kernel_rfl) ?_)
     (repeat' (first|(((with_reducible refine zDQ ?_ ?_);(· exact rfl);refine ⟨_,fun G=>(by (try simp (decide:=true) only [vis,see,fltT,zAF,Nat.reduceAdd,Nat.reduceSub,if_true,if_false,List.set_cons_zero,List.set_cons_succ,List.set_nil,List.nil_append,List.cons_append]);rfl),?_⟩);first|refine zm _ (fun _=>zAG rfl rfl (by exact rfl)) (fun _=>rfl) rfl (by intro G G' h;simp (decide:=true) only [h]) ?_|(refine zAj rfl ?_;refine zm _ (fun _=>zAU rfl rfl) (fun _=>rfl) rfl (by intro G G' h;simp (decide:=true) only [h]) ?_)|(refine zGy (enc:=zAS) (e:=86) (zs:=c.t) rfl (fun _=>rfl) rfl (fun _=>rfl) (fun _=>rfl) (fun _ _ _ q=>h3 _ q.below) ?_)|(refine zGy (enc:=zAK) (e:=73) (zs:=c.beds) rfl (fun _=>rfl) rfl (fun _=>rfl) (fun _=>rfl) (fun _ _ _ q=>h6 _ q.below) ?_)|(refine zGy (enc:=zr) (e:=67) (zs:=c.hours) rfl (fun _=>rfl) rfl (fun _=>rfl) (fun _=>rfl) (fun _ _ _ q=>h7 _ q.below) ?_))|((with_reducible refine zB3 ?_ ?_);(· exact rfl))))
     intro G
     simp only [regsT,List.nil_append,List.cons_append,Nat.reduceAdd]
     refine zEj (H':=[.row zr 5 67 (.slice (G 9).A c.hours.length (G 9).m) c.hours,.row zAK 3 73 (.slice (G 6).A c.beds.length (G 6).m) c.beds,.row zAS 9 86 (.slice (G 3).A c.t.length (G 3).m) c.t,.blk b [.slice A c.t.length ca,.slice B c.beds.length cb,.slice C c.hours.length cc,.int .i64 c.wear.lo,.int .i64 c.wear.hi,.int .i64 c.layer.lo,.int .i64 c.layer.hi,.int .i64 c.rate,.int .i64 c.limit,.int .i64 c.base],.sl encI 1 (some ⟨b9,o9,none⟩) [(i:Int)],.blk b6 [.slice none 0 0,.slice none 0 0,.slice none 0 0,.int .i64 0,.int .i64 0,.int .i64 0,.int .i64 0,.int .i64 0,.int .i64 0,.int .i64 0],.blk b5 [.int .i64 th.lo,.int .i64 th.hi]]) (fun _ h=>h.sub (by (repeat constructor))) ?_
     generalize (G 9).A=A9
     generalize (G 9).m=m9
     generalize (G 6).A=A6
     generalize (G 6).m=m6
     generalize (G 3).A=A3
     generalize (G 3).m=m3
     refine zDs (enc:=zAK) (xs:=c.beds) (by (repeat constructor)) (by omega) ?_
     rintro gb rfl
     have:zAT c.beds i z:=⟨hz⟩
     (repeat' (first|((with_reducible refine zF ?_);first|refine za rfl rfl rfl ?_|(refine zb rfl rfl rfl rfl rfl ?_;refine ⟨rfl,by first|decide|exact Nat.le_of_ble_eq_true rfl|(simp;omega),_,rfl,?_⟩))|(with_reducible first|refine zH ?_|refine zD ?_|refine zA ?_)))
     (refine zBP (by kernel_rfl) (by kernel_rfl) (by kernel_rfl) ?_)
     (repeat' (first|((with_reducible refine zBr ?_);first|refine zn (zAi rfl rfl) rfl ?_|refine zn (zAG rfl rfl (by exact rfl)) rfl ?_|refine zn (zAU rfl rfl) rfl ?_|refine zn (zCE rfl rfl) rfl ?_|refine zn (zAr (I:=0) rfl rfl rfl (by omega) (by first|omega|(dsimp only;omega))) rfl ?_|refine zn (zAr (I:=i) rfl rfl rfl (by omega) (by first|omega|(dsimp only;omega))) rfl ?_)|(with_reducible refine zCZ ?_)))
     (repeat' (first|(with_reducible first|refine zH ?_|refine zA ?_)))
     (refine zA1 [] [] [] rfl (by decide) (fun _ h=>h) (by kernel_rfl) [[],[Y],[Z,Y],[Z,Z,Y],[Z,Z,Z,Y],[Z,Z,Z,Z,Y],[Y,Y,Y,Y,Y,Y],[Z,Y,Y,Y,Y,Y,Y],[Z,Z,Z,Z,Z,Z,Z,Y],[Y,Y,Y,Y,Y,Y,Y,Y,Y],[Z,Y,Y,Y,Y,Y,Y,Y,Y,Y],[Z,Z,Y,Y,Y,Y,Y,Y,Y,Y,Y],[Z,Z,Z,Y,Y,Y,Y,Y,Y,Y,Y,Y],[Z,Z,Z,Z,Y,Y,Y,Y,Y,Y,Y,Y,Y],[Y,Y,Y,Y,Y,Y,Y,Y,Y,Y,Y,Y,Y,Y],[Z,Y,Y,Y,Y,Y,Y,Y,Y,Y,Y,Y,Y,Y,Y],[Z,Z,Z,Z,Z,Z,Z,Y,Y,Y,Y,Y,Y,Y,Y,Y],[Z,Z,Z,Z,Z,Z,Z,Z,Z,Z,Z,Z,Z,Z,Z,Z,Y],[Z,Z,Z,Z,Z,Z,Z,Z,Z,Z,Z,Z,Z,Z,Z,Z,Z,Z],[Z,Z,Z,Z,Z,Z,Z,Z,Z,Z,Z,Z,Z,Z,Z,Z,Z,Z,Z],[Z,Z,Z,Z,Z,Z,Z,Z,Z,Z,Z,Z,Z,Z,Z,Z,Z,Z,Z,Z]] (by kernel_rfl) (by kernel_rfl) (by kernel_rfl) (by kernel_rfl) (by kernel_rfl) ?_)
     (repeat' (first|(((with_reducible refine zDQ ?_ ?_);(· exact rfl);refine ⟨_,fun G=>(by (try simp (decide:=true) only [vis,see,fltT,zAF,Nat.reduceAdd,Nat.reduceSub,if_true,if_false,List.set_cons_zero,List.set_cons_succ,List.set_nil,List.nil_append,List.cons_append]);rfl),?_⟩);first|refine zm _ (fun _=>zAi rfl rfl) (fun _=>rfl) rfl (by intro G G' h;simp (decide:=true) only [h]) ?_|refine zm _ (fun _=>zAG rfl rfl (by exact rfl)) (fun _=>rfl) rfl (by intro G G' h;simp (decide:=true) only [h]) ?_|(refine zAj rfl ?_;refine zm _ (fun _=>zAU rfl rfl) (fun _=>rfl) rfl (by intro G G' h;simp (decide:=true) only [h]) ?_)|refine zm _ (fun _=>zAg rfl rfl) (fun _=>rfl) rfl (by intro G G' h;simp (decide:=true) only [h]) ?_|refine zm _ (fun _=>e_min rfl rfl rfl) (fun _=>rfl) rfl (by intro G G' h;simp (decide:=true) only [h]) ?_|refine zm _ (fun _=>e_max rfl rfl rfl) (fun _=>rfl) rfl (by intro G G' h;simp (decide:=true) only [h]) ?_|refine zm _ (fun _=>zD9 rfl rfl (by exact rfl)) (fun _=>rfl) rfl (by intro G G' h;simp (decide:=true) only [h]) ?_)|((with_reducible refine zB3 ?_ ?_);(· exact rfl))))
     intro G2
     simp only [regsT,List.nil_append,List.cons_append,Nat.reduceAdd]
     refine zEj (H':=[.arr zAK 3 gb c.beds,.blk b [.slice A3 c.t.length m3,.slice (some ⟨gb,0,none⟩) c.beds.length m6,.slice A9 c.hours.length m9,.int .i64 c.wear.lo,.int .i64 c.wear.hi,.int .i64 c.layer.lo,.int .i64 c.layer.hi,.int .i64 c.rate,.int .i64 c.limit,.int .i64 c.base],.row zr 5 67 (.slice A9 c.hours.length m9) c.hours,.row zAS 9 86 (.slice A3 c.t.length m3) c.t,.sl encI 1 (some ⟨b9,o9,none⟩) [(i:Int)],.blk b6 [.slice none 0 0,.slice none 0 0,.slice none 0 0,.int .i64 0,.int .i64 0,.int .i64 0,.int .i64 0,.int .i64 0,.int .i64 0,.int .i64 0],.blk b5 [.int .i64 th.lo,.int .i64 th.hi]]) (fun _ h=>h.sub (by (repeat constructor))) ?_
     (repeat' (first|((with_reducible refine zF ?_);first|refine zHe (enc:=zAK) (k:=3) (i:=i) (j:=0) (z:=z) (zCx z th) rfl rfl rfl rfl rfl rfl rfl rfl (by decide) ?_)|(with_reducible first|refine zH ?_|refine zD ?_|refine zA ?_)))
     have:zAT (c.beds.set i (zCx z th)) i (zCx z th):=⟨List.getElem?_set_self (by omega)⟩
     (refine zBP (by kernel_rfl) (by kernel_rfl) (by kernel_rfl) ?_)
     (repeat' (first|((with_reducible refine zBr ?_);first|refine zn (zAi rfl rfl) rfl ?_|refine zn (zAG rfl rfl (by exact rfl)) rfl ?_|refine zn (zAU rfl rfl) rfl ?_|(refine zFQ rfl rfl rfl rfl rfl (fun h=>?_) (fun h=>?_)<;>(dsimp only [cmpP] at h;(try (exfalso;omega))))|refine zn (zAg rfl rfl) rfl ?_)|(with_reducible refine zCZ ?_)))
     ·rw [show dx=(zB4,8) by rw [hX,if_pos h]]
      (repeat' (first|((with_reducible refine zF ?_);first|refine zC rfl rfl rfl ?_|(refine zb rfl rfl rfl rfl rfl ?_;refine ⟨rfl,by first|decide|exact Nat.le_of_ble_eq_true rfl|(simp;omega),_,rfl,?_⟩)|(refine zAl rfl rfl rfl ?_;refine ⟨_,rfl,?_⟩))|(with_reducible first|refine zH ?_|refine zB ?_|refine zD ?_|refine zA ?_|refine zX ?_|refine zZ ?_)|((with_reducible refine zI ?_ ?_);(· exact rfl))))
      exact zS (by (exact zi.cons (by exact res1c rfl (by exact rfl)) (zi.cons (by exact zAR.tmp rfl) zi.nil))) ((none,0),(none,0),none,0) trivial rfl (fun _ h=>zDE)
     ·rw [show dx=({ c with beds:=c.beds.set i (zCx z th) },0) by rw [hX,if_neg h]]
      (repeat' (first|((with_reducible refine zF ?_);first|refine zC rfl rfl rfl ?_|(refine zK rfl rfl rfl ?_;refine ⟨_,rfl,?_⟩)|(refine zb rfl rfl rfl rfl rfl ?_;refine ⟨rfl,by first|decide|exact Nat.le_of_ble_eq_true rfl|(simp;omega),_,rfl,?_⟩))|(with_reducible first|refine zH ?_|refine zB ?_|refine zD ?_|refine zA ?_|refine zX ?_|refine zT ?_)|((with_reducible refine zG ?_ ?_);(· exact rfl))))
      exact zS (by (exact zi.cons (by exact res1c rfl (by exact rfl)) (zi.cons (by exact zAR.tmp rfl) zi.nil))) ((A3,m3),(some ⟨gb,0,none⟩,m6),A9,m9) trivial (by simp only [zAH,zM,List.length_set];rfl) (fun _ h=>(((Own.zMg (xs:=c.beds.set i (zCx z th)) (by (repeat constructor)) h).zER (xs:=c.hours) (by (repeat constructor))).zER (xs:=c.t) (by (repeat constructor))).sub (by (repeat constructor)))
   ·rw [show dx=(zB4,6) from hX]
    simp only [List.length_cons]
    (refine zBP (by kernel_rfl) (by kernel_rfl) (by kernel_rfl) ?_)
    (repeat' (first|((with_reducible refine zBr ?_);first|refine zn (zAi rfl rfl) rfl ?_|refine zn (zDM rfl rfl rfl) rfl ?_|refine zBj rfl rfl rfl ?_|(refine zFQ rfl rfl rfl rfl rfl (fun h=>?_) (fun h=>?_)<;>(dsimp only [cmpP] at h;(try (exfalso;omega))))|refine zn (zD8 rfl rfl) rfl ?_)|(with_reducible refine zCZ ?_)))
    all_goals (repeat' (first|((with_reducible refine zF ?_);first|refine zC rfl rfl rfl ?_|(refine zb rfl rfl rfl rfl rfl ?_;refine ⟨rfl,by first|decide|exact Nat.le_of_ble_eq_true rfl|(simp;omega),_,rfl,?_⟩)|(refine zAl rfl rfl rfl ?_;refine ⟨_,rfl,?_⟩))|(with_reducible first|refine zH ?_|refine zB ?_|refine zD ?_|refine zA ?_|refine zX ?_|refine zZ ?_)|((with_reducible refine zI ?_ ?_);(· exact rfl))))
    all_goals exact zS (by (exact zi.cons (by exact res1c rfl (by exact rfl)) (zi.cons (by exact zAR.tmp rfl) zi.nil))) ((none,0),(none,0),none,0) trivial rfl (fun _ h=>zDE)
  ·rw [show dx=(zB4,2) by rw [hX,if_neg (fun e=>by rw [e.2] at h;cases h)]]
   exact zS (by (exact zi.cons (by exact res1c rfl (by exact rfl)) (zi.cons (by exact zAR.tmp rfl) zi.nil))) ((none,0),(none,0),none,0) trivial rfl (fun _ h=>zDE)
 ·have h1:=fun W (hb:Below w.heap.size w W)=>zEw c A ca B cb C cc W (h.below hb) hs h0
  have hX:zCm c a th=(zB4,zAm c):=by unfold zCm;rw [if_neg h0]
  rw [hX]
  have e1:zAH c A ca B cb C cc = .agg (zM c A ca B cb C cc).toArray:=rfl
  rw [e1] at h1 ⊢
  generalize zAm c=e at *
  unfold zM at h1 ⊢
  (refine zJ (n:=107) Tryz.func39 rfl rfl rfl ?_)
  (repeat' (first|((with_reducible refine zF ?_);first|refine zE rfl rfl rfl ?_|refine zC rfl rfl rfl ?_|(refine zK rfl rfl rfl ?_;refine ⟨_,rfl,?_⟩)|(refine zQ rfl rfl rfl rfl rfl (fun h=>?_) (fun h=>?_)<;>(dsimp only [cmpP] at h;(try (exfalso;omega))))|refine zV rfl rfl rfl rfl (fun _ _ q=>h1 _ q.below) ?_|refine zc rfl rfl rfl rfl ?_|(refine zb rfl rfl rfl rfl rfl ?_;refine ⟨rfl,by first|decide|exact Nat.le_of_ble_eq_true rfl|(simp;omega),_,rfl,?_⟩)|(refine zj rfl rfl (fun b=>?_))|(refine zu rfl rfl rfl rfl (fun b=>?_))|(refine zAl rfl rfl rfl ?_;refine ⟨_,rfl,?_⟩))|(with_reducible first|refine zH ?_|refine zB ?_|refine zD ?_|refine zA ?_|refine zX ?_|refine zZ ?_)|((with_reducible refine zI ?_ ?_);(· exact rfl))))
  exact zS (by (exact zi.cons (by exact res1c rfl (by exact rfl)) (zi.cons (by exact zAR.tmp rfl) zi.nil))) ((none,0),(none,0),none,0) trivial rfl (fun _ h=>zDE)
end Go.Proofs.YtdigopgncfhiaaaGreatDoor.Two
namespace Go.Proofs.YtdigopgncfhiaaaGreatDoor.Two
variable {ro : Option Nat}
open Go.RowKit
set_option maxRecDepth 20000
theorem zNM (c:Cov) (A:Option Addr) (ca:Nat) (B:Option Addr) (cb:Nat) (C:Option Addr) (cc:Nat) (w:World) (h:zAe w c A B C) (h1:c.t.length≤1000) (h2:c.beds.length≤1000) (h3:c.hours.length≤1000) :
  Ret Tryz.prog 34 [zAH c A ca B cb C cc] w (fun p:(Option Addr × Nat) × (Option Addr × Nat) × (Option Addr × Nat)=>zAH c p.1.1 p.1.2 p.2.1.1 p.2.1.2 p.2.2.1 p.2.2.2) (fun p=>[.sl zAS 9 p.1.1 c.t,.row zAK 3 73 (.slice p.2.1.1 c.beds.length p.2.1.2) c.beds,.row zr 5 67 (.slice p.2.2.1 c.hours.length p.2.2.2) c.hours]) (fun _=>True):=by
 have hb:=h.b;have hh:=h.h
 have hT:=fun W (hW:Below w.heap.size w W)=>twin_any c.t A ca W (h.t.below hW) h1
 unfold vT at hT
 unfold zAH zM
 (refine zJ (n:=18) Tryz.func34 rfl rfl rfl ?_)
 (repeat' (first|((with_reducible refine zF ?_);first|(refine zK rfl rfl rfl ?_;refine ⟨_,rfl,?_⟩)|refine za rfl rfl rfl ?_|refine zBt rfl rfl rfl rfl (fun _ _ q=>hT _ q.below) (fun A' c'=>?_)|(refine zCe zAK (e:=73) rfl rfl (fun b=>?_))|(refine zAn (enc:=zAK) c.beds rfl rfl rfl (by (repeat constructor)) rfl rfl (zEP hb) (by refine ⟨?_,by decide⟩;(try simp only [List.length_append,List.length_cons,List.length_nil]);omega) (fun A' c'=>?_))|(refine zCe zr (e:=67) rfl rfl (fun b=>?_))|(refine zAn (enc:=zr) c.hours rfl rfl rfl (by (repeat constructor)) rfl rfl (zEP hh) (by refine ⟨?_,by decide⟩;(try simp only [List.length_append,List.length_cons,List.length_nil]);omega) (fun A' c'=>?_))|(refine zb rfl rfl rfl rfl rfl ?_;refine ⟨rfl,by first|decide|exact Nat.le_of_ble_eq_true rfl|(simp;omega),_,rfl,?_⟩)|(refine zj rfl rfl (fun b=>?_))|(refine zu rfl rfl rfl rfl (fun b=>?_)))|(with_reducible first|refine zH ?_|refine zB ?_|refine zD ?_|refine zA ?_|refine zX ?_)))
 rename_i A1 c1 bb A2 c2
 simp only [List.nil_append]
 exact zS (by (exact zi.cons (by exact res1c rfl (by exact rfl)) zi.nil)) ((A1,c1),(A2,c2),(A',c')) trivial rfl (fun _ h=>h.sub (by (repeat constructor)))
end Go.Proofs.YtdigopgncfhiaaaGreatDoor.Two
namespace Go.Proofs.YtdigopgncfhiaaaGreatDoor
open Go.RowKit
set_option maxRecDepth 20000
def zF4 (m k:Nat):List Int:=((List.range k).filter m.testBit).map fun h:Nat=>(h:Int)
theorem setL_yes {m k:Nat} (h:m.testBit k=true):zF4 m (k+1)=zF4 m k++[(k:Int)]:=by
 simp [zF4,List.range_succ,List.filter_append,h]
theorem setL_no {m k:Nat} (h:m.testBit k=false):zF4 m (k+1)=zF4 m k:=by
 simp [zF4,List.range_succ,List.filter_append,h]
theorem zKZ (m k:Nat):(zF4 m k).length≤k:=by
 have:=List.length_filter_le m.testBit (List.range k)
 simpa [zF4] using this
def lexB : List Int→List Int→Bool
 | x::a,y::b=>if x=y then lexB a b else decide (x<y)
 | _,_=>false
def befB (a b:List Int):Bool:=if a.length=b.length then lexB a b else decide (a.length<b.length)
end Go.Proofs.YtdigopgncfhiaaaGreatDoor
namespace Go.Proofs.YtdigopgncfhiaaaGreatDoor
open Go.RowKit
set_option maxRecDepth 20000
section
variable {ro : Option Nat} {P:Program} {w0:World} {n:Nat} {d:List Deferred} {R:List (Nat × Value)} {H:List Ent} {Q:Exit→Act→World→Prop} {ops:Array Oper} {rest:List Oper} {o:Oper} {t:Tmp} {x y:Operand} {T T':TypeId} {k:IntKind} {i j:Int}
def isAny2 : BinOp→Bool
 | .add | .and=>true
 | _=>false
theorem u_any2 {c:BinOp} (hop:o.op = .binOp c T x y T') (hc:isAny2 c=true) (hrd:rdy R ops n o=some t) (hx:evR R x=some (.int k i)) (hy:evR R y=some (.int k j)) (h:∀ z,U w0 n d ((t,.int k z)::R) H (wpL ro P ops Q rest)):U w0 n d R H (wpL ro P ops Q (o::rest)):=by
 have key:∃ z,∀ a w,Kn w0 n d R H a w→(execOp a.eval o).run P w = .ok (.value (.int k z)) w:=by
  cases c<;>simp only [isAny2,Bool.false_eq_true] at hc
  ·exact ⟨k.wrap (i+j),fun a w q=>by unfold execOp;rw [hop];simp [q.ev hx,q.ev hy,eqGuard,binOp,Op.intArith]⟩
  ·exact ⟨_,fun a w q=>by unfold execOp;rw [hop];simp only [Sem.run_bind,q.ev hx,q.ev hy,eqGuard,binOp,Op.intBits,ne_eq,not_true_eq_false,if_false,Bool.not_false,if_true,Sem.run_pure,Result.andThen_ok];rfl⟩
 obtain ⟨z,hz⟩:=key
 exact zAL hrd hz (h z)
end
theorem zL0 (z:Int) (w:World):Ret Tryz.prog 113 [.int .u64 z] w (fun m:Nat=>.int .i64 (m:Int)) (fun _=>[]) (fun m=>m≤127):=by
 (refine zJ (n:=35) Tryz.func113 rfl rfl rfl ?_)
 (repeat' (first|((with_reducible refine zF ?_);first|refine zE rfl rfl rfl ?_|refine zC rfl rfl rfl ?_|refine u_and127 rfl rfl rfl rfl (fun m hm=>?_)|refine u_any2 rfl rfl rfl rfl rfl (fun _=>?_)|refine u_anyShr rfl rfl rfl rfl (by omega) (fun _=>?_)|refine zIx rfl rfl rfl (fun _=>?_))|(with_reducible first|refine zH ?_|refine zB ?_|refine zD ?_|refine zA ?_|refine zX ?_)))
 exact zS (by exact rTm rfl) m hm rfl (fun _ h=>h.sub (by (repeat constructor)))
theorem ones_any (z:Int) (w:World):Ret Tryz.prog 71 [.int .u64 z] w (fun m:Nat=>.int .i64 (m:Int)) (fun _=>[]) (fun m=>m≤127):=by
 (refine zJ (n:=8) Tryz.func71 rfl rfl rfl ?_)
 (repeat' (first|((with_reducible refine zF ?_);first|refine zE rfl rfl rfl ?_|refine zC rfl rfl rfl ?_|(refine zAQ rfl rfl rfl rfl (fun _ _ q=>zL0 _ _) ?_;rintro m hm;dsimp only [List.cons_append,List.nil_append]))|(with_reducible first|refine zH ?_|refine zB ?_|refine zD ?_|refine zA ?_|refine zX ?_|refine zT ?_)|((with_reducible refine zG ?_ ?_);(· exact rfl))))
 exact zS (by exact rTm rfl) m hm rfl (fun _ h=>h.sub (by (repeat constructor)))
theorem zNp (x:Int) (w:World):Gv Tryz.prog 138 [.int .i64 x] w (.bool false):=by
 unfold Gv
 (refine zJ (n:=6) Tryz.func138 rfl rfl rfl ?_)
 (repeat' (first|((with_reducible refine zF ?_);first|refine zE rfl rfl rfl ?_|refine zC rfl rfl rfl ?_|(refine zQ rfl rfl rfl rfl rfl (fun h=>?_) (fun h=>?_)<;>(dsimp only [cmpP] at h;(try (exfalso;omega)))))|(with_reducible first|refine zH ?_|refine zB ?_|refine zD ?_|refine zA ?_|refine zX ?_)))
 exact zS (by exact rTm rfl) () trivial rfl (fun _ h=>h.sub (by (repeat constructor)))
def cmpI (x y:Int):Int:=if x<y then -1 else if y<x then 1 else 0
theorem cmp_any (x y:Int) (w:World):Gv Tryz.prog 115 [.int .i64 x,.int .i64 y] w (.int .i64 (cmpI x y)):=by
 unfold Gv cmpI
 (refine zJ (n:=20) Tryz.func115 rfl rfl rfl ?_)
 (repeat' (first|((with_reducible refine zF ?_);first|refine zE rfl rfl rfl ?_|refine zC rfl rfl rfl ?_|(refine zQ rfl rfl rfl rfl rfl (fun h=>?_) (fun h=>?_)<;>(dsimp only [cmpP] at h;(try (exfalso;omega))))|refine zV rfl rfl rfl rfl (fun _ _ q=>zNp _ _) ?_)|(with_reducible first|refine zH ?_|refine zB ?_|refine zD ?_|refine zA ?_|refine zX ?_|refine zT ?_|refine zZ ?_)|((with_reducible refine zI ?_ ?_);(· exact rfl))|((with_reducible refine zG ?_ ?_);(· exact rfl))))
 all_goals exact zS (by exact rTm rfl) () trivial (by simp only [resV];congr 1;omega) (fun _ h=>h.sub (by (repeat constructor)))
def zHM : List Int→List Int→Int
 | x::a,y::b=>if cmpI x y=0 then zHM a b else cmpI x y
 | _,_=>0
theorem zOE {a b:List Int} {i:Nat} {x y:Int} (h1:a[i]?=some x) (h2:b[i]?=some y):zHM (a.drop i) (b.drop i)=if cmpI x y=0 then zHM (a.drop (i+1)) (b.drop (i+1)) else cmpI x y:=by
 obtain ⟨i1,rfl⟩:=List.getElem?_eq_some_iff.1 h1
 obtain ⟨i2,rfl⟩:=List.getElem?_eq_some_iff.1 h2
 rw [List.drop_eq_getElem_cons i1,List.drop_eq_getElem_cons i2];rfl
theorem zLV : ∀ (a b:List Int),zHM a b<0↔lexB a b=true
 | [],_=>by simp [zHM,lexB]
 | _::_,[]=>by simp [zHM,lexB]
 | x::a,y::b=>by
  simp only [zHM,lexB]
  by_cases e:x=y
  ·subst e
   rw [if_pos rfl,if_pos (by simp [cmpI])]
   exact zLV a b
  ·rw [if_neg e]
   unfold cmpI
   by_cases h:x<y
   ·simp [h]
   ·have:y<x:=by omega
    simp [h,this]
set_option maxHeartbeats 1000000 in
theorem zKJ (a:List Int) (A:Option Addr) (ca:Nat) (m:List Int) (B:Option Addr) (cb:Nat) (w:World) (ha:zq encI 1 w A a) (hm:zq encI 1 w B m) (h1:a.length≤1000) (hl:a.length=m.length) :
  Gv Tryz.prog 74 [.slice A a.length ca,.slice B m.length cb] w (.int .i64 (zHM a m)):=by
 unfold Gv
 (refine zJ (n:=36) Tryz.func74 rfl rfl rfl ?_)
 (repeat' (first|((with_reducible refine zF ?_);first|refine zE rfl rfl rfl ?_|refine zC rfl rfl rfl ?_|refine zo rfl rfl rfl ?_)|(with_reducible first|refine zH ?_|refine zB ?_|refine zD ?_|refine zA ?_|refine zP ?_)))
 refine zw (ι:=Nat) [0,1,9,10] rfl (fun i=>i≤a.length∧zHM (a.drop i) (m.drop i)=zHM a m) (fun i=>[(11,.int .i64 (i:Int))]) (fun _=>[]) (fun i=>a.length - i) 0 ⟨Nat.zero_le _,rfl⟩ (by (repeat first|exact lK1|refine zL rfl ?_)) (by (repeat constructor)) ?_
 rintro i ⟨hi,hlx⟩
 simp only [zAt,List.cons_append,List.nil_append]
 by_cases hlt:i<a.length
 ·obtain ⟨x,hx⟩:∃ x,a[i]?=some x:=⟨_,List.getElem?_eq_getElem hlt⟩
  obtain ⟨y,hy⟩:∃ y,m[i]?=some y:=⟨_,List.getElem?_eq_getElem (by omega)⟩
  rw [zOE hx hy] at hlx
  obtain ⟨b1,o1,rfl,_,_⟩:=ha.at_ hlt
  obtain ⟨b2,o2,rfl,_,_⟩:=hm.at_ (i:=i) (by omega)
  have:InS w b1 o1 encI 1 a:=⟨ha⟩
  have:InS w b2 o2 encI 1 m:=⟨hm⟩
  have:zAT a i x:=⟨hx⟩
  have:zAT m i y:=⟨hy⟩
  have hcm:=fun W=>cmp_any x y W
  generalize cmpI x y=z at *
  by_cases hz:z=0
  ·rw [if_pos hz] at hlx
   (repeat' (first|((with_reducible refine zF ?_);first|refine zE rfl rfl rfl ?_|refine zC rfl rfl rfl ?_|(refine zK rfl rfl rfl ?_;refine ⟨_,rfl,?_⟩)|(refine zQ rfl rfl rfl rfl rfl (fun h=>?_) (fun h=>?_)<;>(dsimp only [cmpP] at h;(try (exfalso;omega))))|refine zV rfl rfl rfl rfl (fun _ _ q=>hcm _) ?_|refine zh rfl rfl rfl rfl (by omega) ?_|refine zl rfl rfl rfl rfl rfl (by omega) ?_|refine zo rfl rfl rfl ?_)|(with_reducible first|refine zH ?_|refine zB ?_|refine zD ?_|refine zA ?_|refine zT ?_|refine zP ?_|refine zg ?_)|((with_reducible refine zI ?_ ?_);(· exact rfl))|((with_reducible refine zG ?_ ?_);(· exact rfl))))
   all_goals exact zf (ι:=Nat) (i+1) (by exact ⟨by omega,hlx⟩) (by omega) (by (repeat first|exact lK1|refine zL rfl ?_)) (by (repeat constructor))
  ·rw [if_neg hz] at hlx
   rw [← hlx]
   (repeat' (first|((with_reducible refine zF ?_);first|refine zE rfl rfl rfl ?_|refine zC rfl rfl rfl ?_|(refine zK rfl rfl rfl ?_;refine ⟨_,rfl,?_⟩)|(refine zQ rfl rfl rfl rfl rfl (fun h=>?_) (fun h=>?_)<;>(dsimp only [cmpP] at h;(try (exfalso;omega))))|refine zV rfl rfl rfl rfl (fun _ _ q=>hcm _) ?_|refine zl rfl rfl rfl rfl rfl (by omega) ?_|refine zo rfl rfl rfl ?_)|(with_reducible first|refine zH ?_|refine zB ?_|refine zD ?_|refine zA ?_|refine zX ?_|refine zT ?_|refine zZ ?_|refine zP ?_|refine zAP ?_)|((with_reducible refine zI ?_ ?_);(· exact rfl))|((with_reducible refine zG ?_ ?_);(· exact rfl))))
   all_goals exact zS (by exact rTm rfl) () trivial rfl (fun _ h=>h.sub (by (repeat constructor)))
 ·obtain rfl:i=a.length:=by omega
  have e:zHM a m=0:=by rw [← hlx,List.drop_length];rfl
  rw [e]
  (repeat' (first|((with_reducible refine zF ?_);first|refine zE rfl rfl rfl ?_|refine zC rfl rfl rfl ?_|(refine zQ rfl rfl rfl rfl rfl (fun h=>?_) (fun h=>?_)<;>(dsimp only [cmpP] at h;(try (exfalso;omega))))|refine zo rfl rfl rfl ?_)|(with_reducible first|refine zH ?_|refine zB ?_|refine zD ?_|refine zA ?_|refine zX ?_|refine zT ?_|refine zk ?_|refine zR ?_|refine zW ?_)|((with_reducible refine zG ?_ ?_);(· exact rfl))))
  all_goals exact zS (by exact rTm rfl) () trivial rfl (fun _ h=>h.sub (by (repeat constructor)))
def ordI (a b:List Int):Int:=if a.length=b.length then zHM a b else (a.length:Int) - b.length
theorem ordI_bef (a b:List Int):ordI a b<0↔befB a b=true:=by
 unfold ordI befB
 split
 ·exact zLV a b
 ·simp;omega
theorem zNe (a:List Int) (A:Option Addr) (ca:Nat) (m:List Int) (B:Option Addr) (cb:Nat) (w:World) (ha:zq encI 1 w A a) (hm:zq encI 1 w B m) (h1:a.length≤1000) (h2:m.length≤1000) :
  Gv Tryz.prog 73 [.slice A a.length ca,.slice B m.length cb] w (.int .i64 (ordI a m)):=by
 have hcm:=fun (hl:a.length=m.length) W (hb:Below w.heap.size w W)=>zKJ a A ca m B cb W (ha.below hb) (hm.below hb) h1 hl
 unfold Gv ordI
 (refine zJ (n:=18) Tryz.func73 rfl rfl rfl ?_)
 by_cases hl:a.length=m.length
 ·rw [if_pos hl]
  have hcm:=hcm hl
  (repeat' (first|((with_reducible refine zF ?_);first|refine zE rfl rfl rfl ?_|refine zC rfl rfl rfl ?_|(refine zQ rfl rfl rfl rfl rfl (fun h=>?_) (fun h=>?_)<;>(dsimp only [cmpP] at h;(try (exfalso;omega))))|refine zV rfl rfl rfl rfl (fun _ _ q=>hcm _ q.below) ?_|refine zo rfl rfl rfl ?_)|(with_reducible first|refine zH ?_|refine zB ?_|refine zD ?_|refine zA ?_|refine zX ?_|refine zT ?_)|((with_reducible refine zG ?_ ?_);(· exact rfl))))
  exact zS (by exact rTm rfl) () trivial rfl (fun _ h=>h.sub (by (repeat constructor)))
 ·rw [if_neg hl]
  (repeat' (first|((with_reducible refine zF ?_);first|refine zE rfl rfl rfl ?_|refine zC rfl rfl rfl ?_|(refine zQ rfl rfl rfl rfl rfl (fun h=>?_) (fun h=>?_)<;>(dsimp only [cmpP] at h;(try (exfalso;omega))))|refine zCC rfl rfl rfl rfl (IntWalk.i64_in _ (by omega)) ?_|refine zo rfl rfl rfl ?_)|(with_reducible first|refine zH ?_|refine zB ?_|refine zD ?_|refine zA ?_|refine zX ?_|refine zZ ?_)|((with_reducible refine zI ?_ ?_);(· exact rfl))))
  exact zS (by exact rTm rfl) () trivial rfl (fun _ h=>h.sub (by (repeat constructor)))
end Go.Proofs.YtdigopgncfhiaaaGreatDoor
namespace Go.Proofs.YtdigopgncfhiaaaGreatDoor
open Go.RowKit
set_option maxRecDepth 20000
def zDb (m x:zx Int):zx Int:=if befB x.xs m.xs=true then x else m
def minS : List (zx Int)→zx Int
 | []=>zAs
 | s::r=>r.foldl zDb s
theorem zK1 : ∀ (r:List (zx Int)) (s:zx Int),r.foldl zDb s=s∨r.foldl zDb s∈r
 | [],s=>.inl rfl
 | x::r,s=>by
  simp only [List.foldl_cons]
  rcases zK1 r (zDb s x) with h|h
  ·rw [h];unfold zDb;split
   ·exact .inr List.mem_cons_self
   ·exact .inl rfl
  ·exact .inr (List.mem_cons_of_mem _ h)
set_option maxHeartbeats 2000000 in
theorem min_any (L:List (zx Int)) (A:Option Addr) (ca:Nat) (w:World) (hL:zCX encI 1 w A L) (h0:0<L.length) (hl:L.length≤100000) (hb:∀ s∈L,s.xs.length≤1000) :
  Gv Tryz.prog 114 [.slice A L.length ca,.func (.func 73) #[] #[]] w (.slice (minS L).A (minS L).xs.length (minS L).c):=by
 have hLp:=hL.p
 obtain ⟨b1,o1,rfl,_,_⟩:=hLp.at_ h0
 have:InS w b1 o1 zp 1 L:=⟨hLp⟩
 obtain ⟨s0,hs0⟩:∃ s,L[0]?=some s:=⟨_,List.getElem?_eq_getElem h0⟩
 have:zAT L 0 s0:=⟨hs0⟩
 have hmin:(L.drop 1).foldl zDb s0=minS L:=by
  cases L with
  | nil=>cases h0
  | cons x r=>cases hs0;rfl
 unfold Gv
 (refine zJ (n:=33) Tryz.func114 rfl rfl rfl ?_)
 (repeat' (first|((with_reducible refine zF ?_);first|refine zE rfl rfl rfl ?_|refine zC rfl rfl rfl ?_|(refine zK rfl rfl rfl ?_;refine ⟨_,rfl,?_⟩)|(refine zQ rfl rfl rfl rfl rfl (fun h=>?_) (fun h=>?_)<;>(dsimp only [cmpP] at h;(try (exfalso;omega))))|refine zl rfl rfl rfl rfl rfl (by omega) ?_|refine zo rfl rfl rfl ?_)|(with_reducible first|refine zH ?_|refine zB ?_|refine zD ?_|refine zA ?_|refine zT ?_|refine zP ?_)|((with_reducible refine zG ?_ ?_);(· exact rfl))))
 refine zw (ι:=Nat × zx Int) [0,1] rfl (fun q=>q.1≤L.length∧q.2∈L∧(L.drop q.1).foldl zDb q.2=minS L) (fun q=>[(6,.int .i64 (q.1:Int)),(5,.slice q.2.A q.2.xs.length q.2.c)]) (fun _=>[]) (fun q=>L.length - q.1) (1,s0) ⟨h0,List.mem_of_getElem? hs0,hmin⟩ (by (repeat first|exact lK1|refine zL rfl ?_)) (by (repeat constructor)) ?_
 rintro ⟨i,s⟩ ⟨hi,hs,hf⟩
 simp only at hi hs hf
 simp only [zAt,List.cons_append,List.nil_append]
 by_cases hlt:i<L.length
 ·obtain ⟨x,hx⟩:∃ x,L[i]?=some x:=⟨_,List.getElem?_eq_getElem hlt⟩
  have:zAT L i x:=⟨hx⟩
  have hxL:=List.mem_of_getElem? hx
  have hord:=fun W (hb':Below w.heap.size w W)=>zNe x.xs x.A x.c s.xs s.A s.c W ((hL.rows x hxL).below hb') ((hL.rows s hs).below hb') (hb x hxL) (hb s hs)
  have hbf:=ordI_bef x.xs s.xs
  rw [show L.drop i=x::L.drop (i+1) by rw [List.drop_eq_getElem_cons hlt];rw [List.getElem?_eq_getElem hlt] at hx;cases hx;rfl,List.foldl_cons] at hf
  generalize ordI x.xs s.xs=z at *
  by_cases hz:z<0
  ·rw [show zDb s x=x by unfold zDb;rw [if_pos (hbf.1 hz)]] at hf
   (repeat' (first|((with_reducible refine zF ?_);first|refine zE rfl rfl rfl ?_|refine zC rfl rfl rfl ?_|(refine zK rfl rfl rfl ?_;refine ⟨_,rfl,?_⟩)|(refine zQ rfl rfl rfl rfl rfl (fun h=>?_) (fun h=>?_)<;>(dsimp only [cmpP] at h;(try (exfalso;omega))))|refine zV rfl rfl rfl rfl (fun _ _ q=>hord _ q.below) ?_|refine zh rfl rfl rfl rfl (by omega) ?_|refine zl rfl rfl rfl rfl rfl (by omega) ?_|refine zo rfl rfl rfl ?_)|(with_reducible first|refine zH ?_|refine zB ?_|refine zD ?_|refine zA ?_|refine zT ?_|refine zP ?_|refine zg ?_)|((with_reducible refine zI ?_ ?_);(· exact rfl))))
   all_goals exact zf (ι:=Nat × zx Int) (i+1,x) (by exact ⟨by omega,hxL,hf⟩) (by simp only;omega) (by (repeat first|exact lK1|refine zL rfl ?_)) (by (repeat constructor))
  ·rw [show zDb s x=s by unfold zDb;rw [if_neg (fun e=>hz (hbf.2 e))]] at hf
   (repeat' (first|((with_reducible refine zF ?_);first|refine zE rfl rfl rfl ?_|refine zC rfl rfl rfl ?_|(refine zK rfl rfl rfl ?_;refine ⟨_,rfl,?_⟩)|(refine zQ rfl rfl rfl rfl rfl (fun h=>?_) (fun h=>?_)<;>(dsimp only [cmpP] at h;(try (exfalso;omega))))|refine zV rfl rfl rfl rfl (fun _ _ q=>hord _ q.below) ?_|refine zh rfl rfl rfl rfl (by omega) ?_|refine zl rfl rfl rfl rfl rfl (by omega) ?_|refine zo rfl rfl rfl ?_)|(with_reducible first|refine zH ?_|refine zB ?_|refine zD ?_|refine zA ?_|refine zT ?_|refine zP ?_|refine zg ?_)|((with_reducible refine zI ?_ ?_);(· exact rfl))|((with_reducible refine zG ?_ ?_);(· exact rfl))))
   all_goals exact zf (ι:=Nat × zx Int) (i+1,s) (by exact ⟨by omega,hs,hf⟩) (by simp only;omega) (by (repeat first|exact lK1|refine zL rfl ?_)) (by (repeat constructor))
 ·obtain rfl:i=L.length:=by omega
  rw [List.drop_length,List.foldl_nil] at hf
  rw [← hf]
  (repeat' (first|((with_reducible refine zF ?_);first|refine zE rfl rfl rfl ?_|refine zC rfl rfl rfl ?_|(refine zQ rfl rfl rfl rfl rfl (fun h=>?_) (fun h=>?_)<;>(dsimp only [cmpP] at h;(try (exfalso;omega))))|refine zo rfl rfl rfl ?_)|(with_reducible first|refine zH ?_|refine zB ?_|refine zD ?_|refine zA ?_|refine zX ?_|refine zk ?_|refine zR ?_|refine zW ?_)|((with_reducible refine zG ?_ ?_);(· exact rfl))))
  exact zS (by exact rTm rfl) () trivial rfl (fun _ h=>h.sub (by (repeat constructor)))
theorem zJW (L:List (zx Int)) (A:Option Addr) (ca:Nat) (w:World) (hL:zCX encI 1 w A L) (hl:L.length≤100000) (hb:∀ s∈L,s.xs.length≤1000) :
  Gv Tryz.prog 72 [.slice A L.length ca,.func (.func 73) #[] #[]] w (.tuple #[.slice (minS L).A (minS L).xs.length (minS L).c,.bool (decide (0<L.length))]):=by
 unfold Gv
 by_cases h0:0<L.length
 ·have hm:=fun W (hb':Below w.heap.size w W)=>min_any L A ca W (hL.below hb') h0 hl hb
  rw [decide_eq_true h0]
  (refine zJ (n:=14) Tryz.func72 rfl rfl rfl ?_)
  (repeat' (first|((with_reducible refine zF ?_);first|refine zE rfl rfl rfl ?_|refine zC rfl rfl rfl ?_|(refine zQ rfl rfl rfl rfl rfl (fun h=>?_) (fun h=>?_)<;>(dsimp only [cmpP] at h;(try (exfalso;omega))))|refine zV rfl rfl rfl rfl (fun _ _ q=>hm _ q.below) ?_|refine zo rfl rfl rfl ?_)|(with_reducible first|refine zH ?_|refine zB ?_|refine zD ?_|refine zA ?_|refine zX ?_|refine zT ?_)|((with_reducible refine zG ?_ ?_);(· exact rfl))))
  exact zS (by (exact zi.cons (by exact zAR.tmp rfl) (zi.cons (by exact zAR.tmp rfl) zi.nil))) () trivial rfl (fun _ h=>h.sub (by (repeat constructor)))
 ·obtain rfl:L=[]:=List.eq_nil_of_length_eq_zero (by omega)
  rw [show minS []=zAs from rfl]
  (refine zJ (n:=14) Tryz.func72 rfl rfl rfl ?_)
  (repeat' (first|((with_reducible refine zF ?_);first|refine zE rfl rfl rfl ?_|refine zC rfl rfl rfl ?_|(refine zQ rfl rfl rfl rfl rfl (fun h=>?_) (fun h=>?_)<;>(dsimp only [cmpP] at h;(try (exfalso;omega))))|refine zo rfl rfl rfl ?_)|(with_reducible first|refine zH ?_|refine zB ?_|refine zD ?_|refine zA ?_|refine zX ?_|refine zZ ?_)|((with_reducible refine zI ?_ ?_);(· exact rfl))))
  all_goals exact zS (by (exact zi.cons (by exact zAR.tmp rfl) (zi.cons (by exact zAR.tmp rfl) zi.nil))) () trivial rfl (fun _ h=>h.sub (by (repeat constructor)))
end Go.Proofs.YtdigopgncfhiaaaGreatDoor
namespace Go.Proofs.YtdigopgncfhiaaaGreatDoor
variable {ro : Option Nat}
open Go.RowKit
set_option maxRecDepth 20000
def lessX (m x:List Int):List Int:=if befB x m=true then x else m
def minX : List (List Int)→Option (List Int)
 | []=>none
 | s::r=>some (r.foldl lessX s)
theorem zLI : ∀ (r:List (zx Int)) (s:zx Int),(r.foldl zDb s).xs=(r.map (·.xs)).foldl lessX s.xs
 | [],s=>rfl
 | x::r,s=>by
  simp only [List.foldl_cons,List.map_cons]
  rw [zLI r]
  congr 1
  unfold zDb lessX;split<;>rfl
theorem minS_xs {L:List (zx Int)} (h:0<L.length):minX (L.map (·.xs))=some (minS L).xs:=by
 cases L with
 | nil=>cases h
 | cons s r=>simp only [minS,List.map_cons,minX,zLI]
theorem minS_in {L:List (zx Int)} (h:0<L.length):minS L∈L:=by
 cases L with
 | nil=>cases h
 | cons s r =>
  rcases zK1 r s with h|h
  ·show r.foldl zDb s∈s::r
   rw [h];exact List.mem_cons_self
  ·exact List.mem_cons_of_mem _ h
def zGc (c:Cov) (h m:Nat):Bool:=decide (0<zHs (zAk c) (zFl c) (zBM c) h m)
def zDD (c:Cov) (h k:Nat):List (List Int):=((List.range k).filter (zGc c h)).map fun m=>zF4 m h
theorem zNV {c:Cov} {h k:Nat} (hb:zGc c h k=true):zDD c h (k+1)=zDD c h k++[zF4 k h]:=by
 simp [zDD,List.range_succ,List.filter_append,hb]
theorem setsX_no {c:Cov} {h k:Nat} (hb:zGc c h k=false):zDD c h (k+1)=zDD c h k:=by
 simp [zDD,List.range_succ,List.filter_append,hb]
theorem zNW (c:Cov) (h k:Nat):(zDD c h k).length≤k:=by
 have:=List.length_filter_le (zGc c h) (List.range k)
 simpa [zDD] using this
def shortF (c:Cov):Nat→Nat→Int × List Int × Int
 | 0,_=>(0,[],6)
 | n+1,h=>match minX (zDD c h (2 ^ h)) with
  | some l=>((h:Int),l,0)
  | none=>shortF c n (h+1)
theorem zKX {c:Cov} {n h:Nat} {l:List Int} (e:minX (zDD c h (2 ^ h))=some l):shortF c (n+1) h=((h:Int),l,0):=by simp [shortF,e]
theorem zKY {c:Cov} {n h:Nat} (e:minX (zDD c h (2 ^ h))=none):shortF c (n+1) h=shortF c n (h+1):=by simp [shortF,e]
def zEn (c:Cov):Int × List Int × Int:=if zAm c=0 then shortF c c.hours.length 0 else (0,[],zAm c)
theorem zDc {nd nd':Nat→Int} {my sm:Nat→Bool}:∀ k,(∀ h,h<k→nd h=nd' h)→Flow.lackF nd my sm k=Flow.lackF nd' my sm k
 | 0,_=>rfl
 | k+1,h=>by
  have ih:=zDc (nd:=nd) (nd':=nd') (my:=my) (sm:=sm) k (fun i hi=>h i (by omega))
  have hk:=h k (by omega)
  simp only [Flow.lackF,ih,hk]
theorem zAJ {f g:Nat→Int}:∀ k:Nat,(∀ i,i<k→f i=g i)→Flow.sumL (List.range k) f=Flow.sumL (List.range k) g
 | 0,_=>rfl
 | k+1,h=>by rw [Flow.zAq,Flow.zAq,zAJ k (fun i hi=>h i (by omega)),h k (by omega)]
section
variable {P : Program} {w0:World} {n:Nat} {d:List Deferred} {R:List (Nat × Value)} {H H' H1 H2 H3:List Ent} {Q:Exit→Act→World→Prop} {X:Act→World→Prop} {ops:Array Oper} {rest:List Oper} {o:Oper} {t:Tmp} {x y:Operand} {v:Value}
theorem zNJ {α:Type} (enc:α→List Value) {k:Nat} {T1 e:TypeId} {i:TypeInfo} {z:Value} {n0 s:Nat} {g:Bool} (hop:o.op = .makeSlice T1 x y) [i1:TyI P T1 (.slice e) s g] (hi:P.info? e=some i) (hz:i.zero=some z) (h1:i.size=k) (hb:Nat.ble (i.bytes * 1000) 281474976710656=true) (hrd:rdy R ops n o=some t) (hx:evR R x=some (.int .i64 0)) (hy:evR R y=some (.int .i64 (n0:Int))) (hn:n0≤1000)
  (h:∀ b,U w0 n d ((t,.slice (some ⟨b,0,none⟩) 0 n0)::R) (.row enc k e (.slice (some ⟨b,0,none⟩) 0 n0) ([]:List α)::H) (wpL ro P ops Q rest)):U w0 n d R H (wpL ro P ops Q (o::rest)) :=
 zDh (rW hrd) fun a w q K1 hK=>by
  have hb':i.bytes * n0≤281474976710656:=by
   have h9:=Nat.le_of_ble_eq_true hb
   have h8:i.bytes * n0≤i.bytes * 1000:=Nat.mul_le_mul_left _ hn
   omega
  obtain ⟨w',hr,ho,hg⟩:=run_make_own (P:=P) w w.heap.size T1 e i z k i1.und hi hz h1 .i64 .i64 n0 hb' (by simp [maxLen];omega) (Nat.le_refl _)
  have hlt:=World.ownsRow.lt ho w.heap.size rfl
  unfold Oper.wp execOp;rw [hop]
  simp only [Sem.run_bind,q.ev hx,q.ev hy,hr,Result.andThen_ok,Sem.run_pure,Oper.upon_value,(rD hrd)]
  refine hK _ _ (h w.heap.size _ _ ((q.call (E:=[.row enc k e (.slice (some ⟨w.heap.size,0,none⟩) 0 n0) ([]:List α)]) (zHK (Below.refl _ _) hg (fun g h=>by cases h) (Nat.le_refl _)) ⟨fun f hf=>?_,fun f hf b hb=>?_,by simp⟩).put (rT hrd)))
  ·simp only [List.mem_singleton] at hf
   subst hf
   obtain ⟨h3,h4⟩:=ho
   refine ⟨h3,?_⟩
   rcases h4 with h4 | ⟨g,cap,cur,e1,_,h5⟩
   ·exact .inl h4
   ·exact .inr ⟨g,cap,cur,e1,Nat.zero_le _,h5⟩
  ·simp only [List.mem_singleton] at hf;subst hf;cases hb
   exact hlt
theorem zNL {β:Type} {f:β→Ent} {L:List β} {s:β} (ht:Take H (f s) H1) (ht1:Take H1 (.all (L.map f)) H2) (h:U w0 n d R (.all ((L++[s]).map f)::H2) X):U w0 n d R H X :=
 zEj (H':=.all ((L++[s]).map f)::H2) (fun w h0=>by
  have h1:=(h0.take ht)
  have h2:=h1.take (Take.there _ ht1)
  have h3:Own w0.heap.size w ((L.map f)++(f s::H2)):=zBI.2 h2
  refine zBI.1 ?_
  rw [List.map_append,List.append_assoc]
  exact h3) h
theorem u_allNil {β:Type} (f:β→Ent) (h:U w0 n d R (.all (([]:List β).map f)::H) X):U w0 n d R H X :=
 zEj (H':=.all (([]:List β).map f)::H) (fun w h0=>(zBI (L:=[])).1 h0) h
theorem zKu {β:Type} {f:β→Ent} {L:List β} {s:β} {base:Nat} {w:World} (hs:s∈L) (ht:Take H (.all (L.map f)) H1) (h:Own base w H):Own base w (f s::H1):=by
 obtain ⟨i,hi⟩:=List.getElem?_of_mem hs
 have h1:Own base w (L.map f++H1):=zBI.2 (h.take ht)
 have hp:(L.map f++H1).Perm (f s::((L.eraseIdx i).map f++H1)):=List.Perm.append_right H1 ((zEZ hi).map f)
 have h2:=h1.perm hp
 refine ⟨fun e he=>?_,fun e he=>?_,?_⟩
 ·refine h2.here e ?_
  rcases List.mem_cons.1 he with he|he
  ·exact List.mem_cons.2 (.inl he)
  ·exact List.mem_cons.2 (.inr (List.mem_append.2 (.inr he)))
 ·refine h2.foot e ?_
  rcases List.mem_cons.1 he with he|he
  ·exact List.mem_cons.2 (.inl he)
  ·exact List.mem_cons.2 (.inr (List.mem_append.2 (.inr he)))
 ·refine h2.apart.sublist (List.Sublist.cons_cons _ (List.sublist_append_right _ _))
theorem zKU {α:Type} {enc:α→List Value} {k e e2 m c base:Nat} [ei:zBw enc k] {A:Option Addr} {L:List (zx α)} {w:World} (h:Own base w H) (ht:Take H (.row zp 1 e2 (.slice A m c) L) H1) (ht2:Take H (.all (L.map (rowOf enc k e))) H2):zCX enc k w A L:=by
 refine ⟨zDj h ht,fun s hs=>?_⟩
 have h1:Own 0 w (L.map (rowOf enc k e)):=h.here _ ht2.mem
 exact (zDC ei.len (h1.here _ (List.mem_map_of_mem hs):Row enc k e 0 w (.slice s.A s.xs.length s.c) s.xs)).2
theorem row_cap {α:Type} {enc:α→List Value} {k e base m c:Nat} {A:Option Addr} {xs:List α} {w:World} (h:Row enc k e base w (.slice A m c) xs):xs.length≤c:=by
 obtain ⟨_,h2⟩:=h
 rcases h2 with ⟨h1,h0⟩ | ⟨g,cap,cur,h1,_,_,hc,_⟩
 ·rw [h0];omega
 ·cases h1;exact hc
end
end Go.Proofs.YtdigopgncfhiaaaGreatDoor
