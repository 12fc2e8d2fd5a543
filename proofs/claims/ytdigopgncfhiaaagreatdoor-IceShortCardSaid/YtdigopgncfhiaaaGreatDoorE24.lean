/- E24 -/
import Derived.Test.YtdigopgncfhiaaaGreatDoorE22
import Derived.Test.YtdigopgncfhiaaaGreatDoorE13
import Derived.Test.YtdigopgncfhiaaaGreatDoorE23
import Derived.Test.YtdigopgncfhiaaaGreatDoorE17
set_option linter.unusedSimpArgs false
set_option linter.unusedVariables false
namespace Go.Proofs.YtdigopgncfhiaaaGreatDoor
open Go.RowKit
set_option maxRecDepth 20000
def zBp : Cov:=⟨[],[],[],⟨0,0⟩,⟨0,0⟩,0,0,0⟩
def zBE (z:Bed) (th:Sp):Bed:={ z with thick:=⟨max z.thick.lo th.lo,min z.thick.hi th.hi⟩ }
def zJZ (c:Cov) (th:Sp):List Int→Cov × Int
 | [p]=>if p=(c.beds.length:Int) then (zBp,6)
  else if (zBE (c.beds.getD p.toNat default) th).thick.hi<(zBE (c.beds.getD p.toNat default) th).thick.lo then (zBp,8)
  else ({ c with beds:=c.beds.set p.toNat (zBE (c.beds.getD p.toNat default) th) },0)
 | _=>(zBp,6)
def zCC (c:Cov) (a:Int) (th:Sp):Cov × Int :=
 if zAm c=0 then
  if zG6 c.t a=0∧zBB th 0 2000=true then zJZ c th (zB9 c.t a) else (zBp,2)
 else (zBp,zAm c)
theorem zL3 {t:List St} {a:Int}:∀ p∈zB9 t a,∃ i:Nat,p=(i:Int)∧i≤t.length:=fun p hp=>by
 unfold zB9 at hp
 split at hp
 ·obtain ⟨i,hi,rfl⟩:=List.mem_map.1 hp
  have h1:=List.mem_range.1 (List.mem_filter.1 hi).1
  have:=zFo t
  exact ⟨i,rfl,by omega⟩
 ·cases hp
theorem zDo {base:Nat} {w:World}:Own base w [.sl zA5 9 none [],.sl zAd 3 none [],.sl zq 5 none []]:=by
 refine ⟨fun e he=>?_,fun e he b hb=>?_,?_⟩
 ·simp only [List.mem_cons,List.not_mem_nil,or_false] at he
  rcases he with rfl|rfl|rfl<;>(intro i x hx;cases hx)
 ·simp only [List.mem_cons,List.not_mem_nil,or_false] at he
  rcases he with rfl|rfl|rfl<;>(obtain ⟨o,h⟩:=hb;cases h)
 ·refine List.Pairwise.cons (fun e _ b hb=>?_) (List.Pairwise.cons (fun e _ b hb=>?_) (List.Pairwise.cons (fun e _ b hb=>?_) List.Pairwise.nil))<;>(obtain ⟨o,h⟩:=hb;cases h)
theorem clone_be (t:List Bed) (A:Option Addr) (c:Nat) (w:World) (ht:zx zAd 3 w A t) (h0:0<t.length) (hl:t.length≤1000) :
  Ret Tryz.prog 82 [.slice A t.length c] w (fun p:Option Addr × Nat=>.slice p.1 t.length p.2) (fun p=>[.row zAd 3 73 (.slice p.1 t.length p.2) t]) (fun _=>True):=by
 obtain ⟨bb,o,rfl,_⟩:=ht.at_ h0
 (refine zL (n:=8) Tryz.func82 rfl rfl rfl ?_)
 (repeat' (first|((with_reducible refine zG ?_);first|refine zE rfl rfl rfl rfl rfl ?_|refine zC rfl rfl rfl rfl rfl ?_|refine zIZ rfl rfl rfl rfl rfl rfl ?_|(refine zC7 zAd rfl rfl rfl rfl (fun b=>?_))|(refine zBT (enc:=zAd) t rfl rfl rfl rfl rfl (by (repeat (first|exact tK1 _ _|apply tK2))) rfl rfl (zGM ht) (by refine ⟨?_,by decide⟩;(try simp only [List.length_append,List.length_cons,List.length_nil]);omega) (fun A' c'=>?_)))|(with_reducible first|refine zH ?_|refine zB ?_|refine zD ?_|refine zA ?_|refine zc ?_|refine zS ?_)|((with_reducible refine zF ?_ ?_);(· exact rfl))))
 exact zV (by (exact zO.cons (by exact zn.tmp rfl) zO.nil)) (A',c') trivial rfl (fun _ h=>h.sub (by (repeat (first|exact oK1 _|(refine oK2 (by (repeat (first|exact tK1 _ _|apply tK2))) ?_)))))
theorem clone_st (t:List St) (A:Option Addr) (c:Nat) (w:World) (ht:zx zA5 9 w A t) (h0:0<t.length) (hl:t.length≤1000) :
  Ret Tryz.prog 81 [.slice A t.length c] w (fun p:Option Addr × Nat=>.slice p.1 t.length p.2) (fun p=>[.row zA5 9 86 (.slice p.1 t.length p.2) t]) (fun _=>True):=by
 obtain ⟨bb,o,rfl,_⟩:=ht.at_ h0
 (refine zL (n:=8) Tryz.func81 rfl rfl rfl ?_)
 (repeat' (first|((with_reducible refine zG ?_);first|refine zE rfl rfl rfl rfl rfl ?_|refine zC rfl rfl rfl rfl rfl ?_|refine zIZ rfl rfl rfl rfl rfl rfl ?_|(refine zC7 zA5 rfl rfl rfl rfl (fun b=>?_))|(refine zBT (enc:=zA5) t rfl rfl rfl rfl rfl (by (repeat (first|exact tK1 _ _|apply tK2))) rfl rfl (zGM ht) (by refine ⟨?_,by decide⟩;(try simp only [List.length_append,List.length_cons,List.length_nil]);omega) (fun A' c'=>?_)))|(with_reducible first|refine zH ?_|refine zB ?_|refine zD ?_|refine zA ?_|refine zc ?_|refine zS ?_)|((with_reducible refine zF ?_ ?_);(· exact rfl))))
 exact zV (by (exact zO.cons (by exact zn.tmp rfl) zO.nil)) (A',c') trivial rfl (fun _ h=>h.sub (by (repeat (first|exact oK1 _|(refine oK2 (by (repeat (first|exact tK1 _ _|apply tK2))) ?_)))))
end Go.Proofs.YtdigopgncfhiaaaGreatDoor
namespace Go.Proofs.YtdigopgncfhiaaaGreatDoor.Two
variable {ro : Option Nat}
open Go.RowKit
set_option maxRecDepth 20000
section
variable {S : List (Nat × Nat)} {I:List (Nat × Nat × Nat × List Ent)} {P:Program} {w0:World} {n:Nat} {d:List Deferred} {R R0:List (Nat × Value)} {H H' H0:List Ent} {Q:Exit→Act→World→Prop} {ops:Array Oper} {bs:List (List Bool)} {b:List Bool} {k:Nat} {o:Oper} {rest:List Oper} {T:List Rw} {t:Tmp} {Hk:zBO→List Ent} {x y:Operand} {v:Value}
theorem zHp {α:Type} {enc:α→List Value} {kk e:Nat} {zs:List α} {f:FuncId} {fx:Operand} {xs:Array Operand} {ts:Array TypeId} {vs:zBO→List Value} {cap:Array Value} (hop:o.op = .call ⟨.value fx,xs,ts⟩) (hw:∀ G,want (Rk R0 ops b o T G) ops o=some true) (hd:o.dst=some t) (hf:∀ G,evR (Rk R0 ops b o T G) fx=some (.func (.func f) #[] cap)) (hx:∀ G,evs (Rk R0 ops b o T G) xs.toList=some (vs G)) [ci:zZ P f]
  (hc:∀ G a w,Kn w0 n d (Rk R0 ops b o T G) (Hk G) a w→Ret P f (vs G++cap.toList) w (fun p:Option Addr × Nat=>.slice p.1 zs.length p.2) (fun p=>[.row enc kk e (.slice p.1 zs.length p.2) zs]) (fun _=>True)) (h:zBt ro S I P w0 n d ops R0 H0 Q bs (k+1) rest (⟨k,some t,fun G=>(.slice (G k).A zs.length (G k).m,[.row enc kk e (.slice (G k).A zs.length (G k).m) zs])⟩::T)):CAt ro S I P w0 n d ops R0 H0 Q b bs k o rest T Hk:=by
 refine zGG (f:=fun G=>(.slice (G k).A zs.length (G k).m,[.row enc kk e (.slice (G k).A zs.length (G k).m) zs])) (fun G G' hG=>by simp only [hG k (.inl rfl)]) (fun G a w q K hK=>?_) (by rw [hd];exact h)
 rw [zBq q (hw G),if_pos rfl]
 unfold Oper.wp execOp;rw [hop]
 have e1:xs.map a.eval=(vs G).toArray:=by apply Array.ext';simpa using q.evs (hx G)
 have e2:(vs G).toArray++cap=(vs G++cap.toList).toArray:=by apply Array.ext';simp
 simp only [resolve,q.ev (hf G),e1,Deferred.ofValue,Sem.run_bind,Sem.run_pure,Result.andThen_ok,invoke,Array.empty_append,e2,ci.ent,Oper.upon_enter]
 refine Calls.mono (hc G a w q).calls ?_
 rintro e w' ⟨⟨A,m⟩,hp,rfl,hb,hE⟩
 exact hK _ _ _ ⟨⟨0,A,m⟩,by simp [upW]⟩ hb hE
end
set_option maxHeartbeats 8000000 in
theorem zJO (c:Cov) (A:Option Addr) (ca:Nat) (B:Option Addr) (cb:Nat) (C:Option Addr) (cc:Nat) (a:Int) (th:Sp) (w:World) (h:zAk w c A B C) (hs:Small c) :
  Ret Tryz.prog 39 [zAI c A ca B cb C cc,.int .i64 a,vSp th] w (fun p:(Option Addr × Nat) × (Option Addr × Nat) × (Option Addr × Nat)=>.tuple #[zAI (zCC c a th).1 p.1.1 p.1.2 p.2.1.1 p.2.1.2 p.2.2.1 p.2.2.2,.int .i64 (zCC c a th).2]) (fun p=>[.sl zA5 9 p.1.1 (zCC c a th).1.t,.sl zAd 3 p.2.1.1 (zCC c a th).1.beds,.sl zq 5 p.2.2.1 (zCC c a th).1.hours]) (fun _=>True):=by
 have h4:=hs.b;have h5:=hs.h
 by_cases h0:zAm c=0
 ·have hf:=zBi h0
  have hv:valid c.t=true:=by
   cases hv:valid c.t with
   | true=>rfl
   | false=>unfold zAm at h0;rw [hv] at h0;simp at h0
  have hvl:=zEM hv
  have hbl:=zJg h0
  have hbt:=hf.beds
  have hh1:=hf.hours
  rw [zAL] at hh1
  have h1:=fun W (hb:Below w.heap.size w W)=>zDr c A ca B cb C cc W (h.below hb) hs h0
  have h2:=fun W (hb:Below w.heap.size w W)=>zKL c.t A ca a W (h.t.below hb) hs.fit (by omega)
  have h3:=fun W (hb:Below w.heap.size w W)=>clone_st c.t A ca W (h.t.below hb) (by omega) (by omega)
  have h6:=fun W (hb:Below w.heap.size w W)=>clone_be c.beds B cb W (h.b.below hb) (by omega) (by omega)
  have h7:=fun W (hb:Below w.heap.size w W)=>zMr c.hours C cc W (h.h.below hb) (by omega) (by omega)
  have hpi:=zL3 (t:=c.t) (a:=a)
  have hX:zCC c a th=if zG6 c.t a=0∧zBB th 0 2000=true then zJZ c th (zB9 c.t a) else (zBp,2):=by unfold zCC;rw [if_pos h0]
  generalize zCC c a th=dx at *
  generalize zG6 c.t a=ep at *
  generalize zB9 c.t a=l at *
  have e1:zAI c A ca B cb C cc = .agg (zJ c A ca B cb C cc).toArray:=rfl
  rw [e1] at h1 ⊢
  unfold vT at h2
  unfold zJ at h1 ⊢
  (refine zL (n:=107) Tryz.func39 rfl rfl rfl ?_)
  (repeat' (first|((with_reducible refine zG ?_);first|refine zE rfl rfl rfl rfl rfl ?_|refine zC rfl rfl rfl rfl rfl ?_|(refine zK rfl rfl rfl rfl rfl ?_;refine ⟨_,rfl,?_⟩)|refine za rfl rfl rfl rfl rfl ?_|refine zz rfl rfl rfl rfl rfl rfl ?_|refine zg rfl rfl rfl ?_|(refine zU rfl rfl rfl rfl rfl rfl rfl (fun h=>?_) (fun h=>?_)<;>(dsimp only [cmpP] at h;(try (exfalso;omega))))|(refine zAN rfl rfl rfl rfl rfl rfl (fun _ _ q=>h1 _ q.below) ?_;rintro g -;dsimp only [List.cons_append,List.nil_append])|refine zB8 rfl rfl rfl rfl rfl rfl (fun _ _ q=>h2 _ q.below) (fun A' c'=>?_)|(refine zAY rfl rfl rfl rfl rfl rfl (fun _ _ q=>zCB th 0 2000 _) (fun h=>?_) (fun h=>?_)<;>skip)|refine zd rfl rfl rfl rfl rfl rfl ?_|refine zAH rfl rfl rfl rfl rfl ?_|(refine ze rfl rfl rfl rfl rfl ?_;refine And.intro rfl (And.intro (by first|decide|exact Nat.le_of_ble_eq_true rfl|(simp;omega)) ⟨_,rfl,?_⟩))|(refine zm rfl rfl rfl rfl (fun b=>?_))|(refine zt rfl rfl rfl rfl rfl rfl (fun b=>?_))|(refine zA7 rfl rfl rfl rfl rfl ?_;refine ⟨_,rfl,?_⟩))|(with_reducible first|refine zH ?_|refine zB ?_|refine zD ?_|refine zA ?_|refine zc ?_|refine zS ?_|refine zY ?_)|((with_reducible refine zI ?_ ?_);(· exact rfl))|((with_reducible refine zF ?_ ?_);(· exact rfl))))
  ·rw [show dx=(zBp,2) by rw [hX,if_neg (fun e=>h e.1)]]
   exact zV (by (exact zO.cons (by exact res1c rfl (by exact rfl)) (zO.cons (by exact zn.tmp rfl) zO.nil))) ((none,0),(none,0),none,0) trivial rfl (fun _ h=>zDo)
  ·rename_i b3 b5 x1 hne
   obtain ⟨b6,hb6⟩:∃ x,x=b:=⟨_,rfl⟩
   subst hb6
   have hep:ep=0:=by omega
   rw [if_pos ⟨hep,h⟩] at hX
   rcases l with _ | ⟨p,_ | ⟨p2,r⟩⟩
   ·rw [show dx=(zBp,6) from hX]
    simp only [List.length_nil]
    (refine zAy (by kernel_rfl) (by kernel_rfl) (by kernel_rfl) ?_)
    (repeat' (first|((with_reducible refine zBV ?_);first|refine zN (zAe rfl rfl) rfl rfl rfl ?_|refine zN (zCU rfl rfl rfl) rfl rfl rfl ?_|refine zAv rfl rfl rfl ?_|(refine zDU rfl rfl rfl rfl rfl rfl rfl (fun h=>?_) (fun h=>?_)<;>(dsimp only [cmpP] at h;(try (exfalso;omega))))|refine zN (zCy rfl rfl) rfl rfl rfl ?_)|(with_reducible refine zB6 ?_)))
    all_goals (repeat' (first|((with_reducible refine zG ?_);first|refine zC rfl rfl rfl rfl rfl ?_|(refine ze rfl rfl rfl rfl rfl ?_;refine And.intro rfl (And.intro (by first|decide|exact Nat.le_of_ble_eq_true rfl|(simp;omega)) ⟨_,rfl,?_⟩))|(refine zA7 rfl rfl rfl rfl rfl ?_;refine ⟨_,rfl,?_⟩))|(with_reducible first|refine zH ?_|refine zB ?_|refine zD ?_|refine zA ?_|refine zc ?_|refine zY ?_)|((with_reducible refine zI ?_ ?_);(· exact rfl))))
    all_goals exact zV (by (exact zO.cons (by exact res1c rfl (by exact rfl)) (zO.cons (by exact zn.tmp rfl) zO.nil))) ((none,0),(none,0),none,0) trivial rfl (fun _ h=>zDo)
   ·obtain ⟨i,rfl,hi⟩:=hpi p (by simp)
    simp only [zJZ] at hX
    refine zGg (xs:=[(i:Int)]) (by (repeat (first|exact tK1 _ _|apply tK2))) (by simp) ?_
    rintro b9 o9 rfl
    have:zAU [(i:Int)] 0 (i:Int):=⟨rfl⟩
    simp only [List.length_cons,List.length_nil]
    by_cases hie:i=c.beds.length
    ·rw [show dx=(zBp,6) by rw [hX,if_pos (by omega)]]
     (refine zAy (by kernel_rfl) (by kernel_rfl) (by kernel_rfl) ?_)
     (repeat' (first|((with_reducible refine zBV ?_);first|refine zN (zAe rfl rfl) rfl rfl rfl ?_|refine zN (zAE rfl rfl (by exact rfl)) rfl rfl rfl ?_|refine zN (zAP rfl rfl) rfl rfl rfl ?_|refine zN (zCU rfl rfl rfl) rfl rfl rfl ?_|(refine zDU rfl rfl rfl rfl rfl rfl rfl (fun h=>?_) (fun h=>?_)<;>(dsimp only [cmpP] at h;(try (exfalso;omega))))|refine zN (zAQ (I:=0) rfl rfl rfl (by omega) (by first|omega|(dsimp only;omega))) rfl rfl rfl ?_|refine zN (zCy rfl rfl) rfl rfl rfl ?_)|(with_reducible refine zB6 ?_)))
     all_goals (repeat' (first|((with_reducible refine zG ?_);first|refine zC rfl rfl rfl rfl rfl ?_|(refine ze rfl rfl rfl rfl rfl ?_;refine And.intro rfl (And.intro (by first|decide|exact Nat.le_of_ble_eq_true rfl|(simp;omega)) ⟨_,rfl,?_⟩))|(refine zA7 rfl rfl rfl rfl rfl ?_;refine ⟨_,rfl,?_⟩))|(with_reducible first|refine zH ?_|refine zB ?_|refine zD ?_|refine zA ?_|refine zc ?_|refine zY ?_)|((with_reducible refine zI ?_ ?_);(· exact rfl))))
     all_goals exact zV (by (exact zO.cons (by exact res1c rfl (by exact rfl)) (zO.cons (by exact zn.tmp rfl) zO.nil))) ((none,0),(none,0),none,0) trivial rfl (fun _ h=>zDo)
    ·rw [if_neg (by omega)] at hX
     obtain ⟨z,hz⟩:∃ z,c.beds[i]?=some z:=⟨_,List.getElem?_eq_getElem (by omega)⟩
     simp only [Int.toNat_natCast,zAh hz] at hX
     (refine zAy (by kernel_rfl) (by kernel_rfl) (by kernel_rfl) ?_)
     (repeat' (first|((with_reducible refine zBV ?_);first|refine zN (zAe rfl rfl) rfl rfl rfl ?_|refine zN (zAE rfl rfl (by exact rfl)) rfl rfl rfl ?_|refine zN (zAP rfl rfl) rfl rfl rfl ?_|refine zN (zCU rfl rfl rfl) rfl rfl rfl ?_|(refine zDU rfl rfl rfl rfl rfl rfl rfl (fun h=>?_) (fun h=>?_)<;>(dsimp only [cmpP] at h;(try (exfalso;omega))))|refine zN (zAQ (I:=0) rfl rfl rfl (by omega) (by first|omega|(dsimp only;omega))) rfl rfl rfl ?_|refine zN (zCy rfl rfl) rfl rfl rfl ?_)|(with_reducible refine zB6 ?_)))
     all_goals (repeat' (first|((with_reducible refine zG ?_);first|refine zE rfl rfl rfl rfl rfl ?_|(refine zK rfl rfl rfl rfl rfl ?_;refine ⟨_,rfl,?_⟩)|refine za rfl rfl rfl rfl rfl ?_|(refine ze rfl rfl rfl rfl rfl ?_;refine And.intro rfl (And.intro (by first|decide|exact Nat.le_of_ble_eq_true rfl|(simp;omega)) ⟨_,rfl,?_⟩))|(refine zm rfl rfl rfl rfl (fun b=>?_))|refine zBM rfl rfl rfl rfl rfl ?_)|(with_reducible first|refine zH ?_|refine zB ?_|refine zD ?_|refine zA ?_|refine zS ?_)|((with_reducible refine zF ?_ ?_);(· exact rfl))))
     (refine zA8 [] [] [] rfl (by decide) (fun _ h=>h) (by kernel_rfl) [[],[Z],[Z,Z],[Z,Z,Z],[Y,Y,Y,Y],[Z,Y,Y,Y,Y],[Z,Z,Z,Z,Z,Z],[Y,Y,Y,Y,Y,Y,Y],[Z,Y,Y,Y,Y,Y,Y,Y],[Z,Z,Z,Z,Z,Z,Z,Z,Z],[Y,Y,Y,Y,Y,Y,Z,Z,Z,Z],[Z,Y,Y,Y,Y,Y,Y,Z,Z,Z,Z],[Z,Z,Z,Z,Z,Z,Z,Z,Z,Z,Z,Z],[Z,Z,Z,Z,Z,Z,Z,Z,Z,Z,Z,Z,Z],[Z,Z,Z,Z,Z,Z,Z,Z,Z,Z,Z,Z,Z,Z],[Z,Z,Z,Z,Z,Z,Z,Z,Z,Z,Z,Z,Z,Z,Z],[Z,Z,Z,Z,Z,Z,Z,Z,Z,Z,Z,Z,Z,Z,Z,Z]] (by kernel_rfl) (by kernel_rfl) (by kernel_rfl) (by kernel_rfl) (by kernel_rfl) ?_)
     (repeat' (first|(((with_reducible refine zDz ?_ ?_);(· exact rfl);refine ⟨_,fun G=>(by (try simp (decide:=true) only [vis,see,fltT,zAT,Nat.reduceAdd,Nat.reduceSub,if_true,if_false,List.set_cons_zero,List.set_cons_succ,List.set_nil,List.nil_append,List.cons_append]);rfl),?_⟩);first|refine zo _ (fun _=>zAE rfl rfl (by exact rfl)) (fun _=>rfl) rfl (by first|exact fun _ _ _=>rfl|(intro G G' h;simp (decide:=true) only [h])) ?_|(refine zAw rfl ?_;refine zo _ (fun _=>zAP rfl rfl) (fun _=>rfl) rfl (by first|exact fun _ _ _=>rfl|(intro G G' h;simp (decide:=true) only [h])) ?_)|(refine zHp (enc:=zA5) (e:=86) (zs:=c.t) rfl (fun _=>rfl) rfl (fun _=>rfl) (fun _=>rfl) (fun _ _ _ q=>h3 _ q.below) ?_)|(refine zHp (enc:=zAd) (e:=73) (zs:=c.beds) rfl (fun _=>rfl) rfl (fun _=>rfl) (fun _=>rfl) (fun _ _ _ q=>h6 _ q.below) ?_)|(refine zHp (enc:=zq) (e:=67) (zs:=c.hours) rfl (fun _=>rfl) rfl (fun _=>rfl) (fun _=>rfl) (fun _ _ _ q=>h7 _ q.below) ?_))|((with_reducible refine zCL ?_ ?_);(· exact rfl))))
     intro G
     simp only [regsT,List.nil_append,List.cons_append,Nat.reduceAdd]
     refine zFD (H':=[.row zq 5 67 (.slice (G 9).A c.hours.length (G 9).m) c.hours,.row zAd 3 73 (.slice (G 6).A c.beds.length (G 6).m) c.beds,.row zA5 9 86 (.slice (G 3).A c.t.length (G 3).m) c.t,.blk b [.slice A c.t.length ca,.slice B c.beds.length cb,.slice C c.hours.length cc,.int .i64 c.wear.lo,.int .i64 c.wear.hi,.int .i64 c.layer.lo,.int .i64 c.layer.hi,.int .i64 c.rate,.int .i64 c.limit,.int .i64 c.base],.sl encI 1 (some ⟨b9,o9,none⟩) [(i:Int)],.blk b6 [.slice none 0 0,.slice none 0 0,.slice none 0 0,.int .i64 0,.int .i64 0,.int .i64 0,.int .i64 0,.int .i64 0,.int .i64 0,.int .i64 0],.blk b5 [.int .i64 th.lo,.int .i64 th.hi]]) (fun _ h=>h.sub (by (repeat (first|exact oK1 _|(refine oK2 (by (repeat (first|exact tK1 _ _|apply tK2))) ?_))))) ?_
     generalize (G 9).A=A9
     generalize (G 9).m=m9
     generalize (G 6).A=A6
     generalize (G 6).m=m6
     generalize (G 3).A=A3
     generalize (G 3).m=m3
     refine zEO (enc:=zAd) (xs:=c.beds) (by (repeat (first|exact tK1 _ _|apply tK2))) (by omega) ?_
     rintro gb rfl
     have:zAU c.beds i z:=⟨hz⟩
     (repeat' (first|((with_reducible refine zG ?_);first|refine za rfl rfl rfl rfl rfl ?_|(refine ze rfl rfl rfl rfl rfl ?_;refine And.intro rfl (And.intro (by first|decide|exact Nat.le_of_ble_eq_true rfl|(simp;omega)) ⟨_,rfl,?_⟩)))|(with_reducible first|refine zH ?_|refine zD ?_|refine zA ?_)))
     (refine zAy (by kernel_rfl) (by kernel_rfl) (by kernel_rfl) ?_)
     (repeat' (first|((with_reducible refine zBV ?_);first|refine zN (zAe rfl rfl) rfl rfl rfl ?_|refine zN (zAE rfl rfl (by exact rfl)) rfl rfl rfl ?_|refine zN (zAP rfl rfl) rfl rfl rfl ?_|refine zN (zBW rfl rfl) rfl rfl rfl ?_|refine zN (zAQ (I:=0) rfl rfl rfl (by omega) (by first|omega|(dsimp only;omega))) rfl rfl rfl ?_|refine zN (zAQ (I:=i) rfl rfl rfl (by omega) (by first|omega|(dsimp only;omega))) rfl rfl rfl ?_)|(with_reducible refine zB6 ?_)))
     (repeat' (first|(with_reducible first|refine zH ?_|refine zA ?_)))
     (refine zA8 [] [] [] rfl (by decide) (fun _ h=>h) (by kernel_rfl) [[],[Y],[Z,Y],[Z,Z,Y],[Z,Z,Z,Y],[Z,Z,Z,Z,Y],[Y,Y,Y,Y,Y,Y],[Z,Y,Y,Y,Y,Y,Y],[Z,Z,Z,Z,Z,Z,Z,Y],[Y,Y,Y,Y,Y,Y,Y,Y,Y],[Z,Y,Y,Y,Y,Y,Y,Y,Y,Y],[Z,Z,Y,Y,Y,Y,Y,Y,Y,Y,Y],[Z,Z,Z,Y,Y,Y,Y,Y,Y,Y,Y,Y],[Z,Z,Z,Z,Y,Y,Y,Y,Y,Y,Y,Y,Y],[Y,Y,Y,Y,Y,Y,Y,Y,Y,Y,Y,Y,Y,Y],[Z,Y,Y,Y,Y,Y,Y,Y,Y,Y,Y,Y,Y,Y,Y],[Z,Z,Z,Z,Z,Z,Z,Y,Y,Y,Y,Y,Y,Y,Y,Y],[Z,Z,Z,Z,Z,Z,Z,Z,Z,Z,Z,Z,Z,Z,Z,Z,Y],[Z,Z,Z,Z,Z,Z,Z,Z,Z,Z,Z,Z,Z,Z,Z,Z,Z,Z],[Z,Z,Z,Z,Z,Z,Z,Z,Z,Z,Z,Z,Z,Z,Z,Z,Z,Z,Z],[Z,Z,Z,Z,Z,Z,Z,Z,Z,Z,Z,Z,Z,Z,Z,Z,Z,Z,Z,Z]] (by kernel_rfl) (by kernel_rfl) (by kernel_rfl) (by kernel_rfl) (by kernel_rfl) ?_)
     (repeat' (first|(((with_reducible refine zDz ?_ ?_);(· exact rfl);refine ⟨_,fun G=>(by (try simp (decide:=true) only [vis,see,fltT,zAT,Nat.reduceAdd,Nat.reduceSub,if_true,if_false,List.set_cons_zero,List.set_cons_succ,List.set_nil,List.nil_append,List.cons_append]);rfl),?_⟩);first|refine zo _ (fun _=>zAe rfl rfl) (fun _=>rfl) rfl (by first|exact fun _ _ _=>rfl|(intro G G' h;simp (decide:=true) only [h])) ?_|refine zo _ (fun _=>zAE rfl rfl (by exact rfl)) (fun _=>rfl) rfl (by first|exact fun _ _ _=>rfl|(intro G G' h;simp (decide:=true) only [h])) ?_|(refine zAw rfl ?_;refine zo _ (fun _=>zAP rfl rfl) (fun _=>rfl) rfl (by first|exact fun _ _ _=>rfl|(intro G G' h;simp (decide:=true) only [h])) ?_)|refine zo _ (fun _=>zAW rfl rfl) (fun _=>rfl) rfl (by first|exact fun _ _ _=>rfl|(intro G G' h;simp (decide:=true) only [h])) ?_|refine zo _ (fun _=>zJY rfl rfl rfl) (fun _=>rfl) rfl (by first|exact fun _ _ _=>rfl|(intro G G' h;simp (decide:=true) only [h])) ?_|refine zo _ (fun _=>zGE rfl rfl rfl) (fun _=>rfl) rfl (by first|exact fun _ _ _=>rfl|(intro G G' h;simp (decide:=true) only [h])) ?_|refine zo _ (fun _=>zCH rfl rfl (by exact rfl)) (fun _=>rfl) rfl (by first|exact fun _ _ _=>rfl|(intro G G' h;simp (decide:=true) only [h])) ?_)|((with_reducible refine zCL ?_ ?_);(· exact rfl))))
     intro G2
     simp only [regsT,List.nil_append,List.cons_append,Nat.reduceAdd]
     refine zFD (H':=[.arr zAd 3 gb c.beds,.blk b [.slice A3 c.t.length m3,.slice (some ⟨gb,0,none⟩) c.beds.length m6,.slice A9 c.hours.length m9,.int .i64 c.wear.lo,.int .i64 c.wear.hi,.int .i64 c.layer.lo,.int .i64 c.layer.hi,.int .i64 c.rate,.int .i64 c.limit,.int .i64 c.base],.row zq 5 67 (.slice A9 c.hours.length m9) c.hours,.row zA5 9 86 (.slice A3 c.t.length m3) c.t,.sl encI 1 (some ⟨b9,o9,none⟩) [(i:Int)],.blk b6 [.slice none 0 0,.slice none 0 0,.slice none 0 0,.int .i64 0,.int .i64 0,.int .i64 0,.int .i64 0,.int .i64 0,.int .i64 0,.int .i64 0],.blk b5 [.int .i64 th.lo,.int .i64 th.hi]]) (fun _ h=>h.sub (by (repeat (first|exact oK1 _|(refine oK2 (by (repeat (first|exact tK1 _ _|apply tK2))) ?_))))) ?_
     (repeat' (first|((with_reducible refine zG ?_);first|refine zFC (enc:=zAd) (k:=3) (i:=i) (j:=0) (z:=z) (zBE z th) rfl rfl rfl rfl rfl rfl rfl rfl (by decide) ?_)|(with_reducible first|refine zH ?_|refine zD ?_|refine zA ?_)))
     have:zAU (c.beds.set i (zBE z th)) i (zBE z th):=⟨List.getElem?_set_self (by omega)⟩
     (refine zAy (by kernel_rfl) (by kernel_rfl) (by kernel_rfl) ?_)
     (repeat' (first|((with_reducible refine zBV ?_);first|refine zN (zAe rfl rfl) rfl rfl rfl ?_|refine zN (zAE rfl rfl (by exact rfl)) rfl rfl rfl ?_|refine zN (zAP rfl rfl) rfl rfl rfl ?_|(refine zDU rfl rfl rfl rfl rfl rfl rfl (fun h=>?_) (fun h=>?_)<;>(dsimp only [cmpP] at h;(try (exfalso;omega))))|refine zN (zAW rfl rfl) rfl rfl rfl ?_)|(with_reducible refine zB6 ?_)))
     ·rw [show dx=(zBp,8) by rw [hX,if_pos h]]
      (repeat' (first|((with_reducible refine zG ?_);first|refine zC rfl rfl rfl rfl rfl ?_|(refine ze rfl rfl rfl rfl rfl ?_;refine And.intro rfl (And.intro (by first|decide|exact Nat.le_of_ble_eq_true rfl|(simp;omega)) ⟨_,rfl,?_⟩))|(refine zA7 rfl rfl rfl rfl rfl ?_;refine ⟨_,rfl,?_⟩))|(with_reducible first|refine zH ?_|refine zB ?_|refine zD ?_|refine zA ?_|refine zc ?_|refine zY ?_)|((with_reducible refine zI ?_ ?_);(· exact rfl))))
      exact zV (by (exact zO.cons (by exact res1c rfl (by exact rfl)) (zO.cons (by exact zn.tmp rfl) zO.nil))) ((none,0),(none,0),none,0) trivial rfl (fun _ h=>zDo)
     ·rw [show dx=({ c with beds:=c.beds.set i (zBE z th) },0) by rw [hX,if_neg h]]
      (repeat' (first|((with_reducible refine zG ?_);first|refine zC rfl rfl rfl rfl rfl ?_|(refine zK rfl rfl rfl rfl rfl ?_;refine ⟨_,rfl,?_⟩)|(refine ze rfl rfl rfl rfl rfl ?_;refine And.intro rfl (And.intro (by first|decide|exact Nat.le_of_ble_eq_true rfl|(simp;omega)) ⟨_,rfl,?_⟩)))|(with_reducible first|refine zH ?_|refine zB ?_|refine zD ?_|refine zA ?_|refine zc ?_|refine zS ?_)|((with_reducible refine zF ?_ ?_);(· exact rfl))))
      exact zV (by (exact zO.cons (by exact res1c rfl (by exact rfl)) (zO.cons (by exact zn.tmp rfl) zO.nil))) ((A3,m3),(some ⟨gb,0,none⟩,m6),A9,m9) trivial (by simp only [zAI,zJ,List.length_set];rfl) (fun _ h=>(((Own.zNx (xs:=c.beds.set i (zBE z th)) (by (repeat (first|exact tK1 _ _|apply tK2))) h).zFJ (xs:=c.hours) (by (repeat (first|exact tK1 _ _|apply tK2)))).zFJ (xs:=c.t) (by (repeat (first|exact tK1 _ _|apply tK2)))).sub (by (repeat (first|exact oK1 _|(refine oK2 (by (repeat (first|exact tK1 _ _|apply tK2))) ?_)))))
   ·rw [show dx=(zBp,6) from hX]
    simp only [List.length_cons]
    (refine zAy (by kernel_rfl) (by kernel_rfl) (by kernel_rfl) ?_)
    (repeat' (first|((with_reducible refine zBV ?_);first|refine zN (zAe rfl rfl) rfl rfl rfl ?_|refine zN (zCU rfl rfl rfl) rfl rfl rfl ?_|refine zAv rfl rfl rfl ?_|(refine zDU rfl rfl rfl rfl rfl rfl rfl (fun h=>?_) (fun h=>?_)<;>(dsimp only [cmpP] at h;(try (exfalso;omega))))|refine zN (zCy rfl rfl) rfl rfl rfl ?_)|(with_reducible refine zB6 ?_)))
    all_goals (repeat' (first|((with_reducible refine zG ?_);first|refine zC rfl rfl rfl rfl rfl ?_|(refine ze rfl rfl rfl rfl rfl ?_;refine And.intro rfl (And.intro (by first|decide|exact Nat.le_of_ble_eq_true rfl|(simp;omega)) ⟨_,rfl,?_⟩))|(refine zA7 rfl rfl rfl rfl rfl ?_;refine ⟨_,rfl,?_⟩))|(with_reducible first|refine zH ?_|refine zB ?_|refine zD ?_|refine zA ?_|refine zc ?_|refine zY ?_)|((with_reducible refine zI ?_ ?_);(· exact rfl))))
    all_goals exact zV (by (exact zO.cons (by exact res1c rfl (by exact rfl)) (zO.cons (by exact zn.tmp rfl) zO.nil))) ((none,0),(none,0),none,0) trivial rfl (fun _ h=>zDo)
  ·rw [show dx=(zBp,2) by rw [hX,if_neg (fun e=>by rw [e.2] at h;cases h)]]
   exact zV (by (exact zO.cons (by exact res1c rfl (by exact rfl)) (zO.cons (by exact zn.tmp rfl) zO.nil))) ((none,0),(none,0),none,0) trivial rfl (fun _ h=>zDo)
 ·have h1:=fun W (hb:Below w.heap.size w W)=>zFV c A ca B cb C cc W (h.below hb) hs h0
  have hX:zCC c a th=(zBp,zAm c):=by unfold zCC;rw [if_neg h0]
  rw [hX]
  have e1:zAI c A ca B cb C cc = .agg (zJ c A ca B cb C cc).toArray:=rfl
  rw [e1] at h1 ⊢
  generalize zAm c=e at *
  unfold zJ at h1 ⊢
  (refine zL (n:=107) Tryz.func39 rfl rfl rfl ?_)
  (repeat' (first|((with_reducible refine zG ?_);first|refine zE rfl rfl rfl rfl rfl ?_|refine zC rfl rfl rfl rfl rfl ?_|(refine zK rfl rfl rfl rfl rfl ?_;refine ⟨_,rfl,?_⟩)|(refine zU rfl rfl rfl rfl rfl rfl rfl (fun h=>?_) (fun h=>?_)<;>(dsimp only [cmpP] at h;(try (exfalso;omega))))|refine zX rfl rfl rfl rfl rfl rfl (fun _ _ q=>h1 _ q.below) ?_|refine zd rfl rfl rfl rfl rfl rfl ?_|(refine ze rfl rfl rfl rfl rfl ?_;refine And.intro rfl (And.intro (by first|decide|exact Nat.le_of_ble_eq_true rfl|(simp;omega)) ⟨_,rfl,?_⟩))|(refine zm rfl rfl rfl rfl (fun b=>?_))|(refine zt rfl rfl rfl rfl rfl rfl (fun b=>?_))|(refine zA7 rfl rfl rfl rfl rfl ?_;refine ⟨_,rfl,?_⟩))|(with_reducible first|refine zH ?_|refine zB ?_|refine zD ?_|refine zA ?_|refine zc ?_|refine zY ?_)|((with_reducible refine zI ?_ ?_);(· exact rfl))))
  exact zV (by (exact zO.cons (by exact res1c rfl (by exact rfl)) (zO.cons (by exact zn.tmp rfl) zO.nil))) ((none,0),(none,0),none,0) trivial rfl (fun _ h=>zDo)
end Go.Proofs.YtdigopgncfhiaaaGreatDoor.Two
namespace Go.Proofs.YtdigopgncfhiaaaGreatDoor.Two
variable {ro : Option Nat}
open Go.RowKit
set_option maxRecDepth 20000
theorem zJ4 (c:Cov) (A:Option Addr) (ca:Nat) (B:Option Addr) (cb:Nat) (C:Option Addr) (cc:Nat) (w:World) (h:zAk w c A B C) (h1:c.t.length≤1000) (h2:c.beds.length≤1000) (h3:c.hours.length≤1000) :
  Ret Tryz.prog 34 [zAI c A ca B cb C cc] w (fun p:(Option Addr × Nat) × (Option Addr × Nat) × (Option Addr × Nat)=>zAI c p.1.1 p.1.2 p.2.1.1 p.2.1.2 p.2.2.1 p.2.2.2) (fun p=>[.sl zA5 9 p.1.1 c.t,.row zAd 3 73 (.slice p.2.1.1 c.beds.length p.2.1.2) c.beds,.row zq 5 67 (.slice p.2.2.1 c.hours.length p.2.2.2) c.hours]) (fun _=>True):=by
 have hb:=h.b;have hh:=h.h
 have hT:=fun W (hW:Below w.heap.size w W)=>twin_any c.t A ca W (h.t.below hW) h1
 unfold vT at hT
 unfold zAI zJ
 (refine zL (n:=18) Tryz.func34 rfl rfl rfl ?_)
 (repeat' (first|((with_reducible refine zG ?_);first|(refine zK rfl rfl rfl rfl rfl ?_;refine ⟨_,rfl,?_⟩)|refine za rfl rfl rfl rfl rfl ?_|refine zB8 rfl rfl rfl rfl rfl rfl (fun _ _ q=>hT _ q.below) (fun A' c'=>?_)|(refine zC7 zAd (e:=73) rfl rfl rfl rfl (fun b=>?_))|(refine zBT (enc:=zAd) c.beds rfl rfl rfl rfl rfl (by (repeat (first|exact tK1 _ _|apply tK2))) rfl rfl (zGM hb) (by refine ⟨?_,by decide⟩;(try simp only [List.length_append,List.length_cons,List.length_nil]);omega) (fun A' c'=>?_))|(refine zC7 zq (e:=67) rfl rfl rfl rfl (fun b=>?_))|(refine zBT (enc:=zq) c.hours rfl rfl rfl rfl rfl (by (repeat (first|exact tK1 _ _|apply tK2))) rfl rfl (zGM hh) (by refine ⟨?_,by decide⟩;(try simp only [List.length_append,List.length_cons,List.length_nil]);omega) (fun A' c'=>?_))|(refine ze rfl rfl rfl rfl rfl ?_;refine And.intro rfl (And.intro (by first|decide|exact Nat.le_of_ble_eq_true rfl|(simp;omega)) ⟨_,rfl,?_⟩))|(refine zm rfl rfl rfl rfl (fun b=>?_))|(refine zt rfl rfl rfl rfl rfl rfl (fun b=>?_)))|(with_reducible first|refine zH ?_|refine zB ?_|refine zD ?_|refine zA ?_|refine zc ?_)))
 rename_i A1 c1 bb A2 c2
 simp only [List.nil_append]
 exact zV (by (exact zO.cons (by exact res1c rfl (by exact rfl)) zO.nil)) ((A1,c1),(A2,c2),(A',c')) trivial rfl (fun _ h=>h.sub (by (repeat (first|exact oK1 _|(refine oK2 (by (repeat (first|exact tK1 _ _|apply tK2))) ?_)))))
end Go.Proofs.YtdigopgncfhiaaaGreatDoor.Two
namespace Go.Proofs.YtdigopgncfhiaaaGreatDoor
open Go.RowKit
set_option maxRecDepth 20000
def zDZ (m k:Nat):List Int:=((List.range k).filter m.testBit).map fun h:Nat=>(h:Int)
theorem zLn {m k:Nat} (h:m.testBit k=true):zDZ m (k+1)=zDZ m k++[(k:Int)]:=by
 simp [zDZ,List.range_succ,List.filter_append,h]
theorem zN9 {m k:Nat} (h:m.testBit k=false):zDZ m (k+1)=zDZ m k:=by
 simp [zDZ,List.range_succ,List.filter_append,h]
theorem zIl (m k:Nat):(zDZ m k).length≤k:=by
 have:=List.length_filter_le m.testBit (List.range k)
 simpa [zDZ] using this
def lexB : List Int→List Int→Bool
 | x::a,y::b=>if x=y then lexB a b else decide (x<y)
 | _,_=>false
def befB (a b:List Int):Bool:=if a.length=b.length then lexB a b else decide (a.length<b.length)
end Go.Proofs.YtdigopgncfhiaaaGreatDoor
namespace Go.Proofs.YtdigopgncfhiaaaGreatDoor
open Go.RowKit
set_option maxRecDepth 20000
section
variable {ro : Option Nat} {P:Program} {w0:World} {n:Nat} {d:List Deferred} {R:List (Nat × Value)} {H:List Ent} {Q:Exit→Act→World→Prop} {ops:Array Oper} {rest:List Oper} {o:Oper} {t:Tmp} {x y:Operand} {T T':TypeId} {k:IntKind} {i j:Int}
def isAny2 : BinOp→Bool
 | .add | .and=>true
 | _=>false
theorem u_any2 {c:BinOp} (hop:o.op = .binOp c T x y T') (hc:isAny2 c=true) (hw:want R ops o=some true) (hd:o.dst=some t) (ht:Nat.blt t n=true) (hx:evR R x=some (.int k i)) (hy:evR R y=some (.int k j)) (h:∀ z,U w0 n d ((t,.int k z)::R) H (wpL ro P ops Q rest)):U w0 n d R H (wpL ro P ops Q (o::rest)):=by
 have key:∃ z,∀ a w,Kn w0 n d R H a w→(execOp a.eval o).run P w = .ok (.value (.int k z)) w:=by
  cases c<;>simp only [isAny2,Bool.false_eq_true] at hc
  ·exact ⟨k.wrap (i+j),fun a w q=>by unfold execOp;rw [hop];simp [q.ev hx,q.ev hy,eqGuard,binOp,Op.intArith]⟩
  ·exact ⟨_,fun a w q=>by unfold execOp;rw [hop];simp only [Sem.run_bind,q.ev hx,q.ev hy,eqGuard,binOp,Op.intBits,ne_eq,not_true_eq_false,if_false,Bool.not_false,if_true,Sem.run_pure,Result.andThen_ok];rfl⟩
 obtain ⟨z,hz⟩:=key
 exact zAa hw hd ht hz (h z)
end
theorem zNG (z:Int) (w:World):Ret Tryz.prog 113 [.int .u64 z] w (fun m:Nat=>.int .i64 (m:Int)) (fun _=>[]) (fun m=>m≤127):=by
 (refine zL (n:=35) Tryz.func113 rfl rfl rfl ?_)
 (repeat' (first|((with_reducible refine zG ?_);first|refine zE rfl rfl rfl rfl rfl ?_|refine zC rfl rfl rfl rfl rfl ?_|refine u_and127 rfl rfl rfl rfl rfl rfl (fun m hm=>?_)|refine u_any2 rfl rfl rfl rfl rfl rfl rfl (fun _=>?_)|refine u_anyShr rfl rfl rfl rfl rfl rfl (by omega) (fun _=>?_)|refine zJ3 rfl rfl rfl rfl rfl (fun _=>?_))|(with_reducible first|refine zH ?_|refine zB ?_|refine zD ?_|refine zA ?_|refine zc ?_)))
 exact zV (by (exact zO.cons (by exact zn.tmp rfl) zO.nil)) m hm rfl (fun _ h=>h.sub (by (repeat (first|exact oK1 _|(refine oK2 (by (repeat (first|exact tK1 _ _|apply tK2))) ?_)))))
theorem ones_any (z:Int) (w:World):Ret Tryz.prog 71 [.int .u64 z] w (fun m:Nat=>.int .i64 (m:Int)) (fun _=>[]) (fun m=>m≤127):=by
 (refine zL (n:=8) Tryz.func71 rfl rfl rfl ?_)
 (repeat' (first|((with_reducible refine zG ?_);first|refine zE rfl rfl rfl rfl rfl ?_|refine zC rfl rfl rfl rfl rfl ?_|(refine zAN rfl rfl rfl rfl rfl rfl (fun _ _ q=>zNG _ _) ?_;rintro m hm;dsimp only [List.cons_append,List.nil_append]))|(with_reducible first|refine zH ?_|refine zB ?_|refine zD ?_|refine zA ?_|refine zc ?_|refine zS ?_)|((with_reducible refine zF ?_ ?_);(· exact rfl))))
 exact zV (by (exact zO.cons (by exact zn.tmp rfl) zO.nil)) m hm rfl (fun _ h=>h.sub (by (repeat (first|exact oK1 _|(refine oK2 (by (repeat (first|exact tK1 _ _|apply tK2))) ?_)))))
theorem zPM (x:Int) (w:World):Gv Tryz.prog 138 [.int .i64 x] w (.bool false):=by
 unfold Gv
 (refine zL (n:=6) Tryz.func138 rfl rfl rfl ?_)
 (repeat' (first|((with_reducible refine zG ?_);first|refine zE rfl rfl rfl rfl rfl ?_|refine zC rfl rfl rfl rfl rfl ?_|(refine zU rfl rfl rfl rfl rfl rfl rfl (fun h=>?_) (fun h=>?_)<;>(dsimp only [cmpP] at h;(try (exfalso;omega)))))|(with_reducible first|refine zH ?_|refine zB ?_|refine zD ?_|refine zA ?_|refine zc ?_)))
 exact zV (by (exact zO.cons (by exact zn.tmp rfl) zO.nil)) () trivial rfl (fun _ _=>Own.nil _ _)
def cmpI (x y:Int):Int:=if x<y then -1 else if y<x then 1 else 0
theorem cmp_any (x y:Int) (w:World):Gv Tryz.prog 115 [.int .i64 x,.int .i64 y] w (.int .i64 (cmpI x y)):=by
 unfold Gv cmpI
 (refine zL (n:=20) Tryz.func115 rfl rfl rfl ?_)
 (repeat' (first|((with_reducible refine zG ?_);first|refine zE rfl rfl rfl rfl rfl ?_|refine zC rfl rfl rfl rfl rfl ?_|(refine zU rfl rfl rfl rfl rfl rfl rfl (fun h=>?_) (fun h=>?_)<;>(dsimp only [cmpP] at h;(try (exfalso;omega))))|refine zX rfl rfl rfl rfl rfl rfl (fun _ _ q=>zPM _ _) ?_)|(with_reducible first|refine zH ?_|refine zB ?_|refine zD ?_|refine zA ?_|refine zc ?_|refine zS ?_|refine zY ?_)|((with_reducible refine zI ?_ ?_);(· exact rfl))|((with_reducible refine zF ?_ ?_);(· exact rfl))))
 all_goals exact zV (by (exact zO.cons (by exact zn.tmp rfl) zO.nil)) () trivial (by simp only [resV];congr 1;omega) (fun _ h=>h.sub (by (repeat (first|exact oK1 _|(refine oK2 (by (repeat (first|exact tK1 _ _|apply tK2))) ?_)))))
def zIG : List Int→List Int→Int
 | x::a,y::b=>if cmpI x y=0 then zIG a b else cmpI x y
 | _,_=>0
theorem zPm {a b:List Int} {i:Nat} {x y:Int} (h1:a[i]?=some x) (h2:b[i]?=some y):zIG (a.drop i) (b.drop i)=if cmpI x y=0 then zIG (a.drop (i+1)) (b.drop (i+1)) else cmpI x y:=by
 obtain ⟨i1,rfl⟩:=List.getElem?_eq_some_iff.1 h1
 obtain ⟨i2,rfl⟩:=List.getElem?_eq_some_iff.1 h2
 rw [List.drop_eq_getElem_cons i1,List.drop_eq_getElem_cons i2];rfl
theorem zMq : ∀ (a b:List Int),zIG a b<0↔lexB a b=true
 | [],_=>by simp [zIG,lexB]
 | _::_,[]=>by simp [zIG,lexB]
 | x::a,y::b=>by
  simp only [zIG,lexB]
  by_cases e:x=y
  ·subst e
   rw [if_pos rfl,if_pos (by simp [cmpI])]
   exact zMq a b
  ·rw [if_neg e]
   unfold cmpI
   by_cases h:x<y
   ·simp [h]
   ·have:y<x:=by omega
    simp [h,this]
set_option maxHeartbeats 1000000 in
theorem zLV (a:List Int) (A:Option Addr) (ca:Nat) (m:List Int) (B:Option Addr) (cb:Nat) (w:World) (ha:zx encI 1 w A a) (hm:zx encI 1 w B m) (h1:a.length≤1000) (hl:a.length=m.length) :
  Gv Tryz.prog 74 [.slice A a.length ca,.slice B m.length cb] w (.int .i64 (zIG a m)):=by
 unfold Gv
 (refine zL (n:=36) Tryz.func74 rfl rfl rfl ?_)
 (repeat' (first|((with_reducible refine zG ?_);first|refine zE rfl rfl rfl rfl rfl ?_|refine zC rfl rfl rfl rfl rfl ?_|refine zp rfl rfl rfl rfl rfl ?_)|(with_reducible first|refine zH ?_|refine zB ?_|refine zD ?_|refine zA ?_|refine zQ ?_)))
 refine zw (ι:=Nat) [0,1,9,10] rfl (fun i=>i≤a.length∧zIG (a.drop i) (m.drop i)=zIG a m) (fun i=>[(11,.int .i64 (i:Int))]) (fun _=>[]) (fun i=>a.length - i) 0 ⟨Nat.zero_le _,rfl⟩ (by (first|exact lK1|(repeat (first|exact lK1|(refine zM rfl ?_))))) (by (repeat (first|exact oK1 _|(refine oK2 (by (repeat (first|exact tK1 _ _|apply tK2))) ?_)))) ?_
 rintro i ⟨hi,hlx⟩
 simp only [zAx,List.cons_append,List.nil_append]
 by_cases hlt:i<a.length
 ·obtain ⟨x,hx⟩:∃ x,a[i]?=some x:=⟨_,List.getElem?_eq_getElem hlt⟩
  obtain ⟨y,hy⟩:∃ y,m[i]?=some y:=⟨_,List.getElem?_eq_getElem (by omega)⟩
  rw [zPm hx hy] at hlx
  obtain ⟨b1,o1,rfl,_,_⟩:=ha.at_ hlt
  obtain ⟨b2,o2,rfl,_,_⟩:=hm.at_ (i:=i) (by omega)
  have:InS w b1 o1 encI 1 a:=⟨ha⟩
  have:InS w b2 o2 encI 1 m:=⟨hm⟩
  have:zAU a i x:=⟨hx⟩
  have:zAU m i y:=⟨hy⟩
  have hcm:=fun W=>cmp_any x y W
  generalize cmpI x y=z at *
  by_cases hz:z=0
  ·rw [if_pos hz] at hlx
   (repeat' (first|((with_reducible refine zG ?_);first|refine zE rfl rfl rfl rfl rfl ?_|refine zC rfl rfl rfl rfl rfl ?_|(refine zK rfl rfl rfl rfl rfl ?_;refine ⟨_,rfl,?_⟩)|(refine zU rfl rfl rfl rfl rfl rfl rfl (fun h=>?_) (fun h=>?_)<;>(dsimp only [cmpP] at h;(try (exfalso;omega))))|refine zX rfl rfl rfl rfl rfl rfl (fun _ _ q=>hcm _) ?_|refine zf rfl rfl rfl rfl rfl rfl (by omega) ?_|refine zb rfl rfl rfl rfl rfl rfl rfl (by omega) ?_|refine zp rfl rfl rfl rfl rfl ?_)|(with_reducible first|refine zH ?_|refine zB ?_|refine zD ?_|refine zA ?_|refine zS ?_|refine zQ ?_|refine zh ?_)|((with_reducible refine zI ?_ ?_);(· exact rfl))|((with_reducible refine zF ?_ ?_);(· exact rfl))))
   all_goals exact zi (ι:=Nat) (i+1) (by exact ⟨by omega,hlx⟩) (by omega) (by (first|exact lK1|(repeat (first|exact lK1|(refine zM rfl ?_))))) (by (repeat (first|exact oK1 _|(refine oK2 (by (repeat (first|exact tK1 _ _|apply tK2))) ?_))))
  ·rw [if_neg hz] at hlx
   rw [← hlx]
   (repeat' (first|((with_reducible refine zG ?_);first|refine zE rfl rfl rfl rfl rfl ?_|refine zC rfl rfl rfl rfl rfl ?_|(refine zK rfl rfl rfl rfl rfl ?_;refine ⟨_,rfl,?_⟩)|(refine zU rfl rfl rfl rfl rfl rfl rfl (fun h=>?_) (fun h=>?_)<;>(dsimp only [cmpP] at h;(try (exfalso;omega))))|refine zX rfl rfl rfl rfl rfl rfl (fun _ _ q=>hcm _) ?_|refine zb rfl rfl rfl rfl rfl rfl rfl (by omega) ?_|refine zp rfl rfl rfl rfl rfl ?_)|(with_reducible first|refine zH ?_|refine zB ?_|refine zD ?_|refine zA ?_|refine zc ?_|refine zS ?_|refine zY ?_|refine zQ ?_|refine zAK ?_)|((with_reducible refine zI ?_ ?_);(· exact rfl))|((with_reducible refine zF ?_ ?_);(· exact rfl))))
   all_goals exact zV (by (exact zO.cons (by exact zn.tmp rfl) zO.nil)) () trivial rfl (fun _ _=>Own.nil _ _)
 ·obtain rfl:i=a.length:=by omega
  have e:zIG a m=0:=by rw [← hlx,List.drop_length];rfl
  rw [e]
  (repeat' (first|((with_reducible refine zG ?_);first|refine zE rfl rfl rfl rfl rfl ?_|refine zC rfl rfl rfl rfl rfl ?_|(refine zU rfl rfl rfl rfl rfl rfl rfl (fun h=>?_) (fun h=>?_)<;>(dsimp only [cmpP] at h;(try (exfalso;omega))))|refine zp rfl rfl rfl rfl rfl ?_)|(with_reducible first|refine zH ?_|refine zB ?_|refine zD ?_|refine zA ?_|refine zc ?_|refine zS ?_|refine zj ?_|refine zR ?_|refine zW ?_)|((with_reducible refine zF ?_ ?_);(· exact rfl))))
  all_goals exact zV (by (exact zO.cons (by exact zn.tmp rfl) zO.nil)) () trivial rfl (fun _ _=>Own.nil _ _)
def ordI (a b:List Int):Int:=if a.length=b.length then zIG a b else (a.length:Int) - b.length
theorem ordI_bef (a b:List Int):ordI a b<0↔befB a b=true:=by
 unfold ordI befB
 split
 ·exact zMq a b
 ·simp;omega
theorem zO5 (a:List Int) (A:Option Addr) (ca:Nat) (m:List Int) (B:Option Addr) (cb:Nat) (w:World) (ha:zx encI 1 w A a) (hm:zx encI 1 w B m) (h1:a.length≤1000) (h2:m.length≤1000) :
  Gv Tryz.prog 73 [.slice A a.length ca,.slice B m.length cb] w (.int .i64 (ordI a m)):=by
 have hcm:=fun (hl:a.length=m.length) W (hb:Below w.heap.size w W)=>zLV a A ca m B cb W (ha.below hb) (hm.below hb) h1 hl
 unfold Gv ordI
 (refine zL (n:=18) Tryz.func73 rfl rfl rfl ?_)
 by_cases hl:a.length=m.length
 ·rw [if_pos hl]
  have hcm:=hcm hl
  (repeat' (first|((with_reducible refine zG ?_);first|refine zE rfl rfl rfl rfl rfl ?_|refine zC rfl rfl rfl rfl rfl ?_|(refine zU rfl rfl rfl rfl rfl rfl rfl (fun h=>?_) (fun h=>?_)<;>(dsimp only [cmpP] at h;(try (exfalso;omega))))|refine zX rfl rfl rfl rfl rfl rfl (fun _ _ q=>hcm _ q.below) ?_|refine zp rfl rfl rfl rfl rfl ?_)|(with_reducible first|refine zH ?_|refine zB ?_|refine zD ?_|refine zA ?_|refine zc ?_|refine zS ?_)|((with_reducible refine zF ?_ ?_);(· exact rfl))))
  exact zV (by (exact zO.cons (by exact zn.tmp rfl) zO.nil)) () trivial rfl (fun _ _=>Own.nil _ _)
 ·rw [if_neg hl]
  (repeat' (first|((with_reducible refine zG ?_);first|refine zE rfl rfl rfl rfl rfl ?_|refine zC rfl rfl rfl rfl rfl ?_|(refine zU rfl rfl rfl rfl rfl rfl rfl (fun h=>?_) (fun h=>?_)<;>(dsimp only [cmpP] at h;(try (exfalso;omega))))|refine zCY rfl rfl rfl rfl rfl rfl (IntWalk.i64_in _ (by omega)) ?_|refine zp rfl rfl rfl rfl rfl ?_)|(with_reducible first|refine zH ?_|refine zB ?_|refine zD ?_|refine zA ?_|refine zc ?_|refine zY ?_)|((with_reducible refine zI ?_ ?_);(· exact rfl))))
  exact zV (by (exact zO.cons (by exact zn.tmp rfl) zO.nil)) () trivial rfl (fun _ _=>Own.nil _ _)
end Go.Proofs.YtdigopgncfhiaaaGreatDoor
namespace Go.Proofs.YtdigopgncfhiaaaGreatDoor
open Go.RowKit
set_option maxRecDepth 20000
def zEC (m x:zAC Int):zAC Int:=if befB x.xs m.xs=true then x else m
def minS : List (zAC Int)→zAC Int
 | []=>zA3
 | s::r=>r.foldl zEC s
theorem zMK : ∀ (r:List (zAC Int)) (s:zAC Int),r.foldl zEC s=s∨r.foldl zEC s∈r
 | [],s=>.inl rfl
 | x::r,s=>by
  simp only [List.foldl_cons]
  rcases zMK r (zEC s x) with h|h
  ·rw [h];unfold zEC;split
   ·exact .inr List.mem_cons_self
   ·exact .inl rfl
  ·exact .inr (List.mem_cons_of_mem _ h)
set_option maxHeartbeats 2000000 in
theorem min_any (L:List (zAC Int)) (A:Option Addr) (ca:Nat) (w:World) (hL:zC0 encI 1 w A L) (h0:0<L.length) (hl:L.length≤100000) (hb:∀ s∈L,s.xs.length≤1000) :
  Gv Tryz.prog 114 [.slice A L.length ca,.func (.func 73) #[] #[]] w (.slice (minS L).A (minS L).xs.length (minS L).c):=by
 have hLp:=hL.p
 obtain ⟨b1,o1,rfl,_,_⟩:=hLp.at_ h0
 have:InS w b1 o1 zy 1 L:=⟨hLp⟩
 obtain ⟨s0,hs0⟩:∃ s,L[0]?=some s:=⟨_,List.getElem?_eq_getElem h0⟩
 have:zAU L 0 s0:=⟨hs0⟩
 have hmin:(L.drop 1).foldl zEC s0=minS L:=by
  cases L with
  | nil=>cases h0
  | cons x r=>cases hs0;rfl
 unfold Gv
 (refine zL (n:=33) Tryz.func114 rfl rfl rfl ?_)
 (repeat' (first|((with_reducible refine zG ?_);first|refine zE rfl rfl rfl rfl rfl ?_|refine zC rfl rfl rfl rfl rfl ?_|(refine zK rfl rfl rfl rfl rfl ?_;refine ⟨_,rfl,?_⟩)|(refine zU rfl rfl rfl rfl rfl rfl rfl (fun h=>?_) (fun h=>?_)<;>(dsimp only [cmpP] at h;(try (exfalso;omega))))|refine zb rfl rfl rfl rfl rfl rfl rfl (by omega) ?_|refine zp rfl rfl rfl rfl rfl ?_)|(with_reducible first|refine zH ?_|refine zB ?_|refine zD ?_|refine zA ?_|refine zS ?_|refine zQ ?_)|((with_reducible refine zF ?_ ?_);(· exact rfl))))
 refine zw (ι:=Nat × zAC Int) [0,1] rfl (fun q=>q.1≤L.length∧q.2∈L∧(L.drop q.1).foldl zEC q.2=minS L) (fun q=>[(6,.int .i64 (q.1:Int)),(5,.slice q.2.A q.2.xs.length q.2.c)]) (fun _=>[]) (fun q=>L.length - q.1) (1,s0) ⟨h0,List.mem_of_getElem? hs0,hmin⟩ (by (first|exact lK1|(repeat (first|exact lK1|(refine zM rfl ?_))))) (by (repeat (first|exact oK1 _|(refine oK2 (by (repeat (first|exact tK1 _ _|apply tK2))) ?_)))) ?_
 rintro ⟨i,s⟩ ⟨hi,hs,hf⟩
 simp only at hi hs hf
 simp only [zAx,List.cons_append,List.nil_append]
 by_cases hlt:i<L.length
 ·obtain ⟨x,hx⟩:∃ x,L[i]?=some x:=⟨_,List.getElem?_eq_getElem hlt⟩
  have:zAU L i x:=⟨hx⟩
  have hxL:=List.mem_of_getElem? hx
  have hord:=fun W (hb':Below w.heap.size w W)=>zO5 x.xs x.A x.c s.xs s.A s.c W ((hL.rows x hxL).below hb') ((hL.rows s hs).below hb') (hb x hxL) (hb s hs)
  have hbf:=ordI_bef x.xs s.xs
  rw [show L.drop i=x::L.drop (i+1) by rw [List.drop_eq_getElem_cons hlt];rw [List.getElem?_eq_getElem hlt] at hx;cases hx;rfl,List.foldl_cons] at hf
  generalize ordI x.xs s.xs=z at *
  by_cases hz:z<0
  ·rw [show zEC s x=x by unfold zEC;rw [if_pos (hbf.1 hz)]] at hf
   (repeat' (first|((with_reducible refine zG ?_);first|refine zE rfl rfl rfl rfl rfl ?_|refine zC rfl rfl rfl rfl rfl ?_|(refine zK rfl rfl rfl rfl rfl ?_;refine ⟨_,rfl,?_⟩)|(refine zU rfl rfl rfl rfl rfl rfl rfl (fun h=>?_) (fun h=>?_)<;>(dsimp only [cmpP] at h;(try (exfalso;omega))))|refine zX rfl rfl rfl rfl rfl rfl (fun _ _ q=>hord _ q.below) ?_|refine zf rfl rfl rfl rfl rfl rfl (by omega) ?_|refine zb rfl rfl rfl rfl rfl rfl rfl (by omega) ?_|refine zp rfl rfl rfl rfl rfl ?_)|(with_reducible first|refine zH ?_|refine zB ?_|refine zD ?_|refine zA ?_|refine zS ?_|refine zQ ?_|refine zh ?_)|((with_reducible refine zI ?_ ?_);(· exact rfl))))
   all_goals exact zi (ι:=Nat × zAC Int) (i+1,x) (by exact ⟨by omega,hxL,hf⟩) (by simp only;omega) (by (first|exact lK1|(repeat (first|exact lK1|(refine zM rfl ?_))))) (by (repeat (first|exact oK1 _|(refine oK2 (by (repeat (first|exact tK1 _ _|apply tK2))) ?_))))
  ·rw [show zEC s x=s by unfold zEC;rw [if_neg (fun e=>hz (hbf.2 e))]] at hf
   (repeat' (first|((with_reducible refine zG ?_);first|refine zE rfl rfl rfl rfl rfl ?_|refine zC rfl rfl rfl rfl rfl ?_|(refine zK rfl rfl rfl rfl rfl ?_;refine ⟨_,rfl,?_⟩)|(refine zU rfl rfl rfl rfl rfl rfl rfl (fun h=>?_) (fun h=>?_)<;>(dsimp only [cmpP] at h;(try (exfalso;omega))))|refine zX rfl rfl rfl rfl rfl rfl (fun _ _ q=>hord _ q.below) ?_|refine zf rfl rfl rfl rfl rfl rfl (by omega) ?_|refine zb rfl rfl rfl rfl rfl rfl rfl (by omega) ?_|refine zp rfl rfl rfl rfl rfl ?_)|(with_reducible first|refine zH ?_|refine zB ?_|refine zD ?_|refine zA ?_|refine zS ?_|refine zQ ?_|refine zh ?_)|((with_reducible refine zI ?_ ?_);(· exact rfl))|((with_reducible refine zF ?_ ?_);(· exact rfl))))
   all_goals exact zi (ι:=Nat × zAC Int) (i+1,s) (by exact ⟨by omega,hs,hf⟩) (by simp only;omega) (by (first|exact lK1|(repeat (first|exact lK1|(refine zM rfl ?_))))) (by (repeat (first|exact oK1 _|(refine oK2 (by (repeat (first|exact tK1 _ _|apply tK2))) ?_))))
 ·obtain rfl:i=L.length:=by omega
  rw [List.drop_length,List.foldl_nil] at hf
  rw [← hf]
  (repeat' (first|((with_reducible refine zG ?_);first|refine zE rfl rfl rfl rfl rfl ?_|refine zC rfl rfl rfl rfl rfl ?_|(refine zU rfl rfl rfl rfl rfl rfl rfl (fun h=>?_) (fun h=>?_)<;>(dsimp only [cmpP] at h;(try (exfalso;omega))))|refine zp rfl rfl rfl rfl rfl ?_)|(with_reducible first|refine zH ?_|refine zB ?_|refine zD ?_|refine zA ?_|refine zc ?_|refine zj ?_|refine zR ?_|refine zW ?_)|((with_reducible refine zF ?_ ?_);(· exact rfl))))
  exact zV (by (exact zO.cons (by exact zn.tmp rfl) zO.nil)) () trivial rfl (fun _ _=>Own.nil _ _)
theorem zKg (L:List (zAC Int)) (A:Option Addr) (ca:Nat) (w:World) (hL:zC0 encI 1 w A L) (hl:L.length≤100000) (hb:∀ s∈L,s.xs.length≤1000) :
  Gv Tryz.prog 72 [.slice A L.length ca,.func (.func 73) #[] #[]] w (.tuple #[.slice (minS L).A (minS L).xs.length (minS L).c,.bool (decide (0<L.length))]):=by
 unfold Gv
 by_cases h0:0<L.length
 ·have hm:=fun W (hb':Below w.heap.size w W)=>min_any L A ca W (hL.below hb') h0 hl hb
  rw [decide_eq_true h0]
  (refine zL (n:=14) Tryz.func72 rfl rfl rfl ?_)
  (repeat' (first|((with_reducible refine zG ?_);first|refine zE rfl rfl rfl rfl rfl ?_|refine zC rfl rfl rfl rfl rfl ?_|(refine zU rfl rfl rfl rfl rfl rfl rfl (fun h=>?_) (fun h=>?_)<;>(dsimp only [cmpP] at h;(try (exfalso;omega))))|refine zX rfl rfl rfl rfl rfl rfl (fun _ _ q=>hm _ q.below) ?_|refine zp rfl rfl rfl rfl rfl ?_)|(with_reducible first|refine zH ?_|refine zB ?_|refine zD ?_|refine zA ?_|refine zc ?_|refine zS ?_)|((with_reducible refine zF ?_ ?_);(· exact rfl))))
  exact zV (by (exact zO.cons (by exact zn.tmp rfl) (zO.cons (by exact zn.tmp rfl) zO.nil))) () trivial rfl (fun _ _=>Own.nil _ _)
 ·obtain rfl:L=[]:=List.eq_nil_of_length_eq_zero (by omega)
  rw [show minS []=zA3 from rfl]
  (refine zL (n:=14) Tryz.func72 rfl rfl rfl ?_)
  (repeat' (first|((with_reducible refine zG ?_);first|refine zE rfl rfl rfl rfl rfl ?_|refine zC rfl rfl rfl rfl rfl ?_|(refine zU rfl rfl rfl rfl rfl rfl rfl (fun h=>?_) (fun h=>?_)<;>(dsimp only [cmpP] at h;(try (exfalso;omega))))|refine zp rfl rfl rfl rfl rfl ?_)|(with_reducible first|refine zH ?_|refine zB ?_|refine zD ?_|refine zA ?_|refine zc ?_|refine zY ?_)|((with_reducible refine zI ?_ ?_);(· exact rfl))))
  all_goals exact zV (by (exact zO.cons (by exact zn.tmp rfl) (zO.cons (by exact zn.tmp rfl) zO.nil))) () trivial rfl (fun _ _=>Own.nil _ _)
end Go.Proofs.YtdigopgncfhiaaaGreatDoor
