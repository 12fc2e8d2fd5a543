/- B25 -/
import Derived.Test.YtdigopgncfhiaaaGreatDoorB5
import Derived.Test.YtdigopgncfhiaaaGreatDoorB12
import Derived.Test.YtdigopgncfhiaaaGreatDoorB11
import Derived.Test.YtdigopgncfhiaaaGreatDoorB1
import Derived.Test.YtdigopgncfhiaaaGreatDoorB10
import Derived.Test.YtdigopgncfhiaaaGreatDoorB8
import Derived.Test.YtdigopgncfhiaaaGreatDoorB23
import Derived.Test.YtdigopgncfhiaaaGreatDoorB14
import Derived.Test.YtdigopgncfhiaaaGreatDoorB24
import Derived.Test.YtdigopgncfhiaaaGreatDoorB18
set_option linter.unusedSimpArgs false
set_option linter.unusedVariables false
namespace Go.Proofs.YtdigopgncfhiaaaGreatDoor
open Go.RowKit
set_option maxRecDepth 20000
def zCo : Cov:=⟨[],[],[],⟨0,0⟩,⟨0,0⟩,0,0,0⟩
def zD2 (z:Bed) (th:Sp):Bed:={ z with thick:=⟨max z.thick.lo th.lo,min z.thick.hi th.hi⟩ }
def zPF (c:Cov) (th:Sp):List Int→Cov × Int
 | [p]=>if p=(c.beds.length:Int) then (zCo,6)
  else if (zD2 (c.beds.getD p.toNat default) th).thick.hi<(zD2 (c.beds.getD p.toNat default) th).thick.lo then (zCo,8)
  else ({ c with beds:=c.beds.set p.toNat (zD2 (c.beds.getD p.toNat default) th) },0)
 | _=>(zCo,6)
def zDl (c:Cov) (a:Int) (th:Sp):Cov × Int :=
 if zAp c=0 then
  if errP c.t a=0∧zBp th 0 2000=true then zPF c th (zD5 c.t a) else (zCo,2)
 else (zCo,zAp c)
theorem place_in {t:List St} {a:Int}:∀ p∈zD5 t a,∃ i:Nat,p=(i:Int)∧i≤t.length:=fun p hp=>by
 unfold zD5 at hp
 split at hp
 ·obtain ⟨i,hi,rfl⟩:=List.mem_map.1 hp
  have h1:=List.mem_range.1 (List.mem_filter.1 hi).1
  have:=zLb t
  exact ⟨i,rfl,by omega⟩
 ·cases hp
theorem zEP {base:Nat} {w:World}:Own base w [.sl zBE 9 none [],.sl zAX 3 none [],.sl zw 5 none []]:=by
 refine ⟨fun e he=>?_,fun e he b hb=>?_,?_⟩
 ·simp only [List.mem_cons,List.not_mem_nil,or_false] at he
  rcases he with rfl|rfl|rfl<;>(intro i x hx;cases hx)
 ·simp only [List.mem_cons,List.not_mem_nil,or_false] at he
  rcases he with rfl|rfl|rfl<;>(obtain ⟨o,h⟩:=hb;cases h)
 ·refine List.Pairwise.cons (fun e _ b hb=>?_) (List.Pairwise.cons (fun e _ b hb=>?_) (List.Pairwise.cons (fun e _ b hb=>?_) List.Pairwise.nil))<;>(obtain ⟨o,h⟩:=hb;cases h)
theorem clone_be (t:List Bed) (A:Option Addr) (c:Nat) (w:World) (ht:zAB zAX 3 w A t) (h0:0<t.length) (hl:t.length≤1000) :
  Ret Tryz.prog 82 [.slice A t.length c] w (fun p:Option Addr × Nat=>.slice p.1 t.length p.2) (fun p=>[.row zAX 3 73 (.slice p.1 t.length p.2) t]) (fun _=>True):=by
 obtain ⟨bb,o,rfl,_⟩:=ht.at_ h0
 (refine zM (n:=8) Tryz.func82 rfl rfl rfl ?_)
 (repeat' (first|((with_reducible refine zG ?_);first|refine zE rfl rfl rfl rfl rfl ?_|refine zC rfl rfl rfl rfl rfl ?_|refine zJY rfl rfl rfl rfl rfl rfl ?_|(refine zB9 zAX rfl rfl rfl rfl (fun b=>?_))|(refine zAq (enc:=zAX) t rfl rfl rfl rfl rfl zRT rfl rfl (zEu ht) zRc (fun A' c'=>?_)))|(with_reducible first|refine zI ?_|refine zB ?_|refine zD ?_|refine zA ?_|refine za ?_|refine zP ?_)|((with_reducible refine zF ?_ ?_);(· exact rfl))))
 exact zU zRZ (A',c') trivial rfl (fun _ h=>h.sub zRQ)
theorem clone_st (t:List St) (A:Option Addr) (c:Nat) (w:World) (ht:zAB zBE 9 w A t) (h0:0<t.length) (hl:t.length≤1000) :
  Ret Tryz.prog 81 [.slice A t.length c] w (fun p:Option Addr × Nat=>.slice p.1 t.length p.2) (fun p=>[.row zBE 9 86 (.slice p.1 t.length p.2) t]) (fun _=>True):=by
 obtain ⟨bb,o,rfl,_⟩:=ht.at_ h0
 (refine zM (n:=8) Tryz.func81 rfl rfl rfl ?_)
 (repeat' (first|((with_reducible refine zG ?_);first|refine zE rfl rfl rfl rfl rfl ?_|refine zC rfl rfl rfl rfl rfl ?_|refine zJY rfl rfl rfl rfl rfl rfl ?_|(refine zB9 zBE rfl rfl rfl rfl (fun b=>?_))|(refine zAq (enc:=zBE) t rfl rfl rfl rfl rfl zRT rfl rfl (zEu ht) zRc (fun A' c'=>?_)))|(with_reducible first|refine zI ?_|refine zB ?_|refine zD ?_|refine zA ?_|refine za ?_|refine zP ?_)|((with_reducible refine zF ?_ ?_);(· exact rfl))))
 exact zU zRZ (A',c') trivial rfl (fun _ h=>h.sub zRQ)
end Go.Proofs.YtdigopgncfhiaaaGreatDoor
namespace Go.Proofs.YtdigopgncfhiaaaGreatDoor.Two
variable {ro : Option Nat}
open Go.RowKit
set_option maxRecDepth 20000
section
variable {S : List (Nat × Nat)} {I:List (Nat × Nat × Nat × List Ent)} {P:Program} {w0:World} {n:Nat} {d:List Deferred} {R R0:List (Nat × Value)} {H H' H0:List Ent} {Q:Exit→Act→World→Prop} {ops:Array Oper} {bs:List (List Bool)} {b:List Bool} {k:Nat} {o:Oper} {rest:List Oper} {T:List Rw} {t:Tmp} {Hk:zBO→List Ent} {x y:Operand} {v:Value}
theorem zIl {α:Type} {enc:α→List Value} {kk e:Nat} {zs:List α} {f:FuncId} {fx:Operand} {xs:Array Operand} {ts:Array TypeId} {vs:zBO→List Value} {cap:Array Value} (hop:o.op = .call ⟨.value fx,xs,ts⟩) (hw:∀ G,want (Rk R0 ops b o T G) ops o=some true) (hd:o.dst=some t) (hf:∀ G,evR (Rk R0 ops b o T G) fx=some (.func (.func f) #[] cap)) (hx:∀ G,evs (Rk R0 ops b o T G) xs.toList=some (vs G)) [ci:zZ P f]
  (hc:∀ G a w,Kn w0 n d (Rk R0 ops b o T G) (Hk G) a w→Ret P f (vs G++cap.toList) w (fun p:Option Addr × Nat=>.slice p.1 zs.length p.2) (fun p=>[.row enc kk e (.slice p.1 zs.length p.2) zs]) (fun _=>True)) (h:zBo ro S I P w0 n d ops R0 H0 Q bs (k+1) rest (⟨k,some t,fun G=>(.slice (G k).A zs.length (G k).m,[.row enc kk e (.slice (G k).A zs.length (G k).m) zs])⟩::T)):CAt ro S I P w0 n d ops R0 H0 Q b bs k o rest T Hk:=by
 refine zFy (f:=fun G=>(.slice (G k).A zs.length (G k).m,[.row enc kk e (.slice (G k).A zs.length (G k).m) zs])) (fun G G' hG=>by simp only [hG k (.inl rfl)]) (fun G a w q K hK=>?_) zRt
 rw [zBs q (hw G),if_pos rfl]
 unfold Oper.wp execOp;rw [hop]
 have e1:xs.map a.eval=(vs G).toArray:=by apply Array.ext';simpa using q.evs (hx G)
 have e2:(vs G).toArray++cap=(vs G++cap.toList).toArray:=by apply Array.ext';simp
 simp only [resolve,q.ev (hf G),e1,Deferred.ofValue,Sem.run_bind,Sem.run_pure,Result.andThen_ok,invoke,Array.empty_append,e2,ci.ent,Oper.upon_enter]
 refine Calls.mono (hc G a w q).calls ?_
 rintro e w' ⟨⟨A,m⟩,hp,rfl,hb,hE⟩
 exact hK _ _ _ ⟨⟨0,A,m⟩,by simp [upW]⟩ hb hE
end
set_option maxHeartbeats 8000000 in
theorem zO8 (c:Cov) (A:Option Addr) (ca:Nat) (B:Option Addr) (cb:Nat) (C:Option Addr) (cc:Nat) (a:Int) (th:Sp) (w:World) (h:zAl w c A B C) (hs:Small c) :
  Ret Tryz.prog 39 [zAQ c A ca B cb C cc,.int .i64 a,vSp th] w (fun p:(Option Addr × Nat) × (Option Addr × Nat) × (Option Addr × Nat)=>.tuple #[zAQ (zDl c a th).1 p.1.1 p.1.2 p.2.1.1 p.2.1.2 p.2.2.1 p.2.2.2,.int .i64 (zDl c a th).2]) (fun p=>[.sl zBE 9 p.1.1 (zDl c a th).1.t,.sl zAX 3 p.2.1.1 (zDl c a th).1.beds,.sl zw 5 p.2.2.1 (zDl c a th).1.hours]) (fun _=>True):=by
 have h4:=hs.b;have h5:=hs.h
 by_cases h0:zAp c=0
 ·have hf:=zAy h0
  have hv:valid c.t=true:=by
   cases hv:valid c.t with
   | true=>rfl
   | false=>unfold zAp at h0;rw [hv] at h0;simp at h0
  have hvl:=zEz hv
  have hbl:=zGP h0
  have hbt:=hf.beds
  have hh1:=hf.hours
  rw [zx] at hh1
  have h1:=fun W (hb:Below w.heap.size w W)=>zDy c A ca B cb C cc W (h.below hb) hs h0
  have h2:=fun W (hb:Below w.heap.size w W)=>zQa c.t A ca a W (h.t.below hb) hs.fit zRU
  have h3:=fun W (hb:Below w.heap.size w W)=>clone_st c.t A ca W (h.t.below hb) zRU zRU
  have h6:=fun W (hb:Below w.heap.size w W)=>clone_be c.beds B cb W (h.b.below hb) zRU zRU
  have h7:=fun W (hb:Below w.heap.size w W)=>zOO c.hours C cc W (h.h.below hb) zRU zRU
  have hpi:=place_in (t:=c.t) (a:=a)
  have hX:zDl c a th=if errP c.t a=0∧zBp th 0 2000=true then zPF c th (zD5 c.t a) else (zCo,2):=by unfold zDl;rw [if_pos h0]
  generalize zDl c a th=dx at *
  generalize errP c.t a=ep at *
  generalize zD5 c.t a=l at *
  have e1:zAQ c A ca B cb C cc = .agg (zH c A ca B cb C cc).toArray:=rfl
  rw [e1] at h1 ⊢
  unfold vT at h2
  unfold zH at h1 ⊢
  (refine zM (n:=107) Tryz.func39 rfl rfl rfl ?_)
  (repeat' (first|((with_reducible refine zG ?_);first|refine zE rfl rfl rfl rfl rfl ?_|refine zC rfl rfl rfl rfl rfl ?_|(refine zK rfl rfl rfl rfl rfl ?_;refine ⟨_,rfl,?_⟩)|refine zd rfl rfl rfl rfl rfl ?_|refine zAg rfl rfl rfl rfl rfl rfl ?_|refine zAN rfl rfl rfl ?_|(refine zQ rfl rfl rfl rfl rfl rfl rfl (fun h=>?_) (fun h=>?_)<;>(dsimp only [cmpP] at h;(try (exfalso;omega))))|(refine zAV rfl rfl rfl rfl rfl rfl (fun _ _ q=>h1 _ q.below) ?_;rintro g -;dsimp only [List.cons_append,List.nil_append])|refine zCW rfl rfl rfl rfl rfl rfl (fun _ _ q=>h2 _ q.below) (fun A' c'=>?_)|(refine zAe rfl rfl rfl rfl rfl rfl (fun _ _ q=>zCN th 0 2000 _) (fun h=>?_) (fun h=>?_)<;>skip)|refine zj rfl rfl rfl rfl rfl rfl ?_|refine zAf rfl rfl rfl rfl rfl ?_|(refine zf rfl rfl rfl rfl rfl ?_;refine And.intro rfl (And.intro zRY ⟨_,rfl,?_⟩))|(refine zr rfl rfl rfl rfl (fun b=>?_))|(refine zAI rfl rfl rfl rfl rfl rfl (fun b=>?_))|(refine zBC rfl rfl rfl rfl rfl ?_;refine ⟨_,rfl,?_⟩))|(with_reducible first|refine zI ?_|refine zB ?_|refine zD ?_|refine zA ?_|refine za ?_|refine zP ?_|refine zb ?_)|((with_reducible refine zJ ?_ ?_);(· exact rfl))|((with_reducible refine zF ?_ ?_);(· exact rfl))))
  ·rw [show dx=(zCo,2) by rw [hX,if_neg (fun e=>h e.1)]]
   exact zU zRg ((none,0),(none,0),none,0) trivial rfl (fun _ h=>zEP)
  ·rename_i b3 b5 x1 hne
   obtain ⟨b6,hb6⟩:∃ x,x=b:=⟨_,rfl⟩
   subst hb6
   have hep:ep=0:=by omega
   rw [if_pos ⟨hep,h⟩] at hX
   rcases l with _ | ⟨p,_ | ⟨p2,r⟩⟩
   ·rw [show dx=(zCo,6) from hX]
    simp only [List.length_nil]
    (refine zAr zRW zRW zRW ?_)
    (repeat' (first|((with_reducible refine zBD ?_);first|refine zW (zAM rfl rfl) rfl rfl rfl ?_|refine zW (zCA rfl rfl rfl) rfl rfl rfl ?_|refine zA9 rfl rfl rfl ?_|(refine zCu rfl rfl rfl rfl rfl rfl rfl (fun h=>?_) (fun h=>?_)<;>(dsimp only [cmpP] at h;(try (exfalso;omega))))|refine zW (zDR rfl rfl) rfl rfl rfl ?_)|(with_reducible refine zBw ?_)))
    all_goals (repeat' (first|((with_reducible refine zG ?_);first|refine zC rfl rfl rfl rfl rfl ?_|(refine zf rfl rfl rfl rfl rfl ?_;refine And.intro rfl (And.intro zRY ⟨_,rfl,?_⟩))|(refine zBC rfl rfl rfl rfl rfl ?_;refine ⟨_,rfl,?_⟩))|(with_reducible first|refine zI ?_|refine zB ?_|refine zD ?_|refine zA ?_|refine za ?_|refine zb ?_)|((with_reducible refine zJ ?_ ?_);(· exact rfl))))
    all_goals exact zU zRg ((none,0),(none,0),none,0) trivial rfl (fun _ h=>zEP)
   ·obtain ⟨i,rfl,hi⟩:=hpi p zRf
    simp only [zPF] at hX
    refine zE1 (xs:=[(i:Int)]) zRT zRf ?_
    rintro b9 o9 rfl
    have:zAP [(i:Int)] 0 (i:Int):=⟨rfl⟩
    simp only [List.length_cons,List.length_nil]
    by_cases hie:i=c.beds.length
    ·rw [show dx=(zCo,6) by rw [hX,if_pos zRU]]
     (refine zAr zRW zRW zRW ?_)
     (repeat' (first|((with_reducible refine zBD ?_);first|refine zW (zAM rfl rfl) rfl rfl rfl ?_|refine zW (zy rfl rfl zRe) rfl rfl rfl ?_|refine zW (zAJ rfl rfl) rfl rfl rfl ?_|refine zW (zCA rfl rfl rfl) rfl rfl rfl ?_|(refine zCu rfl rfl rfl rfl rfl rfl rfl (fun h=>?_) (fun h=>?_)<;>(dsimp only [cmpP] at h;(try (exfalso;omega))))|refine zW (zAO (I:=0) rfl rfl rfl zRU zRj) rfl rfl rfl ?_|refine zW (zDR rfl rfl) rfl rfl rfl ?_)|(with_reducible refine zBw ?_)))
     all_goals (repeat' (first|((with_reducible refine zG ?_);first|refine zC rfl rfl rfl rfl rfl ?_|(refine zf rfl rfl rfl rfl rfl ?_;refine And.intro rfl (And.intro zRY ⟨_,rfl,?_⟩))|(refine zBC rfl rfl rfl rfl rfl ?_;refine ⟨_,rfl,?_⟩))|(with_reducible first|refine zI ?_|refine zB ?_|refine zD ?_|refine zA ?_|refine za ?_|refine zb ?_)|((with_reducible refine zJ ?_ ?_);(· exact rfl))))
     all_goals exact zU zRg ((none,0),(none,0),none,0) trivial rfl (fun _ h=>zEP)
    ·rw [if_neg zRU] at hX
     obtain ⟨z,hz⟩:∃ z,c.beds[i]?=some z:=⟨_,List.getElem?_eq_getElem zRU⟩
     simp only [Int.toNat_natCast,zAS hz] at hX
     (refine zAr zRW zRW zRW ?_)
     (repeat' (first|((with_reducible refine zBD ?_);first|refine zW (zAM rfl rfl) rfl rfl rfl ?_|refine zW (zy rfl rfl zRe) rfl rfl rfl ?_|refine zW (zAJ rfl rfl) rfl rfl rfl ?_|refine zW (zCA rfl rfl rfl) rfl rfl rfl ?_|(refine zCu rfl rfl rfl rfl rfl rfl rfl (fun h=>?_) (fun h=>?_)<;>(dsimp only [cmpP] at h;(try (exfalso;omega))))|refine zW (zAO (I:=0) rfl rfl rfl zRU zRj) rfl rfl rfl ?_|refine zW (zDR rfl rfl) rfl rfl rfl ?_)|(with_reducible refine zBw ?_)))
     all_goals (repeat' (first|((with_reducible refine zG ?_);first|refine zE rfl rfl rfl rfl rfl ?_|(refine zK rfl rfl rfl rfl rfl ?_;refine ⟨_,rfl,?_⟩)|refine zd rfl rfl rfl rfl rfl ?_|(refine zf rfl rfl rfl rfl rfl ?_;refine And.intro rfl (And.intro zRY ⟨_,rfl,?_⟩))|(refine zr rfl rfl rfl rfl (fun b=>?_))|refine zBI rfl rfl rfl rfl rfl ?_)|(with_reducible first|refine zI ?_|refine zB ?_|refine zD ?_|refine zA ?_|refine zP ?_)|((with_reducible refine zF ?_ ?_);(· exact rfl))))
     (refine zAc [] [] [] rfl zRs (fun _ h=>h) zRW [[],[I0],[I0,I0],[I0,I0,I0],[O0,O0,O0,O0],[I0,O0,O0,O0,O0],[I0,I0,I0,I0,I0,I0],[O0,O0,O0,O0,O0,O0,O0],[I0,O0,O0,O0,O0,O0,O0,O0],[I0,I0,I0,I0,I0,I0,I0,I0,I0],[O0,O0,O0,O0,O0,O0,I0,I0,I0,I0],[I0,O0,O0,O0,O0,O0,O0,I0,I0,I0,I0],[I0,I0,I0,I0,I0,I0,I0,I0,I0,I0,I0,I0],[I0,I0,I0,I0,I0,I0,I0,I0,I0,I0,I0,I0,I0],[I0,I0,I0,I0,I0,I0,I0,I0,I0,I0,I0,I0,I0,I0],[I0,I0,I0,I0,I0,I0,I0,I0,I0,I0,I0,I0,I0,I0,I0],[I0,I0,I0,I0,I0,I0,I0,I0,I0,I0,I0,I0,I0,I0,I0,I0]] zRW zRW zRW zRW zRW ?_)
     (repeat' (first|(((with_reducible refine zCT ?_ ?_);(· exact rfl);refine ⟨_,fun G=>zRX,?_⟩);first|refine zX _ (fun _=>zy rfl rfl zRe) (fun _=>rfl) rfl zRR ?_|(refine zAU rfl ?_;refine zX _ (fun _=>zAJ rfl rfl) (fun _=>rfl) rfl zRR ?_)|(refine zIl (enc:=zBE) (e:=86) (zs:=c.t) rfl (fun _=>rfl) rfl (fun _=>rfl) (fun _=>rfl) (fun _ _ _ q=>h3 _ q.below) ?_)|(refine zIl (enc:=zAX) (e:=73) (zs:=c.beds) rfl (fun _=>rfl) rfl (fun _=>rfl) (fun _=>rfl) (fun _ _ _ q=>h6 _ q.below) ?_)|(refine zIl (enc:=zw) (e:=67) (zs:=c.hours) rfl (fun _=>rfl) rfl (fun _=>rfl) (fun _=>rfl) (fun _ _ _ q=>h7 _ q.below) ?_))|((with_reducible refine zBU ?_ ?_);(· exact rfl))))
     intro G
     simp only [regsT,List.nil_append,List.cons_append,Nat.reduceAdd]
     refine zB6 (H':=[.row zw 5 67 (.slice (G 9).A c.hours.length (G 9).m) c.hours,.row zAX 3 73 (.slice (G 6).A c.beds.length (G 6).m) c.beds,.row zBE 9 86 (.slice (G 3).A c.t.length (G 3).m) c.t,.blk b [.slice A c.t.length ca,.slice B c.beds.length cb,.slice C c.hours.length cc,.int .i64 c.wear.lo,.int .i64 c.wear.hi,.int .i64 c.layer.lo,.int .i64 c.layer.hi,.int .i64 c.rate,.int .i64 c.limit,.int .i64 c.base],.sl encI 1 (some ⟨b9,o9,none⟩) [(i:Int)],.blk b6 [.slice none 0 0,.slice none 0 0,.slice none 0 0,.int .i64 0,.int .i64 0,.int .i64 0,.int .i64 0,.int .i64 0,.int .i64 0,.int .i64 0],.blk b5 [.int .i64 th.lo,.int .i64 th.hi]]) (fun _ h=>h.sub zRQ) ?_
     generalize (G 9).A=A9
     generalize (G 9).m=m9
     generalize (G 6).A=A6
     generalize (G 6).m=m6
     generalize (G 3).A=A3
     generalize (G 3).m=m3
     refine zE2 (enc:=zAX) (xs:=c.beds) zRT zRU ?_
     rintro gb rfl
     have:zAP c.beds i z:=⟨hz⟩
     (repeat' (first|((with_reducible refine zG ?_);first|refine zd rfl rfl rfl rfl rfl ?_|(refine zf rfl rfl rfl rfl rfl ?_;refine And.intro rfl (And.intro zRY ⟨_,rfl,?_⟩)))|(with_reducible first|refine zI ?_|refine zD ?_|refine zA ?_)))
     (refine zAr zRW zRW zRW ?_)
     (repeat' (first|((with_reducible refine zBD ?_);first|refine zW (zAM rfl rfl) rfl rfl rfl ?_|refine zW (zy rfl rfl zRe) rfl rfl rfl ?_|refine zW (zAJ rfl rfl) rfl rfl rfl ?_|refine zW (zBe rfl rfl) rfl rfl rfl ?_|refine zW (zAO (I:=0) rfl rfl rfl zRU zRj) rfl rfl rfl ?_|refine zW (zAO (I:=i) rfl rfl rfl zRU zRj) rfl rfl rfl ?_)|(with_reducible refine zBw ?_)))
     (repeat' (first|(with_reducible first|refine zI ?_|refine zA ?_)))
     (refine zAc [] [] [] rfl zRs (fun _ h=>h) zRW [[],[O0],[I0,O0],[I0,I0,O0],[I0,I0,I0,O0],[I0,I0,I0,I0,O0],[O0,O0,O0,O0,O0,O0],[I0,O0,O0,O0,O0,O0,O0],[I0,I0,I0,I0,I0,I0,I0,O0],[O0,O0,O0,O0,O0,O0,O0,O0,O0],[I0,O0,O0,O0,O0,O0,O0,O0,O0,O0],[I0,I0,O0,O0,O0,O0,O0,O0,O0,O0,O0],[I0,I0,I0,O0,O0,O0,O0,O0,O0,O0,O0,O0],[I0,I0,I0,I0,O0,O0,O0,O0,O0,O0,O0,O0,O0],[O0,O0,O0,O0,O0,O0,O0,O0,O0,O0,O0,O0,O0,O0],[I0,O0,O0,O0,O0,O0,O0,O0,O0,O0,O0,O0,O0,O0,O0],[I0,I0,I0,I0,I0,I0,I0,O0,O0,O0,O0,O0,O0,O0,O0,O0],[I0,I0,I0,I0,I0,I0,I0,I0,I0,I0,I0,I0,I0,I0,I0,I0,O0],[I0,I0,I0,I0,I0,I0,I0,I0,I0,I0,I0,I0,I0,I0,I0,I0,I0,I0],[I0,I0,I0,I0,I0,I0,I0,I0,I0,I0,I0,I0,I0,I0,I0,I0,I0,I0,I0],[I0,I0,I0,I0,I0,I0,I0,I0,I0,I0,I0,I0,I0,I0,I0,I0,I0,I0,I0,I0]] zRW zRW zRW zRW zRW ?_)
     (repeat' (first|(((with_reducible refine zCT ?_ ?_);(· exact rfl);refine ⟨_,fun G=>zRX,?_⟩);first|refine zX _ (fun _=>zAM rfl rfl) (fun _=>rfl) rfl zRR ?_|refine zX _ (fun _=>zy rfl rfl zRe) (fun _=>rfl) rfl zRR ?_|(refine zAU rfl ?_;refine zX _ (fun _=>zAJ rfl rfl) (fun _=>rfl) rfl zRR ?_)|refine zX _ (fun _=>zAY rfl rfl) (fun _=>rfl) rfl zRR ?_|refine zX _ (fun _=>e_min rfl rfl rfl) (fun _=>rfl) rfl zRR ?_|refine zX _ (fun _=>e_max rfl rfl rfl) (fun _=>rfl) rfl zRR ?_|refine zX _ (fun _=>zD1 rfl rfl zRe) (fun _=>rfl) rfl zRR ?_)|((with_reducible refine zBU ?_ ?_);(· exact rfl))))
     intro G2
     simp only [regsT,List.nil_append,List.cons_append,Nat.reduceAdd]
     refine zB6 (H':=[.arr zAX 3 gb c.beds,.blk b [.slice A3 c.t.length m3,.slice (some ⟨gb,0,none⟩) c.beds.length m6,.slice A9 c.hours.length m9,.int .i64 c.wear.lo,.int .i64 c.wear.hi,.int .i64 c.layer.lo,.int .i64 c.layer.hi,.int .i64 c.rate,.int .i64 c.limit,.int .i64 c.base],.row zw 5 67 (.slice A9 c.hours.length m9) c.hours,.row zBE 9 86 (.slice A3 c.t.length m3) c.t,.sl encI 1 (some ⟨b9,o9,none⟩) [(i:Int)],.blk b6 [.slice none 0 0,.slice none 0 0,.slice none 0 0,.int .i64 0,.int .i64 0,.int .i64 0,.int .i64 0,.int .i64 0,.int .i64 0,.int .i64 0],.blk b5 [.int .i64 th.lo,.int .i64 th.hi]]) (fun _ h=>h.sub zRQ) ?_
     (repeat' (first|((with_reducible refine zG ?_);first|refine zB5 (enc:=zAX) (k:=3) (i:=i) (j:=0) (z:=z) (zD2 z th) rfl rfl rfl rfl rfl rfl rfl rfl zRs ?_)|(with_reducible first|refine zI ?_|refine zD ?_|refine zA ?_)))
     have:zAP (c.beds.set i (zD2 z th)) i (zD2 z th):=⟨List.getElem?_set_self zRU⟩
     (refine zAr zRW zRW zRW ?_)
     (repeat' (first|((with_reducible refine zBD ?_);first|refine zW (zAM rfl rfl) rfl rfl rfl ?_|refine zW (zy rfl rfl zRe) rfl rfl rfl ?_|refine zW (zAJ rfl rfl) rfl rfl rfl ?_|(refine zCu rfl rfl rfl rfl rfl rfl rfl (fun h=>?_) (fun h=>?_)<;>(dsimp only [cmpP] at h;(try (exfalso;omega))))|refine zW (zAY rfl rfl) rfl rfl rfl ?_)|(with_reducible refine zBw ?_)))
     ·rw [show dx=(zCo,8) by rw [hX,if_pos h]]
      (repeat' (first|((with_reducible refine zG ?_);first|refine zC rfl rfl rfl rfl rfl ?_|(refine zf rfl rfl rfl rfl rfl ?_;refine And.intro rfl (And.intro zRY ⟨_,rfl,?_⟩))|(refine zBC rfl rfl rfl rfl rfl ?_;refine ⟨_,rfl,?_⟩))|(with_reducible first|refine zI ?_|refine zB ?_|refine zD ?_|refine zA ?_|refine za ?_|refine zb ?_)|((with_reducible refine zJ ?_ ?_);(· exact rfl))))
      exact zU zRg ((none,0),(none,0),none,0) trivial rfl (fun _ h=>zEP)
     ·rw [show dx=({ c with beds:=c.beds.set i (zD2 z th) },0) by rw [hX,if_neg h]]
      (repeat' (first|((with_reducible refine zG ?_);first|refine zC rfl rfl rfl rfl rfl ?_|(refine zK rfl rfl rfl rfl rfl ?_;refine ⟨_,rfl,?_⟩)|(refine zf rfl rfl rfl rfl rfl ?_;refine And.intro rfl (And.intro zRY ⟨_,rfl,?_⟩)))|(with_reducible first|refine zI ?_|refine zB ?_|refine zD ?_|refine zA ?_|refine za ?_|refine zP ?_)|((with_reducible refine zF ?_ ?_);(· exact rfl))))
      exact zU zRg ((A3,m3),(some ⟨gb,0,none⟩,m6),A9,m9) trivial (by simp only [zAQ,zH,List.length_set];rfl) (fun _ h=>(((Own.zM0 (xs:=c.beds.set i (zD2 z th)) zRT h).zCK (xs:=c.hours) zRT).zCK (xs:=c.t) zRT).sub zRQ)
   ·rw [show dx=(zCo,6) from hX]
    simp only [List.length_cons]
    (refine zAr zRW zRW zRW ?_)
    (repeat' (first|((with_reducible refine zBD ?_);first|refine zW (zAM rfl rfl) rfl rfl rfl ?_|refine zW (zCA rfl rfl rfl) rfl rfl rfl ?_|refine zA9 rfl rfl rfl ?_|(refine zCu rfl rfl rfl rfl rfl rfl rfl (fun h=>?_) (fun h=>?_)<;>(dsimp only [cmpP] at h;(try (exfalso;omega))))|refine zW (zDR rfl rfl) rfl rfl rfl ?_)|(with_reducible refine zBw ?_)))
    all_goals (repeat' (first|((with_reducible refine zG ?_);first|refine zC rfl rfl rfl rfl rfl ?_|(refine zf rfl rfl rfl rfl rfl ?_;refine And.intro rfl (And.intro zRY ⟨_,rfl,?_⟩))|(refine zBC rfl rfl rfl rfl rfl ?_;refine ⟨_,rfl,?_⟩))|(with_reducible first|refine zI ?_|refine zB ?_|refine zD ?_|refine zA ?_|refine za ?_|refine zb ?_)|((with_reducible refine zJ ?_ ?_);(· exact rfl))))
    all_goals exact zU zRg ((none,0),(none,0),none,0) trivial rfl (fun _ h=>zEP)
  ·rw [show dx=(zCo,2) by rw [hX,if_neg (fun e=>by rw [e.2] at h;cases h)]]
   exact zU zRg ((none,0),(none,0),none,0) trivial rfl (fun _ h=>zEP)
 ·have h1:=fun W (hb:Below w.heap.size w W)=>zFD c A ca B cb C cc W (h.below hb) hs h0
  have hX:zDl c a th=(zCo,zAp c):=by unfold zDl;rw [if_neg h0]
  rw [hX]
  have e1:zAQ c A ca B cb C cc = .agg (zH c A ca B cb C cc).toArray:=rfl
  rw [e1] at h1 ⊢
  generalize zAp c=e at *
  unfold zH at h1 ⊢
  (refine zM (n:=107) Tryz.func39 rfl rfl rfl ?_)
  (repeat' (first|((with_reducible refine zG ?_);first|refine zE rfl rfl rfl rfl rfl ?_|refine zC rfl rfl rfl rfl rfl ?_|(refine zK rfl rfl rfl rfl rfl ?_;refine ⟨_,rfl,?_⟩)|(refine zQ rfl rfl rfl rfl rfl rfl rfl (fun h=>?_) (fun h=>?_)<;>(dsimp only [cmpP] at h;(try (exfalso;omega))))|refine zV rfl rfl rfl rfl rfl rfl (fun _ _ q=>h1 _ q.below) ?_|refine zj rfl rfl rfl rfl rfl rfl ?_|(refine zf rfl rfl rfl rfl rfl ?_;refine And.intro rfl (And.intro zRY ⟨_,rfl,?_⟩))|(refine zr rfl rfl rfl rfl (fun b=>?_))|(refine zAI rfl rfl rfl rfl rfl rfl (fun b=>?_))|(refine zBC rfl rfl rfl rfl rfl ?_;refine ⟨_,rfl,?_⟩))|(with_reducible first|refine zI ?_|refine zB ?_|refine zD ?_|refine zA ?_|refine za ?_|refine zb ?_)|((with_reducible refine zJ ?_ ?_);(· exact rfl))))
  exact zU zRg ((none,0),(none,0),none,0) trivial rfl (fun _ h=>zEP)
end Go.Proofs.YtdigopgncfhiaaaGreatDoor.Two
namespace Go.Proofs.YtdigopgncfhiaaaGreatDoor.Two
variable {ro : Option Nat}
open Go.RowKit
set_option maxRecDepth 20000
theorem zQJ (c:Cov) (A:Option Addr) (ca:Nat) (B:Option Addr) (cb:Nat) (C:Option Addr) (cc:Nat) (w:World) (h:zAl w c A B C) (h1:c.t.length≤1000) (h2:c.beds.length≤1000) (h3:c.hours.length≤1000) :
  Ret Tryz.prog 34 [zAQ c A ca B cb C cc] w (fun p:(Option Addr × Nat) × (Option Addr × Nat) × (Option Addr × Nat)=>zAQ c p.1.1 p.1.2 p.2.1.1 p.2.1.2 p.2.2.1 p.2.2.2) (fun p=>[.sl zBE 9 p.1.1 c.t,.row zAX 3 73 (.slice p.2.1.1 c.beds.length p.2.1.2) c.beds,.row zw 5 67 (.slice p.2.2.1 c.hours.length p.2.2.2) c.hours]) (fun _=>True):=by
 have hb:=h.b;have hh:=h.h
 have hT:=fun W (hW:Below w.heap.size w W)=>twin_any c.t A ca W (h.t.below hW) h1
 unfold vT at hT
 unfold zAQ zH
 (refine zM (n:=18) Tryz.func34 rfl rfl rfl ?_)
 (repeat' (first|((with_reducible refine zG ?_);first|(refine zK rfl rfl rfl rfl rfl ?_;refine ⟨_,rfl,?_⟩)|refine zd rfl rfl rfl rfl rfl ?_|refine zCW rfl rfl rfl rfl rfl rfl (fun _ _ q=>hT _ q.below) (fun A' c'=>?_)|(refine zB9 zAX (e:=73) rfl rfl rfl rfl (fun b=>?_))|(refine zAq (enc:=zAX) c.beds rfl rfl rfl rfl rfl zRT rfl rfl (zEu hb) zRc (fun A' c'=>?_))|(refine zB9 zw (e:=67) rfl rfl rfl rfl (fun b=>?_))|(refine zAq (enc:=zw) c.hours rfl rfl rfl rfl rfl zRT rfl rfl (zEu hh) zRc (fun A' c'=>?_))|(refine zf rfl rfl rfl rfl rfl ?_;refine And.intro rfl (And.intro zRY ⟨_,rfl,?_⟩))|(refine zr rfl rfl rfl rfl (fun b=>?_))|(refine zAI rfl rfl rfl rfl rfl rfl (fun b=>?_)))|(with_reducible first|refine zI ?_|refine zB ?_|refine zD ?_|refine zA ?_|refine za ?_)))
 rename_i A1 c1 bb A2 c2
 simp only [List.nil_append]
 exact zU zRo ((A1,c1),(A2,c2),(A',c')) trivial rfl (fun _ h=>h.sub zRQ)
end Go.Proofs.YtdigopgncfhiaaaGreatDoor.Two
namespace Go.Proofs.YtdigopgncfhiaaaGreatDoor
open Go.RowKit
set_option maxRecDepth 20000
def zHZ (m k:Nat):List Int:=((List.range k).filter m.testBit).map fun h:Nat=>(h:Int)
theorem setL_yes {m k:Nat} (h:m.testBit k=true):zHZ m (k+1)=zHZ m k++[(k:Int)]:=by
 simp [zHZ,List.range_succ,List.filter_append,h]
theorem setL_no {m k:Nat} (h:m.testBit k=false):zHZ m (k+1)=zHZ m k:=by
 simp [zHZ,List.range_succ,List.filter_append,h]
theorem zNK (m k:Nat):(zHZ m k).length≤k:=by
 have:=List.length_filter_le m.testBit (List.range k)
 simpa [zHZ] using this
def lexB : List Int→List Int→Bool
 | x::a,y::b=>if x=y then lexB a b else decide (x<y)
 | _,_=>false
def befB (a b:List Int):Bool:=if a.length=b.length then lexB a b else decide (a.length<b.length)
end Go.Proofs.YtdigopgncfhiaaaGreatDoor
namespace Go.Proofs.YtdigopgncfhiaaaGreatDoor
open Go.RowKit
set_option maxRecDepth 20000
section
variable {ro : Option Nat} {P:Program} {w0:World} {n:Nat} {d:List Deferred} {R:List (Nat × Value)} {H:List Ent} {Q:Exit→Act→World→Prop} {ops:Array Oper} {rest:List Oper} {o:Oper} {t:Tmp} {x y:Operand} {T T':TypeId} {k:IntKind} {i j:Int}
def isAny2 : BinOp→Bool
 | .add | .and=>true
 | _=>false
theorem u_any2 {c:BinOp} (hop:o.op = .binOp c T x y T') (hc:isAny2 c=true) (hw:want R ops o=some true) (hd:o.dst=some t) (ht:Nat.blt t n=true) (hx:evR R x=some (.int k i)) (hy:evR R y=some (.int k j)) (h:∀ z,U w0 n d ((t,.int k z)::R) H (wpL ro P ops Q rest)):U w0 n d R H (wpL ro P ops Q (o::rest)):=by
 have key:∃ z,∀ a w,Kn w0 n d R H a w→(execOp a.eval o).run P w = .ok (.value (.int k z)) w:=by
  cases c<;>simp only [isAny2,Bool.false_eq_true] at hc
  ·exact ⟨k.wrap (i+j),fun a w q=>by unfold execOp;rw [hop];simp [q.ev hx,q.ev hy,eqGuard,binOp,Op.intArith]⟩
  ·exact ⟨_,fun a w q=>by unfold execOp;rw [hop];simp only [Sem.run_bind,q.ev hx,q.ev hy,eqGuard,binOp,Op.intBits,ne_eq,not_true_eq_false,if_false,Bool.not_false,if_true,Sem.run_pure,Result.andThen_ok];rfl⟩
 obtain ⟨z,hz⟩:=key
 exact zAb hw hd ht hz (h z)
end
theorem zOo (z:Int) (w:World):Ret Tryz.prog 113 [.int .u64 z] w (fun m:Nat=>.int .i64 (m:Int)) (fun _=>[]) (fun m=>m≤127):=by
 (refine zM (n:=35) Tryz.func113 rfl rfl rfl ?_)
 (repeat' (first|((with_reducible refine zG ?_);first|refine zE rfl rfl rfl rfl rfl ?_|refine zC rfl rfl rfl rfl rfl ?_|refine u_and127 rfl rfl rfl rfl rfl rfl (fun m hm=>?_)|refine u_any2 rfl rfl rfl rfl rfl rfl rfl (fun _=>?_)|refine u_anyShr rfl rfl rfl rfl rfl rfl zRU (fun _=>?_)|refine zLA rfl rfl rfl rfl rfl (fun _=>?_))|(with_reducible first|refine zI ?_|refine zB ?_|refine zD ?_|refine zA ?_|refine za ?_)))
 exact zU zRZ m hm rfl (fun _ h=>h.sub zRQ)
theorem ones_any (z:Int) (w:World):Ret Tryz.prog 71 [.int .u64 z] w (fun m:Nat=>.int .i64 (m:Int)) (fun _=>[]) (fun m=>m≤127):=by
 (refine zM (n:=8) Tryz.func71 rfl rfl rfl ?_)
 (repeat' (first|((with_reducible refine zG ?_);first|refine zE rfl rfl rfl rfl rfl ?_|refine zC rfl rfl rfl rfl rfl ?_|(refine zAV rfl rfl rfl rfl rfl rfl (fun _ _ q=>zOo _ _) ?_;rintro m hm;dsimp only [List.cons_append,List.nil_append]))|(with_reducible first|refine zI ?_|refine zB ?_|refine zD ?_|refine zA ?_|refine za ?_|refine zP ?_)|((with_reducible refine zF ?_ ?_);(· exact rfl))))
 exact zU zRZ m hm rfl (fun _ h=>h.sub zRQ)
theorem zQn (x:Int) (w:World):Gv Tryz.prog 138 [.int .i64 x] w (.bool false):=by
 unfold Gv
 (refine zM (n:=6) Tryz.func138 rfl rfl rfl ?_)
 (repeat' (first|((with_reducible refine zG ?_);first|refine zE rfl rfl rfl rfl rfl ?_|refine zC rfl rfl rfl rfl rfl ?_|(refine zQ rfl rfl rfl rfl rfl rfl rfl (fun h=>?_) (fun h=>?_)<;>(dsimp only [cmpP] at h;(try (exfalso;omega)))))|(with_reducible first|refine zI ?_|refine zB ?_|refine zD ?_|refine zA ?_|refine za ?_)))
 exact zU zRZ () trivial rfl (fun _ _=>Own.nil _ _)
def cmpI (x y:Int):Int:=if x<y then -1 else if y<x then 1 else 0
theorem cmp_any (x y:Int) (w:World):Gv Tryz.prog 115 [.int .i64 x,.int .i64 y] w (.int .i64 (cmpI x y)):=by
 unfold Gv cmpI
 (refine zM (n:=20) Tryz.func115 rfl rfl rfl ?_)
 (repeat' (first|((with_reducible refine zG ?_);first|refine zE rfl rfl rfl rfl rfl ?_|refine zC rfl rfl rfl rfl rfl ?_|(refine zQ rfl rfl rfl rfl rfl rfl rfl (fun h=>?_) (fun h=>?_)<;>(dsimp only [cmpP] at h;(try (exfalso;omega))))|refine zV rfl rfl rfl rfl rfl rfl (fun _ _ q=>zQn _ _) ?_)|(with_reducible first|refine zI ?_|refine zB ?_|refine zD ?_|refine zA ?_|refine za ?_|refine zP ?_|refine zb ?_)|((with_reducible refine zJ ?_ ?_);(· exact rfl))|((with_reducible refine zF ?_ ?_);(· exact rfl))))
 all_goals exact zU zRZ () trivial (by simp only [resV];congr 1;omega) (fun _ h=>h.sub zRQ)
def zJD : List Int→List Int→Int
 | x::a,y::b=>if cmpI x y=0 then zJD a b else cmpI x y
 | _,_=>0
theorem zRM {a b:List Int} {i:Nat} {x y:Int} (h1:a[i]?=some x) (h2:b[i]?=some y):zJD (a.drop i) (b.drop i)=if cmpI x y=0 then zJD (a.drop (i+1)) (b.drop (i+1)) else cmpI x y:=by
 obtain ⟨i1,rfl⟩:=List.getElem?_eq_some_iff.1 h1
 obtain ⟨i2,rfl⟩:=List.getElem?_eq_some_iff.1 h2
 rw [List.drop_eq_getElem_cons i1,List.drop_eq_getElem_cons i2];rfl
theorem zON : ∀ (a b:List Int),zJD a b<0↔lexB a b=true
 | [],_=>by simp [zJD,lexB]
 | _::_,[]=>by simp [zJD,lexB]
 | x::a,y::b=>by
  simp only [zJD,lexB]
  by_cases e:x=y
  ·subst e
   rw [if_pos rfl,if_pos (by simp [cmpI])]
   exact zON a b
  ·rw [if_neg e]
   unfold cmpI
   by_cases h:x<y
   ·simp [h]
   ·have:y<x:=by omega
    simp [h,this]
set_option maxHeartbeats 1000000 in
theorem zMu (a:List Int) (A:Option Addr) (ca:Nat) (m:List Int) (B:Option Addr) (cb:Nat) (w:World) (ha:zAB encI 1 w A a) (hm:zAB encI 1 w B m) (h1:a.length≤1000) (hl:a.length=m.length) :
  Gv Tryz.prog 74 [.slice A a.length ca,.slice B m.length cb] w (.int .i64 (zJD a m)):=by
 unfold Gv
 (refine zM (n:=36) Tryz.func74 rfl rfl rfl ?_)
 (repeat' (first|((with_reducible refine zG ?_);first|refine zE rfl rfl rfl rfl rfl ?_|refine zC rfl rfl rfl rfl rfl ?_|refine zp rfl rfl rfl rfl rfl ?_)|(with_reducible first|refine zI ?_|refine zB ?_|refine zD ?_|refine zA ?_|refine zN ?_)))
 refine zq (ι:=Nat) [0,1,9,10] rfl (fun i=>i≤a.length∧zJD (a.drop i) (m.drop i)=zJD a m) (fun i=>[(11,.int .i64 (i:Int))]) (fun _=>[]) (fun i=>a.length - i) 0 ⟨Nat.zero_le _,rfl⟩ zRS zRQ ?_
 rintro i ⟨hi,hlx⟩
 simp only [zAn,List.cons_append,List.nil_append]
 by_cases hlt:i<a.length
 ·obtain ⟨x,hx⟩:∃ x,a[i]?=some x:=⟨_,List.getElem?_eq_getElem hlt⟩
  obtain ⟨y,hy⟩:∃ y,m[i]?=some y:=⟨_,List.getElem?_eq_getElem zRU⟩
  rw [zRM hx hy] at hlx
  obtain ⟨b1,o1,rfl,_,_⟩:=ha.at_ hlt
  obtain ⟨b2,o2,rfl,_,_⟩:=hm.at_ (i:=i) zRU
  have:InS w b1 o1 encI 1 a:=⟨ha⟩
  have:InS w b2 o2 encI 1 m:=⟨hm⟩
  have:zAP a i x:=⟨hx⟩
  have:zAP m i y:=⟨hy⟩
  have hcm:=fun W=>cmp_any x y W
  generalize cmpI x y=z at *
  by_cases hz:z=0
  ·rw [if_pos hz] at hlx
   (repeat' (first|((with_reducible refine zG ?_);first|refine zE rfl rfl rfl rfl rfl ?_|refine zC rfl rfl rfl rfl rfl ?_|(refine zK rfl rfl rfl rfl rfl ?_;refine ⟨_,rfl,?_⟩)|(refine zQ rfl rfl rfl rfl rfl rfl rfl (fun h=>?_) (fun h=>?_)<;>(dsimp only [cmpP] at h;(try (exfalso;omega))))|refine zV rfl rfl rfl rfl rfl rfl (fun _ _ q=>hcm _) ?_|refine zg rfl rfl rfl rfl rfl rfl zRU ?_|refine ze rfl rfl rfl rfl rfl rfl rfl zRU ?_|refine zp rfl rfl rfl rfl rfl ?_)|(with_reducible first|refine zI ?_|refine zB ?_|refine zD ?_|refine zA ?_|refine zP ?_|refine zN ?_|refine zi ?_)|((with_reducible refine zJ ?_ ?_);(· exact rfl))|((with_reducible refine zF ?_ ?_);(· exact rfl))))
   all_goals exact zc (ι:=Nat) (i+1) (by exact ⟨by omega,hlx⟩) zRU zRS zRQ
  ·rw [if_neg hz] at hlx
   rw [← hlx]
   (repeat' (first|((with_reducible refine zG ?_);first|refine zE rfl rfl rfl rfl rfl ?_|refine zC rfl rfl rfl rfl rfl ?_|(refine zK rfl rfl rfl rfl rfl ?_;refine ⟨_,rfl,?_⟩)|(refine zQ rfl rfl rfl rfl rfl rfl rfl (fun h=>?_) (fun h=>?_)<;>(dsimp only [cmpP] at h;(try (exfalso;omega))))|refine zV rfl rfl rfl rfl rfl rfl (fun _ _ q=>hcm _) ?_|refine ze rfl rfl rfl rfl rfl rfl rfl zRU ?_|refine zp rfl rfl rfl rfl rfl ?_)|(with_reducible first|refine zI ?_|refine zB ?_|refine zD ?_|refine zA ?_|refine za ?_|refine zP ?_|refine zb ?_|refine zN ?_|refine zAv ?_)|((with_reducible refine zJ ?_ ?_);(· exact rfl))|((with_reducible refine zF ?_ ?_);(· exact rfl))))
   all_goals exact zU zRZ () trivial rfl (fun _ _=>Own.nil _ _)
 ·obtain rfl:i=a.length:=by omega
  have e:zJD a m=0:=by rw [← hlx,List.drop_length];rfl
  rw [e]
  (repeat' (first|((with_reducible refine zG ?_);first|refine zE rfl rfl rfl rfl rfl ?_|refine zC rfl rfl rfl rfl rfl ?_|(refine zQ rfl rfl rfl rfl rfl rfl rfl (fun h=>?_) (fun h=>?_)<;>(dsimp only [cmpP] at h;(try (exfalso;omega))))|refine zp rfl rfl rfl rfl rfl ?_)|(with_reducible first|refine zI ?_|refine zB ?_|refine zD ?_|refine zA ?_|refine za ?_|refine zP ?_|refine zk ?_|refine zR ?_|refine zY ?_)|((with_reducible refine zF ?_ ?_);(· exact rfl))))
  all_goals exact zU zRZ () trivial rfl (fun _ _=>Own.nil _ _)
def ordI (a b:List Int):Int:=if a.length=b.length then zJD a b else (a.length:Int) - b.length
theorem ordI_bef (a b:List Int):ordI a b<0↔befB a b=true:=by
 unfold ordI befB
 split
 ·exact zON a b
 ·simp;omega
theorem zQe (a:List Int) (A:Option Addr) (ca:Nat) (m:List Int) (B:Option Addr) (cb:Nat) (w:World) (ha:zAB encI 1 w A a) (hm:zAB encI 1 w B m) (h1:a.length≤1000) (h2:m.length≤1000) :
  Gv Tryz.prog 73 [.slice A a.length ca,.slice B m.length cb] w (.int .i64 (ordI a m)):=by
 have hcm:=fun (hl:a.length=m.length) W (hb:Below w.heap.size w W)=>zMu a A ca m B cb W (ha.below hb) (hm.below hb) h1 hl
 unfold Gv ordI
 (refine zM (n:=18) Tryz.func73 rfl rfl rfl ?_)
 by_cases hl:a.length=m.length
 ·rw [if_pos hl]
  have hcm:=hcm hl
  (repeat' (first|((with_reducible refine zG ?_);first|refine zE rfl rfl rfl rfl rfl ?_|refine zC rfl rfl rfl rfl rfl ?_|(refine zQ rfl rfl rfl rfl rfl rfl rfl (fun h=>?_) (fun h=>?_)<;>(dsimp only [cmpP] at h;(try (exfalso;omega))))|refine zV rfl rfl rfl rfl rfl rfl (fun _ _ q=>hcm _ q.below) ?_|refine zp rfl rfl rfl rfl rfl ?_)|(with_reducible first|refine zI ?_|refine zB ?_|refine zD ?_|refine zA ?_|refine za ?_|refine zP ?_)|((with_reducible refine zF ?_ ?_);(· exact rfl))))
  exact zU zRZ () trivial rfl (fun _ _=>Own.nil _ _)
 ·rw [if_neg hl]
  (repeat' (first|((with_reducible refine zG ?_);first|refine zE rfl rfl rfl rfl rfl ?_|refine zC rfl rfl rfl rfl rfl ?_|(refine zQ rfl rfl rfl rfl rfl rfl rfl (fun h=>?_) (fun h=>?_)<;>(dsimp only [cmpP] at h;(try (exfalso;omega))))|refine zCc rfl rfl rfl rfl rfl rfl (IntWalk.i64_in _ zRU) ?_|refine zp rfl rfl rfl rfl rfl ?_)|(with_reducible first|refine zI ?_|refine zB ?_|refine zD ?_|refine zA ?_|refine za ?_|refine zb ?_)|((with_reducible refine zJ ?_ ?_);(· exact rfl))))
  exact zU zRZ () trivial rfl (fun _ _=>Own.nil _ _)
end Go.Proofs.YtdigopgncfhiaaaGreatDoor
namespace Go.Proofs.YtdigopgncfhiaaaGreatDoor
open Go.RowKit
set_option maxRecDepth 20000
def zEm (m x:zAH Int):zAH Int:=if befB x.xs m.xs=true then x else m
def minS : List (zAH Int)→zAH Int
 | []=>zBH
 | s::r=>r.foldl zEm s
theorem zNm : ∀ (r:List (zAH Int)) (s:zAH Int),r.foldl zEm s=s∨r.foldl zEm s∈r
 | [],s=>.inl rfl
 | x::r,s=>by
  simp only [List.foldl_cons]
  rcases zNm r (zEm s x) with h|h
  ·rw [h];unfold zEm;split
   ·exact .inr List.mem_cons_self
   ·exact .inl rfl
  ·exact .inr (List.mem_cons_of_mem _ h)
set_option maxHeartbeats 2000000 in
theorem min_any (L:List (zAH Int)) (A:Option Addr) (ca:Nat) (w:World) (hL:zDU encI 1 w A L) (h0:0<L.length) (hl:L.length≤100000) (hb:∀ s∈L,s.xs.length≤1000) :
  Gv Tryz.prog 114 [.slice A L.length ca,.func (.func 73) #[] #[]] w (.slice (minS L).A (minS L).xs.length (minS L).c):=by
 have hLp:=hL.p
 obtain ⟨b1,o1,rfl,_,_⟩:=hLp.at_ h0
 have:InS w b1 o1 zAF 1 L:=⟨hLp⟩
 obtain ⟨s0,hs0⟩:∃ s,L[0]?=some s:=⟨_,List.getElem?_eq_getElem h0⟩
 have:zAP L 0 s0:=⟨hs0⟩
 have hmin:(L.drop 1).foldl zEm s0=minS L:=by
  cases L with
  | nil=>cases h0
  | cons x r=>cases hs0;rfl
 unfold Gv
 (refine zM (n:=33) Tryz.func114 rfl rfl rfl ?_)
 (repeat' (first|((with_reducible refine zG ?_);first|refine zE rfl rfl rfl rfl rfl ?_|refine zC rfl rfl rfl rfl rfl ?_|(refine zK rfl rfl rfl rfl rfl ?_;refine ⟨_,rfl,?_⟩)|(refine zQ rfl rfl rfl rfl rfl rfl rfl (fun h=>?_) (fun h=>?_)<;>(dsimp only [cmpP] at h;(try (exfalso;omega))))|refine ze rfl rfl rfl rfl rfl rfl rfl zRU ?_|refine zp rfl rfl rfl rfl rfl ?_)|(with_reducible first|refine zI ?_|refine zB ?_|refine zD ?_|refine zA ?_|refine zP ?_|refine zN ?_)|((with_reducible refine zF ?_ ?_);(· exact rfl))))
 refine zq (ι:=Nat × zAH Int) [0,1] rfl (fun q=>q.1≤L.length∧q.2∈L∧(L.drop q.1).foldl zEm q.2=minS L) (fun q=>[(6,.int .i64 (q.1:Int)),(5,.slice q.2.A q.2.xs.length q.2.c)]) (fun _=>[]) (fun q=>L.length - q.1) (1,s0) ⟨h0,List.mem_of_getElem? hs0,hmin⟩ zRS zRQ ?_
 rintro ⟨i,s⟩ ⟨hi,hs,hf⟩
 simp only at hi hs hf
 simp only [zAn,List.cons_append,List.nil_append]
 by_cases hlt:i<L.length
 ·obtain ⟨x,hx⟩:∃ x,L[i]?=some x:=⟨_,List.getElem?_eq_getElem hlt⟩
  have:zAP L i x:=⟨hx⟩
  have hxL:=List.mem_of_getElem? hx
  have hord:=fun W (hb':Below w.heap.size w W)=>zQe x.xs x.A x.c s.xs s.A s.c W ((hL.rows x hxL).below hb') ((hL.rows s hs).below hb') (hb x hxL) (hb s hs)
  have hbf:=ordI_bef x.xs s.xs
  rw [show L.drop i=x::L.drop (i+1) by rw [List.drop_eq_getElem_cons hlt];rw [List.getElem?_eq_getElem hlt] at hx;cases hx;rfl,List.foldl_cons] at hf
  generalize ordI x.xs s.xs=z at *
  by_cases hz:z<0
  ·rw [show zEm s x=x by unfold zEm;rw [if_pos (hbf.1 hz)]] at hf
   (repeat' (first|((with_reducible refine zG ?_);first|refine zE rfl rfl rfl rfl rfl ?_|refine zC rfl rfl rfl rfl rfl ?_|(refine zK rfl rfl rfl rfl rfl ?_;refine ⟨_,rfl,?_⟩)|(refine zQ rfl rfl rfl rfl rfl rfl rfl (fun h=>?_) (fun h=>?_)<;>(dsimp only [cmpP] at h;(try (exfalso;omega))))|refine zV rfl rfl rfl rfl rfl rfl (fun _ _ q=>hord _ q.below) ?_|refine zg rfl rfl rfl rfl rfl rfl zRU ?_|refine ze rfl rfl rfl rfl rfl rfl rfl zRU ?_|refine zp rfl rfl rfl rfl rfl ?_)|(with_reducible first|refine zI ?_|refine zB ?_|refine zD ?_|refine zA ?_|refine zP ?_|refine zN ?_|refine zi ?_)|((with_reducible refine zJ ?_ ?_);(· exact rfl))))
   all_goals exact zc (ι:=Nat × zAH Int) (i+1,x) (by exact ⟨by omega,hxL,hf⟩) zRi zRS zRQ
  ·rw [show zEm s x=s by unfold zEm;rw [if_neg (fun e=>hz (hbf.2 e))]] at hf
   (repeat' (first|((with_reducible refine zG ?_);first|refine zE rfl rfl rfl rfl rfl ?_|refine zC rfl rfl rfl rfl rfl ?_|(refine zK rfl rfl rfl rfl rfl ?_;refine ⟨_,rfl,?_⟩)|(refine zQ rfl rfl rfl rfl rfl rfl rfl (fun h=>?_) (fun h=>?_)<;>(dsimp only [cmpP] at h;(try (exfalso;omega))))|refine zV rfl rfl rfl rfl rfl rfl (fun _ _ q=>hord _ q.below) ?_|refine zg rfl rfl rfl rfl rfl rfl zRU ?_|refine ze rfl rfl rfl rfl rfl rfl rfl zRU ?_|refine zp rfl rfl rfl rfl rfl ?_)|(with_reducible first|refine zI ?_|refine zB ?_|refine zD ?_|refine zA ?_|refine zP ?_|refine zN ?_|refine zi ?_)|((with_reducible refine zJ ?_ ?_);(· exact rfl))|((with_reducible refine zF ?_ ?_);(· exact rfl))))
   all_goals exact zc (ι:=Nat × zAH Int) (i+1,s) (by exact ⟨by omega,hs,hf⟩) zRi zRS zRQ
 ·obtain rfl:i=L.length:=by omega
  rw [List.drop_length,List.foldl_nil] at hf
  rw [← hf]
  (repeat' (first|((with_reducible refine zG ?_);first|refine zE rfl rfl rfl rfl rfl ?_|refine zC rfl rfl rfl rfl rfl ?_|(refine zQ rfl rfl rfl rfl rfl rfl rfl (fun h=>?_) (fun h=>?_)<;>(dsimp only [cmpP] at h;(try (exfalso;omega))))|refine zp rfl rfl rfl rfl rfl ?_)|(with_reducible first|refine zI ?_|refine zB ?_|refine zD ?_|refine zA ?_|refine za ?_|refine zk ?_|refine zR ?_|refine zY ?_)|((with_reducible refine zF ?_ ?_);(· exact rfl))))
  exact zU zRZ () trivial rfl (fun _ _=>Own.nil _ _)
theorem zLr (L:List (zAH Int)) (A:Option Addr) (ca:Nat) (w:World) (hL:zDU encI 1 w A L) (hl:L.length≤100000) (hb:∀ s∈L,s.xs.length≤1000) :
  Gv Tryz.prog 72 [.slice A L.length ca,.func (.func 73) #[] #[]] w (.tuple #[.slice (minS L).A (minS L).xs.length (minS L).c,.bool (decide (0<L.length))]):=by
 unfold Gv
 by_cases h0:0<L.length
 ·have hm:=fun W (hb':Below w.heap.size w W)=>min_any L A ca W (hL.below hb') h0 hl hb
  rw [decide_eq_true h0]
  (refine zM (n:=14) Tryz.func72 rfl rfl rfl ?_)
  (repeat' (first|((with_reducible refine zG ?_);first|refine zE rfl rfl rfl rfl rfl ?_|refine zC rfl rfl rfl rfl rfl ?_|(refine zQ rfl rfl rfl rfl rfl rfl rfl (fun h=>?_) (fun h=>?_)<;>(dsimp only [cmpP] at h;(try (exfalso;omega))))|refine zV rfl rfl rfl rfl rfl rfl (fun _ _ q=>hm _ q.below) ?_|refine zp rfl rfl rfl rfl rfl ?_)|(with_reducible first|refine zI ?_|refine zB ?_|refine zD ?_|refine zA ?_|refine za ?_|refine zP ?_)|((with_reducible refine zF ?_ ?_);(· exact rfl))))
  exact zU zRd () trivial rfl (fun _ _=>Own.nil _ _)
 ·obtain rfl:L=[]:=List.eq_nil_of_length_eq_zero zRU
  rw [show minS []=zBH from rfl]
  (refine zM (n:=14) Tryz.func72 rfl rfl rfl ?_)
  (repeat' (first|((with_reducible refine zG ?_);first|refine zE rfl rfl rfl rfl rfl ?_|refine zC rfl rfl rfl rfl rfl ?_|(refine zQ rfl rfl rfl rfl rfl rfl rfl (fun h=>?_) (fun h=>?_)<;>(dsimp only [cmpP] at h;(try (exfalso;omega))))|refine zp rfl rfl rfl rfl rfl ?_)|(with_reducible first|refine zI ?_|refine zB ?_|refine zD ?_|refine zA ?_|refine za ?_|refine zb ?_)|((with_reducible refine zJ ?_ ?_);(· exact rfl))))
  all_goals exact zU zRd () trivial rfl (fun _ _=>Own.nil _ _)
end Go.Proofs.YtdigopgncfhiaaaGreatDoor
