/- E25 -/
import Derived.Test.YtdigopgncfhiaaaGreatDoorE22
import Derived.Test.YtdigopgncfhiaaaGreatDoorE24
import Derived.Test.YtdigopgncfhiaaaGreatDoorE13
import Derived.Laws.MakeOwn
import Derived.Test.YtdigopgncfhiaaaGreatDoorE14
set_option linter.unusedSimpArgs false
set_option linter.unusedVariables false
namespace Go.Proofs.YtdigopgncfhiaaaGreatDoor
variable {ro : Option Nat}
open Go.RowKit
set_option maxRecDepth 20000
def zI8 (m x:List Int):List Int:=if befB x m=true then x else m
def zGv : List (List Int)→Option (List Int)
 | []=>none
 | s::r=>some (r.foldl zI8 s)
theorem zMc : ∀ (r:List (zAC Int)) (s:zAC Int),(r.foldl zEC s).xs=(r.map (·.xs)).foldl zI8 s.xs
 | [],s=>rfl
 | x::r,s=>by
  simp only [List.foldl_cons,List.map_cons]
  rw [zMc r]
  congr 1
  unfold zEC zI8;split<;>rfl
theorem minS_xs {L:List (zAC Int)} (h:0<L.length):zGv (L.map (·.xs))=some (minS L).xs:=by
 cases L with
 | nil=>cases h
 | cons s r=>simp only [minS,List.map_cons,zGv,zMc]
theorem minS_in {L:List (zAC Int)} (h:0<L.length):minS L∈L:=by
 cases L with
 | nil=>cases h
 | cons s r =>
  rcases zMK r s with h|h
  ·show r.foldl zEC s∈s::r
   rw [h];exact List.mem_cons_self
  ·exact List.mem_cons_of_mem _ h
def zCg (c:Cov) (h m:Nat):Bool:=decide (0<zDS (zAg c) (zCx c) (zAF c) h m)
def zCe (c:Cov) (h k:Nat):List (List Int):=((List.range k).filter (zCg c h)).map fun m=>zDZ m h
theorem zOv {c:Cov} {h k:Nat} (hb:zCg c h k=true):zCe c h (k+1)=zCe c h k++[zDZ k h]:=by
 simp [zCe,List.range_succ,List.filter_append,hb]
theorem setsX_no {c:Cov} {h k:Nat} (hb:zCg c h k=false):zCe c h (k+1)=zCe c h k:=by
 simp [zCe,List.range_succ,List.filter_append,hb]
theorem zOw (c:Cov) (h k:Nat):(zCe c h k).length≤k:=by
 have:=List.length_filter_le (zCg c h) (List.range k)
 simpa [zCe] using this
def shortF (c:Cov):Nat→Nat→Int × List Int × Int
 | 0,_=>(0,[],6)
 | n+1,h=>match zGv (zCe c h (2 ^ h)) with
  | some l=>((h:Int),l,0)
  | none=>shortF c n (h+1)
theorem zHs {c:Cov} {n h:Nat} {l:List Int} (e:zGv (zCe c h (2 ^ h))=some l):shortF c (n+1) h=((h:Int),l,0):=by simp [shortF,e]
theorem zHt {c:Cov} {n h:Nat} (e:zGv (zCe c h (2 ^ h))=none):shortF c (n+1) h=shortF c n (h+1):=by simp [shortF,e]
def zDR (c:Cov):Int × List Int × Int:=if zAm c=0 then shortF c c.hours.length 0 else (0,[],zAm c)
theorem zED {nd nd':Nat→Int} {my sm:Nat→Bool}:∀ k,(∀ h,h<k→nd h=nd' h)→Flow.lackF nd my sm k=Flow.lackF nd' my sm k
 | 0,_=>rfl
 | k+1,h=>by
  have ih:=zED (nd:=nd) (nd':=nd') (my:=my) (sm:=sm) k (fun i hi=>h i (by omega))
  have hk:=h k (by omega)
  simp only [Flow.lackF,ih,hk]
theorem zKb {hs:List Int} {m k:Nat} (hm:m<2 ^ k):∀ d,zBn hs m (k+d)=zBn hs m k
 | 0=>rfl
 | d+1=>by
  have e:zBn hs m (k+d+1)=zBn hs m (k+d)+(if m.testBit (k+d) then hs.getD (k+d) 0 else 0):=Flow.zAV _ _
  rw [← Nat.add_assoc,e,Nat.testBit_lt_two_pow (Nat.lt_of_lt_of_le hm (Nat.pow_le_pow_right (by omega) (by omega))),zKb hm d]
  simp
theorem zAM {f g:Nat→Int}:∀ k:Nat,(∀ i,i<k→f i=g i)→Flow.sumL (List.range k) f=Flow.sumL (List.range k) g
 | 0,_=>rfl
 | k+1,h=>by rw [Flow.zAV,Flow.zAV,zAM k (fun i hi=>h i (by omega)),h k (by omega)]
section
variable {P : Program} {w0:World} {n:Nat} {d:List Deferred} {R:List (Nat × Value)} {H H' H1 H2 H3:List Ent} {Q:Exit→Act→World→Prop} {X:Act→World→Prop} {ops:Array Oper} {rest:List Oper} {o:Oper} {t:Tmp} {x y:Operand} {v:Value}
theorem zOl {α:Type} (enc:α→List Value) {k:Nat} {T1 e:TypeId} {i:TypeInfo} {z:Value} {n0 s:Nat} {g:Bool} (hop:o.op = .makeSlice T1 x y) [i1:TyI P T1 (.slice e) s g] (hi:P.info? e=some i) (hz:i.zero=some z) (h1:i.size=k) (hb:Nat.ble (i.bytes * 1000) 281474976710656=true) (hw:want R ops o=some true) (hd:o.dst=some t) (ht:Nat.blt t n=true) (hx:evR R x=some (.int .i64 0)) (hy:evR R y=some (.int .i64 (n0:Int))) (hn:n0≤1000)
  (h:∀ b,U w0 n d ((t,.slice (some ⟨b,0,none⟩) 0 n0)::R) (.row enc k e (.slice (some ⟨b,0,none⟩) 0 n0) ([]:List α)::H) (wpL ro P ops Q rest)):U w0 n d R H (wpL ro P ops Q (o::rest)) :=
 zD2 hw fun a w q K1 hK=>by
  have hb':i.bytes * n0≤281474976710656:=by
   have h9:=Nat.le_of_ble_eq_true hb
   have h8:i.bytes * n0≤i.bytes * 1000:=Nat.mul_le_mul_left _ hn
   omega
  obtain ⟨w',hr,ho,hg⟩:=run_make_own (P:=P) w w.heap.size T1 e i z k i1.und hi hz h1 .i64 .i64 n0 hb' (by simp [maxLen];omega) (Nat.le_refl _)
  have hlt:=World.ownsRow.lt ho w.heap.size rfl
  unfold Oper.wp execOp;rw [hop]
  simp only [Sem.run_bind,q.ev hx,q.ev hy,hr,Result.andThen_ok,Sem.run_pure,Oper.upon_value,hd]
  refine hK _ _ (h w.heap.size _ _ ((q.call (E:=[.row enc k e (.slice (some ⟨w.heap.size,0,none⟩) 0 n0) ([]:List α)]) (zIC (Below.refl _ _) hg (fun g h=>by cases h) (Nat.le_refl _)) ⟨fun f hf=>?_,fun f hf b hb=>?_,by simp⟩).put ht))
  ·simp only [List.mem_singleton] at hf
   subst hf
   obtain ⟨h3,h4⟩:=ho
   refine ⟨h3,?_⟩
   rcases h4 with h4 | ⟨g,cap,cur,e1,_,h5⟩
   ·exact .inl h4
   ·exact .inr ⟨g,cap,cur,e1,Nat.zero_le _,h5⟩
  ·simp only [List.mem_singleton] at hf;subst hf;cases hb
   exact hlt
theorem zOn {β:Type} {f:β→Ent} {L:List β} {s:β} (ht:Take H (f s) H1) (ht1:Take H1 (.all (L.map f)) H2) (h:U w0 n d R (.all ((L++[s]).map f)::H2) X):U w0 n d R H X :=
 zFD (H':=.all ((L++[s]).map f)::H2) (fun w h0=>by
  have h1:=(h0.take ht)
  have h2:=h1.take (Take.there _ ht1)
  have h3:Own w0.heap.size w ((L.map f)++(f s::H2)):=zBh.2 h2
  refine zBh.1 ?_
  rw [List.map_append,List.append_assoc]
  exact h3) h
theorem u_allNil {β:Type} (f:β→Ent) (h:U w0 n d R (.all (([]:List β).map f)::H) X):U w0 n d R H X :=
 zFD (H':=.all (([]:List β).map f)::H) (fun w h0=>(zBh (L:=[])).1 h0) h
theorem zMB {β:Type} {f:β→Ent} {L:List β} {s:β} {base:Nat} {w:World} (hs:s∈L) (ht:Take H (.all (L.map f)) H1) (h:Own base w H):Own base w (f s::H1):=by
 obtain ⟨i,hi⟩:=List.getElem?_of_mem hs
 have h1:Own base w (L.map f++H1):=zBh.2 (h.take ht)
 have hp:(L.map f++H1).Perm (f s::((L.eraseIdx i).map f++H1)):=List.Perm.append_right H1 ((zE2 hi).map f)
 have h2:=h1.perm hp
 refine ⟨fun e he=>?_,fun e he=>?_,?_⟩
 ·refine h2.here e ?_
  rcases List.mem_cons.1 he with he|he
  ·exact List.mem_cons.2 (.inl he)
  ·exact List.mem_cons.2 (.inr (List.mem_append.2 (.inr he)))
 ·refine h2.foot e ?_
  rcases List.mem_cons.1 he with he|he
  ·exact List.mem_cons.2 (.inl he)
  ·exact List.mem_cons.2 (.inr (List.mem_append.2 (.inr he)))
 ·refine h2.apart.sublist (List.Sublist.cons_cons _ (List.sublist_append_right _ _))
theorem zLj {α:Type} {enc:α→List Value} {k e e2 m c base:Nat} [ei:zCM enc k] {A:Option Addr} {L:List (zAC α)} {w:World} (h:Own base w H) (ht:Take H (.row zy 1 e2 (.slice A m c) L) H1) (ht2:Take H (.all (L.map (rowOf enc k e))) H2):zC0 enc k w A L:=by
 refine ⟨zDm h ht,fun s hs=>?_⟩
 have h1:Own 0 w (L.map (rowOf enc k e)):=h.here _ ht2.mem
 exact (zDl ei.len (h1.here _ (List.mem_map_of_mem hs):Row enc k e 0 w (.slice s.A s.xs.length s.c) s.xs)).2
end
end Go.Proofs.YtdigopgncfhiaaaGreatDoor
namespace Go.Proofs.YtdigopgncfhiaaaGreatDoor
open Go.RowKit
set_option maxRecDepth 20000
set_option maxHeartbeats 8000000 in
theorem zJN (c:Cov) (A:Option Addr) (ca:Nat) (B:Option Addr) (cb:Nat) (C:Option Addr) (cc:Nat) (w:World) (h:zAk w c A B C) (hs:Small c) (hG:InC w 0 0 zCc) :
  zC4 encI 1 (zDR c).2.1 (fun v=>.tuple #[.int .i64 (zDR c).1,v,.int .i64 (zDR c).2.2]) Tryz.prog 32 [zAI c A ca B cb C cc] w:=by
 have h4:=hs.b;have h5:=hs.h
 refine Ret.newsl ?_
 by_cases h0:zAm c=0
 ·have hf:=zBi h0
  have hh1:=hf.hours
  rw [zAL] at hh1
  have h1:=fun W (hb:Below w.heap.size w W)=>zDr c A ca B cb C cc W (h.below hb) hs h0
  have h2:=fun W (hb:Below w.heap.size w W) g (hr:InC W g 0 (zJ c A ca B cb C cc))=>Two.zFU c A ca B cb C cc g W hr (hG.below hb) (h.below hb) hs hf
  have ok0:=zFh hf hs (zFx hf)
  have hX:zDR c=shortF c c.hours.length 0:=by unfold zDR;rw [if_pos h0]
  rw [hX]
  have hhl:(zAF c).length=c.hours.length:=by simp [zAF]
  unfold zAI at h1 ⊢
  unfold zJ at h1 h2 ⊢
  (refine zL (n:=72) Tryz.func32 rfl rfl rfl ?_)
  (repeat' (first|((with_reducible refine zG ?_);first|refine zE rfl rfl rfl rfl rfl ?_|refine zC rfl rfl rfl rfl rfl ?_|(refine zK rfl rfl rfl rfl rfl ?_;refine ⟨_,rfl,?_⟩)|refine za rfl rfl rfl rfl rfl ?_|(refine zU rfl rfl rfl rfl rfl rfl rfl (fun h=>?_) (fun h=>?_)<;>(dsimp only [cmpP] at h;(try (exfalso;omega))))|(refine zAN rfl rfl rfl rfl rfl rfl (fun _ _ q=>h1 _ q.below) ?_;rintro g -;dsimp only [List.cons_append,List.nil_append])|(refine zAN rfl rfl rfl rfl rfl rfl (fun _ _ q=>h2 _ q.below g (zAc q.own (Below.refl _ _) rfl)) ?_;rintro ⟨⟨gn,L⟩,⟨gm,M⟩,gh⟩ ⟨hL,hM⟩;dsimp only [List.cons_append,List.nil_append])|refine zd rfl rfl rfl rfl rfl rfl ?_|refine zp rfl rfl rfl rfl rfl ?_|(refine ze rfl rfl rfl rfl rfl ?_;refine And.intro rfl (And.intro (by first|decide|exact Nat.le_of_ble_eq_true rfl|(simp;omega)) ⟨_,rfl,?_⟩))|(refine zm rfl rfl rfl rfl (fun b=>?_))|(refine zt rfl rfl rfl rfl rfl rfl (fun b=>?_)))|(with_reducible first|refine zH ?_|refine zB ?_|refine zD ?_|refine zA ?_|refine zS ?_|refine zQ ?_)|((with_reducible refine zF ?_ ?_);(· exact rfl))))
  simp only at hL hM
  have hro:zEJ L M (zAF c):=zKH ok0 hL hM (by omega) (by omega)
  have hLl:L.length=c.beds.length:=by have:=congrArg List.length hL;rw [zBx] at this;simpa using this
  have hMl:M.length=c.beds.length:=by have:=congrArg List.length hM;simpa [zCx] using this
  have hLr:∀ s∈L,s.xs.length=c.hours.length:=fun s hs=>zGR _ (by rw [← hL];exact List.mem_map_of_mem hs)
  have hMr:∀ s∈M,s.xs.length=c.hours.length:=fun s hs=>ok0.mr _ (by show _∈zCx c;rw [← hM];exact List.mem_map_of_mem hs)
  rename_i b1
  obtain ⟨b6,hb6⟩:∃ x,x=b:=⟨_,rfl⟩
  subst hb6
  refine zw (ι:=Nat) [1,6,26] rfl (fun y=>y≤c.hours.length∧shortF c c.hours.length 0=shortF c (c.hours.length - y) y) (fun y=>[(27,.int .i64 (y:Int))]) (fun y=>[.zBJ zy (rowOf encI 1 3) gn L,.zBJ zy (rowOf zA0 1 4) gm M,.row encI 1 3 (.slice (some ⟨gh,0,none⟩) c.hours.length c.hours.length) (zAF c),.blk b1 (zJ c A ca B cb C cc),.blk b6 (zBH (some ⟨gn,0,none⟩) c.beds.length c.beds.length (some ⟨gm,0,none⟩) c.beds.length c.beds.length (some ⟨gh,0,none⟩) c.hours.length c.hours.length)]) (fun y=>c.hours.length - y) 0 ⟨Nat.zero_le _,rfl⟩ (by (first|exact lK1|(repeat (first|exact lK1|(refine zM rfl ?_))))) (by (repeat (first|exact oK1 _|(refine oK2 (by (repeat (first|exact tK1 _ _|apply tK2))) ?_)))) ?_
  rintro y ⟨hy,hF⟩
  simp only [zAx,zJ,zBH,List.cons_append,List.nil_append]
  by_cases hyl:y<c.hours.length
  ·have hp:2 ^ y≤2 ^ 12:=Nat.pow_le_pow_right (by omega) (by omega)
   have hsh:=fun W (a1:zC0 encI 1 W (some ⟨gn,0,none⟩) L) (a2:zC0 zA0 1 W (some ⟨gm,0,none⟩) M) (a3:zx encI 1 W (some ⟨gh,0,none⟩) (zAF c)) m (hm:m<1000000)=>zNS L (some ⟨gn,0,none⟩) c.beds.length M (some ⟨gm,0,none⟩) c.beds.length (zAF c) (some ⟨gh,0,none⟩) c.hours.length y m W a1 a2 a3 hro hm (fun s hs=>by rw [hLr s hs];exact hyl) (fun s hs=>by rw [hMr s hs];exact hyl) (by omega)
   rw [hL,hM,hLl,hMl,hhl] at hsh
   have hsB:∀ m,decide (0<zDS (zAg c) (zCx c) (zAF c) y m)=zCg c y m:=fun _=>rfl
   simp only [hsB] at hsh
   unfold zBH at hsh
   generalize hP:2 ^ y=N at hp
   (repeat' (first|((with_reducible refine zG ?_);first|refine zE rfl rfl rfl rfl rfl ?_|refine zC rfl rfl rfl rfl rfl ?_|(refine zU rfl rfl rfl rfl rfl rfl rfl (fun h=>?_) (fun h=>?_)<;>(dsimp only [cmpP] at h;(try (exfalso;omega))))|refine zAa rfl rfl rfl (e_shl1 rfl rfl rfl (by omega)) ?_)|(with_reducible first|refine zH ?_|refine zB ?_|refine zD ?_|refine zA ?_|refine zS ?_|refine zQ ?_)|((with_reducible refine zI ?_ ?_);(· exact rfl))))
   refine zEN (α:=zAC Int) zy 1 38 ?_
   refine u_allNil (rowOf encI 1 3) ?_
   refine zw (ι:=Nat × Option Addr × Nat × List (zAC Int)) [1,6,7,26,27,31] rfl (fun p=>p.1≤N∧p.2.2.2.map (·.xs)=zCe c y p.1) (fun p=>[(32,.int .i64 (p.1:Int)),(8,.slice p.2.1 p.2.2.2.length p.2.2.1)]) (fun p=>[.row zy 1 38 (.slice p.2.1 p.2.2.2.length p.2.2.1) p.2.2.2,.all (p.2.2.2.map (rowOf encI 1 3)),.zBJ zy (rowOf encI 1 3) gn L,.zBJ zy (rowOf zA0 1 4) gm M,.row encI 1 3 (.slice (some ⟨gh,0,none⟩) c.hours.length c.hours.length) (zAF c),.blk b1 (zJ c A ca B cb C cc),.blk b6 (zBH (some ⟨gn,0,none⟩) c.beds.length c.beds.length (some ⟨gm,0,none⟩) c.beds.length c.beds.length (some ⟨gh,0,none⟩) c.hours.length c.hours.length)]) (fun p=>N - p.1) (0,none,0,[]) ⟨Nat.zero_le _,rfl⟩ (by (first|exact lK1|(repeat (first|exact lK1|(refine zM rfl ?_))))) (by (repeat (first|exact oK1 _|(refine oK2 (by (repeat (first|exact tK1 _ _|apply tK2))) ?_)))) ?_
   rintro ⟨k,A1,c1,S⟩ ⟨hk,hS⟩
   simp only at hk hS
   simp only [zAx,zJ,zBH,List.cons_append,List.nil_append]
   have hSl:S.length≤k:=by have:=congrArg List.length hS;have:=zOw c y k;simp at *;omega
   have hSr:∀ s∈S,s.xs.length≤12:=fun s hs=>by
    have h9:s.xs∈zCe c y k:=by rw [← hS];exact List.mem_map_of_mem hs
    obtain ⟨m,_,e⟩:=List.mem_map.1 h9
    rw [← e]
    have:=zIl m y
    omega
   by_cases hkl:k<N
   ·have hs1:=fun W a1 a2 a3=>hsh W a1 a2 a3 k (by omega)
    cases hz:zCg c y k with
    | false =>
     rw [hz] at hs1
     (repeat' (first|((with_reducible refine zG ?_);first|refine zE rfl rfl rfl rfl rfl ?_|refine zC rfl rfl rfl rfl rfl ?_|(refine zK rfl rfl rfl rfl rfl ?_;refine ⟨_,rfl,?_⟩)|(refine zU rfl rfl rfl rfl rfl rfl rfl (fun h=>?_) (fun h=>?_)<;>(dsimp only [cmpP] at h;(try (exfalso;omega))))|refine zX rfl rfl rfl rfl rfl rfl (fun _ _ q=>hs1 _ (zCv q.own (by (repeat (first|exact tK1 _ _|apply tK2)))) (zCv q.own (by (repeat (first|exact tK1 _ _|apply tK2)))) (zDm q.own (by (repeat (first|exact tK1 _ _|apply tK2))))) ?_|refine zAH rfl rfl rfl rfl rfl ?_|refine zf rfl rfl rfl rfl rfl rfl (by omega) ?_)|(with_reducible first|refine zH ?_|refine zB ?_|refine zD ?_|refine zA ?_|refine zS ?_|refine zQ ?_|refine zj ?_|refine zR ?_|refine zW ?_)|((with_reducible refine zI ?_ ?_);(· exact rfl))))
     exact zi (ι:=Nat × Option Addr × Nat × List (zAC Int)) (k+1,A1,c1,S) (by exact ⟨by simp only;omega,by simp only;rw [setsX_no hz];exact hS⟩) (by simp only;omega) (by (first|exact lK1|(repeat (first|exact lK1|(refine zM rfl ?_))))) (by (repeat (first|exact oK1 _|(refine oK2 (by (repeat (first|exact tK1 _ _|apply tK2))) ?_))))
    | true =>
     rw [hz] at hs1
     (repeat' (first|((with_reducible refine zG ?_);first|refine zE rfl rfl rfl rfl rfl ?_|refine zC rfl rfl rfl rfl rfl ?_|(refine zK rfl rfl rfl rfl rfl ?_;refine ⟨_,rfl,?_⟩)|(refine zU rfl rfl rfl rfl rfl rfl rfl (fun h=>?_) (fun h=>?_)<;>(dsimp only [cmpP] at h;(try (exfalso;omega))))|refine zX rfl rfl rfl rfl rfl rfl (fun _ _ q=>hs1 _ (zCv q.own (by (repeat (first|exact tK1 _ _|apply tK2)))) (zCv q.own (by (repeat (first|exact tK1 _ _|apply tK2)))) (zDm q.own (by (repeat (first|exact tK1 _ _|apply tK2))))) ?_|(refine zAN rfl rfl rfl rfl rfl rfl (fun _ _ q=>ones_any _ _) ?_;rintro m0 hm0;dsimp only [List.cons_append,List.nil_append])|refine zJ3 rfl rfl rfl rfl rfl (fun _=>?_)|refine zOl encI rfl rfl rfl rfl rfl rfl rfl rfl rfl rfl (by omega) (fun gl=>?_)|refine zAH rfl rfl rfl rfl rfl ?_)|(with_reducible first|refine zH ?_|refine zB ?_|refine zD ?_|refine zA ?_|refine zS ?_|refine zQ ?_)|((with_reducible refine zI ?_ ?_);(· exact rfl))|((with_reducible refine zF ?_ ?_);(· exact rfl))))
     refine zw (ι:=Nat × Option Addr × Nat) [1,6,7,8,9,26,27,31,32,44] rfl (fun p=>p.1≤y) (fun p=>[(45,.int .i64 (p.1:Int)),(10,.slice p.2.1 (zDZ k p.1).length p.2.2)]) (fun p=>[.row encI 1 3 (.slice p.2.1 (zDZ k p.1).length p.2.2) (zDZ k p.1),.row zy 1 38 (.slice A1 S.length c1) S,.all (S.map (rowOf encI 1 3)),.zBJ zy (rowOf encI 1 3) gn L,.zBJ zy (rowOf zA0 1 4) gm M,.row encI 1 3 (.slice (some ⟨gh,0,none⟩) c.hours.length c.hours.length) (zAF c),.blk b1 (zJ c A ca B cb C cc),.blk b6 (zBH (some ⟨gn,0,none⟩) c.beds.length c.beds.length (some ⟨gm,0,none⟩) c.beds.length c.beds.length (some ⟨gh,0,none⟩) c.hours.length c.hours.length)]) (fun p=>y - p.1) (0,some ⟨gl,0,none⟩,m0) (Nat.zero_le _) (by (first|exact lK1|(repeat (first|exact lK1|(refine zM rfl ?_))))) (by (repeat (first|exact oK1 _|(refine oK2 (by (repeat (first|exact tK1 _ _|apply tK2))) ?_)))) ?_
     rintro ⟨j,A2,c2⟩ hj
     simp only at hj
     simp only [zAx,zJ,zBH,List.cons_append,List.nil_append]
     have hsl:=zIl k j
     by_cases hjl:j<y
     ·have hle:k >>> j≤k:=Nat.shiftRight_le k j
      have hb1:=zLY (m:=k) (h:=j)
      cases hbit:k.testBit j with
      | true =>
       have h9:(k >>> j) % 2=1:=by rw [hbit] at hb1;exact of_decide_eq_true hb1.symm
       have e1:=zLn hbit
       (repeat' (first|((with_reducible refine zG ?_);first|refine zE rfl rfl rfl rfl rfl ?_|refine zC rfl rfl rfl rfl rfl ?_|(refine zU rfl rfl rfl rfl rfl rfl rfl (fun h=>?_) (fun h=>?_)<;>(dsimp only [cmpP] at h;(try (exfalso;omega))))|refine zAa rfl rfl rfl (e_shr rfl rfl rfl (by omega)) ?_|refine zAa rfl rfl rfl (zLR rfl rfl rfl (by omega)) ?_|(refine zBT (enc:=encI) [_] rfl rfl rfl rfl rfl (by (repeat (first|exact tK1 _ _|apply tK2))) rfl rfl (zAt (by exact rfl)) (by refine ⟨?_,by decide⟩;(try simp only [List.length_append,List.length_cons,List.length_nil]);omega) (fun A' c'=>?_))|refine zf rfl rfl rfl rfl rfl rfl (by omega) ?_|(refine zAD rfl rfl rfl rfl rfl ?_;refine ⟨rfl,_,rfl,fun b=>?_⟩))|(with_reducible first|refine zH ?_|refine zB ?_|refine zD ?_|refine zA ?_|refine zS ?_|refine zQ ?_|refine zh ?_)|((with_reducible refine zI ?_ ?_);(· exact rfl))))
       refine zi (ι:=Nat × Option Addr × Nat) (j+1,A',c') (by simp only;omega) (by simp only;omega) (by simp only [e1];(first|exact lK1|(repeat (first|exact lK1|(refine zM rfl ?_))))) ?_
       simp only [e1]
       (repeat (first|exact oK1 _|(refine oK2 (by (repeat (first|exact tK1 _ _|apply tK2))) ?_)))
      | false =>
       have h9:(k >>> j) % 2=0:=by
        rw [hbit] at hb1
        exact (Nat.mod_two_eq_zero_or_one (k >>> j)).resolve_right (of_decide_eq_false hb1.symm)
       have e1:=zN9 hbit
       (repeat' (first|((with_reducible refine zG ?_);first|refine zE rfl rfl rfl rfl rfl ?_|refine zC rfl rfl rfl rfl rfl ?_|(refine zU rfl rfl rfl rfl rfl rfl rfl (fun h=>?_) (fun h=>?_)<;>(dsimp only [cmpP] at h;(try (exfalso;omega))))|refine zAa rfl rfl rfl (e_shr rfl rfl rfl (by omega)) ?_|refine zAa rfl rfl rfl (zLR rfl rfl rfl (by omega)) ?_|refine zf rfl rfl rfl rfl rfl rfl (by omega) ?_)|(with_reducible first|refine zH ?_|refine zB ?_|refine zD ?_|refine zA ?_|refine zS ?_|refine zQ ?_|refine zh ?_)|((with_reducible refine zI ?_ ?_);(· exact rfl))|((with_reducible refine zF ?_ ?_);(· exact rfl))))
       refine zi (ι:=Nat × Option Addr × Nat) (j+1,A2,c2) (by simp only;omega) (by simp only;omega) (by simp only [e1];(first|exact lK1|(repeat (first|exact lK1|(refine zM rfl ?_))))) ?_
       simp only [e1]
       (repeat (first|exact oK1 _|(refine oK2 (by (repeat (first|exact tK1 _ _|apply tK2))) ?_)))
     ·obtain rfl:j=y:=by omega
      generalize hSL:zDZ k j=sl at *
      (repeat' (first|((with_reducible refine zG ?_);first|refine zE rfl rfl rfl rfl rfl ?_|refine zC rfl rfl rfl rfl rfl ?_|(refine zU rfl rfl rfl rfl rfl rfl rfl (fun h=>?_) (fun h=>?_)<;>(dsimp only [cmpP] at h;(try (exfalso;omega))))|(refine zBT (enc:=zy) [(⟨A2,sl,c2⟩:zAC Int)] rfl rfl rfl rfl rfl (by (repeat (first|exact tK1 _ _|apply tK2))) rfl rfl (zAt (by exact rfl)) (by refine ⟨?_,by decide⟩;(try simp only [List.length_append,List.length_cons,List.length_nil]);omega) (fun A' c'=>?_))|refine zf rfl rfl rfl rfl rfl rfl (by omega) ?_|(refine zAD rfl rfl rfl rfl rfl ?_;refine ⟨rfl,_,rfl,fun b=>?_⟩))|(with_reducible first|refine zH ?_|refine zB ?_|refine zD ?_|refine zA ?_|refine zj ?_|refine zh ?_|refine zR ?_|refine zW ?_)|((with_reducible refine zF ?_ ?_);(· exact rfl))))
      refine zOn (f:=rowOf encI 1 3) (L:=S) (s:=⟨A2,sl,c2⟩) (by (repeat (first|exact tK1 _ _|apply tK2))) (by (repeat (first|exact tK1 _ _|apply tK2))) ?_
      refine zi (ι:=Nat × Option Addr × Nat × List (zAC Int)) (k+1,A',c',S++[⟨A2,sl,c2⟩]) (by
       refine ⟨by simp only;omega,?_⟩
       simp only
       rw [zOv hz,List.map_append,hS,hSL]
       rfl) (by simp only;omega) (by (first|exact lK1|(repeat (first|exact lK1|(refine zM rfl ?_))))) (by (repeat (first|exact oK1 _|(refine oK2 (by (repeat (first|exact tK1 _ _|apply tK2))) ?_))))
   ·obtain rfl:k=N:=by omega
    by_cases hpos:0<S.length
    ·have hmn:zGv (zCe c y (2 ^ y))=some (minS S).xs:=by rw [hP,← hS];exact minS_xs hpos
     have hF2:shortF c c.hours.length 0=((y:Int),(minS S).xs,0):=by
      rw [hF,show c.hours.length - y=(c.hours.length - y - 1)+1 by omega];exact zHs hmn
     rw [hF2]
     have hfi:=fun W aT=>zKg S A1 c1 W aT (by omega) (fun s hs=>by have:=hSr s hs;omega)
     rw [decide_eq_true hpos] at hfi
     (repeat' (first|((with_reducible refine zG ?_);first|refine zE rfl rfl rfl rfl rfl ?_|refine zC rfl rfl rfl rfl rfl ?_|(refine zU rfl rfl rfl rfl rfl rfl rfl (fun h=>?_) (fun h=>?_)<;>(dsimp only [cmpP] at h;(try (exfalso;omega))))|refine zX rfl rfl rfl rfl rfl rfl (fun _ _ q=>hfi _ (zLj q.own (by (repeat (first|exact tK1 _ _|apply tK2))) (by (repeat (first|exact tK1 _ _|apply tK2))))) ?_|refine zd rfl rfl rfl rfl rfl rfl ?_)|(with_reducible first|refine zH ?_|refine zB ?_|refine zD ?_|refine zA ?_|refine zc ?_|refine zY ?_|refine zj ?_|refine zAK ?_|refine zR ?_|refine zW ?_)|((with_reducible refine zI ?_ ?_);(· exact rfl))|((with_reducible refine zF ?_ ?_);(· exact rfl))))
     exact zV (by (exact zO.cons (by exact zn.tmp rfl) (zO.cons (by exact zn.tmp rfl) (zO.cons (by exact zn.tmp rfl) zO.nil)))) ((minS S).A,(minS S).c) trivial rfl (fun _ h=>((zMB (f:=rowOf encI 1 3) (minS_in hpos) (by (repeat (first|exact tK1 _ _|apply tK2))) h).zFJ (xs:=(minS S).xs) (by (repeat (first|exact tK1 _ _|apply tK2)))).sub (by (repeat (first|exact oK1 _|(refine oK2 (by (repeat (first|exact tK1 _ _|apply tK2))) ?_)))))
    ·obtain rfl:S=[]:=List.eq_nil_of_length_eq_zero (by omega)
     have hmn:zGv (zCe c y (2 ^ y))=none:=by rw [hP,← hS];rfl
     have hF2:shortF c (c.hours.length - y) y=shortF c (c.hours.length - (y+1)) (y+1):=by
      rw [show c.hours.length - y=(c.hours.length - (y+1))+1 by omega];exact zHt hmn
     have hfi:=fun W aT=>zKg [] A1 c1 W aT (by simp) (fun s hs=>by cases hs)
     rw [show minS []=zA3 from rfl] at hfi
     (repeat' (first|((with_reducible refine zG ?_);first|refine zE rfl rfl rfl rfl rfl ?_|refine zC rfl rfl rfl rfl rfl ?_|(refine zU rfl rfl rfl rfl rfl rfl rfl (fun h=>?_) (fun h=>?_)<;>(dsimp only [cmpP] at h;(try (exfalso;omega))))|refine zX rfl rfl rfl rfl rfl rfl (fun _ _ q=>hfi _ (zLj (L:=[]) q.own (by (repeat (first|exact tK1 _ _|apply tK2))) (by (repeat (first|exact tK1 _ _|apply tK2))))) ?_|refine zd rfl rfl rfl rfl rfl rfl ?_|refine zf rfl rfl rfl rfl rfl rfl (by omega) ?_)|(with_reducible first|refine zH ?_|refine zB ?_|refine zD ?_|refine zA ?_|refine zS ?_|refine zj ?_|refine zh ?_|refine zR ?_|refine zW ?_)|((with_reducible refine zF ?_ ?_);(· exact rfl))))
     exact zi (ι:=Nat) (y+1) (by exact ⟨by omega,by rw [hF,hF2]⟩) (by omega) (by (first|exact lK1|(repeat (first|exact lK1|(refine zM rfl ?_))))) (by (repeat (first|exact oK1 _|(refine oK2 (by (repeat (first|exact tK1 _ _|apply tK2))) ?_))))
  ·obtain rfl:y=c.hours.length:=by omega
   have hF2:shortF c c.hours.length 0=(0,[],6):=by rw [hF,Nat.sub_self];rfl
   rw [hF2]
   (repeat' (first|((with_reducible refine zG ?_);first|refine zC rfl rfl rfl rfl rfl ?_|(refine zU rfl rfl rfl rfl rfl rfl rfl (fun h=>?_) (fun h=>?_)<;>(dsimp only [cmpP] at h;(try (exfalso;omega)))))|(with_reducible first|refine zH ?_|refine zB ?_|refine zD ?_|refine zA ?_|refine zc ?_|refine zj ?_|refine zR ?_|refine zW ?_)|((with_reducible refine zF ?_ ?_);(· exact rfl))))
   exact zV (by (exact zO.cons (by exact zn.tmp rfl) (zO.cons (by exact zn.tmp rfl) (zO.cons (by exact zn.tmp rfl) zO.nil)))) (none,0) trivial rfl (fun _ h=>zHQ h)
 ·have h1:=fun W (hb:Below w.heap.size w W)=>zFV c A ca B cb C cc W (h.below hb) hs h0
  have hX:zDR c=(0,[],zAm c):=by unfold zDR;rw [if_neg h0]
  rw [hX]
  unfold zAI at h1 ⊢
  generalize zAm c=e at *
  unfold zJ at h1 ⊢
  (refine zL (n:=72) Tryz.func32 rfl rfl rfl ?_)
  (repeat' (first|((with_reducible refine zG ?_);first|refine zE rfl rfl rfl rfl rfl ?_|refine zC rfl rfl rfl rfl rfl ?_|(refine zK rfl rfl rfl rfl rfl ?_;refine ⟨_,rfl,?_⟩)|(refine zU rfl rfl rfl rfl rfl rfl rfl (fun h=>?_) (fun h=>?_)<;>(dsimp only [cmpP] at h;(try (exfalso;omega))))|refine zX rfl rfl rfl rfl rfl rfl (fun _ _ q=>h1 _ q.below) ?_|refine zd rfl rfl rfl rfl rfl rfl ?_|(refine zt rfl rfl rfl rfl rfl rfl (fun b=>?_)))|(with_reducible first|refine zH ?_|refine zB ?_|refine zD ?_|refine zA ?_|refine zc ?_|refine zY ?_)|((with_reducible refine zI ?_ ?_);(· exact rfl))))
  exact zV (by (exact zO.cons (by exact zn.tmp rfl) (zO.cons (by exact zn.tmp rfl) (zO.cons (by exact zn.tmp rfl) zO.nil)))) (none,0) trivial rfl (fun _ h=>zHQ h)
end Go.Proofs.YtdigopgncfhiaaaGreatDoor
namespace Go.Proofs.YtdigopgncfhiaaaGreatDoor
open Go.RowKit
set_option maxRecDepth 20000
def zKu (L F:List (zAC Int)) (q k:Nat):Prop:=F.length=L.length∧∀ (i:Nat) (s:zAC Int),i<k→L[i]?=some s→∃ f:zAC Int,F[i]?=some f∧f.xs=s.xs.take q∧∀ W,zx encI 1 W s.A s.xs→zx encI 1 W f.A f.xs
theorem zKu.zero {L:List (zAC Int)} {q:Nat}:zKu L (List.replicate L.length zA3) q 0:=⟨by simp,fun i s h=>absurd h (by omega)⟩
theorem zKu.at_ {L F:List (zAC Int)} {q i:Nat} {f:zAC Int} (h:zKu L F q L.length) (hf:F[i]?=some f):∃ s,L[i]?=some s∧f.xs=s.xs.take q∧∀ W,zx encI 1 W s.A s.xs→zx encI 1 W f.A f.xs:=by
 have hi:i<L.length:=by rw [← h.1];exact (List.getElem?_eq_some_iff.1 hf).1
 obtain ⟨g,hg,h2⟩:=h.2 i L[i] hi (List.getElem?_eq_getElem hi)
 rw [hf] at hg;cases hg
 exact ⟨L[i],List.getElem?_eq_getElem hi,h2⟩
theorem zKu.xs {L F:List (zAC Int)} {q:Nat} (h:zKu L F q L.length):F.map (·.xs)=(L.map (·.xs)).map fun r=>r.take q:=by
 refine List.ext_getElem? fun i=>?_
 rw [List.getElem?_map,List.getElem?_map,List.getElem?_map]
 cases hf:F[i]? with
 | none =>
  have:L[i]?=none:=List.getElem?_eq_none (by rw [← h.1];exact List.getElem?_eq_none_iff.1 hf)
  rw [this];rfl
 | some f =>
  obtain ⟨s,hs,e,_⟩:=h.at_ hf
  rw [hs];simp [e]
end Go.Proofs.YtdigopgncfhiaaaGreatDoor
namespace Go.Proofs.YtdigopgncfhiaaaGreatDoor
open Go.RowKit
set_option maxRecDepth 20000
theorem Ret.conv {α β:Type} {P:Program} {f:FuncId} {args:List Value} {w:World} {V:α→Value} {E:α→List Ent} {p:α→Prop} {V':β→Value} {E':β→List Ent} {p':β→Prop} (h:Ret P f args w V E p) (hc:∀ x,p x→∃ y,p' y∧V x=V' y∧∀ w',Own w.heap.size w' (E x)→Own w.heap.size w' (E' y)):Ret P f args w V' E' p':=by
 refine Ret.of (Calls.mono h.calls fun e w' q=>?_)
 obtain ⟨x,hp,he,hb,hE⟩:=q
 obtain ⟨y,hp',hV,hO⟩:=hc x hp
 exact ⟨y,hp',by rw [he,hV],hb,hO w' hE⟩
def zAC.sli (s:zAC Int):Sli:=⟨s.A,s.xs,s.c⟩
theorem sli_xs (L:List (zAC Int)):(L.map zAC.sli).map Sli.xs=L.map (·.xs):=by rw [List.map_map];rfl
theorem zL8 {g e base:Nat} {L:List (zAC Int)} {w:World} {H:List Ent} (h:Own base w (.zBJ zy (rowOf encI 1 e) g L::H)):Own base w [.sl zBa 1 (some ⟨g,0,none⟩) (L.map zAC.sli),.rows (L.map zAC.sli)]:=by
 have h1:Own base w ((.arr zy 1 g L::L.map (rowOf encI 1 e))++H):=zBh.2 h
 have ht:=zCv h (Take.here _ _)
 have hr:∀ s∈L.map zAC.sli,∃ z∈L,s=z.sli:=fun s hs=>by
  obtain ⟨z,hz,rfl⟩:=List.mem_map.1 hs
  exact ⟨z,hz,rfl⟩
 have hrow:∀ z∈L,rowOf encI 1 e z∈((.arr zy 1 g L::L.map (rowOf encI 1 e))++H):=fun z hz=>by
  simp only [List.cons_append,List.mem_cons,List.mem_append,List.mem_map]
  exact .inr (.inl ⟨z,hz,rfl⟩)
 have hS:∀ (z:zAC Int) (b o:Nat),z.A=some ⟨b,o,none⟩→(rowOf encI 1 e z).S b:=fun z b o hA=>by
  show (Value.slice z.A z.xs.length z.c).ownBlock=some b
  rw [hA];rfl
 refine ⟨fun f hf=>?_,fun f hf b hb=>?_,?_⟩
 ·simp only [List.mem_cons,List.not_mem_nil,or_false] at hf
  rcases hf with rfl|rfl
  ·intro i x hx
   rw [List.getElem?_map] at hx
   cases hl:L[i]? with
   | none=>rw [hl] at hx;cases hx
   | some y =>
    rw [hl] at hx
    simp at hx
    subst hx
    exact ht.p i y hl
  ·intro s hs
   obtain ⟨z,hz,rfl⟩:=hr s hs
   exact ht.rows z hz
 ·simp only [List.mem_cons,List.not_mem_nil,or_false] at hf
  rcases hf with rfl|rfl
  ·obtain ⟨o,ho⟩:=hb
   cases ho
   exact h1.foot (.arr zy 1 g L) (by simp) g rfl
  ·obtain ⟨s,hs,o,ho⟩:=hb
   obtain ⟨z,hz,rfl⟩:=hr s hs
   exact h1.foot _ (hrow z hz) b (hS z b o ho)
 ·refine List.Pairwise.cons (fun f hf b hb hb'=>?_) (List.Pairwise.cons (fun f hf=>by cases hf) List.Pairwise.nil)
  simp only [List.mem_singleton] at hf
  subst hf
  obtain ⟨o,ho⟩:=hb
  cases ho
  obtain ⟨s,hs,o,ho⟩:=hb'
  obtain ⟨z,hz,rfl⟩:=hr s hs
  have h2:=List.pairwise_cons.1 h1.apart
  exact h2.1 (rowOf encI 1 e z) (List.mem_append.2 (.inl (List.mem_map.2 ⟨z,hz,rfl⟩))) g rfl (hS z g o ho)
theorem zH0 {base:Nat} {w:World}:Own base w [.sl zBa 1 none [],.rows []]:=by
 refine ⟨fun f hf=>?_,fun f hf b hb=>?_,?_⟩
 ·simp only [List.mem_cons,List.not_mem_nil,or_false] at hf
  rcases hf with rfl|rfl
  ·intro i x hx;cases hx
  ·intro s hs;cases hs
 ·simp only [List.mem_cons,List.not_mem_nil,or_false] at hf
  rcases hf with rfl|rfl
  ·obtain ⟨o,ho⟩:=hb;cases ho
  ·obtain ⟨s,hs,_⟩:=hb;cases hs
 ·exact List.Pairwise.cons (fun f hf b hb hb'=>by obtain ⟨o,ho⟩:=hb;cases ho) (List.Pairwise.cons (fun f hf=>by cases hf) List.Pairwise.nil)
theorem minX_mem : ∀ {l:List (List Int)} {m:List Int},zGv l=some m→m∈l
 | [],m,h=>by cases h
 | s::r,m,h=>by
  have key:∀ (r:List (List Int)) (s:List Int),r.foldl zI8 s=s∨r.foldl zI8 s∈r:=by
   intro r
   induction r with
   | nil=>intro s;exact .inl rfl
   | cons x r ih =>
    intro s
    simp only [List.foldl_cons]
    rcases ih (zI8 s x) with h|h
    ·rw [h];unfold zI8;split
     ·exact .inr List.mem_cons_self
     ·exact .inl rfl
    ·exact .inr (List.mem_cons_of_mem _ h)
  cases h
  rcases key r s with h|h
  ·rw [h];exact List.mem_cons_self
  ·exact List.mem_cons_of_mem _ h
theorem zO0 {c:Cov} (h:zAm c≠0):zDL c=([],zAm c):=by unfold zDL;rw [if_neg h]
theorem zIx {c:Cov} (h:zAm c=0) (h2:zGb (zAg c) (zCx c) (zAF c)=false):zDL c=([],8):=by unfold zDL;rw [if_pos h,h2];rfl
theorem zGs {c:Cov} (h:zAm c=0) (h2:zGb (zAg c) (zCx c) (zAF c)=true):zDL c=((zDD c.beds.length c.hours.length (zBe c)).out,0):=by unfold zDL;rw [if_pos h,h2];rfl
theorem zHj (c:Cov) (A:Option Addr) (ca:Nat) (B:Option Addr) (cb:Nat) (C:Option Addr) (cc:Nat) (w:World) (h:zAk w c A B C) (hs:Small c) (hG:InC w 0 0 zCc) :
  Ret Tryz.prog 25 [zAI c A ca B cb C cc] w (fun p:(Option Addr × Nat) × List Sli=>.tuple #[.slice p.1.1 p.2.length p.1.2,.int .i64 (zDL c).2]) (fun p=>[.sl zBa 1 p.1.1 p.2,.rows p.2]) (fun p=>p.2.map Sli.xs=(zDL c).1):=by
 by_cases h0:zAm c=0
 ·cases hc:zGb (zAg c) (zCx c) (zAF c) with
  | true =>
   have hl:(zDL c).1.length=c.hours.length:=by
    have hf:=zBi h0
    rw [zGs h0 hc]
    exact (zJP (zFh hf hs (zFx hf)) c.hours.length (Nat.le_refl _)).ol
   refine (Two.zPO c A ca B cb C cc w h hs hG h0 hc).conv fun p hp=>⟨((some ⟨p.1,0,none⟩,c.hours.length),p.2.map zAC.sli),by simp only;rw [sli_xs];exact hp,?_,fun w'=>zL8⟩
   have:p.2.length=c.hours.length:=by have:=congrArg List.length hp;rw [hl] at this;simpa using this
   simp only [List.length_map,this]
   rw [zGs h0 hc]
  | false =>
   have h1:=zNT c A ca B cb C cc w h hs hG h0 hc
   unfold Gv at h1
   rw [zIx h0 hc]
   exact h1.conv fun _ _=>⟨((none,0),[]),rfl,rfl,fun w' _=>zH0⟩
 ·have h1:=zPN c A ca B cb C cc w h hs h0
  unfold Gv at h1
  rw [zO0 h0]
  exact h1.conv fun _ _=>⟨((none,0),[]),rfl,rfl,fun w' _=>zH0⟩
end Go.Proofs.YtdigopgncfhiaaaGreatDoor
namespace Go.Proofs.YtdigopgncfhiaaaGreatDoor
variable {ro : Option Nat}
open Go.RowKit
set_option maxRecDepth 20000
def runE : List St:=[⟨3,⟨4000,4100⟩,⟨400,420⟩,⟨0,0⟩,0,0⟩,⟨5,⟨2000,2200⟩,⟨150,160⟩,⟨1500,1600⟩,1,0⟩,⟨8,⟨3000,3000⟩,⟨300,330⟩,⟨0,0⟩,0,0⟩]
def zBu (crew:Int):Cov:=⟨runE,[⟨⟨300,310⟩,1⟩,⟨⟨290,300⟩,2⟩,⟨⟨300,300⟩,0⟩],[⟨⟨2,3⟩,10,2,true⟩,⟨⟨4,5⟩,0,crew,true⟩,⟨⟨1,2⟩,12,2,false⟩],⟨1,2⟩,⟨20,25⟩,3,260,200⟩
def zFz : List (List Int):=[[0,1],[1,2],[]]
theorem zDh (a b:Int) (w:World):Gv Tryz.prog 36 [.int .i64 a,.int .i64 b] w (.agg #[.int .i64 a,.int .i64 b]):=by
 unfold Gv
 (refine zL (n:=8) Tryz.func36 rfl rfl rfl ?_)
 (repeat' (first|((with_reducible refine zG ?_);first|refine zE rfl rfl rfl rfl rfl ?_|(refine ze rfl rfl rfl rfl rfl ?_;refine And.intro rfl (And.intro (by first|decide|exact Nat.le_of_ble_eq_true rfl|(simp;omega)) ⟨_,rfl,?_⟩))|(refine zm rfl rfl rfl rfl (fun b=>?_))|(refine zA7 rfl rfl rfl rfl rfl ?_;refine ⟨_,rfl,?_⟩))|(with_reducible first|refine zH ?_|refine zB ?_|refine zD ?_|refine zA ?_|refine zc ?_)))
 exact zV (by (exact zO.cons (by exact res1c rfl (by exact rfl)) zO.nil)) () trivial rfl (fun _ _=>Own.nil _ _)
theorem irun_any (w:World):Ret Tryz.prog 89 [] w (fun g:Nat=>.agg #[.slice (some ⟨g,0,none⟩) 3 3]) (fun g=>[.sl zA5 9 (some ⟨g,0,none⟩) runE]) (fun _=>True):=by
 (refine zL (n:=13) Tryz.func89 rfl rfl rfl ?_)
 (repeat' (first|((with_reducible refine zG ?_);first|refine zX rfl rfl rfl rfl rfl rfl (fun _ _ q=>zDh _ _ _) ?_|(refine ze rfl rfl rfl rfl rfl ?_;refine And.intro rfl (And.intro (by first|decide|exact Nat.le_of_ble_eq_true rfl|(simp;omega)) ⟨_,rfl,?_⟩))|(refine zm rfl rfl rfl rfl (fun b=>?_))|(refine zA7 rfl rfl rfl rfl rfl ?_;refine ⟨_,rfl,?_⟩)|(refine zAD rfl rfl rfl rfl rfl ?_;refine ⟨rfl,_,rfl,fun b=>?_⟩))|(with_reducible first|refine zH ?_|refine zB ?_|refine zD ?_|refine zA ?_|refine zc ?_)))
 exact zV (by (exact zO.cons (by exact res1c rfl (by exact rfl)) zO.nil)) b trivial rfl (fun _ h=>(Own.zHq (enc:=zA5) (xs:=runE) (b:=b) (by (repeat (first|exact tK1 _ _|apply tK2))) h).sub (by (repeat (first|exact oK1 _|(refine oK2 (by (repeat (first|exact tK1 _ _|apply tK2))) ?_)))))
theorem zO3 {α:Type} (enc:α→List Value) (k:Nat) {base:Nat} {w:World} {H:List Ent} (h:Own base w H):Own base w (.sl enc k none ([]:List α)::H):=by
 refine ⟨fun e he=>?_,fun e he b hb=>?_,List.pairwise_cons.2 ⟨fun e _ b hb=>(by obtain ⟨o,ho⟩:=hb;cases ho),h.apart⟩⟩
 ·rcases List.mem_cons.1 he with rfl|he
  ·intro i x hx;cases hx
  ·exact h.here e he
 ·rcases List.mem_cons.1 he with rfl|he
  ·obtain ⟨o,ho⟩:=hb;cases ho
  ·exact h.foot e he b hb
def Ent.zFN (g n:Nat) (A:Option Addr) (xss:List (List Int)):Ent :=
 ⟨fun b=>g≤b∧b<g+n,fun w=>∃ pl:List Sli,pl.map Sli.xs=xss∧zBP w A pl∧(∀ s∈pl,∀ b o,s.A=some ⟨b,o,none⟩→g≤b∧b<g+n)∧∀ b o,A=some ⟨b,o,none⟩→g≤b∧b<g+n,
  fun w w' hs h ⟨pl,h1,h2,h3,h4⟩=>⟨pl,h1,⟨(Ent.sl zBa 1 A pl).loc w w' hs (fun b hb=>by obtain ⟨o,ho⟩:=hb;exact h b (h4 b o ho)) h2.p,(Ent.rows pl).loc w w' hs (fun b hb=>by obtain ⟨s,hs,o,ho⟩:=hb;exact h b (h3 s hs b o ho)) h2.rows⟩,h3,h4⟩⟩
theorem zKO {w w':World} {A:Option Addr} {pl:List Sli} {xss:List (List Int)} (hx:pl.map Sli.xs=xss) (hs:w.heap.size≤w'.heap.size) (h:Own w.heap.size w' [.sl zBa 1 A pl,.rows pl]):Own w.heap.size w' [.zFN w.heap.size (w'.heap.size - w.heap.size) A xss]:=by
 refine ⟨fun e he=>?_,fun e he b hb=>?_,List.pairwise_singleton _ _⟩
 ·simp only [List.mem_singleton] at he
  subst he
  refine ⟨pl,hx,⟨h.here (.sl zBa 1 A pl) (by simp),h.here (.rows pl) (by simp)⟩,fun s hs b o ho=>?_,fun b o ho=>?_⟩
  ·have:=h.foot (.rows pl) (by simp) b ⟨s,hs,o,ho⟩;omega
  ·have:=h.foot (.sl zBa 1 A pl) (by simp) b ⟨o,ho⟩;omega
 ·simp only [List.mem_singleton] at he
  subst he
  obtain ⟨h1,h2⟩:=hb
  omega
theorem Ret.zFN {P:Program} {f:FuncId} {args:List Value} {w:World} {V:Value→Value} {xss:List (List Int)} (h:Ret P f args w (fun p:(Option Addr × Nat) × List Sli=>V (.slice p.1.1 p.2.length p.1.2)) (fun p=>[.sl zBa 1 p.1.1 p.2,.rows p.2]) (fun p=>p.2.map Sli.xs=xss)) :
  Ret P f args w (fun z:Nat × Nat × Option Addr × Nat=>V (.slice z.2.2.1 xss.length z.2.2.2)) (fun z=>[.zFN z.1 z.2.1 z.2.2.1 xss]) (fun _=>True):=by
 refine Ret.of (Calls.mono h.calls fun e w' q=>?_)
 obtain ⟨x,hp,he,hb,hE⟩:=q
 refine ⟨(w.heap.size,w'.heap.size - w.heap.size,x.1.1,x.1.2),trivial,?_,hb,zKO hp hb.size hE⟩
 have:x.2.length=xss.length:=by rw [← hp,List.length_map]
 rw [he];simp only [this]
theorem zLI (w:World):Ret Tryz.prog 45 [] w (fun z:Nat × Nat × Option Addr=>.slice z.2.2 3 3) (fun z=>[.zFN z.1 z.2.1 z.2.2 zFz]) (fun _=>True):=by
 have h1:Ret Tryz.prog 45 [] w (fun p:Option Addr × List Sli=>.slice p.1 3 3) (fun p=>[.sl zBa 1 p.1 p.2,.rows p.2]) (fun p=>p.2.map Sli.xs=zFz):=by
  (refine zL (n:=4) Tryz.func45 rfl rfl rfl ?_)
  (repeat' (first|((with_reducible refine zG ?_);first|refine zC rfl rfl rfl rfl rfl ?_|(refine zAD rfl rfl rfl rfl rfl ?_;refine ⟨rfl,_,rfl,fun b=>?_⟩))|(with_reducible first|refine zH ?_|refine zB ?_|refine zD ?_|refine zA ?_|refine zc ?_)))
  rename_i b1 b2
  exact zV (by (exact zO.cons (by exact zn.tmp rfl) zO.nil)) (some ⟨b,0,none⟩,[⟨some ⟨b1,0,none⟩,[0,1],2⟩,⟨some ⟨b2,0,none⟩,[1,2],2⟩,⟨none,[],0⟩]) rfl rfl (fun w' h=>by
   have h2:=Own.zHq (enc:=zBa) (k:=1) (b:=b) (xs:=[⟨some ⟨b1,0,none⟩,[0,1],2⟩,⟨some ⟨b2,0,none⟩,[1,2],2⟩,⟨none,[],0⟩]) (by (repeat (first|exact tK1 _ _|apply tK2))) h
   have h3:=Own.zHq (enc:=encI) (k:=1) (b:=b1) (xs:=[0,1]) (by (repeat (first|exact tK1 _ _|apply tK2))) h2
   have h4:=(Own.rows_nil h3).sub (H':=[.sl encI 1 (some ⟨b1,0,none⟩) [0,1],.rows [],.sl zBa 1 (some ⟨b,0,none⟩) [⟨some ⟨b1,0,none⟩,[0,1],2⟩,⟨some ⟨b2,0,none⟩,[1,2],2⟩,⟨none,[],0⟩],.blk b2 [.int .i64 1,.int .i64 2]]) (by (repeat (first|exact oK1 _|(refine oK2 (by (repeat (first|exact tK1 _ _|apply tK2))) ?_))))
   have h5:=Own.zIo (c:=2) h4
   have h6:=(Own.zHq (enc:=encI) (k:=1) (b:=b2) (xs:=[1,2]) (by (repeat (first|exact tK1 _ _|apply tK2))) h5)
   have h7:=Own.zIo (c:=2) (h6.sub (H':=[.sl encI 1 (some ⟨b2,0,none⟩) [1,2],.rows _,.sl zBa 1 (some ⟨b,0,none⟩) [⟨some ⟨b1,0,none⟩,[0,1],2⟩,⟨some ⟨b2,0,none⟩,[1,2],2⟩,⟨none,[],0⟩]]) (by (repeat (first|exact oK1 _|(refine oK2 (by (repeat (first|exact tK1 _ _|apply tK2))) ?_)))))
   have h8:=Own.zIo (c:=0) (zO3 encI 1 h7)
   exact h8.sub (by (repeat (first|exact oK1 _|(refine oK2 (by (repeat (first|exact tK1 _ _|apply tK2))) ?_)))))
 refine Ret.of (Calls.mono h1.calls fun e w' q=>?_)
 obtain ⟨x,hp,he,hb,hE⟩:=q
 exact ⟨(w.heap.size,w'.heap.size - w.heap.size,x.1),trivial,he,hb,zKO hp hb.size hE⟩
def zBf (xss:List (List Int)):List Sli:=xss.map fun x=>⟨none,x,0⟩
theorem zN8 (xss:List (List Int)):(zBf xss).map Sli.xs=xss:=by simp [zBf,List.map_map,Function.comp_def]
theorem zBm {g n:Nat} {A:Option Addr} {xss:List (List Int)} {base:Nat} {w:World} {H H':List Ent} (h:Own base w H) (ht:Take H (.zFN g n A xss) H'):∃ pl:List Sli,pl.map Sli.xs=(zBf xss).map Sli.xs∧zBP w A pl:=by
 obtain ⟨pl,h1,h2,_,_⟩:=h.here _ ht.mem
 exact ⟨pl,by rw [h1,zN8],h2⟩
theorem zC5 {pl:List Sli} {xss:List (List Int)} (h:pl.map Sli.xs=(zBf xss).map Sli.xs):pl.length=xss.length:=by
 have:=congrArg List.length h
 simpa [zBf] using this
theorem zFc {pl:List Sli} {xss:List (List Int)} {k:Nat} (h:pl.map Sli.xs=(zBf xss).map Sli.xs) (hr:∀ r∈xss,r.length≤k):∀ s∈pl,s.xs.length≤k:=fun s hs=>by
 rw [zN8] at h
 exact hr _ (by rw [← h];exact List.mem_map_of_mem hs)
end Go.Proofs.YtdigopgncfhiaaaGreatDoor
