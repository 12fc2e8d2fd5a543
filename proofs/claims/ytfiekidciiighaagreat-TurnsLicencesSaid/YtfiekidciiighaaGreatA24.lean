/- A24 -/
import Derived.Test.YtfiekidciiighaaGreatA23
set_option linter.unusedSimpArgs false
set_option linter.unusedVariables false
namespace Go.Proofs.YtfiekidciiighaaGreat.Two
variable {ro : Option Nat}
open Go.RowKit
set_option maxRecDepth 20000
theorem any_len {k:RdK} {n:Nat} (hn:n≤k.m) {f:Tal→Option Int} (hf:zAy (SF k n) f):((zBb k).any fun y=>y.length == n)=true↔∃ t,(f t).isSome=true∧zEN k t=true:=by
 rw [zKh hn hf]
 simp only [List.any_eq_true,beq_iff_eq]
 exact ⟨fun ⟨os,a,b⟩=>⟨os,b,zDU.1 a⟩,fun ⟨os,a,b⟩=>⟨os,zDU.2 b,a⟩⟩
set_option maxHeartbeats 8000000 in
theorem zGX (z:Wa) (g gf gb:Nat) (T:List Tim) (F B:List Tab) (wb w:World) (hz:WaOk z) (hF:FwOk z (z.l.bms.length+1) F) (hwb:Below wb.heap.size wb w) (hO:Own wb.heap.size w (WH z g gf gb T F B)) :
  zHj Tryz.prog 60 [.pointer (some ⟨g,0,none⟩)] w (WH z g gf gb T F B) (fun p:Option Addr × Nat=>.slice p.1 ((zAs z.k).map fun n:Nat=>(n:Int)).length p.2) (fun p=>.sl encI 1 p.1 ((zAs z.k).map fun n:Nat=>(n:Int))::WH z g gf gb T F B) (fun _=>True):=by
 obtain ⟨hin,hsg,hm1,hm6⟩:=hz.in_
 obtain ⟨hF1,hF2⟩:=hF
 obtain ⟨H0,hH0⟩:∃ X,X=WH z g gf gb T F B:=⟨_,rfl⟩
 rw [← hH0]
 have hno:zCE (zBb z.k) (z.l.bms.length+1)=(zAs z.k).map fun n:Nat=>(n:Int):=rfl
 rw [← hno]
 have hns:=fun n=>zGW (os:=zBb z.k) (n:=n)
 have hnl:=fun n=>zHL (os:=zBb z.k) (n:=n)
 have hn0:zCE (zBb z.k) 0=[]:=rfl
 have hany:=fun n (hn:n≤z.k.m) f (hf:zAy (SF z.k n) f)=>any_len hn hf
 have hkm:z.k.m=z.l.bms.length:=rfl
 generalize zBb z.k=oss at *
 refine zEJ (n:=37) hwb (by rw [hH0];exact hO) Tryz.func60 rfl rfl rfl ?_
 clear hO
 refine U.sub (R':=[(0,.pointer (some ⟨g,0,none⟩))]) (H':=WH z g gf gb T F B++[.oldx w wb.heap.size (feet H0)]) (by (repeat first|exact lK1|refine zT rfl ?_)) (by rw [hH0];exact Out.all _) ?_
 unfold WH
 simp only [List.cons_append,List.nil_append]
 unfold zy
 (repeat' (first|((with_reducible refine zG ?_);first|refine zD rfl rfl rfl ?_|refine zC rfl rfl rfl ?_|(refine zJ rfl rfl rfl ?_;refine ⟨_,rfl,?_⟩)|refine zL rfl rfl rfl ?_|refine zu rfl rfl rfl rfl (by omega) ?_|refine zn rfl rfl rfl ?_|refine zBG rfl rfl rfl ?_)|(with_reducible first|refine zI ?_|refine zB ?_|refine zE ?_|refine zA ?_|refine zQ ?_)))
 refine zBa encI 1 3 ?_
 refine zAB (ι:=Nat × Value) [0,12] rfl (fun q=>q.1≤z.l.bms.length+1) (fun q=>[(13,.int .i64 (q.1:Int)),(3,q.2)]) (fun q=>.row encI 1 3 q.2 (zCE oss q.1)::(WH z g gf gb T F B++[.oldx w wb.heap.size (feet H0)])) (fun q=>z.l.bms.length+1 - q.1) (0,.slice none 0 0) (Nat.zero_le _) (by (repeat first|exact lK1|refine zT rfl ?_)) (by unfold WH zy;simp only [List.cons_append,List.nil_append];(repeat constructor)) ?_
 rintro ⟨n,v⟩ hi
 simp only at hi
 simp only [zAk,WH,zy,List.cons_append,List.nil_append]
 have hnn:=hnl n
 by_cases hil:n<z.l.bms.length+1
 rotate_left
 ·obtain rfl:n=z.l.bms.length+1:=by omega
  (repeat' (first|((with_reducible refine zG ?_);first|refine zD rfl rfl rfl ?_|refine zC rfl rfl rfl ?_|(refine zS rfl rfl rfl rfl rfl (fun h=>?_) (fun h=>?_)<;>(dsimp only [cmpP] at h;(try (exfalso;omega)))))|(with_reducible first|refine zI ?_|refine zB ?_|refine zE ?_|refine zA ?_|refine zV ?_|refine zz ?_|refine zZ ?_|refine ze ?_)|((with_reducible refine zF ?_ ?_);(· exact rfl))))
  refine zBT (xs:=zCE oss (z.l.bms.length+1)) (enc:=encI) (by (repeat constructor)) ?_
  rintro A9 c9 rfl
  exact zIf (by exact rTm rfl) (A9,c9) trivial rfl hwb (fun _ h=>(h.zCN (xs:=zCE oss (z.l.bms.length+1)) (enc:=encI) (by (repeat constructor))).sub (by rw [hH0];simp only [WH,zy,List.cons_append,List.nil_append];(repeat constructor)))
 obtain ⟨⟨mc,fc⟩,hFn⟩:∃ p,F[n]?=some p:=⟨_,List.getElem?_eq_getElem (by omega)⟩
 have hmin:=hF2 n _ hFn
 have hA:=hany n (by omega) fc hmin
 have hsn:=hns n
 have hFA:(F.map fun p=>some p.1)[n]?=some (some mc):=by rw [List.getElem?_map,hFn];rfl
 have:zAT (F.map fun p=>some p.1) n (some mc):=⟨hFA⟩
 refine zDQ n hFn (by (repeat constructor)) ?_
 refine zCt (kv:=vTl) (vv:=vI) (by (repeat constructor)) (fun ml0 c0 hlo hle=>?_)
 (repeat' (first|((with_reducible refine zG ?_);first|refine zD rfl rfl rfl ?_|refine zC rfl rfl rfl ?_|(refine zJ rfl rfl rfl ?_;refine ⟨_,rfl,?_⟩)|refine zL rfl rfl rfl ?_|(refine zS rfl rfl rfl rfl rfl (fun h=>?_) (fun h=>?_)<;>(dsimp only [cmpP] at h;(try (exfalso;omega))))|refine zo (I:=n) rfl rfl rfl rfl rfl (by omega) ?_|refine zD1 (kv:=vTl) (vv:=vI) rfl rfl rfl (by (repeat constructor)) (fun r=>?_)|refine zBG rfl rfl rfl ?_)|(with_reducible first|refine zI ?_|refine zB ?_|refine zE ?_|refine zA ?_|refine zR ?_|refine zQ ?_)|((with_reducible refine zH ?_ ?_);(· exact rfl))))
 refine zAB (ι:=List Nat) [0,12,13,3,4,23] rfl (fun q=>∀ p∈ml0,p.2.2∈q→zEN z.k p.1=false) (fun _=>[]) (fun q=>.itl r mc c0 q :: .ml mc vTl vI ml0 c0 :: .mps vTl vI (F.take n++F.drop (n+1)) :: .row encI 1 3 v (zCE oss n)::[.blk g (zy z (.slice (some ⟨gf,0,none⟩) (z.l.bms.length+1) (z.l.bms.length+1)) (.slice (some ⟨gb,0,none⟩) (z.l.bms.length+1) (z.l.bms.length+1))),.sl encI 1 z.LA (zAK z.l z.l.bms.length),.arr zAS 1 z.gt (T.map fun p=>some p.1),.mps vI vSp T,.arr zAS 1 gf (F.map fun p=>some p.1),.arr zAS 1 gb (B.map fun p=>some p.1),.mps vTl vI B,.oldx w wb.heap.size (feet H0)]) (fun q=>zFi ml0 q) [] (fun p _ hp=>by cases hp) (by (repeat first|exact lK1|refine zT rfl ?_)) (by unfold zy;(repeat constructor)) ?_
 rintro seen hsee
 simp only [zAk,zy,List.cons_append,List.nil_append]
 (repeat' (first|((with_reducible refine zG ?_);first|refine zD rfl rfl rfl ?_|(refine zEz (kv:=vTl) (vv:=vI) rfl rfl rfl (by (repeat constructor)) (by (repeat constructor)) hlo (fun hend=>?_) (fun p hp hpn=>?_)<;>skip)|refine zk rfl rfl rfl rfl ?_|refine zu rfl rfl rfl rfl (by omega) ?_)|(with_reducible first|refine zI ?_|refine zB ?_|refine zE ?_|refine zA ?_|refine zR ?_|refine zQ ?_|refine zz ?_|refine zj ?_|refine zZ ?_|refine ze ?_)|((with_reducible refine zH ?_ ?_);(· exact rfl))|((with_reducible refine zF ?_ ?_);(· exact rfl))))
 ·have hnone:(oss.any fun y=>y.length == n)=false:=by
   rw [Bool.eq_false_iff]
   intro h9
   obtain ⟨t,h1,h2⟩:=hA.1 h9
   obtain ⟨a,ha⟩:=Option.isSome_iff_exists.1 h1
   rw [← hle] at ha
   obtain ⟨j,bn,_,h3⟩:=zCn 0 ha
   have h4:=List.mem_of_getElem? h3
   have:=hsee _ h4 (hend _ h4)
   rw [h2] at this;cases this
  rw [hnone,if_neg (by simp),List.append_nil] at hsn
  refine zDZ (kv:=vTl) (vv:=vI) (by (repeat constructor)) hlo hle ?_
  refine zDW n hFn (by (repeat constructor)) (by (repeat constructor)) ?_
  skip
  exact zd (ι:=Nat × Value) (n+1,v) (by simp only;omega) (by simp only;omega) (by (repeat first|exact lK1|refine zT rfl ?_)) (by rw [hsn];simp only [WH,zy,List.cons_append,List.nil_append];(repeat constructor))
 ·obtain ⟨t0,a,bn⟩:=p
  have hpa:fc t0=some a:=by rw [← hle];exact zDg hlo.keys hp
  have htl:=zKH ((hmin t0).1 a hpa).1
  have hM:=fun W hg=>zLH z (.slice (some ⟨gf,0,none⟩) (z.l.bms.length+1) (z.l.bms.length+1)) (.slice (some ⟨gb,0,none⟩) (z.l.bms.length+1) (z.l.bms.length+1)) g t0 W hg (by omega) (by omega)
  cases hmy:zEN z.k t0 with
  | true =>
   rw [hmy] at hM
   have hyes:(oss.any fun y=>y.length == n)=true:=hA.2 ⟨t0,by rw [hpa];rfl,hmy⟩
   rw [hyes,if_pos rfl] at hsn
   (repeat' (first|((with_reducible refine zG ?_);first|refine zD rfl rfl rfl ?_|refine zC rfl rfl rfl ?_|(refine zJ rfl rfl rfl ?_;refine ⟨_,rfl,?_⟩)|refine zDa (kv:=vTl) (vv:=vI) (p:=(t0,a,bn)) rfl rfl rfl (by (repeat constructor)) (by (repeat constructor)) hlo hp ?_|refine zO rfl rfl rfl rfl (fun _ _ q=>hM _ (zA7 q.own (Below.refl _ _) rfl)) ?_|(refine zB6 (enc:=encI) [_] rfl rfl rfl (by (repeat constructor)) rfl rfl (zAF (by exact rfl)) (by refine ⟨?_,by decide⟩;(try simp only [List.length_append,List.length_cons,List.length_nil]);omega) (fun A' c'=>?_))|refine zk rfl rfl rfl rfl ?_|refine zu rfl rfl rfl rfl (by omega) ?_|(refine zX rfl rfl rfl rfl rfl ?_;refine ⟨rfl,by first|decide|exact Nat.le_of_ble_eq_true rfl|(simp;omega),_,rfl,?_⟩)|(refine zb rfl rfl (fun b=>?_))|(refine zi rfl rfl rfl ?_;refine ⟨rfl,_,rfl,fun b=>?_⟩))|(with_reducible first|refine zI ?_|refine zB ?_|refine zE ?_|refine zA ?_|refine zz ?_|refine zj ?_|refine zZ ?_|refine ze ?_)|((with_reducible refine zCL ?_ ?_);(· exact rfl))|((with_reducible refine zH ?_ ?_);(· exact rfl))))
   refine zDZ (kv:=vTl) (vv:=vI) (by (repeat constructor)) hlo hle ?_
   refine zDW n hFn (by (repeat constructor)) (by (repeat constructor)) ?_
   exact zd (ι:=Nat × Value) (n+1,.slice A' (zCE oss n++[(n:Int)]).length c') (by simp only;omega) (by simp only;omega) (by (repeat first|exact lK1|refine zT rfl ?_)) (by rw [hsn];simp only [WH,zy,List.cons_append,List.nil_append];(repeat constructor))
  | false =>
   rw [hmy] at hM
   (repeat' (first|((with_reducible refine zG ?_);first|refine zD rfl rfl rfl ?_|(refine zJ rfl rfl rfl ?_;refine ⟨_,rfl,?_⟩)|refine zDa (kv:=vTl) (vv:=vI) (p:=(t0,a,bn)) rfl rfl rfl (by (repeat constructor)) (by (repeat constructor)) hlo hp ?_|refine zO rfl rfl rfl rfl (fun _ _ q=>hM _ (zA7 q.own (Below.refl _ _) rfl)) ?_|refine zk rfl rfl rfl rfl ?_|(refine zX rfl rfl rfl rfl rfl ?_;refine ⟨rfl,by first|decide|exact Nat.le_of_ble_eq_true rfl|(simp;omega),_,rfl,?_⟩)|(refine zb rfl rfl (fun b=>?_)))|(with_reducible first|refine zI ?_|refine zB ?_|refine zE ?_|refine zA ?_|refine zR ?_|refine zj ?_)|((with_reducible refine zF ?_ ?_);(· exact rfl))))
   refine zd (ι:=List Nat) (seen++[bn]) (fun p' hp' hs'=>?_) (zDF hp hpn) (by (repeat first|exact lK1|refine zT rfl ?_)) (by (repeat constructor))
   rcases List.mem_append.1 hs' with h9|h9
   ·exact hsee p' hp' h9
   ·have h9:p'.2.2=bn:=by simpa using h9
    rw [zDf hlo hp' hp h9];exact hmy
end Go.Proofs.YtfiekidciiighaaGreat.Two
namespace Go.Proofs.YtfiekidciiighaaGreat.Two
variable {ro : Option Nat}
open Go.RowKit
set_option maxRecDepth 20000
def zHW (p:Nat × Nat):List Value:=[.func (.func 67) #[] #[.pointer (some ⟨p.1,0,none⟩),.pointer (some ⟨p.2,0,none⟩)]]
instance encI_mo : zCZ zHW 1:=⟨fun _=>rfl,fun p v hv=>by simp [zHW] at hv;subst hv;rfl⟩
structure OpD where
 z:Wa
 g:Nat
 gf:Nat
 gb:Nat
 T:List Tim
 F:List Tab
 B:List Tab
def OpOk (l:LnM) (x:RdM) (d:OpD):Prop:=d.z.l=l∧d.z.x=x∧WaOk d.z∧TmOk d.z d.T∧FwOk d.z (l.bms.length+1) d.F∧BkOk d.z (l.bms.length+1) d.B
theorem zLf {l:LnM} {r:Rid} {b n:Nat} {k:Int} {t:Sp} (h:zBr l r b n k=some t):k<n:=by
 cases k with
 | negSucc j=>cases h
 | ofNat j =>
  unfold zBr at h
  simp only at h
  split at h
  ·next h9=>simp only [Int.ofNat_eq_natCast];omega
  ·cases h
section
variable {n : Nat} {d:List Deferred} {R:List (Nat × Value)} {H H' H1:List Ent} {X:Act→World→Prop} {w0:World} {K V:Type} [DecidableEq K] {kv:K→Value} {vv:V→Value} {m:Nat} {f:K→Option V}
theorem u_mpsSet {L:List (Nat × (K→Option V))} (i:Nat) (hi:i<L.length) (ht:Take H (.fm m kv vv f) H1) (ht2:Take H1 (.mps kv vv (L.take i++L.drop (i+1))) H') (h:U w0 n d R (.mps kv vv (L.set i (m,f))::H') X):U w0 n d R H X:=by
 refine zFZ (L.take i) (L.drop (i+1)) ht ht2 ?_
 rw [List.set_eq_take_append_cons_drop,if_pos hi] at h
 exact h
end
set_option maxHeartbeats 16000000 in
theorem zFf (l:LnM) (x:RdM) (ms:List (Nat × Nat)) (MA:Option Addr) (mc:Nat) (w:World) (h:zCY w l) (hs:zBA l) (hS:zAC zAw 2 w x.A x.r.sigs) (hn:x.r.sigs.length≤1000) (hM:zAC zHW 1 w MA ms) (hml:ms.length≤10) (hmo:zCd l=0→∀ p∈ms,∀ W,Below w.heap.size w W→Gv Tryz.prog 67 [.pointer (some ⟨p.1,0,none⟩),.pointer (some ⟨p.2,0,none⟩)] W (.int .i64 0)) :
  Ret Tryz.prog 59 [vLn l,vRd x,.slice MA ms.length mc] w (fun d:Option OpD=>.tuple #[.pointer (d.map fun d=>⟨d.g,0,none⟩),.int .i64 (zAt l x.r)]) (fun d=>match d with|some d=>WH d.z d.g d.gf d.gb d.T d.F d.B|none=>[]) (fun d=>match d with|some d=>zAt l x.r=0∧OpOk l x d|none=>zAt l x.r≠0):=by
 have hsb:=hs.b
 have hLn:=h
 have hC:=fun W (hW:Below w.heap.size w W)=>zHg l W (h.below hW) hs
 by_cases h0:zCd l=0
 rotate_left
 ·rw [zGC h0]
  generalize zCd l=e at *
  unfold vRd vLn
  unfold vLn at hC
  (refine zK (n:=166) Tryz.func59 rfl rfl rfl ?_)
  (repeat' (first|((with_reducible refine zG ?_);first|refine zD rfl rfl rfl ?_|refine zC rfl rfl rfl ?_|(refine zJ rfl rfl rfl ?_;refine ⟨_,rfl,?_⟩)|(refine zS rfl rfl rfl rfl rfl (fun h=>?_) (fun h=>?_)<;>(dsimp only [cmpP] at h;(try (exfalso;omega))))|refine zO rfl rfl rfl rfl (fun _ _ q=>hC _ q.below) ?_|(refine zp rfl rfl rfl rfl (fun b=>?_)))|(with_reducible first|refine zI ?_|refine zB ?_|refine zE ?_|refine zA ?_|refine zV ?_|refine zU ?_)|((with_reducible refine zH ?_ ?_);(· exact rfl))))
  exact zP (by (exact zh.cons (by exact zAO.tmp rfl) (zh.cons (by exact zAO.tmp rfl) zh.nil))) none (by exact h0) rfl (fun _ h=>h.sub (by (repeat constructor)))
 rw [h0] at hC
 by_cases h1:inB 0 86400000 x.r.start=true∧inB x.r.start 86400000 x.r.now=true∧x.r.sigs.length≤10
 rotate_left
 ·have e:zAt l x.r=51:=zE8 h0 (by
   cases hg:zCC l.bms.length x.r with
   | false=>rfl
   | true=>exact absurd (zBM.1 hg).1 h1)
  rw [e]
  unfold vRd vLn
  unfold vLn at hC
  (refine zK (n:=166) Tryz.func59 rfl rfl rfl ?_)
  (repeat' (first|((with_reducible refine zG ?_);first|refine zD rfl rfl rfl ?_|refine zC rfl rfl rfl ?_|(refine zJ rfl rfl rfl ?_;refine ⟨_,rfl,?_⟩)|refine zL rfl rfl rfl ?_|refine z7 rfl rfl rfl rfl ?_|refine zf rfl rfl rfl ?_|(refine zS rfl rfl rfl rfl rfl (fun h=>?_) (fun h=>?_)<;>(dsimp only [cmpP] at h;(try (exfalso;omega))))|refine zO rfl rfl rfl rfl (fun _ _ q=>hC _ q.below) ?_|(refine zAf rfl rfl rfl rfl (fun _ _ q=>bin1 _ _ _ _ _ _ (zAF (enc:=encI) (by exact rfl) _ q.below q.own)) (fun h=>?_) (fun h=>?_)<;>(try (exfalso;omega)))|refine zAI rfl rfl rfl ?_|refine zn rfl rfl rfl ?_|(refine zX rfl rfl rfl rfl rfl ?_;refine ⟨rfl,by first|decide|exact Nat.le_of_ble_eq_true rfl|(simp;omega),_,rfl,?_⟩)|(refine zb rfl rfl (fun b=>?_))|(refine zp rfl rfl rfl rfl (fun b=>?_))|(refine zAZ rfl rfl rfl ?_;refine ⟨_,rfl,?_⟩)|(refine zi rfl rfl rfl ?_;refine ⟨rfl,_,rfl,fun b=>?_⟩))|(with_reducible first|refine zI ?_|refine zB ?_|refine zE ?_|refine zA ?_|refine zV ?_|refine zR ?_|refine zU ?_)|((with_reducible refine zH ?_ ?_);(· exact rfl))|((with_reducible refine zF ?_ ?_);(· exact rfl))))
  all_goals first|exact zP (by (exact zh.cons (by exact zAO.tmp rfl) (zh.cons (by exact zAO.tmp rfl) zh.nil))) none (by simp) rfl (fun _ h=>h.sub (by (repeat constructor)))|(exfalso;apply h1;refine ⟨by assumption,by assumption,by omega⟩;done)
 obtain ⟨a1,a2,a3⟩:=h1
 have hf:=zDI h0
 have hm:=hf.bms
 unfold vRd vLn
 unfold vLn at hC
 (refine zK (n:=166) Tryz.func59 rfl rfl rfl ?_)
 (repeat' (first|((with_reducible refine zG ?_);first|refine zD rfl rfl rfl ?_|refine zC rfl rfl rfl ?_|(refine zJ rfl rfl rfl ?_;refine ⟨_,rfl,?_⟩)|refine zL rfl rfl rfl ?_|refine z7 rfl rfl rfl rfl ?_|(refine zS rfl rfl rfl rfl rfl (fun h=>?_) (fun h=>?_)<;>(dsimp only [cmpP] at h;(try (exfalso;omega))))|refine zO rfl rfl rfl rfl (fun _ _ q=>hC _ q.below) ?_|(refine zO rfl rfl rfl rfl (fun _ _ q=>a1 ▸ bin1 _ _ _ _ _ _ (zAF (enc:=encI) (by exact rfl) _ q.below q.own)) ?_)|(refine zO rfl rfl rfl rfl (fun _ _ q=>a2 ▸ bin1 _ _ _ _ _ _ (zAF (enc:=encI) (by exact rfl) _ q.below q.own)) ?_)|refine zAI rfl rfl rfl ?_|refine zn rfl rfl rfl ?_|(refine zX rfl rfl rfl rfl rfl ?_;refine ⟨rfl,by first|decide|exact Nat.le_of_ble_eq_true rfl|(simp;omega),_,rfl,?_⟩)|(refine zb rfl rfl (fun b=>?_))|(refine zp rfl rfl rfl rfl (fun b=>?_))|(refine zAZ rfl rfl rfl ?_;refine ⟨_,rfl,?_⟩)|(refine zi rfl rfl rfl ?_;refine ⟨rfl,_,rfl,fun b=>?_⟩))|(with_reducible first|refine zI ?_|refine zB ?_|refine zE ?_|refine zA ?_|refine zR ?_)|((with_reducible refine zF ?_ ?_);(· exact rfl))))
 rename_i b3 b4 h9 bx1 bx2
 obtain ⟨b9,hb9⟩:∃ y,y=b:=⟨_,rfl⟩
 subst hb9
 refine U.sub (R':=[(2,.slice MA ms.length mc),(3,.pointer (some ⟨b3,0,none⟩)),(4,.pointer (some ⟨b4,0,none⟩)),(9,.pointer (some ⟨b9,0,none⟩))]) (H':=[.blk b9 [.int .i64 (-1),.int .i64 0],.blk b4 [.int .i64 x.r.start,.int .i64 x.r.now,.slice x.A x.r.sigs.length x.c],.blk b3 [.slice l.TA l.t.length l.tc,.int .i64 l.fast,.slice l.CA l.cks.length l.cc,.slice l.BA l.bms.length l.bc,.int .i64 l.finish,.int .i64 l.fakes,.int .i64 l.misses]]) (by (repeat first|exact lK1|refine zT rfl ?_)) (by (repeat constructor)) ?_
 skip
 (refine z9 [] [] [] rfl (show ([]:List Nat).Nodup by decide) (fun _ h=>h) (by kernel_rfl) [[],[Y],[Y,Y],[Z,Y,Y],[Z,Z,Y,Y],[Z,Z,Z,Y,Y],[Z,Z,Z,Z,Z,Z],[Z,Z,Z,Z,Z,Z,Z],[Z,Z,Z,Z,Z,Z,Z,Z]] (by kernel_rfl) (by kernel_rfl) (by kernel_rfl) (by kernel_rfl) (by kernel_rfl) ?_)
 (repeat' (first|(((with_reducible refine zA0 ?_ ?_);(· exact rfl);refine ⟨_,fun G=>(by (try simp (decide:=true) only [vis,see,fltT,zq,Nat.reduceAdd,Nat.reduceSub,if_true,if_false,List.set_cons_zero,List.set_cons_succ,List.set_nil,List.nil_append,List.cons_append]);rfl),?_⟩);first|refine zN _ (fun _=>zW rfl rfl (by exact rfl)) (fun _=>rfl) rfl (by intro G G' h;simp (decide:=true) only [h]) ?_|(refine zm rfl ?_;refine zN _ (fun _=>zY rfl rfl) (fun _=>rfl) rfl (by intro G G' h;simp (decide:=true) only [h]) ?_)|refine zN _ (fun _=>zt rfl rfl) (fun _=>rfl) rfl (by intro G G' h;simp (decide:=true) only [h]) ?_|(refine zI1 (n0:=l.bms.length) (v:=.map none) rfl rfl rfl rfl rfl rfl (fun _=>rfl) rfl (fun _=>rfl) (fun _=>rfl) (by omega) ?_)|(refine zAM rfl ?_;refine zN _ (fun _=>zEu rfl rfl) (fun _=>rfl) rfl (by intro G G' h;simp (decide:=true) only [h]) ?_)|refine zN _ (fun _=>zDK rfl rfl (by exact rfl)) (fun _=>rfl) rfl (by intro G G' h;simp (decide:=true) only [h]) ?_|refine c_box rfl (fun _=>rfl) rfl (fun _=>rfl) (fun _=>rfl) (by intro G G' h;simp (decide:=true) only [h]) ?_)|(with_reducible refine zAx ?_)))
 (intro G;simp only [regsT,zq,zAa,ini,List.nil_append,List.cons_append])
 refine U.sub (R':=[(2,.slice MA ms.length mc),(3,.pointer (some ⟨b3,0,none⟩)),(4,.pointer (some ⟨b4,0,none⟩)),(9,.pointer (some ⟨b9,0,none⟩)),(10,.pointer (some ⟨(G 7).g,0,none⟩))]) (H':=[.blk (G 7).g [.slice l.TA l.t.length l.tc,.int .i64 l.fast,.slice l.CA l.cks.length l.cc,.slice l.BA l.bms.length l.bc,.int .i64 l.finish,.int .i64 l.fakes,.int .i64 l.misses,.int .i64 x.r.start,.int .i64 x.r.now,.slice x.A x.r.sigs.length x.c,.slice none 0 0,.slice (some ⟨(G 5).g,0,none⟩) l.bms.length l.bms.length,.slice none 0 0,.slice none 0 0],.blk (G 5).g (List.replicate l.bms.length (.map none)),.blk b9 [.int .i64 (-1),.int .i64 0],.blk b4 [.int .i64 x.r.start,.int .i64 x.r.now,.slice x.A x.r.sigs.length x.c],.blk b3 [.slice l.TA l.t.length l.tc,.int .i64 l.fast,.slice l.CA l.cks.length l.cc,.slice l.BA l.bms.length l.bc,.int .i64 l.finish,.int .i64 l.fakes,.int .i64 l.misses]]) (by (repeat first|exact lK1|refine zT rfl ?_)) (by (repeat constructor)) ?_
 generalize (G 7).g=g
 generalize (G 5).g=gt
 refine zBF (H':=[.arr zAS 1 gt (List.replicate l.bms.length none),.blk g [.slice l.TA l.t.length l.tc,.int .i64 l.fast,.slice l.CA l.cks.length l.cc,.slice l.BA l.bms.length l.bc,.int .i64 l.finish,.int .i64 l.fakes,.int .i64 l.misses,.int .i64 x.r.start,.int .i64 x.r.now,.slice x.A x.r.sigs.length x.c,.slice none 0 0,.slice (some ⟨gt,0,none⟩) l.bms.length l.bms.length,.slice none 0 0,.slice none 0 0],.blk b9 [.int .i64 (-1),.int .i64 0],.blk b4 [.int .i64 x.r.start,.int .i64 x.r.now,.slice x.A x.r.sigs.length x.c],.blk b3 [.slice l.TA l.t.length l.tc,.int .i64 l.fast,.slice l.CA l.cks.length l.cc,.slice l.BA l.bms.length l.bc,.int .i64 l.finish,.int .i64 l.fakes,.int .i64 l.misses]]) (fun W h=>?_) ?_
 ·have e:(List.replicate l.bms.length (none:Option Nat)).flatMap zAS=List.replicate l.bms.length (.map none):=by
   generalize l.bms.length=nn
   induction nn with
   | zero=>rfl
   | succ nn ih=>rw [List.replicate_succ,List.flatMap_cons,ih];rfl
  have h1:=(h.take (e:=.blk gt (List.replicate l.bms.length (.map none))) (by (repeat constructor))).recast (e':=.arr zAS 1 gt (List.replicate l.bms.length none)) (fun hp=>⟨[],by rw [List.append_nil,e];exact hp⟩) (fun x hx=>hx)
  exact h1.sub (by (repeat constructor))
 (repeat' (first|((with_reducible refine zG ?_);first|refine zD rfl rfl rfl ?_|(refine zJ rfl rfl rfl ?_;refine ⟨_,rfl,?_⟩)|refine zL rfl rfl rfl ?_|refine zn rfl rfl rfl ?_)|(with_reducible first|refine zI ?_|refine zB ?_|refine zE ?_|refine zA ?_|refine zQ ?_)))
 refine zBa encI 1 3 ?_
 refine u_mps0 vI vSp ?_
 refine zAB (ι:=Nat × Value × List Tim × List (Option Nat)) [2,3,4,9,10,54] rfl (fun q=>q.1≤l.bms.length∧q.2.2.1.length=q.1∧(∀ p∈q.2.2.1,p.2=fun _=>none)∧q.2.2.2.length=l.bms.length∧∀ (i:Nat) (p:Tim),q.2.2.1[i]?=some p→q.2.2.2[i]?=some (some p.1)) (fun q=>[(55,.int .i64 (q.1:Int))]) (fun q=>[.row encI 1 3 q.2.1 (zAK l q.1),.blk g [.slice l.TA l.t.length l.tc,.int .i64 l.fast,.slice l.CA l.cks.length l.cc,.slice l.BA l.bms.length l.bc,.int .i64 l.finish,.int .i64 l.fakes,.int .i64 l.misses,.int .i64 x.r.start,.int .i64 x.r.now,.slice x.A x.r.sigs.length x.c,q.2.1,.slice (some ⟨gt,0,none⟩) l.bms.length l.bms.length,.slice none 0 0,.slice none 0 0],.arr zAS 1 gt q.2.2.2,.mps vI vSp q.2.2.1,.blk b9 [.int .i64 (-1),.int .i64 0],.blk b4 [.int .i64 x.r.start,.int .i64 x.r.now,.slice x.A x.r.sigs.length x.c],.blk b3 [.slice l.TA l.t.length l.tc,.int .i64 l.fast,.slice l.CA l.cks.length l.cc,.slice l.BA l.bms.length l.bc,.int .i64 l.finish,.int .i64 l.fakes,.int .i64 l.misses]]) (fun q=>l.bms.length - q.1) (0,.slice none 0 0,[],List.replicate l.bms.length none) ⟨Nat.zero_le _,rfl,by simp,by simp,fun i p hp=>by simp at hp⟩ (by (repeat first|exact lK1|refine zT rfl ?_)) (by (repeat constructor)) ?_
 rintro ⟨i,v,TL,TA⟩ ⟨hi,hTl,hTe,hAl,hTA⟩
 simp only at hi hTl hTe hAl hTA
 simp only [zAk,List.cons_append,List.nil_append]
 by_cases hil:i<l.bms.length
 ·have hwy:=fun W (hW:Below w.heap.size w W)=>zJ0 l i W (hLn.below hW) hs hil
  have hwb:=zIZ hf hil
  have hup:=fun W=>up_ok (1000 * zBo l i) l.fast W (by omega) (by omega) (by have:=hf.fast;omega) (by have:=hf.fast;omega)
  have hfa:=hf.fast
  rw [show upI (1000 * zBo l i) l.fast=zAY l i from rfl] at hup
  have hls:=(zFj (l:=l) (i:=i)).symm
  have hll:=zCR (l:=l) (i:=i)
  generalize zAY l i=le at *
  generalize zAK l i=LL at *
  unfold vLn at hwy
  generalize zBo l i=wy at *
  obtain ⟨e0,hA1⟩:∃ e,TA[i]?=some e:=⟨_,List.getElem?_eq_getElem (by omega)⟩
  have:zAT TA i e0:=⟨hA1⟩
  (repeat' (first|((with_reducible refine zG ?_);first|refine zD rfl rfl rfl ?_|refine zC rfl rfl rfl ?_|(refine zS rfl rfl rfl rfl rfl (fun h=>?_) (fun h=>?_)<;>(dsimp only [cmpP] at h;(try (exfalso;omega)))))|(with_reducible first|refine zI ?_|refine zB ?_|refine zE ?_|refine zA ?_|refine zR ?_|refine zQ ?_)|((with_reducible refine zH ?_ ?_);(· exact rfl))))
  (refine z9 [] [(13,0,0,[.row encI 1 3 v LL])] [(13,0,0)] rfl (show ([13]:List Nat).Nodup by decide) (H0:=[.blk g [.slice l.TA l.t.length l.tc,.int .i64 l.fast,.slice l.CA l.cks.length l.cc,.slice l.BA l.bms.length l.bc,.int .i64 l.finish,.int .i64 l.fakes,.int .i64 l.misses,.int .i64 x.r.start,.int .i64 x.r.now,.slice x.A x.r.sigs.length x.c,v,.slice (some ⟨gt,0,none⟩) l.bms.length l.bms.length,.slice none 0 0,.slice none 0 0],.arr zAS 1 gt TA,.mps vI vSp TL,.blk b9 [.int .i64 (-1),.int .i64 0],.blk b4 [.int .i64 x.r.start,.int .i64 x.r.now,.slice x.A x.r.sigs.length x.c],.blk b3 [.slice l.TA l.t.length l.tc,.int .i64 l.fast,.slice l.CA l.cks.length l.cc,.slice l.BA l.bms.length l.bc,.int .i64 l.finish,.int .i64 l.fakes,.int .i64 l.misses]]) (fun _ h=>h.sub (by (repeat constructor))) (by kernel_rfl) [[],[Y],[Z,Y],[Z,Z,Y],[Z,Z,Z,Y],[Y,Y,Y,Y,Y],[Y,Y,Y,Y,Y,Y],[Z,Z,Y,Y,Y,Y,Y],[Z,Z,Z,Y,Y,Y,Y,Y],[Y,Y,Y,Y,Y,Y,Y,Y,Y],[Z,Y,Y,Y,Y,Y,Y,Y,Y,Y],[Z,Z,Z,Z,Z,Z,Y,Y,Y,Y,Y],[Z,Z,Z,Z,Z,Z,Z,Y,Y,Y,Y,Y],[Z,Z,Z,Z,Z,Z,Z,Z,Z,Z,Z,Z,Y],[Z,Z,Z,Z,Z,Z,Z,Z,Z,Z,Z,Z,Z,Z],[Z,Z,Z,Z,Z,Z,Z,Z,Z,Z,Z,Z,Z,Z,Z],[Z,Z,Z,Z,Z,Z,Z,Z,Z,Z,Z,Z,Z,Z,Z,Z]] (by kernel_rfl) (by kernel_rfl) (by kernel_rfl) (by kernel_rfl) (by kernel_rfl) ?_)
  (repeat' (first|(((with_reducible refine zA0 ?_ ?_);(· exact rfl);refine ⟨_,fun G=>(by (try simp (decide:=true) only [vis,see,fltT,zq,Nat.reduceAdd,Nat.reduceSub,if_true,if_false,List.set_cons_zero,List.set_cons_succ,List.set_nil,List.nil_append,List.cons_append]);rfl),?_⟩);first|refine zN _ (fun _=>zl rfl rfl) (fun _=>rfl) rfl (by intro G G' h;simp (decide:=true) only [h]) ?_|refine zN _ (fun _=>zW rfl rfl (by exact rfl)) (fun _=>rfl) rfl (by intro G G' h;simp (decide:=true) only [h]) ?_|(refine zm rfl ?_;refine zN _ (fun _=>zY rfl rfl) (fun _=>rfl) rfl (by intro G G' h;simp (decide:=true) only [h]) ?_)|(refine zAM rfl ?_;refine zAR _ rfl (fun _=>rfl) rfl (fun _=>rfl) (fun _=>rfl) (fun _ _ _ q=>hwy _ q.below) (by intro G G' h;simp (decide:=true) only [h]) ?_)|(refine zAM rfl ?_;refine zAR _ rfl (fun _=>rfl) rfl (fun _=>rfl) (fun _=>rfl) (fun _ _ _ q=>hup _) (by intro G G' h;simp (decide:=true) only [h]) ?_)|refine zN _ (fun _=>e_mul rfl rfl rfl (IntWalk.i64_in _ (by omega))) (fun _=>rfl) rfl (by intro G G' h;simp (decide:=true) only [h]) ?_|(refine zA6 rfl ?_;refine zN _ (fun _=>z8 rfl rfl) (fun _=>rfl) rfl (by intro G G' h;simp (decide:=true) only [h]) ?_)|refine zB5 rfl (fun _=>rfl) rfl (fun _=>rfl) (by exact rfl) (by exact fun _=>rfl) (by intro G G' h;simp (decide:=true) only [h]) ?_)|(refine zIU (enc:=encI) (xs:=LL) (vx:=v) [le] List.mem_cons_self rfl rfl (fun _=>rfl) rfl (fun _=>rfl) (fun _=>rfl) rfl (fun G=>(by (try simp (decide:=true) only [vis,see,fltT,zq,Nat.reduceAdd,Nat.reduceSub,if_true,if_false,List.set_cons_zero,List.set_cons_succ,List.set_nil,List.nil_append,List.cons_append]);rfl)) (fun _ W hW h=>zAF (enc:=encI) (by exact rfl) W hW h) ⟨by simp;omega,by decide⟩ ?_)|((with_reducible refine zBi ?_ ?_);(· exact rfl))))
  intro G
  simp only [regsT,List.nil_append,List.cons_append]
  refine U.sub (R':=[(2,.slice MA ms.length mc),(3,.pointer (some ⟨b3,0,none⟩)),(4,.pointer (some ⟨b4,0,none⟩)),(9,.pointer (some ⟨b9,0,none⟩)),(10,.pointer (some ⟨g,0,none⟩)),(54,.int .i64 (l.bms.length:Int)),(55,.int .i64 (i:Int)),(11,.int .i64 (i:Int)),(71,.slice (G 13).A (LL++[le]).length (G 13).m),(73,.pointer (some ⟨g,0+10,none⟩))]) (H':=[.row encI 1 3 (.slice (G 13).A (LL++[le]).length (G 13).m) (LL++[le]),.blk g [.slice l.TA l.t.length l.tc,.int .i64 l.fast,.slice l.CA l.cks.length l.cc,.slice l.BA l.bms.length l.bc,.int .i64 l.finish,.int .i64 l.fakes,.int .i64 l.misses,.int .i64 x.r.start,.int .i64 x.r.now,.slice x.A x.r.sigs.length x.c,v,.slice (some ⟨gt,0,none⟩) l.bms.length l.bms.length,.slice none 0 0,.slice none 0 0],.arr zAS 1 gt TA,.mps vI vSp TL,.blk b9 [.int .i64 (-1),.int .i64 0],.blk b4 [.int .i64 x.r.start,.int .i64 x.r.now,.slice x.A x.r.sigs.length x.c],.blk b3 [.slice l.TA l.t.length l.tc,.int .i64 l.fast,.slice l.CA l.cks.length l.cc,.slice l.BA l.bms.length l.bc,.int .i64 l.finish,.int .i64 l.fakes,.int .i64 l.misses]]) (by (repeat first|exact lK1|refine zT rfl ?_)) (by (repeat constructor)) ?_
  generalize (G 13).A=A1
  generalize (G 13).m=k1
  (repeat' (first|((with_reducible refine zG ?_);first|refine zD rfl rfl rfl ?_|(refine zJ rfl rfl rfl ?_;refine ⟨_,rfl,?_⟩)|refine zL rfl rfl rfl ?_|(refine u_fmMake Int Sp vI vSp rfl rfl (fun mm=>?_))|refine zo (I:=i) rfl rfl rfl rfl rfl (by omega) ?_|refine zDY (enc:=zAS) (i:=i) (j:=0) (z:=e0) (some mm) rfl rfl rfl rfl rfl rfl rfl rfl (by decide) ?_|refine zu rfl rfl rfl rfl (by omega) ?_|(refine zX rfl rfl rfl rfl rfl ?_;refine ⟨rfl,by first|decide|exact Nat.le_of_ble_eq_true rfl|(simp;omega),_,rfl,?_⟩)|refine zBG rfl rfl rfl ?_)|(with_reducible first|refine zB ?_|refine zE ?_|refine zA ?_|refine zj ?_)))
  refine zG0 (by (repeat constructor)) (by (repeat constructor)) ?_
  refine zd (ι:=Nat × Value × List Tim × List (Option Nat)) (i+1,.slice A1 (LL++[le]).length k1,TL++[(mm,fun _=>none)],TA.set i (some mm)) ⟨by simp only;omega,by simp only [List.length_append,List.length_singleton];omega,fun p hp=>?_,by simp only [List.length_set];exact hAl,fun i' p hp=>?_⟩ (by simp only;omega) (by (repeat first|exact lK1|refine zT rfl ?_)) (by rw [hls];(repeat constructor))
  ·rcases List.mem_append.1 hp with hp|hp
   ·exact hTe p hp
   ·rw [List.mem_singleton.1 hp]
  ·simp only at hp
   rcases Nat.lt_or_ge i' TL.length with h9|h9
   ·rw [List.getElem?_append_left h9] at hp
    simp only
    rw [List.getElem?_set_ne (by omega)];exact hTA i' p hp
   ·rw [List.getElem?_append_right h9] at hp
    obtain ⟨rfl,rfl⟩:i'=i∧p=(mm,fun _=>none):=by
     cases hb9:i' - TL.length with
     | zero=>rw [hb9] at hp;simp only [List.getElem?_cons_zero,Option.some.injEq] at hp;exact ⟨by omega,hp.symm⟩
     | succ j=>rw [hb9] at hp;simp at hp
    simp only
    rw [List.getElem?_set_self (by omega)]
 obtain rfl:i=l.bms.length:=by omega
 have hTt:∀ (b:Nat) (p:Tim),TL[b]?=some p→p.2=zBr l x.r b 0:=fun b p hp=>by rw [zJF];exact hTe p (List.mem_of_getElem? hp)
 (repeat' (first|((with_reducible refine zG ?_);first|refine zD rfl rfl rfl ?_|(refine zJ rfl rfl rfl ?_;refine ⟨_,rfl,?_⟩)|refine zL rfl rfl rfl ?_|(refine zS rfl rfl rfl rfl rfl (fun h=>?_) (fun h=>?_)<;>(dsimp only [cmpP] at h;(try (exfalso;omega))))|refine zn rfl rfl rfl ?_)|(with_reducible first|refine zI ?_|refine zB ?_|refine zE ?_|refine zA ?_|refine zQ ?_|refine zz ?_|refine zZ ?_|refine ze ?_)|((with_reducible refine zF ?_ ?_);(· exact rfl))))
 refine zBT (xs:=zAK l l.bms.length) (enc:=encI) (by (repeat constructor)) ?_
 rintro A9 c9 rfl
 refine zBF (H':=[.sl encI 1 A9 (zAK l l.bms.length),.blk g [.slice l.TA l.t.length l.tc,.int .i64 l.fast,.slice l.CA l.cks.length l.cc,.slice l.BA l.bms.length l.bc,.int .i64 l.finish,.int .i64 l.fakes,.int .i64 l.misses,.int .i64 x.r.start,.int .i64 x.r.now,.slice x.A x.r.sigs.length x.c,.slice A9 l.bms.length c9,.slice (some ⟨gt,0,none⟩) l.bms.length l.bms.length,.slice none 0 0,.slice none 0 0],.arr zAS 1 gt TA,.mps vI vSp TL,.blk b9 [.int .i64 (-1),.int .i64 0],.blk b4 [.int .i64 x.r.start,.int .i64 x.r.now,.slice x.A x.r.sigs.length x.c],.blk b3 [.slice l.TA l.t.length l.tc,.int .i64 l.fast,.slice l.CA l.cks.length l.cc,.slice l.BA l.bms.length l.bc,.int .i64 l.finish,.int .i64 l.fakes,.int .i64 l.misses]]) (fun W h=>(h.zCN (xs:=zAK l l.bms.length) (enc:=encI) (by (repeat constructor))).sub (by simp only [zCR];(repeat constructor))) ?_
 refine zAB (ι:=Nat × List Tim) [2,3,4,9,10,83,84] rfl (fun q=>q.1≤x.r.sigs.length∧q.2.length=l.bms.length∧(∀ (b:Nat) (p:Tim),q.2[b]?=some p→p.2=zBr l x.r b q.1)∧(∀ (i:Nat) (p:Tim),q.2[i]?=some p→TA[i]?=some (some p.1))∧∀ j,j<q.1→sgB l.bms.length x.r j=true) (fun q=>[(85,.int .i64 (q.1:Int))]) (fun q=>[.mps vI vSp q.2,.blk b9 (zAw (zD7 x.r q.1)),.sl encI 1 A9 (zAK l l.bms.length),.blk g [.slice l.TA l.t.length l.tc,.int .i64 l.fast,.slice l.CA l.cks.length l.cc,.slice l.BA l.bms.length l.bc,.int .i64 l.finish,.int .i64 l.fakes,.int .i64 l.misses,.int .i64 x.r.start,.int .i64 x.r.now,.slice x.A x.r.sigs.length x.c,.slice A9 l.bms.length c9,.slice (some ⟨gt,0,none⟩) l.bms.length l.bms.length,.slice none 0 0,.slice none 0 0],.arr zAS 1 gt TA,.blk b4 [.int .i64 x.r.start,.int .i64 x.r.now,.slice x.A x.r.sigs.length x.c],.blk b3 [.slice l.TA l.t.length l.tc,.int .i64 l.fast,.slice l.CA l.cks.length l.cc,.slice l.BA l.bms.length l.bc,.int .i64 l.finish,.int .i64 l.fakes,.int .i64 l.misses]]) (fun q=>x.r.sigs.length - q.1) (0,TL) ⟨Nat.zero_le _,hTl,hTt,hTA,fun j hj=>by omega⟩ (by (repeat first|exact lK1|refine zT rfl ?_)) (by (repeat constructor)) ?_
 clear hTt hTA hTe hTl
 rintro ⟨i,TL⟩ ⟨hi,hTl,hTt,hTA,hall⟩
 simp only at hi hTl hTt hTA hall
 simp only [zAk,List.cons_append,List.nil_append]
 by_cases hil:i<x.r.sigs.length
 ·obtain ⟨s,hx⟩:∃ s,x.r.sigs[i]?=some s:=⟨_,List.getElem?_eq_getElem hil⟩
  have:zAT x.r.sigs i s:=⟨hx⟩
  obtain ⟨bb,o,hA,hblt,hc⟩:=hS.at_ hil
  rw [hA] at hS
  have:InS w bb o zAw 2 x.r.sigs:=⟨hS⟩
  rw [hA]
  have hno:=fun h=>zE8 h0 (zH4 (n:=l.bms.length) hx h)
  have hlg:=zHQ hx
  have hsu:=fun b=>zJG (l:=l) (b:=b) hx
  have hsg:=zIk (n:=l.bms.length) hx
  have hwh:=fun W (hW:Below w.heap.size w W) hb=>zL9 l s W (hLn.below hW) hs hf hb
  generalize hlast:zD7 x.r i=lg at *
  obtain ⟨lgb,lgr⟩:=lg
  unfold zAw
  cases hok:zG8 l.bms.length ⟨lgb,lgr⟩ s with
  | false =>
   rw [hno hok]
   (repeat' (first|((with_reducible refine zG ?_);first|refine zD rfl rfl rfl ?_|refine zC rfl rfl rfl ?_|(refine zJ rfl rfl rfl ?_;refine ⟨_,rfl,?_⟩)|refine zL rfl rfl rfl ?_|refine z7 rfl rfl rfl rfl ?_|refine zf rfl rfl rfl ?_|(refine zS rfl rfl rfl rfl rfl (fun h=>?_) (fun h=>?_)<;>(dsimp only [cmpP] at h;(try (exfalso;omega))))|(refine zAf rfl rfl rfl rfl (fun _ _ q=>bin1 _ _ _ _ _ _ (zAF (enc:=encI) (by exact rfl) _ q.below q.own)) (fun h=>?_) (fun h=>?_)<;>(try (exfalso;omega)))|refine zAI rfl rfl rfl ?_|refine zAc rfl rfl rfl rfl (IntWalk.i64_in _ (by omega)) ?_|refine zo rfl rfl rfl rfl rfl (by omega) ?_|refine zn rfl rfl rfl ?_|(refine zX rfl rfl rfl rfl rfl ?_;refine ⟨rfl,by first|decide|exact Nat.le_of_ble_eq_true rfl|(simp;omega),_,rfl,?_⟩)|(refine zb rfl rfl (fun b=>?_))|(refine zi rfl rfl rfl ?_;refine ⟨rfl,_,rfl,fun b=>?_⟩))|(with_reducible first|refine zI ?_|refine zB ?_|refine zE ?_|refine zA ?_|refine zV ?_|refine zR ?_|refine zU ?_|refine zQ ?_|refine zAV ?_)|((with_reducible refine zH ?_ ?_);(· exact rfl))|((with_reducible refine zF ?_ ?_);(· exact rfl))))
   all_goals first
    | exact zP (by (exact zh.cons (by exact zAO.tmp rfl) (zh.cons (by exact zAO.tmp rfl) zh.nil))) none (by simp) rfl (fun _ h=>h.sub (by (repeat constructor)))
    | (exfalso;rw [zCl.2 ⟨⟨by assumption,by assumption⟩,by simp only;omega⟩] at hok;cases hok;done)
  | true =>
   obtain ⟨⟨o1,o2⟩,o3⟩:=zCl.1 hok
   have o1':=zAA.1 o1
   have hwh:=fun W hW=>hwh W hW ⟨o1'.1,by omega⟩
   obtain ⟨bI,hbI⟩:∃ bI:Nat,s.beam=bI:=⟨s.beam.toNat,by omega⟩
   generalize zAm l s=ws at *
   obtain ⟨sb,sr⟩:=s
   simp only at hbI o1 o1' o2 o3 hsu hlg
   subst hbI
   have hbl:bI<l.bms.length:=by omega
   unfold vLn vSg vSp at hwh
   have hnx:∀ j,j<i+1→sgB l.bms.length x.r j=true:=fun j hj=>by
    by_cases e:j=i
    ·subst e;rw [hsg];exact hok
    ·exact hall j (by omega)
   obtain ⟨⟨mt,ft⟩,hTb⟩:∃ p,TL[bI]?=some p:=⟨_,List.getElem?_eq_getElem (by omega)⟩
   have hft:ft=zBr l x.r bI i:=hTt bI _ hTb
   have hAb:TA[bI]?=some (some mt):=hTA bI _ hTb
   have:zAT TA bI (some mt):=⟨hAb⟩
   by_cases hws:ws.lo≤ws.hi
   ·refine zDQ bI hTb (by (repeat constructor)) ?_
    refine zCt (kv:=vI) (vv:=vSp) (by (repeat constructor)) (fun ml0 c0 hlo hle=>?_)
    have hk:look ml0 (i:Int)=none:=by
     rw [hle,hft]
     cases h9:zBr l x.r bI i (i:Int) with
     | none=>rfl
     | some t=>have:=zLf h9;omega
    have hkey:=(zD6 0 hk).2
    have hui:=Tryz.underlying3
    (repeat' (first|((with_reducible refine zG ?_);first|refine zD rfl rfl rfl ?_|refine zC rfl rfl rfl ?_|(refine zJ rfl rfl rfl ?_;refine ⟨_,rfl,?_⟩)|refine zL rfl rfl rfl ?_|refine z7 rfl rfl rfl rfl ?_|refine zf rfl rfl rfl ?_|(refine zS rfl rfl rfl rfl rfl (fun h=>?_) (fun h=>?_)<;>(dsimp only [cmpP] at h;(try (exfalso;omega))))|refine zo (I:=i) rfl rfl rfl rfl rfl (by omega) ?_|(refine zO rfl rfl rfl rfl (fun _ _ q=>o1 ▸ bin1 _ _ _ _ _ _ (zAF (enc:=encI) (by exact rfl) _ q.below q.own)) ?_)|(refine zO rfl rfl rfl rfl (fun _ _ q=>o2 ▸ bin1 _ _ _ _ _ _ (zAF (enc:=encI) (by exact rfl) _ q.below q.own)) ?_)|refine zO rfl rfl rfl rfl (fun _ _ q=>hwh _ q.below) ?_|refine zAI rfl rfl rfl ?_|refine zAc rfl rfl rfl rfl (IntWalk.i64_in _ (by omega)) ?_|refine zn rfl rfl rfl ?_|(refine zX rfl rfl rfl rfl rfl ?_;refine ⟨rfl,by first|decide|exact Nat.le_of_ble_eq_true rfl|(simp;omega),_,rfl,?_⟩)|(refine zb rfl rfl (fun b=>?_))|(refine zi rfl rfl rfl ?_;refine ⟨rfl,_,rfl,fun b=>?_⟩))|(with_reducible first|refine zI ?_|refine zB ?_|refine zE ?_|refine zA ?_|refine zR ?_|refine zQ ?_)|((with_reducible refine zH ?_ ?_);(· exact rfl))|((with_reducible refine zF ?_ ?_);(· exact rfl))))
    all_goals
     (refine z9 [] [] [] rfl (show ([]:List Nat).Nodup by decide) (fun _ h=>h) (by kernel_rfl) [[],[Z],[Z,Z],[Z,Z,Z],[Y,Y,Y,Y],[Z,Y,Y,Y,Y],[Z,Z,Z,Z,Z,Z],[Z,Z,Z,Z,Z,Z,Z],[Y,Y,Y,Y,Y,Y,Y,Y],[Y,Y,Y,Y,Y,Y,Y,Y,Y],[Z,Z,Z,Z,Z,Z,Z,Z,Z,Z]] (by kernel_rfl) (by kernel_rfl) (by kernel_rfl) (by kernel_rfl) (by kernel_rfl) ?_)
     (repeat' (first|(((with_reducible refine zA0 ?_ ?_);(· exact rfl);refine ⟨_,fun G=>(by (try simp (decide:=true) only [vis,see,fltT,zq,Nat.reduceAdd,Nat.reduceSub,if_true,if_false,List.set_cons_zero,List.set_cons_succ,List.set_nil,List.nil_append,List.cons_append]);rfl),?_⟩);first|refine zN _ (fun _=>zl rfl rfl) (fun _=>rfl) rfl (by intro G G' h;simp (decide:=true) only [h]) ?_|refine zN _ (fun _=>zW rfl rfl (by exact rfl)) (fun _=>rfl) rfl (by intro G G' h;simp (decide:=true) only [h]) ?_|(refine zm rfl ?_;refine zN _ (fun _=>zY rfl rfl) (fun _=>rfl) rfl (by intro G G' h;simp (decide:=true) only [h]) ?_)|(refine zAj rfl ?_;refine zN _ (fun _=>zw (I:=bI) rfl rfl rfl rfl (by omega)) (fun _=>rfl) rfl (by exact fun _ _ _=>rfl) ?_)|(refine zA6 rfl ?_;refine zN _ (fun _=>z8 rfl rfl) (fun _=>rfl) rfl (by intro G G' h;simp (decide:=true) only [h]) ?_))|((with_reducible refine zBi ?_ ?_);(· exact rfl))))
     (intro G;simp only [regsT,zq,zAa,ini,List.nil_append,List.cons_append])
     (repeat' (first|((with_reducible refine zG ?_);first|refine zD rfl rfl rfl ?_|(refine zJ rfl rfl rfl ?_;refine ⟨_,rfl,?_⟩)|refine u_mlNew (vv:=vSp) (i:Int) ws rfl hui rfl rfl rfl rfl rfl (by (repeat constructor)) hkey ?_|refine zu rfl rfl rfl rfl (by omega) ?_|(refine zX rfl rfl rfl rfl rfl ?_;refine ⟨rfl,by first|decide|exact Nat.le_of_ble_eq_true rfl|(simp;omega),_,rfl,?_⟩))|(with_reducible first|refine zB ?_|refine zE ?_|refine zA ?_|refine zj ?_)))
     refine zDZ (f:=zCs ft (i:Int) (some ws)) (kv:=vI) (vv:=vSp) (by (repeat constructor)) (hlo.push hk) (by rw [← hle];exact zEp hk) ?_
     refine u_mpsSet (L:=TL) bI (by omega) (by (repeat constructor)) (by (repeat constructor)) ?_
     refine zd (ι:=Nat × List Tim) (i+1,TL.set bI (mt,zCs ft (i:Int) (some ws))) ⟨by simp only;omega,by simp only [List.length_set];exact hTl,fun b p hp=>?_,fun i' p hp=>?_,hnx⟩ (by simp only;omega) (by (repeat first|exact lK1|refine zT rfl ?_)) (by simp only [hlg,zAw];(repeat constructor))
     ·simp only at hp ⊢
      rw [hsu b]
      by_cases e:b=bI
      ·subst e
       rw [List.getElem?_set_self (by omega)] at hp
       simp only [Option.some.injEq] at hp
       subst hp
       rw [if_pos ⟨rfl,hws⟩,hft]
      ·rw [List.getElem?_set_ne (fun e9=>e e9.symm)] at hp
       rw [if_neg (fun h9=>e (by omega))]
       exact hTt b p hp
     ·simp only at hp
      by_cases e:i'=bI
      ·subst e
       rw [List.getElem?_set_self (by omega)] at hp
       simp only [Option.some.injEq] at hp
       subst hp
       exact hAb
      ·rw [List.getElem?_set_ne (fun e9=>e e9.symm)] at hp
       exact hTA i' p hp
   ·(repeat' (first|((with_reducible refine zG ?_);first|refine zD rfl rfl rfl ?_|refine zC rfl rfl rfl ?_|(refine zJ rfl rfl rfl ?_;refine ⟨_,rfl,?_⟩)|refine zL rfl rfl rfl ?_|refine z7 rfl rfl rfl rfl ?_|refine zf rfl rfl rfl ?_|(refine zS rfl rfl rfl rfl rfl (fun h=>?_) (fun h=>?_)<;>(dsimp only [cmpP] at h;(try (exfalso;omega))))|refine zo (I:=i) rfl rfl rfl rfl rfl (by omega) ?_|(refine zO rfl rfl rfl rfl (fun _ _ q=>o1 ▸ bin1 _ _ _ _ _ _ (zAF (enc:=encI) (by exact rfl) _ q.below q.own)) ?_)|(refine zO rfl rfl rfl rfl (fun _ _ q=>o2 ▸ bin1 _ _ _ _ _ _ (zAF (enc:=encI) (by exact rfl) _ q.below q.own)) ?_)|refine zO rfl rfl rfl rfl (fun _ _ q=>hwh _ q.below) ?_|refine zAI rfl rfl rfl ?_|refine zu rfl rfl rfl rfl (by omega) ?_|refine zAc rfl rfl rfl rfl (IntWalk.i64_in _ (by omega)) ?_|refine zn rfl rfl rfl ?_|(refine zX rfl rfl rfl rfl rfl ?_;refine ⟨rfl,by first|decide|exact Nat.le_of_ble_eq_true rfl|(simp;omega),_,rfl,?_⟩)|(refine zb rfl rfl (fun b=>?_))|(refine zi rfl rfl rfl ?_;refine ⟨rfl,_,rfl,fun b=>?_⟩))|(with_reducible first|refine zI ?_|refine zB ?_|refine zE ?_|refine zA ?_|refine zR ?_|refine zQ ?_|refine zj ?_)|((with_reducible refine zH ?_ ?_);(· exact rfl))|((with_reducible refine zF ?_ ?_);(· exact rfl))))
    all_goals exact zd (ι:=Nat × List Tim) (i+1,TL) ⟨by simp only;omega,hTl,fun b p hp=>by simp only;rw [hsu b,if_neg (fun h9=>hws h9.2)];exact hTt b p hp,hTA,hnx⟩ (by simp only;omega) (by (repeat first|exact lK1|refine zT rfl ?_)) (by simp only [hlg,zAw];(repeat constructor))
 obtain rfl:i=x.r.sigs.length:=by omega
 have hrok:zCC l.bms.length x.r=true:=zBM.2 ⟨⟨a1,a2,a3⟩,hall⟩
 have hE:=zIM h0 hrok
 have hmo:=hmo h0
 have hTAe:TA=TL.map fun p=>some p.1:=by
  refine List.ext_getElem? fun i=>?_
  rw [List.getElem?_map]
  rcases Nat.lt_or_ge i TL.length with h9|h9
  ·obtain ⟨p,hp⟩:∃ p,TL[i]?=some p:=⟨_,List.getElem?_eq_getElem h9⟩
   rw [hp,hTA i p hp];rfl
  ·rw [List.getElem?_eq_none h9,List.getElem?_eq_none (by omega)];rfl
 rw [hTAe]
 (repeat' (first|((with_reducible refine zG ?_);first|refine zD rfl rfl rfl ?_|(refine zS rfl rfl rfl rfl rfl (fun h=>?_) (fun h=>?_)<;>(dsimp only [cmpP] at h;(try (exfalso;omega))))|refine zn rfl rfl rfl ?_)|(with_reducible first|refine zI ?_|refine zB ?_|refine zE ?_|refine zA ?_|refine zQ ?_|refine zz ?_|refine zZ ?_|refine ze ?_)|((with_reducible refine zF ?_ ?_);(· exact rfl))))
 refine zAB (ι:=Nat) [3,4,9,10,147,148] rfl (fun i=>i≤ms.length) (fun i=>[(149,.int .i64 (i:Int))]) (fun _=>[.mps vI vSp TL,.blk b9 (zAw (zD7 x.r x.r.sigs.length)),.sl encI 1 A9 (zAK l l.bms.length),.blk g [.slice l.TA l.t.length l.tc,.int .i64 l.fast,.slice l.CA l.cks.length l.cc,.slice l.BA l.bms.length l.bc,.int .i64 l.finish,.int .i64 l.fakes,.int .i64 l.misses,.int .i64 x.r.start,.int .i64 x.r.now,.slice x.A x.r.sigs.length x.c,.slice A9 l.bms.length c9,.slice (some ⟨gt,0,none⟩) l.bms.length l.bms.length,.slice none 0 0,.slice none 0 0],.arr zAS 1 gt (TL.map fun p=>some p.1),.blk b4 [.int .i64 x.r.start,.int .i64 x.r.now,.slice x.A x.r.sigs.length x.c],.blk b3 [.slice l.TA l.t.length l.tc,.int .i64 l.fast,.slice l.CA l.cks.length l.cc,.slice l.BA l.bms.length l.bc,.int .i64 l.finish,.int .i64 l.fakes,.int .i64 l.misses]]) (fun i=>ms.length - i) 0 (Nat.zero_le _) (by (repeat first|exact lK1|refine zT rfl ?_)) (by (repeat constructor)) ?_
 rintro i hi2
 simp only [zAk,List.cons_append,List.nil_append]
 by_cases hil2:i<ms.length
 ·obtain ⟨p,hp⟩:∃ p,ms[i]?=some p:=⟨_,List.getElem?_eq_getElem hil2⟩
  have:zAT ms i p:=⟨hp⟩
  obtain ⟨bm,om,hMe,_,_⟩:=hM.at_ hil2
  rw [hMe] at hM
  have:InS w bm om zHW 1 ms:=⟨hM⟩
  have hmp:=fun W hW=>hmo p (List.mem_of_getElem? hp) W hW
  rw [hMe]
  (repeat' (first|((with_reducible refine zG ?_);first|refine zD rfl rfl rfl ?_|refine zC rfl rfl rfl ?_|(refine zJ rfl rfl rfl ?_;refine ⟨_,rfl,?_⟩)|(refine zS rfl rfl rfl rfl rfl (fun h=>?_) (fun h=>?_)<;>(dsimp only [cmpP] at h;(try (exfalso;omega))))|refine zo (I:=i) rfl rfl rfl rfl rfl (by omega) ?_|refine zO rfl rfl rfl rfl (fun _ _ q=>hmp _ q.below) ?_|refine zu rfl rfl rfl rfl (by omega) ?_)|(with_reducible first|refine zI ?_|refine zB ?_|refine zE ?_|refine zA ?_|refine zR ?_|refine zQ ?_|refine zj ?_)|((with_reducible refine zH ?_ ?_);(· exact rfl))|((with_reducible refine zF ?_ ?_);(· exact rfl))))
  exact zd (ι:=Nat) (i+1) (by omega) (by omega) (by (repeat first|exact lK1|refine zT rfl ?_)) (by (repeat constructor))
 obtain rfl:i=ms.length:=by omega
 have hz:WaOk (⟨l,x,A9,c9,gt⟩:Wa):=⟨hf,hrok⟩
 have hkk:(⟨l,x,A9,c9,gt⟩:Wa).k=krd l x.r:=rfl
 (repeat' (first|((with_reducible refine zG ?_);first|refine zD rfl rfl rfl ?_|(refine zS rfl rfl rfl rfl rfl (fun h=>?_) (fun h=>?_)<;>(dsimp only [cmpP] at h;(try (exfalso;omega)))))|(with_reducible first|refine zI ?_|refine zB ?_|refine zE ?_|refine zA ?_|refine zz ?_|refine zZ ?_|refine ze ?_)|((with_reducible refine zF ?_ ?_);(· exact rfl))))
 refine zIg (FH (⟨l,x,A9,c9,gt⟩:Wa) g TL) [.blk b9 (zAw (zD7 x.r x.r.sigs.length)),.blk b4 [.int .i64 x.r.start,.int .i64 x.r.now,.slice x.A x.r.sigs.length x.c],.blk b3 [.slice l.TA l.t.length l.tc,.int .i64 l.fast,.slice l.CA l.cks.length l.cc,.slice l.BA l.bms.length l.bc,.int .i64 l.finish,.int .i64 l.fakes,.int .i64 l.misses]] rfl rfl rfl rfl (by unfold FH zy;simp only [List.cons_append,List.nil_append];(repeat constructor)) (fun a W q=>zKq (⟨l,x,A9,c9,gt⟩:Wa) g TL w W hz ⟨hTl,hTt⟩ q.below (Own.append.1 q.own).1) ?_
 rintro ⟨gf,gb,F,B⟩ ⟨hF,hB⟩
 simp only at hF hB ⊢
 (repeat' (first|((with_reducible refine zG ?_);first|refine zD rfl rfl rfl ?_)|(with_reducible first|refine zI ?_|refine zB ?_|refine zE ?_|refine zA ?_)))
 refine zIg (WH (⟨l,x,A9,c9,gt⟩:Wa) g gf gb TL F B) [.blk b9 (zAw (zD7 x.r x.r.sigs.length)),.blk b4 [.int .i64 x.r.start,.int .i64 x.r.now,.slice x.A x.r.sigs.length x.c],.blk b3 [.slice l.TA l.t.length l.tc,.int .i64 l.fast,.slice l.CA l.cks.length l.cc,.slice l.BA l.bms.length l.bc,.int .i64 l.finish,.int .i64 l.fakes,.int .i64 l.misses]] rfl rfl rfl rfl (Out.all _) (fun a W q=>zGX (⟨l,x,A9,c9,gt⟩:Wa) g gf gb TL F B w W hz hF q.below (Own.append.1 q.own).1) ?_
 rintro ⟨A8,c8⟩ -
 rw [hkk]
 simp only [List.length_map]
 by_cases hwl:zBb (krd l x.r)=[]
 ·have hnl:(zAs (krd l x.r)).length=0:=by unfold zAs;rw [hwl];simp
  rw [hE,if_pos hwl,hnl]
  (repeat' (first|((with_reducible refine zG ?_);first|refine zC rfl rfl rfl ?_|(refine zS rfl rfl rfl rfl rfl (fun h=>?_) (fun h=>?_)<;>(dsimp only [cmpP] at h;(try (exfalso;omega))))|refine zn rfl rfl rfl ?_)|(with_reducible first|refine zI ?_|refine zB ?_|refine zE ?_|refine zA ?_|refine zV ?_|refine zU ?_)|((with_reducible refine zH ?_ ?_);(· exact rfl))))
  exact zP (by (exact zh.cons (by exact zAO.tmp rfl) (zh.cons (by exact zAO.tmp rfl) zh.nil))) none (by simp) rfl (fun _ h=>h.sub (by (repeat constructor)))
 ·have hnl:=List.length_pos_iff.2 (zIr hwl)
  rw [hE,if_neg hwl]
  (repeat' (first|((with_reducible refine zG ?_);first|refine zD rfl rfl rfl ?_|refine zC rfl rfl rfl ?_|(refine zS rfl rfl rfl rfl rfl (fun h=>?_) (fun h=>?_)<;>(dsimp only [cmpP] at h;(try (exfalso;omega))))|refine zn rfl rfl rfl ?_)|(with_reducible first|refine zI ?_|refine zB ?_|refine zE ?_|refine zA ?_|refine zV ?_|refine zR ?_)|((with_reducible refine zF ?_ ?_);(· exact rfl))))
  exact zP (by (exact zh.cons (by exact zAO.tmp rfl) (zh.cons (by exact zAO.tmp rfl) zh.nil))) (some ⟨(⟨l,x,A9,c9,gt⟩:Wa),g,gf,gb,TL,F,B⟩) ⟨rfl,rfl,rfl,hz,⟨hTl,hTt⟩,hF,hB⟩ rfl (fun _ h=>h.sub (by (repeat constructor)))
end Go.Proofs.YtfiekidciiighaaGreat.Two
