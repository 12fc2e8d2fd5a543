/- A10 -/
import Derived.Test.YtfiekidciiighaaGreatA5
import Derived.Test.YtfiekidciiighaaGreatA9
import Derived.Test.YtfiekidciiighaaGreatA7
import Derived.Test.YtfiekidciiighaaGreatA1
import Derived.Test.YtfiekidciiighaaGreatA8
set_option linter.unusedSimpArgs false
set_option linter.unusedVariables false
namespace Go.Proofs.YtfiekidciiighaaGreat
variable {ro : Option Nat}
open Go.RowKit
set_option maxRecDepth 20000
def Wit.off (x:Wit):Nat:=match x.A with|some a=>a.off|none=>0
end Go.Proofs.YtfiekidciiighaaGreat
namespace Go.Proofs.YtfiekidciiighaaGreat.Two
variable {ro : Option Nat}
open Go.RowKit
section
variable {S : List (Nat × Nat)} {I:List (Nat × Nat × Nat × List Ent)} {P:Program} {w0:World} {n:Nat} {d:List Deferred} {R0:List (Nat × Value)} {H0:List Ent} {Q:Exit→Act→World→Prop} {ops:Array Oper} {bs:List (List Bool)} {b:List Bool} {k:Nat} {o:Oper} {rest:List Oper} {T:List Rw} {t:Tmp} {Hk:zAp→List Ent}
theorem c_newslS {α:Type} {enc:α→List Value} {kk:Nat} {zs:List α} {V:Value→Value} {f:FuncId} {fx:Operand} {xs:Array Operand} {ts:Array TypeId} {vs:zAp→List Value} {cap:Array Value} (hop:o.op = .call ⟨.value fx,xs,ts⟩) (hw:∀ G,want (Rk R0 ops b o T G) ops o=some true) (hd:o.dst=some t) (hf:∀ G,evR (Rk R0 ops b o T G) fx=some (.func (.func f) #[] cap)) (hx:∀ G,evs (Rk R0 ops b o T G) xs.toList=some (vs G)) [ci:zr P f]
  (hc:∀ G a w,Kn w0 n d (Rk R0 ops b o T G) (Hk G) a w→zCe enc kk zs V P f (vs G++cap.toList) w) (h0:0<zs.length) (h:zBC ro S I P w0 n d ops R0 H0 Q bs (k+1) rest (⟨k,some t,fun G=>(V (.slice (some ⟨(G k).g,(G k).off,none⟩) zs.length (G k).m),[.sl enc kk (some ⟨(G k).g,(G k).off,none⟩) zs])⟩::T)):CAt ro S I P w0 n d ops R0 H0 Q b bs k o rest T Hk:=by
 refine zEG (f:=fun G=>(V (.slice (some ⟨(G k).g,(G k).off,none⟩) zs.length (G k).m),[.sl enc kk (some ⟨(G k).g,(G k).off,none⟩) zs])) (fun G G' hG=>by simp only [hG k (.inl rfl)]) (fun G a w q K hK=>?_) (by rw [hd];exact h)
 rw [zBP q (hw G),if_pos rfl]
 unfold Oper.wp execOp;rw [hop]
 have e1:xs.map a.eval=(vs G).toArray:=by apply Array.ext';simpa using q.evs (hx G)
 have e2:(vs G).toArray++cap=(vs G++cap.toList).toArray:=by apply Array.ext';simp
 simp only [resolve,q.ev (hf G),e1,Deferred.ofValue,Sem.run_bind,Sem.run_pure,Result.andThen_ok,invoke,Array.empty_append,e2,ci.ent,Oper.upon_enter]
 refine Calls.mono (hc G a w q).ret.calls ?_
 rintro e w' ⟨⟨A,m⟩,hp,rfl,hb,hE⟩
 obtain ⟨g,off,rfl,_⟩:=(hE.here (.sl enc kk A zs) (Take.here _ _).mem:zAC enc kk w' A zs).at_ h0
 exact hK _ _ _ ⟨⟨g,some ⟨g,off,none⟩,m⟩,by simp [upW,Wit.off]⟩ hb hE
end
end Go.Proofs.YtfiekidciiighaaGreat.Two
namespace Go.Proofs.YtfiekidciiighaaGreat
variable {ro : Option Nat}
open Go.RowKit
set_option maxRecDepth 20000
def zBv (s:Spot):List Value:=[.int .i64 s.st,.int .i64 s.off.lo,.int .i64 s.off.hi]
def zBx (s:Spot):Value:=.agg #[.int .i64 s.st,.int .i64 s.off.lo,.int .i64 s.off.hi]
theorem one_spot (x:Spot):∀ u∈zBv x,u.oneCell'=true:=by simp [zBv,Value.oneCell']
instance : zCZ zBv 3:=⟨fun _=>rfl,one_spot⟩
set_option maxHeartbeats 2000000 in
theorem pickSpot (l:List Spot) (A:Option Addr) (cap:Nat) (kf:FuncId) [zr Tryz.prog kf] (cs:Array Value) (p:Nat→Spot→Bool) (w:World) (hk:zAC zBv 3 w A l) (hl:l.length≤100000)
  (hp:∀ (i:Nat) x W,l[i]?=some x→Below w.heap.size w W→Gv Tryz.prog kf ([.int .i64 (i:Int),zBx x]++cs.toList) W (.bool (p i x))) :
  zCe encI 1 (picks p l) (fun v=>v) Tryz.prog 114 [.slice A l.length cap,.func (.func kf) #[] cs] w:=by
 unfold zCe
 (refine zK (n:=25) Tryz.func114 rfl rfl rfl ?_)
 (repeat' (first|((with_reducible refine zG ?_);first|refine zD rfl rfl rfl ?_|refine zC rfl rfl rfl ?_|refine zn rfl rfl rfl ?_)|(with_reducible first|refine zI ?_|refine zB ?_|refine zE ?_|refine zA ?_|refine zQ ?_)))
 refine zBa encI 1 3 ?_
 refine zKD (ι:=Nat × Value) (fun i=>i.1≤l.length) (fun i=>[(1,.func (.func kf) #[] cs),(5,i.2),(8,.slice A l.length cap),(9,.int .i64 (l.length:Int)),(10,.int .i64 (i.1:Int))]) (fun i=>[.row encI 1 3 i.2 (zB3 p l i.1)]) (fun i=>l.length - i.1) (0,.slice none 0 0) (Nat.zero_le _) (by (repeat first|exact lK1|refine zT rfl ?_)) (by (repeat constructor)) ?_
 rintro ⟨i,v⟩ hi
 simp only at hi ⊢
 have hpl:=zGU p l i
 by_cases hlt:i<l.length
 ·have hx:l[i]?=some l[i]:=by simp [hlt]
  obtain ⟨b,o,rfl,hblt,hc⟩:=hk.at_ hlt
  have:InS w b o zBv 3 l:=⟨hk⟩
  have:zAT l i l[i]:=⟨hx⟩
  have hso:soAt p l i=p i l[i]:=by simp [soAt,hlt]
  (repeat' (first|((with_reducible refine zG ?_);first|refine zD rfl rfl rfl ?_|refine zC rfl rfl rfl ?_|(refine zJ rfl rfl rfl ?_;refine ⟨_,rfl,?_⟩)|(refine zS rfl rfl rfl rfl rfl (fun h=>?_) (fun h=>?_)<;>(dsimp only [cmpP] at h;(try (exfalso;omega))))|(refine zAf rfl rfl rfl rfl (fun _ _ q=>hp i _ _ hx q.below) (fun h=>?_) (fun h=>?_)<;>(try (exfalso;omega)))|(refine zB6 (enc:=encI) [_] rfl rfl rfl (by (repeat constructor)) rfl rfl (zAF (by exact rfl)) (by refine ⟨?_,by decide⟩;(try simp only [List.length_append,List.length_cons,List.length_nil]);omega) (fun A' c'=>?_))|refine zu rfl rfl rfl rfl (by omega) ?_|refine zo rfl rfl rfl rfl rfl (by omega) ?_|(refine zX rfl rfl rfl rfl rfl ?_;refine ⟨rfl,by first|decide|exact Nat.le_of_ble_eq_true rfl|(simp;omega),_,rfl,?_⟩)|(refine zb rfl rfl (fun b=>?_))|(refine zi rfl rfl rfl ?_;refine ⟨rfl,_,rfl,fun b=>?_⟩))|(with_reducible first|refine zI ?_|refine zB ?_|refine zE ?_|refine zA ?_|refine zR ?_|refine zQ ?_|refine zj ?_)|((with_reducible refine zH ?_ ?_);(· exact rfl))|((with_reducible refine zF ?_ ?_);(· exact rfl))))
  ·refine zd (i+1,.slice A' (zB3 p l i++[(i:Int)]).length c') (by simp only;omega) (by simp only;omega) (by (repeat first|exact lK1|refine zT rfl ?_)) ?_
   rw [zDr (hso.trans h)]
   (repeat constructor)
  ·refine zd (i+1,v) (by simp only;omega) (by simp only;omega) (by (repeat first|exact lK1|refine zT rfl ?_)) ?_
   rw [zEL (hso.trans h)]
   (repeat constructor)
 ·obtain rfl:i=l.length:=by omega
  (repeat' (first|((with_reducible refine zG ?_);first|refine zD rfl rfl rfl ?_|refine zC rfl rfl rfl ?_|(refine zS rfl rfl rfl rfl rfl (fun h=>?_) (fun h=>?_)<;>(dsimp only [cmpP] at h;(try (exfalso;omega)))))|(with_reducible first|refine zI ?_|refine zB ?_|refine zE ?_|refine zA ?_|refine zV ?_|refine zz ?_|refine zZ ?_|refine ze ?_)|((with_reducible refine zF ?_ ?_);(· exact rfl))))
  refine zBT (enc:=encI) (by (repeat constructor)) ?_
  rintro A' c' rfl
  exact zP (by exact rTm rfl) (A',c') trivial rfl (fun _ h=>(h.zCN (by (repeat constructor))).sub (by (repeat constructor)))
def zAd (t:List St) (s:Spot):Bool:=inB 0 (t.length - 1) s.st && match t[s.st.toNat]? with|some o=>zC6 s.off 0 (o.long.lo - 1)|none=>false
def zDD (t:List St) (_:Nat) (s:Spot):Bool:=!zAd t s
theorem zF5 {t:List St} {I:Nat} {off:Sp} (h:I<t.length):zAd t ⟨I,off⟩=zC6 off 0 (t[I].long.lo - 1):=by
 have h1:inB 0 (t.length - 1) (I:Int)=true:=zAA.2 (by omega)
 simp [zAd,h1,h]
theorem zG6 {t:List St} {s:Spot} (h:¬ (0≤s.st∧s.st≤(t.length:Int) - 1)):zAd t s=false:=by
 have h1:=zBO.2 h
 simp [zAd,h1]
theorem zBU {t:List St} {s:Spot} (h:zAd t s=true):∃ I:Nat,s.st=I∧I<t.length:=by
 simp only [zAd,Bool.and_eq_true,zAA] at h
 exact ⟨s.st.toNat,by omega,by omega⟩
set_option maxHeartbeats 1000000 in
theorem zJH (t:List St) (A:Option Addr) (cap k:Nat) (s:Spot) (b:Nat) (w:World) (ht:zAC zBq 9 w A t) (ho:∀ s∈t,zFu s) (hl:t.length≤1000) (h1:InC w b 0 [.slice A t.length cap]) :
  Gv Tryz.prog 115 [.int .i64 (k:Int),zBx s,.pointer (some ⟨b,0,none⟩)] w (.bool (zDD t k s)):=by
 unfold Gv zBx
 obtain ⟨st,off⟩:=s
 by_cases h:0≤st∧st≤(t.length:Int) - 1
 ·obtain ⟨I,rfl⟩:∃ I:Nat,st=I:=⟨st.toNat,by omega⟩
  have hI:I<t.length:=by omega
  have hso:zDD t k ⟨(I:Int),off⟩ = !zC6 off 0 (t[I].long.lo - 1):=by rw [zDD,zF5 hI]
  rw [hso]
  have:zAT t I t[I]:=⟨by simp [hI]⟩
  obtain ⟨bb,o,rfl,hblt,hc⟩:=ht.at_ hI
  have:InS w bb o zBq 9 t:=⟨ht⟩
  obtain ⟨y1,y2,y3,y4,y5,y6,y7,y8⟩:=ho t[I] (List.getElem_mem hI)
  generalize t[I]=z at *
  (refine zK (n:=32) Tryz.func115 rfl rfl rfl ?_)
  (repeat' (first|((with_reducible refine zG ?_);first|refine zC rfl rfl rfl ?_|(refine zp rfl rfl rfl rfl (fun b=>?_)))|(with_reducible first|refine zI ?_|refine zB ?_|refine zE ?_|refine zA ?_)))
  (refine Two.z9 [] [] [] rfl (show ([]:List Nat).Nodup by decide) (fun _ h=>h) (by kernel_rfl) [[],[Z],[Z,Z],[Z,Z,Z],[Z,Z,Z,Z],[Y,Y,Y,Y,Y],[Z,Y,Y,Y,Y,Y],[Z,Z,Y,Y,Y,Y,Y],[Z,Z,Z,Z,Z,Z,Z,Z],[Z,Z,Z,Z,Z,Z,Z,Z,Z],[Z,Z,Z,Z,Z,Z,Z,Z,Z,Z],[Z,Z,Z,Z,Z,Z,Z,Z,Z,Z,Z],[Z,Z,Z,Z,Z,Z,Z,Z,Z,Z,Z,Z],[Y,Y,Z,Z,Z,Z,Z,Z,Z,Z,Z,Z,Z],[Z,Y,Y,Z,Z,Z,Z,Z,Z,Z,Z,Z,Z,Z],[Z,Z,Y,Y,Z,Z,Z,Z,Z,Z,Z,Z,Z,Z,Z],[Y,Y,Y,Y,Y,Z,Z,Z,Z,Z,Z,Z,Z,Z,Z,Z],[Z,Y,Y,Y,Y,Y,Z,Z,Z,Z,Z,Z,Z,Z,Z,Z,Z],[Z,Z,Z,Z,Z,Y,Y,Z,Z,Z,Z,Z,Z,Z,Z,Z,Z,Z],[Z,Z,Z,Z,Z,Z,Y,Y,Z,Z,Z,Z,Z,Z,Z,Z,Z,Z,Z],[Z,Z,Z,Z,Z,Z,Z,Y,Y,Z,Z,Z,Z,Z,Z,Z,Z,Z,Z,Z],[Z,Z,Z,Z,Z,Z,Z,Z,Y,Y,Z,Z,Z,Z,Z,Z,Z,Z,Z,Z,Z],[Z,Z,Z,Z,Z,Z,Z,Z,Z,Y,Y,Z,Z,Z,Z,Z,Z,Z,Z,Z,Z,Z],[Z,Z,Z,Z,Z,Z,Z,Z,Z,Z,Z,Z,Z,Z,Z,Z,Z,Z,Z,Z,Z,Z,Z],[Z,Z,Z,Z,Z,Z,Z,Z,Z,Z,Z,Z,Z,Z,Z,Z,Z,Z,Z,Z,Z,Z,Z,Z],[Z,Z,Z,Z,Z,Z,Z,Z,Z,Z,Z,Z,Z,Z,Z,Z,Z,Z,Z,Z,Z,Z,Z,Z,Z],[Z,Z,Z,Z,Z,Z,Z,Z,Z,Z,Z,Z,Z,Z,Z,Z,Z,Z,Z,Z,Z,Z,Z,Z,Z,Z]] (by kernel_rfl) (by kernel_rfl) (by kernel_rfl) (by kernel_rfl) (by kernel_rfl) ?_)
  (repeat' (first|(((with_reducible refine Two.zA0 ?_ ?_);(· exact rfl);refine ⟨_,fun G=>(by (try simp (decide:=true) only [Two.vis,Two.see,fltT,zq,Nat.reduceAdd,Nat.reduceSub,if_true,if_false,List.set_cons_zero,List.set_cons_succ,List.set_nil,List.nil_append,List.cons_append]);rfl),?_⟩);first|refine Two.zN _ (fun _=>zl rfl rfl) (fun _=>rfl) rfl (by intro G G' h;simp (decide:=true) only [h]) ?_|refine Two.zN _ (fun _=>zW rfl rfl (by exact rfl)) (fun _=>rfl) rfl (by intro G G' h;simp (decide:=true) only [h]) ?_|(refine Two.zm rfl ?_;refine Two.zN _ (fun _=>zY rfl rfl) (fun _=>rfl) rfl (by intro G G' h;simp (decide:=true) only [h]) ?_)|refine Two.zN _ (fun _=>zAh rfl rfl rfl) (fun _=>rfl) rfl (by intro G G' h;simp (decide:=true) only [h]) ?_|refine Two.zN _ (fun _=>zt rfl rfl) (fun _=>rfl) rfl (by intro G G' h;simp (decide:=true) only [h]) ?_|(refine Two.zEH rfl (fun _=>rfl) rfl (fun _=>rfl) (fun _=>rfl) (fun _ _ _ q=>in1 _ _ _ _ _ _ (zAF (enc:=encI) (by exact rfl) _ q.below q.own)) (fun h=>?_) (fun h=>?_)<;>((try simp only [zAA,zBO,zBN,zCA] at h);(try (exfalso;omega))))|(refine Two.zEH rfl (fun _=>rfl) rfl (fun _=>rfl) (fun _=>rfl) (fun _ _ _ _=>(zIH off 0 _ _).gv) (fun h=>?_) (fun h=>?_)<;>((try simp only [zAA,zBO,zBN,zCA] at h);(try (exfalso;omega))))|refine Two.zN _ (fun _=>zDt rfl rfl) (fun _=>rfl) rfl (by intro G G' h;simp (decide:=true) only [h]) ?_|refine Two.zN _ (fun _=>zBW rfl rfl rfl (IntWalk.i64_in _ (by omega))) (fun _=>rfl) rfl (by intro G G' h;simp (decide:=true) only [h]) ?_|refine Two.zN _ (fun _=>zw rfl rfl rfl rfl (by omega)) (fun _=>rfl) rfl (by intro G G' h;simp (decide:=true) only [h]) ?_|refine Two.zN _ (fun _=>zEu rfl rfl) (fun _=>rfl) rfl (by intro G G' h;simp (decide:=true) only [h]) ?_|refine Two.zB5 rfl (fun _=>rfl) rfl (fun _=>rfl) (by exact rfl) (by exact fun _=>rfl) (by intro G G' h;simp (decide:=true) only [h]) ?_)|(with_reducible refine Two.zAx ?_)))
  all_goals
   (intro G;simp only [regsT,zq,Two.zAa,Two.ini,List.nil_append,List.cons_append])
   (repeat' (first|(with_reducible first|refine zA ?_|refine zV ?_)))
   exact zP (by exact rTm rfl) () trivial (by first|exact congrArg Value.bool (by rw [zBN.2 (by omega)])|exact congrArg Value.bool (by rw [zCA.2 (by omega)])) (fun _ h=>h.sub (by (repeat constructor)))
 ·have hso:zDD t k ⟨st,off⟩=true:=by rw [zDD,zG6 h];rfl
  rw [hso]
  (refine zK (n:=32) Tryz.func115 rfl rfl rfl ?_)
  (repeat' (first|((with_reducible refine zG ?_);first|refine zC rfl rfl rfl ?_|(refine zp rfl rfl rfl rfl (fun b=>?_)))|(with_reducible first|refine zI ?_|refine zB ?_|refine zE ?_|refine zA ?_)))
  (refine Two.z9 [] [] [] rfl (show ([]:List Nat).Nodup by decide) (fun _ h=>h) (by kernel_rfl) [[],[Z],[Z,Z],[Z,Z,Z],[Z,Z,Z,Z],[Y,Y,Y,Y,Y],[Z,Y,Y,Y,Y,Y],[Z,Z,Y,Y,Y,Y,Y],[Z,Z,Z,Z,Z,Z,Z,Z],[Z,Z,Z,Z,Z,Z,Z,Z,Z],[Z,Z,Z,Z,Z,Z,Z,Z,Z,Z],[Z,Z,Z,Z,Z,Z,Z,Z,Z,Z,Z],[Z,Z,Z,Z,Z,Z,Z,Z,Z,Z,Z,Z],[Y,Y,Z,Z,Z,Z,Z,Z,Z,Z,Z,Z,Z],[Z,Y,Y,Z,Z,Z,Z,Z,Z,Z,Z,Z,Z,Z],[Z,Z,Y,Y,Z,Z,Z,Z,Z,Z,Z,Z,Z,Z,Z],[Y,Y,Y,Y,Y,Z,Z,Z,Z,Z,Z,Z,Z,Z,Z,Z],[Z,Y,Y,Y,Y,Y,Z,Z,Z,Z,Z,Z,Z,Z,Z,Z,Z],[Z,Z,Z,Z,Z,Y,Y,Z,Z,Z,Z,Z,Z,Z,Z,Z,Z,Z],[Z,Z,Z,Z,Z,Z,Y,Y,Z,Z,Z,Z,Z,Z,Z,Z,Z,Z,Z],[Z,Z,Z,Z,Z,Z,Z,Y,Y,Z,Z,Z,Z,Z,Z,Z,Z,Z,Z,Z],[Z,Z,Z,Z,Z,Z,Z,Z,Y,Y,Z,Z,Z,Z,Z,Z,Z,Z,Z,Z,Z],[Z,Z,Z,Z,Z,Z,Z,Z,Z,Y,Y,Z,Z,Z,Z,Z,Z,Z,Z,Z,Z,Z],[Z,Z,Z,Z,Z,Z,Z,Z,Z,Z,Z,Z,Z,Z,Z,Z,Z,Z,Z,Z,Z,Z,Z],[Z,Z,Z,Z,Z,Z,Z,Z,Z,Z,Z,Z,Z,Z,Z,Z,Z,Z,Z,Z,Z,Z,Z,Z],[Z,Z,Z,Z,Z,Z,Z,Z,Z,Z,Z,Z,Z,Z,Z,Z,Z,Z,Z,Z,Z,Z,Z,Z,Z],[Z,Z,Z,Z,Z,Z,Z,Z,Z,Z,Z,Z,Z,Z,Z,Z,Z,Z,Z,Z,Z,Z,Z,Z,Z,Z]] (by kernel_rfl) (by kernel_rfl) (by kernel_rfl) (by kernel_rfl) (by kernel_rfl) ?_)
  (repeat' (first|(((with_reducible refine Two.zA0 ?_ ?_);(· exact rfl);refine ⟨_,fun G=>(by (try simp (decide:=true) only [Two.vis,Two.see,fltT,zq,Nat.reduceAdd,Nat.reduceSub,if_true,if_false,List.set_cons_zero,List.set_cons_succ,List.set_nil,List.nil_append,List.cons_append]);rfl),?_⟩);first|refine Two.zN _ (fun _=>zl rfl rfl) (fun _=>rfl) rfl (by intro G G' h;simp (decide:=true) only [h]) ?_|refine Two.zN _ (fun _=>zW rfl rfl (by exact rfl)) (fun _=>rfl) rfl (by intro G G' h;simp (decide:=true) only [h]) ?_|(refine Two.zm rfl ?_;refine Two.zN _ (fun _=>zY rfl rfl) (fun _=>rfl) rfl (by intro G G' h;simp (decide:=true) only [h]) ?_)|refine Two.zN _ (fun _=>zAh rfl rfl rfl) (fun _=>rfl) rfl (by intro G G' h;simp (decide:=true) only [h]) ?_|refine Two.zN _ (fun _=>zt rfl rfl) (fun _=>rfl) rfl (by intro G G' h;simp (decide:=true) only [h]) ?_|refine Two.zFr (fun _=>rfl) rfl ?_|(refine Two.zEH rfl (fun _=>rfl) rfl (fun _=>rfl) (fun _=>rfl) (fun _ _ _ q=>in1 _ _ _ _ _ _ (zAF (enc:=encI) (by exact rfl) _ q.below q.own)) (fun h=>?_) (fun h=>?_)<;>((try simp only [zAA,zBO,zBN,zCA] at h);(try (exfalso;omega))))|refine Two.zN _ (fun _=>zDt rfl rfl) (fun _=>rfl) rfl (by intro G G' h;simp (decide:=true) only [h]) ?_|refine Two.zN _ (fun _=>zBW rfl rfl rfl (IntWalk.i64_in _ (by omega))) (fun _=>rfl) rfl (by intro G G' h;simp (decide:=true) only [h]) ?_|refine Two.zN _ (fun _=>zEu rfl rfl) (fun _=>rfl) rfl (by intro G G' h;simp (decide:=true) only [h]) ?_|refine Two.zB5 rfl (fun _=>rfl) rfl (fun _=>rfl) (by exact rfl) (by exact fun _=>rfl) (by intro G G' h;simp (decide:=true) only [h]) ?_)|(with_reducible refine Two.zAx ?_)))
  (intro G;simp only [regsT,zq,Two.zAa,Two.ini,List.nil_append,List.cons_append])
  (repeat' (first|(with_reducible first|refine zA ?_|refine zV ?_)))
  exact zP (by exact rTm rfl) () trivial rfl (fun _ h=>h.sub (by (repeat constructor)))
end Go.Proofs.YtfiekidciiighaaGreat
namespace Go.Proofs.YtfiekidciiighaaGreat
open Go.ChangeShapes Go.WideShapes Go.ChangeAt Go.RowKit
section
variable {H : Type} {enc:TypeId × Value→H} {w:World} {sp:Nat→Bool} {held:Bool} {n:Nat} {cs:List Value} {x:DataW H × List MemPlace}
theorem rd_spot (h:DataW.trod enc Tryz.prog w 0 sp held n 139 cs=some x):∃ s:Spot,cs=zBv s∧FitSpot s:=by
 have hl:=zCx Tryz.underlying139 h (k:=3) (by kernel_rfl)
 obtain ⟨n0,y0,h0⟩:=zAE Tryz.underlying139 h (j:=0) rfl rfl (k:=1) (by kernel_rfl)
 obtain ⟨n1,y1,h1⟩:=zAE Tryz.underlying139 h (j:=1) rfl rfl (k:=2) (by kernel_rfl)
 obtain ⟨a,e0,f0⟩:=zA5 Tryz.underlying3 h0
 obtain ⟨b,e1,f1⟩:=zJW h1
 match cs,hl with
 | [c0,c1,c2],_ =>
  simp [zAr] at e0 e1
  exact ⟨⟨a,b⟩,by simp [zBv,e0,e1],f0,f1⟩
end
end Go.Proofs.YtfiekidciiighaaGreat
namespace Go.Proofs.YtfiekidciiighaaGreat
open Go.RowKit
open Go.ChangeMaps (setBlock)
set_option maxRecDepth 20000
def SeqG (P:Program) (gf:FuncId) (lb:List Value) {α:Type} (D:List α→List Ent) (enc:α→List Value) (N:List α→α→Prop) (E:List α→Prop) (wb:World):Prop :=
 ∀ (ι:Type) (l:Nat) (I:List α→ι→Prop) (C:ι→List Ent) (s0:ι) (w:World),Below wb.heap.size wb w→I [] s0→Own wb.heap.size w (D []++C s0) →
  (∀ ys x s W,N ys x→I ys s→Below wb.heap.size wb W→Own wb.heap.size W (D (ys++[x])++C s)→YieldF P l (enc x) W (D (ys++[x])++C s) true (fun s'=>D (ys++[x])++C s') (I (ys++[x]))) →
  zHj P gf (.func (.yield l) #[] #[]::lb) w (D []++C s0) (fun _:List α × ι=>.tuple #[]) (fun z=>D z.1++C z.2) (fun z=>E z.1∧I z.1 z.2)
section
variable {P : Program} {w0:World} {n:Nat} {d:List Deferred} {R:List (Nat × Value)} {H H' H1 H2:List Ent} {Q:Exit→Act→World→Prop} {ops:Array Oper} {rest:List Oper} {o:Oper} {t:Tmp} {x y z:Operand} {v:Value}
theorem u_rangeG {ι α:Type} {g:Operand} {ps:Array Tmp} {assign body:Code} {gf:FuncId} {lb:List Value} {bs:List Nat} (D:List α→List Ent) (enc:α→List Value) (N:List α→α→Prop) (E:List α→Prop) (I:List α→ι→Prop) (C:ι→List Ent) (s0:ι)
  (hg:evR R g=some (.func (.func gf) #[] lb.toArray)) [ci:zr P gf] (hs:Out H (D []++(C s0++[.dfr bs]))) (h0:I [] s0)
  (hps:∀ x,(enc x).length=ps.size) (hpn:∀ p∈ps.toList,p<n)
  (hit:SeqG P gf lb D enc N E w0)
  (hround:∀ (l:Nat) (ys:List α) (x:α) (s:ι) (r:Loop) (W:World),N ys x→I ys s→r.state = .ready→r.pending=none→Below w0.heap.size w0 W →
   U w0 n [] (zHF ps.toList (enc x)++R) ((D (ys++[x])++(C s++[.lrec l r,.dfr (r.defers::bs)]))++[.oldx W w0.heap.size (feet (D (ys++[x])++(C s++[.lrec l r,.dfr (r.defers::bs)])))]) (assign.wpI (some l) P (rndA P l body (rndB P l W (D (ys++[x])++(C s++[.lrec l r,.dfr (r.defers::bs)])) true (fun s'=>D (ys++[x])++(C s'++[.lrec l r,.dfr (r.defers::bs)])) (I (ys++[x]))))))
  (hdone:∀ b ys s,E ys→I ys s→U w0 n (dL (b::bs)) R (D ys++(C s++[.dfr (b::bs)])) (Q .normal)):U w0 n (dL bs) R H ((Code.rangeFunc g ps assign body).wpI none P Q):=fun a w q0=>by
 have q:=q0.sub (fun _ _ h=>h) hs
 refine wpIn_rangeFunc ?_
 intro fn _
 obtain ⟨rec,hrec⟩:∃ rec:LoopState→Option Code→Loop,rec=fun st pe=>{ state:=st,pending:=pe,fn,tmps:=a.tmps,params:=ps,assign,body,defers:=w.heap.size }:=⟨_,rfl⟩
 obtain ⟨W1,hW1⟩:∃ W1,(w.alloc (.deferred (some []))).alloc (.loop (rec .ready none))=W1:=⟨_,rfl⟩
 have hs1:W1.heap.size=w.heap.size+2:=by rw [← hW1];simp
 have hL1:W1.heap[w.heap.size+1]?=some (.loop (rec .ready none)):=by
  rw [← hW1];have:=World.alloc_heap_new (w.alloc (.deferred (some []))) (.loop (rec .ready none));rwa [World.size_alloc] at this
 have hK1:W1.heap[w.heap.size]?=some (.deferred (some [])):=by
  rw [← hW1];exact (Below.heap_alloc _ _ _ (by simp)).trans (World.alloc_heap_new w _)
 have hB1:Below w.heap.size w W1:=by
  rw [← hW1];exact ⟨rfl,rfl,rfl,by simp;omega,fun b hb=>(Below.heap_alloc _ _ _ (by simp;omega)).trans (Below.heap_alloc _ _ _ hb)⟩
 have hBw:Below w0.heap.size w0 W1:=q.below.trans (hB1.mono q.base)
 have hO1:Own w0.heap.size W1 (D []++(C s0++[.lrec (w.heap.size+1) (rec .ready none),.dfr (w.heap.size::bs)])):=by
  obtain ⟨p1,p2,p3⟩:=Own.append.1 q.own
  obtain ⟨p4,p5,p6⟩:=Own.append.1 p2
  have hd5:=p5.here (.dfr bs) (by simp)
  have hf5:=p5.foot (.dfr bs) (by simp)
  have b1:=p1.below hB1
  have b4:=p4.below hB1
  have hbs:∀ b,b∈bs→b<w.heap.size:=fun b hb=>(hf5 b hb).2
  refine Own.append.2 ⟨b1,Own.append.2 ⟨b4,⟨fun e he=>?_,fun e he b hb=>?_,?_⟩,fun e he f hf b hb hb'=>?_⟩,fun e he f hf b hb hb'=>?_⟩
  ·simp only [List.mem_cons,List.not_mem_nil,or_false] at he
   rcases he with rfl|rfl
   ·exact hL1
   ·refine ⟨List.nodup_cons.2 ⟨fun hm=>by have:=hbs _ hm;omega,hd5.1⟩,fun b hb=>?_⟩
    rcases List.mem_cons.1 hb with rfl|hb
    ·exact hK1
    ·exact (hB1.block b (hbs b hb)).trans (hd5.2 b hb)
  ·simp only [List.mem_cons,List.not_mem_nil,or_false] at he
   have:=q.base
   rcases he with rfl|rfl
   ·cases hb;omega
   ·rcases List.mem_cons.1 hb with rfl|hb
    ·omega
    ·have:=hf5 b hb;omega
  ·simp only [List.pairwise_cons,List.mem_singleton,forall_eq,List.not_mem_nil,false_implies,implies_true,List.Pairwise.nil,and_true]
   rintro b hb hb'
   cases hb
   rcases List.mem_cons.1 hb' with h|h
   ·omega
   ·have:=hbs _ h;omega
  ·have hlt:=(p4.foot e he b hb).2
   simp only [List.mem_cons,List.not_mem_nil,or_false] at hf
   rcases hf with rfl|rfl
   ·cases hb';omega
   ·rcases List.mem_cons.1 hb' with rfl|h
    ·omega
    ·exact p6 e he (.dfr bs) (by simp) b hb h
  ·have hlt:=(p1.foot e he b hb).2
   rcases List.mem_append.1 hf with hf|hf
   ·exact p3 e he f (List.mem_append_left _ hf) b hb hb'
   ·simp only [List.mem_cons,List.not_mem_nil,or_false] at hf
    rcases hf with rfl|rfl
    ·cases hb';omega
    ·rcases List.mem_cons.1 hb' with rfl|h
     ·omega
     ·exact p3 e he (.dfr bs) (by simp) b hb h
 refine ⟨w.heap.size+1,[{ target:=.collected w.heap.size,args:=#[] }],W1,{ target:=.fn (.func gf) lb.toArray,args:=#[.func (.yield (w.heap.size+1)) #[] #[]] },W1,gf,
  #[.func (.yield (w.heap.size+1)) #[] #[]]++lb.toArray,W1,?_,?_,?_,?_,(fun h=>by cases h),?_⟩
 ·rw [← hW1,hrec];exact run_enterLoop_outer _ _ _ _ _
 ·simp only [resolve,q0.ev hg]
  simp [go_sem]
 ·intro f' _;trivial
 ·simp [invoke,go_sem,ci.ent]
 ·have hseq:=hit ι (w.heap.size+1) I (fun s=>C s++[.lrec (w.heap.size+1) (rec .ready none),.dfr (w.heap.size::bs)]) s0 W1 hBw h0 hO1 ?_
  ·have hc:=hseq.calls
   have e9:(#[.func (.yield (w.heap.size+1)) #[] #[]]++lb.toArray:Array Value)=(.func (.yield (w.heap.size+1)) #[] #[]::lb:List Value).toArray:=by apply Array.ext';simp
   rw [e9]
   refine (zLO (ro:=none) (n:=8) hc).mono ?_
   rintro e W2 ⟨⟨ys,s⟩,⟨hE,hI⟩,rfl,⟨h1,h2,h3,h4⟩,h5,h6,h7⟩
   simp only at hE hI h6 h7
   have h8:Own w0.heap.size W2 (D ys++(C s++[.lrec (w.heap.size+1) (rec .ready none),.dfr (w.heap.size::bs)])):=by
    have hO2:Own w0.heap.size W1 ((D []++(C s0++[.lrec (w.heap.size+1) (rec .ready none),.dfr (w.heap.size::bs)]))++[]):=by
     rw [List.append_nil];exact hO1
    have:=zHH hO2 (by have:=q.base;omega) h4 h5 h6 h7
    rwa [List.append_nil] at this
   have hB2:Below w0.heap.size w0 W2:=hBw.trans ⟨h1,h2,h3,h4,fun b hb=>h5 b (by have:=q.base;omega) (by
    rintro ⟨e,he,hS⟩
    have:=(hO1.foot e he b hS).1
    omega)⟩
   have hl2:W2.heap[w.heap.size+1]?=some (.loop (rec .ready none)):=h8.here (.lrec (w.heap.size+1) (rec .ready none)) (by simp)
   have hnb:(rec .ready none).state≠.busy:=by rw [hrec];simp
   have hend2:=run_endLoop (P:=P) hl2 hnb
   have h9:Own w0.heap.size (W2.putObj (w.heap.size+1) (.loop { rec .ready none with state:=.exhausted })) (D ys++(C s++[.dfr (w.heap.size::bs)])):=by
    have hlo:w0.heap.size≤w.heap.size+1:=by have:=q.base;omega
    obtain ⟨p1,p2,p3⟩:=Own.append.1 h8
    obtain ⟨p4,p5,p6⟩:=Own.append.1 p2
    have hne:∀ e∈D ys++(C s++[.dfr (w.heap.size::bs)]),∀ b,e.S b→b≠w.heap.size+1:=by
     rintro e he b hb rfl
     rcases List.mem_append.1 he with he|he
     ·exact p3 e he (.lrec (w.heap.size+1) (rec .ready none)) (by simp) _ hb rfl
     ·rcases List.mem_append.1 he with he|he
      ·exact p6 e he (.lrec (w.heap.size+1) (rec .ready none)) (by simp) _ hb rfl
      ·have:=(List.pairwise_cons.1 p5.apart).1 e (by simpa using he) (w.heap.size+1) rfl hb
       exact this
    have hsub:Own w0.heap.size W2 (D ys++(C s++[.dfr (w.heap.size::bs)])):=by
     refine Own.append.2 ⟨p1,Own.append.2 ⟨p4,p5.tail,fun e he f hf=>p6 e he f (List.mem_cons_of_mem _ hf)⟩,fun e he f hf=>p3 e he f ?_⟩
     rcases List.mem_append.1 hf with hf|hf
     ·exact List.mem_append_left _ hf
     ·exact List.mem_append_right _ (List.mem_cons_of_mem _ hf)
    exact hsub.past (by simp) (fun e he b hb=>World.putObj_heap_other (fun e'=>hne e he b hb e'))
   have hB3:=hB2.trans (zES (w:=W2) (.loop { rec .ready none with state:=.exhausted }) (show w0.heap.size≤w.heap.size+1 by have:=q.base;omega))
   have hkn:Kn w0 n (dL (w.heap.size::bs)) R (D ys++(C s++[.dfr (w.heap.size::bs)])) { a with defers:=[{ target:=.collected w.heap.size,args:=#[] }]++a.defers } (W2.putObj (w.heap.size+1) (.loop { rec .ready none with state:=.exhausted })) :=
    ⟨q.size,by show _++a.defers=_;rw [q.defers];rfl,q.regs,hB3,h9⟩
   obtain ⟨X,hX⟩:∃ X,X=W2.putObj (w.heap.size+1) (.loop { rec .ready none with state:=.exhausted }):=⟨_,rfl⟩
   rw [← hX] at hend2 hkn
   have hpe:(rec .ready none).pending=none:=by rw [hrec]
   exact ⟨none,X,by rw [hend2,hpe],hdone _ ys s hE hI _ _ hkn⟩
  ·intro ys x s W hN hI hBW hOW
   have hl:W.heap[w.heap.size+1]?=some (.loop (rec .ready none)):=hOW.here (.lrec (w.heap.size+1) (rec .ready none)) (by simp)
   have hy:=run_yield (P:=P) (args:=(enc x).toArray) hl (by rw [hrec];simp [hps])
   refine ⟨_,_,_,_,hy,roundIn_of_wpIn trivial ?_⟩
   have hr:=hround (w.heap.size+1) ys x s (rec .ready none) W hN hI (by rw [hrec]) (by rw [hrec]) hBW { tmps:=(rec .ready none).params.zip (enc x).toArray |>.foldl (fun tmps (t,a)=>tmps.setIfInBounds t a) (rec .ready none).tmps,defers:=[] } W ?_
   ·have hdf:(rec .ready none).defers=w.heap.size:=by rw [hrec]
    have has:(rec .ready none).assign=assign:=by rw [hrec]
    have hbo:(rec .ready none).body=body:=by rw [hrec]
    rw [hdf] at hr
    rw [has,hbo]
    refine wpIn_mono (wpFW hr) ?_
    rintro e a1 W2 hq
    cases e with
    | normal =>
     obtain ⟨w2,hb1,hb2⟩:=hq
     refine ⟨w2,hb1,wpIn_mono hb2 ?_⟩
     intro e a2 W3 hq
     cases e with
     | normal=>exact hq
     | ret=>exact hq
     | exit id=>exact hq
     | goto l=>exact hq
     | panic c=>exact hq.elim
     | outgrown=>exact hq.elim
    | _=>exact hq.elim
   ·refine ⟨?_,rfl,?_,hBW,?_⟩
    ·rw [hrec]
     simp only
     rw [← Array.foldl_toList,zJZ];exact q.size
    ·rw [hrec]
     simp only
     rw [← Array.foldl_toList,Array.toList_zip]
     exact zH9 _ _ _ (fun p hp=>by rw [q.size];exact hpn p hp) q.regs
    ·have hdf:(rec .ready none).defers=w.heap.size:=by rw [hrec]
     rw [hdf]
     refine Own.append.2 ⟨hOW,⟨fun e he=>?_,fun e he b hb=>?_,by simp⟩,fun e he f hf b hb hb'=>?_⟩
     ·simp only [List.mem_singleton] at he;subst he;exact ⟨Nat.le_refl _,fun b _=>rfl⟩
     ·simp only [List.mem_singleton] at he;subst he;exact hb.1
     ·simp only [List.mem_singleton] at hf;subst hf;exact hb'.2 ⟨e,he,hb⟩
theorem zJE {α:Type} {fn:Func} {bs:List Nat} {V:α→Value} {C:α→List Ent} {p:α→Prop} {vs:List Value} {w wb:World} {H0:List Ent} (ht:Take H (.dfr bs) H') (hres:zh P wb R H' fn.results.toList vs) (z:α) (hp:p z) (hV:V z=resV vs) (hwb:Below wb.heap.size wb w)
  (ho:∀ w',Own wb.heap.size w' H'→Own wb.heap.size w' (C z++[.oldx w wb.heap.size (feet H0)])):U wb n (dL bs) R H (zFK P fn (zEw w H0 V C p) .ret):=fun a w' q=>by
 show LeavesInM Fence.wide 9 P fn a.tmps _ a.defers .returning w'
 rw [q.defers]
 have hd:=(q.own.take ht).here (.dfr bs) (by simp)
 exact zEO bs w' hd.1 hd.2 (fun w2 e1 e2 e3 e4 e5=>by
  have q2:=q.unmark ht e1 e2 e3 e4 e5
  have q3:Kn wb n [] R H' { a with defers:=[] } w2:=⟨q2.size,rfl,q2.regs,q2.below,q2.own⟩
  exact zIf hres z hp hV hwb ho _ _ q3)
end
end Go.Proofs.YtfiekidciiighaaGreat
namespace Go.Proofs.YtfiekidciiighaaGreat.Two
variable {ro : Option Nat}
open Go.RowKit
set_option maxRecDepth 20000
section
variable {S : List (Nat × Nat)} {I:List (Nat × Nat × Nat × List Ent)} {P:Program} {w0:World} {n:Nat} {d:List Deferred} {R R0:List (Nat × Value)} {H H' H0:List Ent} {Q:Exit→Act→World→Prop} {ops:Array Oper} {bs:List (List Bool)} {b:List Bool} {k:Nat} {o:Oper} {rest:List Oper} {T:List Rw} {t:Tmp} {Hk:zAp→List Ent} {x y:Operand} {v:Value}
theorem row_at {α:Type} {enc:α→List Value} {kk e base m c:Nat} {A:Option Addr} {xs:List α} {H H':List Ent} {w:World} (ho:Own base w H) (ht:Take H (.row enc kk e (.slice A m c) xs) H') [ei:zCZ enc kk]:zAC enc kk w A xs:=(ho.zCN ht).here (.sl enc kk A xs) (by simp)
theorem zKz {f:zAp→Value × List Ent} (j:Nat) (hjk:(j,k)∈S) (hkI:keyI I k=false) (hl:Loc b k f) (ht:zIX S I P w0 n d ops R0 H0 b k o T f (zq (only j T))) (h:zBC ro S I P w0 n d ops R0 H0 Q bs (k+1) rest (⟨k,o.dst,f⟩::T)):zBC ro S I P w0 n d ops R0 H0 Q (b::bs) k (o::rest) T :=
 .inl ⟨f,hl,.inr (.inl ⟨hkI,j,hjk,ht⟩),h⟩
theorem zI0 {f:zAp→Value × List Ent} {E0:List Ent} {lo hi:Nat} (hkE:(k,lo,hi,E0)∈I) (hfree:takes S k=false) (hl:Loc b k f) (ht:zIX S I P w0 n d ops R0 H0 b k o T f (fun _=>E0)) (h:zBC ro S I P w0 n d ops R0 H0 Q bs (k+1) rest (⟨k,o.dst,f⟩::T)):zBC ro S I P w0 n d ops R0 H0 Q (b::bs) k (o::rest) T :=
 .inl ⟨f,hl,.inr (.inr ⟨hfree,lo,hi,E0,hkE,ht⟩),h⟩
theorem zK0 {α:Type} (enc:α→List Value) {kk T1 e s s':Nat} {g g':Bool} {td:TypeDesc} (hop:o.op = .buildSlice T1 0 #[]) [i1:TyI P T1 (.slice e) s g] [i2:TyI P e td s' g'] [ei:zCZ enc kk] (hw:∀ G,want (Rk R0 ops b o T G) ops o=some true) (hd:o.dst=some t)
  (h:zBC ro S I P w0 n d ops R0 H0 Q bs (k+1) rest (⟨k,some t,fun G=>(.slice (some ⟨(G k).g,0,none⟩) 0 0,[.row enc kk e (.slice (some ⟨(G k).g,0,none⟩) 0 0) ([]:List α)])⟩::T)):CAt ro S I P w0 n d ops R0 H0 Q b bs k o rest T Hk:=by
 refine zEG (f:=fun G=>(.slice (some ⟨(G k).g,0,none⟩) 0 0,[.row enc kk e (.slice (some ⟨(G k).g,0,none⟩) 0 0) ([]:List α)])) (fun G G' hG=>by simp only [hG k (.inl rfl)]) (fun G a w q K hK=>?_) (by rw [hd];exact h)
 rw [zBP q (hw G),if_pos rfl]
 have e3:=run_underlying i1.und w
 have e4:=i2.siz w
 have e8:∀ f:Nat→Value,(Array.range 0).map f=#[]:=fun f=>by simp
 have hrun:(Instr.buildSlice T1 0 #[]).run P w = .ok (.slice (some ⟨w.heap.size,0,none⟩) 0 0) (w.alloc (.cells #[] e)):=by
  unfold Instr.buildSlice
  simp only [Sem.run_bind,e3,Result.andThen_ok,e4,Sem.run_ite,show ¬ 0 * s' > 2 ^ 24 by omega,if_false,Sem.run_pure,Nat.zero_mul,if_true,e8,Instr.fill,newRow,run_newObj]
  rfl
 unfold Oper.wp execOp;rw [hop]
 have e9:∀ f:Nat × Operand→Nat × Value,(#[]:Array (Nat × Operand)).map f=#[]:=fun f=>by simp
 simp only [e9,Sem.run_bind,hrun,Result.andThen_ok,Sem.run_pure,Oper.upon_value]
 refine hK _ [.row enc kk e (.slice (some ⟨w.heap.size,0,none⟩) 0 0) ([]:List α)] _ ⟨⟨w.heap.size,none,0⟩,by simp [upW]⟩ (zAU w (.cells #[] e)) ⟨fun f hf=>?_,fun f hf b hb=>?_,by simp⟩
 ·simp only [List.mem_singleton] at hf
  subst hf
  exact zIn (heap_alloc_new w _)
 ·simp only [List.mem_singleton] at hf
  subst hf
  cases hb
  simp
theorem zFc {α:Type} {enc:α→List Value} {kk e T1 bytes m:Nat} [el:ElI P T1 e kk bytes] [ei:zCZ enc kk] {xs:List α} (ys:List α) {A:zAp→Option Addr} {c:zAp→Nat} {vx:zAp→Value} (E0:zAp→List Ent) (hop:o.op = .call { callee:=.builtin .append,args:=#[x,y],argTypes:=#[T1,T1] }) (hw:∀ G,want (Rk R0 ops b o T G) ops o=some true) (hd:o.dst=some t)
  (hx:∀ G,evR (Rk R0 ops b o T G) x=some (vx G)) (hrow:∀ G,E0 G=[.row enc kk e (vx G) xs]) (hy:∀ G,evR (Rk R0 ops b o T G) y=some (.slice (A G) m (c G))) (hm:m=ys.length) (hH:∀ G,see I k++(zq (fltT (vis S k b) T) G++H0)=Hk G) (hs:∀ G w,Below w0.heap.size w0 w→Own w0.heap.size w (Hk G)→zAC enc kk w (A G) ys) (hl:xs.length+ys.length≤1000000∧bytes≤1000000) :
  zIX S I P w0 n d ops R0 H0 b k o T (fun G=>(.slice (G k).A (xs++ys).length (G k).m,[.row enc kk e (.slice (G k).A (xs++ys).length (G k).m) (xs++ys)])) E0:=by
 subst hm
 intro G L a w q ho K hK
 rw [zBP q (hw G),if_pos rfl]
 rw [hrow G] at ho
 obtain ⟨z,hE⟩:=el.el
 obtain ⟨i,i1,i2,i3,i4⟩:=hE.info
 have hrow:Row enc kk e 0 w (vx G) xs:=ho.here (.row enc kk e (vx G) xs) (by simp)
 have hsl:=hs G w q.below (by rw [← hH G];exact q.own)
 have hlen:(ys.flatMap enc).length=ys.length * kk:=by
  simp [List.length_flatMap,ei.len,List.map_const',List.sum_replicate_nat]
 have hmul:(xs.length+ys.length) * bytes≤140737488355328:=by
  have:=Nat.mul_le_mul hl.1 hl.2;omega
 have hxv:=q.ev (hx G)
 have hyv:=q.ev (hy G)
 generalize vx G=v at *
 generalize A G=A at *
 generalize c G=c at *
 have key:∃ v' w',(Builtin.append_ #[T1,T1] o.type #[v,.slice A ys.length c]).run P w = .ok v' w'∧Row enc kk e 0 w' v' (xs++ys)∧w.grownBy w' v.ownBlock∧(v'.ownBlock=v.ownBlock∨v'.ownBlock=some w.heap.size):=by
  cases hA:A with
  | none =>
   have hys:ys=[]:=by
    cases ys with
    | nil=>rfl
    | cons y r =>
     obtain ⟨b,o,hb,_⟩:=hsl 0 y (by simp)
     rw [hA] at hb;cases hb
   subst hys hA
   refine ⟨v,w,?_,by simpa using hrow,World.grownBy.refl w _,.inl rfl⟩
   rcases hrow.2 with ⟨rfl,_⟩ | ⟨g,cap,cur,rfl,_,_,hnc,_⟩
   ·simp [Builtin.append_,run_underlying hE.under,sizeOf,typeInfo,i1,Builtin.lenOf,Builtin.firstCells]
   ·simp [Builtin.append_,run_underlying hE.under,sizeOf,typeInfo,i1,Builtin.lenOf,Builtin.firstCells,hnc,storeCells]
  | some ad =>
   subst hA
   obtain ⟨v',w',r1,r2,r3,_,r5⟩:=run_append_own_at (P:=P) w 0 T1 o.type e i z kk bytes hE.under i1 i2 i3 i4 hE.zs hE.pos v xs.length (xs.flatMap enc) hrow ad ys.length c (ys.flatMap enc) hlen
    (fun j u hu=>by
     obtain ⟨i,y,l,hi,hl,rfl⟩:=zFk ei.len ys j u hu
     obtain ⟨b,o,hb,hlt,hc⟩:=hsl i y hi
     cases hb
     have e1:(⟨b,o,none⟩:Addr).add (i * kk+l)=⟨b,o+i * kk+l,none⟩:=by rw [zCU];congr 1;omega
     rw [e1];exact hc l u hl)
    (fun u hu=>by
     obtain ⟨y,_,hy'⟩:=List.mem_flatMap.1 hu
     exact ei.one y u hy') (by unfold maxLen;omega) hmul (Nat.zero_le _)
   exact ⟨v',w',r1,by unfold Row;simpa using r2,r3,r5⟩
 obtain ⟨v',w',k1,k2,k3,k4⟩:=key
 obtain ⟨A',c',rfl⟩:=k2.form
 unfold Oper.wp execOp
 simp only [hop,resolve,invoke,builtin,Sem.run_bind,Sem.run_pure,Result.andThen_ok,List.map_toArray,List.map_cons,List.map_nil,hxv,hyv,k1,Oper.upon_value]
 have hfoot:∀ b,v.ownBlock=some b→w0.heap.size≤b∧b<w.heap.size:=fun b hb=>ho.foot (.row enc kk e v xs) (by simp) b hb
 refine hK (.slice A' (xs++ys).length c') [.row enc kk e (.slice A' (xs++ys).length c') (xs++ys)] _ ⟨⟨0,A',c'⟩,by simp only [upW,if_true]⟩ ?_ ?_
 ·exact q.below.trans ⟨k3.os,k3.tape,k3.output,k3.size,fun b hb=>k3.block b (by have:=q.base;omega) (fun e=>by have:=(hfoot b e.symm).1;omega)⟩
 ·refine ho.turn k3.size (fun b hb hn=>k3.block b hb (fun e=>hn e.symm)) q.base k2 (fun b hb=>?_)
  have hb':(Value.slice A' (xs++ys).length c').ownBlock=some b:=hb
  have hlt:=k2.lt b hb'
  rcases k4 with h4|h4
  ·exact ⟨.inl (h4.symm.trans hb'),hlt.2⟩
  ·rw [h4] at hb';cases hb';exact ⟨.inr (Nat.le_refl _),hlt.2⟩
theorem zFA {α:Type} {enc:α→List Value} {kk e T1 bytes m:Nat} [el:ElI P T1 e kk bytes] [ei:zCZ enc kk] {xs:List α} (ys:List α) {A:zAp→Option Addr} {c:zAp→Nat} {vx:zAp→Value} (j:Nat) (hjk:(j,k)∈S) (hkI:keyI I k=false) (hop:o.op = .call { callee:=.builtin .append,args:=#[x,y],argTypes:=#[T1,T1] }) (hw:∀ G,want (Rk R0 ops b o T G) ops o=some true) (hd:o.dst=some t)
  (hx:∀ G,evR (Rk R0 ops b o T G) x=some (vx G)) (hrow:∀ G,zq (only j T) G=[.row enc kk e (vx G) xs]) (hy:∀ G,evR (Rk R0 ops b o T G) y=some (.slice (A G) m (c G))) (hm:m=ys.length) (hH:∀ G,see I k++(zq (fltT (vis S k b) T) G++H0)=Hk G) (hs:∀ G w,Below w0.heap.size w0 w→Own w0.heap.size w (Hk G)→zAC enc kk w (A G) ys) (hl:xs.length+ys.length≤1000000∧bytes≤1000000)
  (h:zBC ro S I P w0 n d ops R0 H0 Q bs (k+1) rest (⟨k,some t,fun G=>(.slice (G k).A (xs++ys).length (G k).m,[.row enc kk e (.slice (G k).A (xs++ys).length (G k).m) (xs++ys)])⟩::T)):zBC ro S I P w0 n d ops R0 H0 Q (b::bs) k (o::rest) T :=
 zKz (f:=fun G=>(.slice (G k).A (xs++ys).length (G k).m,[.row enc kk e (.slice (G k).A (xs++ys).length (G k).m) (xs++ys)])) j hjk hkI (fun G G' hG=>by simp only [hG k (.inl rfl)]) (zFc ys (zq (only j T)) hop hw hd hx hrow hy hm hH hs hl) (by rw [hd];exact h)
theorem zIU {α:Type} {enc:α→List Value} {kk e T1 bytes m:Nat} [el:ElI P T1 e kk bytes] [ei:zCZ enc kk] {xs:List α} (ys:List α) {A:zAp→Option Addr} {c:zAp→Nat} {vx:Value} {lo hi:Nat} (hkE:(k,lo,hi,[Ent.row enc kk e vx xs])∈I) (hfree:takes S k=false) (hop:o.op = .call { callee:=.builtin .append,args:=#[x,y],argTypes:=#[T1,T1] }) (hw:∀ G,want (Rk R0 ops b o T G) ops o=some true) (hd:o.dst=some t)
  (hx:∀ G,evR (Rk R0 ops b o T G) x=some vx) (hy:∀ G,evR (Rk R0 ops b o T G) y=some (.slice (A G) m (c G))) (hm:m=ys.length) (hH:∀ G,see I k++(zq (fltT (vis S k b) T) G++H0)=Hk G) (hs:∀ G w,Below w0.heap.size w0 w→Own w0.heap.size w (Hk G)→zAC enc kk w (A G) ys) (hl:xs.length+ys.length≤1000000∧bytes≤1000000)
  (h:zBC ro S I P w0 n d ops R0 H0 Q bs (k+1) rest (⟨k,some t,fun G=>(.slice (G k).A (xs++ys).length (G k).m,[.row enc kk e (.slice (G k).A (xs++ys).length (G k).m) (xs++ys)])⟩::T)):zBC ro S I P w0 n d ops R0 H0 Q (b::bs) k (o::rest) T :=
 zI0 (f:=fun G=>(.slice (G k).A (xs++ys).length (G k).m,[.row enc kk e (.slice (G k).A (xs++ys).length (G k).m) (xs++ys)])) hkE hfree (fun G G' hG=>by simp only [hG k (.inl rfl)]) (zFc (vx:=fun _=>vx) ys (fun _=>[Ent.row enc kk e vx xs]) hop hw hd hx (fun _=>rfl) hy hm hH hs hl) (by rw [hd];exact h)
theorem zAo {T1:TypeId} {td:TypeDesc} {s off:Nat} {g:Bool} {gx:zAp→Nat} {vy:zAp→Value} {cs:zAp→List Value} {cs':zAp→List Value} (j:Nat) (hjk:(j,k)∈S) (hkI:keyI I k=false) (hop:o.op = .store T1 x y) [i1:TyI P T1 td s g] (hw:∀ G,want (Rk R0 ops b o T G) ops o=some true) (hd:o.dst=none) (hx:∀ G,evR (Rk R0 ops b o T G) x=some (.pointer (some ⟨gx G,off,none⟩))) (hy:∀ G,evR (Rk R0 ops b o T G) y=some (vy G)) (hent:∀ G,zq (only j T) G=[.blk (gx G) (cs G)])
  (hv:∀ G,Nat.beq (vy G).cells.toList.length s=true) (hv1:∀ G,(vy G).cells.toList.all Value.oneCell'=true) (hl:∀ G,Nat.ble (off+s) (cs G).length=true) (hc:∀ G,put1 (cs G) off (vy G).cells.toList=cs' G) (hg:zFW b k gx) (hcs:zFW b k cs')
  (h:zBC ro S I P w0 n d ops R0 H0 Q bs (k+1) rest (⟨k,none,fun G=>(undef,[.blk (gx G) (cs' G)])⟩::T)):zBC ro S I P w0 n d ops R0 H0 Q (b::bs) k (o::rest) T:=by
 refine zKz (f:=fun G=>(undef,[.blk (gx G) (cs' G)])) j hjk hkI (fun G G' hG=>by simp only [hg.loc G G' hG,hcs.loc G G' hG]) (fun G L a w q ho K hK=>?_) (by rw [hd];exact h)
 rw [hent G] at ho
 refine zHw hop (hw G) hd (hx G) (hy G) (hv G) (hv1 G) (hl G) (hc G) q ho (fun w' hB hO=>?_)
 have:=hK undef [.blk (gx G) (cs' G)] w' ⟨⟨0,none,0⟩,by simp only [hg.up,hcs.up]⟩ hB hO
 rw [hd] at this
 exact this
def partA (A:Option Addr) (c L s:Nat):Option Addr:=if c=L then A else A.map (·.add (L * s))
theorem e_slice {T1 e:TypeId} {td:TypeDesc} {s s' m c:Nat} {g g':Bool} {A:Option Addr} {lo hi:Option Operand} {l u:Int} (L M:Nat) (hop:o.op = .slice T1 x lo hi none) [i1:TyI P T1 (.slice e) s g] [i2:TyI P e td s' g'] (hx:evR R x=some (.slice A m c))
  (hl:bnd R lo 0=some l) (hu:bnd R hi m=some u) (hL:l=(L:Int)) (hM:u=(M:Int)) (h1:L≤M) (h2:M≤c):Ev P w0 n d R H o (.slice (partA A c L s') (M - L) (c - L)):=fun a w q=>by
 subst hL hM
 unfold execOp;rw [hop]
 have e1:=run_underlying i1.und w
 have e2:=i2.siz w
 have b1:∀ (r:Nat) (code:BoundsCode) (z:Nat),z≤r→∀ k,(Instr.sliceBound (.int k (z:Int)) r code).run P w = .ok z w:=fun r code z hz k=>by
  simp [Instr.sliceBound,asIntOf,hz]
 have hlo:(∃ k,lo.map a.eval=some (.int k (L:Int)))∨(lo=none∧L=0):=by
  cases lo with
  | none=>simp only [bnd,Option.some.injEq] at hl;exact .inr ⟨rfl,by omega⟩
  | some y =>
   simp only [bnd] at hl
   cases hy:evR R y with
   | none=>rw [hy] at hl;simp at hl
   | some v =>
    rw [hy] at hl
    cases v<;>simp at hl
    rename_i k i
    subst hl
    exact .inl ⟨k,by simp [q.ev hy]⟩
 have hhi:(∃ k,hi.map a.eval=some (.int k (M:Int)))∨(hi=none∧M=m):=by
  cases hi with
  | none=>simp only [bnd,Option.some.injEq] at hu;exact .inr ⟨rfl,by omega⟩
  | some y =>
   simp only [bnd] at hu
   cases hy:evR R y with
   | none=>rw [hy] at hu;simp at hu
   | some v =>
    rw [hy] at hu
    cases v<;>simp at hu
    rename_i k i
    subst hu
    exact .inl ⟨k,by simp [q.ev hy]⟩
 unfold partA
 rcases hlo with ⟨k1,hlo⟩ | ⟨hlo,rfl⟩<;>rcases hhi with ⟨k2,hhi⟩ | ⟨hhi,rfl⟩ <;>
  simp [Instr.sliceAt,Instr.slice,e1,e2,q.ev hx,Instr.sliceBounds,hlo,hhi,b1,h1,h2]
end
end Go.Proofs.YtfiekidciiighaaGreat.Two
