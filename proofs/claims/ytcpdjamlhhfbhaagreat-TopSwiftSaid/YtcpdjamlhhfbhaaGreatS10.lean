/- S10 -/
import Derived.Test.YtcpdjamlhhfbhaaGreatS5
import Derived.Test.YtcpdjamlhhfbhaaGreatS9
import Derived.Test.YtcpdjamlhhfbhaaGreatS1
import Derived.Test.YtcpdjamlhhfbhaaGreatS8
import Derived.Maps.RangeRun
set_option linter.unusedSimpArgs false
set_option linter.unusedVariables false
namespace Go.Proofs.YtcpdjamlhhfbhaaGreat
variable {ro : Option Nat}
open Go.RowKit
set_option maxRecDepth 20000
def Wit.off (x:Wit):Nat:=match x.A with|some a=>a.off|none=>0
end Go.Proofs.YtcpdjamlhhfbhaaGreat
namespace Go.Proofs.YtcpdjamlhhfbhaaGreat.Two
variable {ro : Option Nat}
open Go.RowKit
section
variable {S : List (Nat × Nat)} {I:List (Nat × Nat × Nat × List Ent)} {P:Program} {w0:World} {n:Nat} {d:List Deferred} {R0:List (Nat × Value)} {H0:List Ent} {Q:Exit→Act→World→Prop} {ops:Array Oper} {bs:List (List Bool)} {b:List Bool} {k:Nat} {o:Oper} {rest:List Oper} {T:List Rw} {t:Tmp} {Hk:zAU→List Ent}
theorem c_newslS {α:Type} {enc:α→List Value} {kk:Nat} {zs:List α} {V:Value→Value} {f:FuncId} {fx:Operand} {xs:Array Operand} {ts:Array TypeId} {vs:zAU→List Value} {cap:Array Value} (hop:o.op = .call ⟨.value fx,xs,ts⟩) (hw:∀ G,want (Rk R0 ops b o T G) ops o=some true) (hd:o.dst=some t) (hf:∀ G,evR (Rk R0 ops b o T G) fx=some (.func (.func f) #[] cap)) (hx:∀ G,evs (Rk R0 ops b o T G) xs.toList=some (vs G)) [ci:zJ P f]
  (hc:∀ G a w,Kn w0 n d (Rk R0 ops b o T G) (Hk G) a w→zB6 enc kk zs V P f (vs G++cap.toList) w) (h0:0<zs.length) (h:zAc ro S I P w0 n d ops R0 H0 Q bs (k+1) rest (⟨k,some t,fun G=>(V (.slice (some ⟨(G k).g,(G k).off,none⟩) zs.length (G k).m),[.sl enc kk (some ⟨(G k).g,(G k).off,none⟩) zs])⟩::T)):CAt ro S I P w0 n d ops R0 H0 Q b bs k o rest T Hk:=by
 refine zEb (f:=fun G=>(V (.slice (some ⟨(G k).g,(G k).off,none⟩) zs.length (G k).m),[.sl enc kk (some ⟨(G k).g,(G k).off,none⟩) zs])) (fun G G' hG=>by simp only [hG k (.inl rfl)]) (fun G a w q K hK=>?_) (by rw [hd];exact h)
 rw [zBF q (hw G),if_pos rfl]
 unfold Oper.wp execOp;rw [hop]
 have e1:xs.map a.eval=(vs G).toArray:=by apply Array.ext';simpa using q.evs (hx G)
 have e2:(vs G).toArray++cap=(vs G++cap.toList).toArray:=by apply Array.ext';simp
 simp only [resolve,q.ev (hf G),e1,Deferred.ofValue,Sem.run_bind,Sem.run_pure,Result.andThen_ok,invoke,Array.empty_append,e2,ci.ent,Oper.upon_enter]
 refine Calls.mono (hc G a w q).ret.calls ?_
 rintro e w' ⟨⟨A,m⟩,hp,rfl,hb,hE⟩
 obtain ⟨g,off,rfl,_⟩:=(hE.here (.sl enc kk A zs) (Take.here _ _).mem:zg enc kk w' A zs).at_ h0
 exact hK _ _ _ ⟨⟨g,some ⟨g,off,none⟩,m⟩,by simp [upW,Wit.off]⟩ hb hE
end
end Go.Proofs.YtcpdjamlhhfbhaaGreat.Two
namespace Go.Proofs.YtcpdjamlhhfbhaaGreat
variable {ro : Option Nat}
open Go.RowKit
set_option maxRecDepth 20000
def zBA (s:Spot):List Value:=[.int .i64 s.st,.int .i64 s.off.lo,.int .i64 s.off.hi]
def zAl (s:Spot):Value:=.agg #[.int .i64 s.st,.int .i64 s.off.lo,.int .i64 s.off.hi]
theorem one_spot (x:Spot):∀ u∈zBA x,u.oneCell'=true:=by simp [zBA,Value.oneCell']
instance : zDA zBA 3:=⟨fun _=>rfl,one_spot⟩
set_option maxHeartbeats 2000000 in
theorem pickSpot (l:List Spot) (A:Option Addr) (cap:Nat) (kf:FuncId) [zJ Tryz.prog kf] (cs:Array Value) (p:Nat→Spot→Bool) (w:World) (hk:zg zBA 3 w A l) (hl:l.length≤100000)
  (hp:∀ (i:Nat) x W,l[i]?=some x→Below w.heap.size w W→Gv Tryz.prog kf ([.int .i64 (i:Int),zAl x]++cs.toList) W (.bool (p i x))) :
  zB6 encI 1 (picks p l) (fun v=>v) Tryz.prog 133 [.slice A l.length cap,.func (.func kf) #[] cs] w:=by
 unfold zB6
 (refine zD (n:=25) Tryz.func133 rfl rfl rfl ?_)
 (repeat' (first|((with_reducible refine zH ?_);first|refine zF rfl rfl rfl ?_|refine zC rfl rfl rfl ?_|refine zz rfl rfl rfl ?_)|(with_reducible first|refine zK ?_|refine zB ?_|refine zG ?_|refine zA ?_|refine zT ?_)))
 refine zBh encI 1 3 ?_
 refine zGE (ι:=Nat × Value) (fun i=>i.1≤l.length) (fun i=>[(1,.func (.func kf) #[] cs),(5,i.2),(8,.slice A l.length cap),(9,.int .i64 (l.length:Int)),(10,.int .i64 (i.1:Int))]) (fun i=>[.row encI 1 3 i.2 (zAr p l i.1)]) (fun i=>l.length - i.1) (0,.slice none 0 0) (Nat.zero_le _) (by (repeat first|exact lK1|refine za rfl ?_)) (by (repeat constructor)) ?_
 rintro ⟨i,v⟩ hi
 simp only at hi ⊢
 have hpl:=zDu p l i
 by_cases hlt:i<l.length
 ·have hx:l[i]?=some l[i]:=by simp [hlt]
  obtain ⟨b,o,rfl,hblt,hc⟩:=hk.at_ hlt
  have:InS w b o zBA 3 l:=⟨hk⟩
  have:zA5 l i l[i]:=⟨hx⟩
  have hso:soAt p l i=p i l[i]:=by simp [soAt,hlt]
  (repeat' (first|((with_reducible refine zH ?_);first|refine zF rfl rfl rfl ?_|refine zC rfl rfl rfl ?_|(refine zM rfl rfl rfl ?_;refine ⟨_,rfl,?_⟩)|(refine zS rfl rfl rfl rfl rfl (fun h=>?_) (fun h=>?_)<;>(dsimp only [cmpP] at h;(try (exfalso;omega))))|(refine zAO rfl rfl rfl rfl (fun _ _ q=>hp i _ _ hx q.below) (fun h=>?_) (fun h=>?_)<;>(try (exfalso;omega)))|(refine zCC (enc:=encI) [_] rfl rfl rfl (by (repeat constructor)) rfl rfl (zo (by exact rfl)) (by refine ⟨?_,by decide⟩;(try simp only [List.length_append,List.length_cons,List.length_nil]);omega) (fun A' c'=>?_))|refine zAD rfl rfl rfl rfl (by omega) ?_|refine zAN rfl rfl rfl rfl rfl (by omega) ?_|(refine zV rfl rfl rfl rfl rfl ?_;refine ⟨rfl,by first|decide|exact Nat.le_of_ble_eq_true rfl|(simp;omega),_,rfl,?_⟩)|(refine zX rfl rfl (fun b=>?_))|(refine zc rfl rfl rfl ?_;refine ⟨rfl,_,rfl,fun b=>?_⟩))|(with_reducible first|refine zK ?_|refine zB ?_|refine zG ?_|refine zA ?_|refine zU ?_|refine zT ?_|refine zu ?_)|((with_reducible refine zO ?_ ?_);(· exact rfl))|((with_reducible refine zI ?_ ?_);(· exact rfl))))
  ·refine zl (i+1,.slice A' (zAr p l i++[(i:Int)]).length c') (by simp only;omega) (by simp only;omega) (by (repeat first|exact lK1|refine za rfl ?_)) ?_
   rw [zBz (hso.trans h)]
   (repeat constructor)
  ·refine zl (i+1,v) (by simp only;omega) (by simp only;omega) (by (repeat first|exact lK1|refine za rfl ?_)) ?_
   rw [zCR (hso.trans h)]
   (repeat constructor)
 ·obtain rfl:i=l.length:=by omega
  (repeat' (first|((with_reducible refine zH ?_);first|refine zF rfl rfl rfl ?_|refine zC rfl rfl rfl ?_|(refine zS rfl rfl rfl rfl rfl (fun h=>?_) (fun h=>?_)<;>(dsimp only [cmpP] at h;(try (exfalso;omega)))))|(with_reducible first|refine zK ?_|refine zB ?_|refine zG ?_|refine zA ?_|refine zR ?_|refine zr ?_|refine zZ ?_|refine ze ?_)|((with_reducible refine zI ?_ ?_);(· exact rfl))))
  refine zBS (enc:=encI) (by (repeat constructor)) ?_
  rintro A' c' rfl
  exact zN (by exact rTm rfl) (A',c') trivial rfl (fun _ h=>(h.zDe (by (repeat constructor))).sub (by (repeat constructor)))
def zj (t:List St) (s:Spot):Bool:=inB 0 (t.length - 1) s.st && match t[s.st.toNat]? with|some o=>zAh s.off 0 (o.long.lo - 1)|none=>false
def zBX (t:List St) (_:Nat) (s:Spot):Bool:=!zj t s
theorem zDb {t:List St} {I:Nat} {off:Sp} (h:I<t.length):zj t ⟨I,off⟩=zAh off 0 (t[I].long.lo - 1):=by
 have h1:inB 0 (t.length - 1) (I:Int)=true:=zy.2 (by omega)
 simp [zj,h1,h]
theorem zEJ {t:List St} {s:Spot} (h:¬ (0≤s.st∧s.st≤(t.length:Int) - 1)):zj t s=false:=by
 have h1:=zBo.2 h
 simp [zj,h1]
theorem zAT {t:List St} {s:Spot} (h:zj t s=true):∃ I:Nat,s.st=I∧I<t.length:=by
 simp only [zj,Bool.and_eq_true,zy] at h
 exact ⟨s.st.toNat,by omega,by omega⟩
set_option maxHeartbeats 1000000 in
theorem zFl (t:List St) (A:Option Addr) (cap k:Nat) (s:Spot) (b:Nat) (w:World) (ht:zg zq 9 w A t) (ho:∀ s∈t,zDS s) (hl:t.length≤1000) (h1:InC w b 0 [.slice A t.length cap]) :
  Gv Tryz.prog 134 [.int .i64 (k:Int),zAl s,.pointer (some ⟨b,0,none⟩)] w (.bool (zBX t k s)):=by
 unfold Gv zAl
 obtain ⟨st,off⟩:=s
 by_cases h:0≤st∧st≤(t.length:Int) - 1
 ·obtain ⟨I,rfl⟩:∃ I:Nat,st=I:=⟨st.toNat,by omega⟩
  have hI:I<t.length:=by omega
  have hso:zBX t k ⟨(I:Int),off⟩ = !zAh off 0 (t[I].long.lo - 1):=by rw [zBX,zDb hI]
  rw [hso]
  have:zA5 t I t[I]:=⟨by simp [hI]⟩
  obtain ⟨bb,o,rfl,hblt,hc⟩:=ht.at_ hI
  have:InS w bb o zq 9 t:=⟨ht⟩
  obtain ⟨y1,y2,y3,y4,y5,y6,y7,y8⟩:=ho t[I] (List.getElem_mem hI)
  generalize t[I]=z at *
  (refine zD (n:=32) Tryz.func134 rfl rfl rfl ?_)
  (repeat' (first|((with_reducible refine zH ?_);first|refine zC rfl rfl rfl ?_|(refine zf rfl rfl rfl rfl (fun b=>?_)))|(with_reducible first|refine zK ?_|refine zB ?_|refine zG ?_|refine zA ?_)))
  (refine Two.zAP [] [] [] rfl (show ([]:List Nat).Nodup by decide) (fun _ h=>h) (by kernel_rfl) [[],[Z],[Z,Z],[Z,Z,Z],[Z,Z,Z,Z],[Y,Y,Y,Y,Y],[Z,Y,Y,Y,Y,Y],[Z,Z,Y,Y,Y,Y,Y],[Z,Z,Z,Z,Z,Z,Z,Z],[Z,Z,Z,Z,Z,Z,Z,Z,Z],[Z,Z,Z,Z,Z,Z,Z,Z,Z,Z],[Z,Z,Z,Z,Z,Z,Z,Z,Z,Z,Z],[Z,Z,Z,Z,Z,Z,Z,Z,Z,Z,Z,Z],[Y,Y,Z,Z,Z,Z,Z,Z,Z,Z,Z,Z,Z],[Z,Y,Y,Z,Z,Z,Z,Z,Z,Z,Z,Z,Z,Z],[Z,Z,Y,Y,Z,Z,Z,Z,Z,Z,Z,Z,Z,Z,Z],[Y,Y,Y,Y,Y,Z,Z,Z,Z,Z,Z,Z,Z,Z,Z,Z],[Z,Y,Y,Y,Y,Y,Z,Z,Z,Z,Z,Z,Z,Z,Z,Z,Z],[Z,Z,Z,Z,Z,Y,Y,Z,Z,Z,Z,Z,Z,Z,Z,Z,Z,Z],[Z,Z,Z,Z,Z,Z,Y,Y,Z,Z,Z,Z,Z,Z,Z,Z,Z,Z,Z],[Z,Z,Z,Z,Z,Z,Z,Y,Y,Z,Z,Z,Z,Z,Z,Z,Z,Z,Z,Z],[Z,Z,Z,Z,Z,Z,Z,Z,Y,Y,Z,Z,Z,Z,Z,Z,Z,Z,Z,Z,Z],[Z,Z,Z,Z,Z,Z,Z,Z,Z,Y,Y,Z,Z,Z,Z,Z,Z,Z,Z,Z,Z,Z],[Z,Z,Z,Z,Z,Z,Z,Z,Z,Z,Z,Z,Z,Z,Z,Z,Z,Z,Z,Z,Z,Z,Z],[Z,Z,Z,Z,Z,Z,Z,Z,Z,Z,Z,Z,Z,Z,Z,Z,Z,Z,Z,Z,Z,Z,Z,Z],[Z,Z,Z,Z,Z,Z,Z,Z,Z,Z,Z,Z,Z,Z,Z,Z,Z,Z,Z,Z,Z,Z,Z,Z,Z],[Z,Z,Z,Z,Z,Z,Z,Z,Z,Z,Z,Z,Z,Z,Z,Z,Z,Z,Z,Z,Z,Z,Z,Z,Z,Z]] (by kernel_rfl) (by kernel_rfl) (by kernel_rfl) (by kernel_rfl) (by kernel_rfl) ?_)
  (repeat' (first|(((with_reducible refine Two.zCL ?_ ?_);(· exact rfl);refine ⟨_,fun G=>(by (try simp (decide:=true) only [Two.vis,Two.see,fltT,z8,Nat.reduceAdd,Nat.reduceSub,if_true,if_false,List.set_cons_zero,List.set_cons_succ,List.set_nil,List.nil_append,List.cons_append]);rfl),?_⟩);first|refine Two.zW _ (fun _=>zAi rfl rfl) (fun _=>rfl) rfl (by intro G G' h;simp (decide:=true) only [h]) ?_|refine Two.zW _ (fun _=>zAC rfl rfl (by exact rfl)) (fun _=>rfl) rfl (by intro G G' h;simp (decide:=true) only [h]) ?_|(refine Two.zAj rfl ?_;refine Two.zW _ (fun _=>zAd rfl rfl) (fun _=>rfl) rfl (by intro G G' h;simp (decide:=true) only [h]) ?_)|refine Two.zW _ (fun _=>zCA rfl rfl rfl) (fun _=>rfl) rfl (by intro G G' h;simp (decide:=true) only [h]) ?_|refine Two.zW _ (fun _=>zAa rfl rfl) (fun _=>rfl) rfl (by intro G G' h;simp (decide:=true) only [h]) ?_|(refine Two.zCM rfl (fun _=>rfl) rfl (fun _=>rfl) (fun _=>rfl) (fun _ _ _ q=>in1 _ _ _ _ _ _ (zo (enc:=encI) (by exact rfl) _ q.below q.own)) (fun h=>?_) (fun h=>?_)<;>((try simp only [zy,zBo,zx,zAQ] at h);(try (exfalso;omega))))|(refine Two.zCM rfl (fun _=>rfl) rfl (fun _=>rfl) (fun _=>rfl) (fun _ _ _ _=>(zE5 off 0 _ _).gv) (fun h=>?_) (fun h=>?_)<;>((try simp only [zy,zBo,zx,zAQ] at h);(try (exfalso;omega))))|refine Two.zW _ (fun _=>zF3 rfl rfl) (fun _=>rfl) rfl (by intro G G' h;simp (decide:=true) only [h]) ?_|refine Two.zW _ (fun _=>zDy rfl rfl rfl (IntWalk.i64_in _ (by omega))) (fun _=>rfl) rfl (by intro G G' h;simp (decide:=true) only [h]) ?_|refine Two.zW _ (fun _=>zAV rfl rfl rfl rfl (by omega)) (fun _=>rfl) rfl (by intro G G' h;simp (decide:=true) only [h]) ?_|refine Two.zW _ (fun _=>zF4 rfl rfl) (fun _=>rfl) rfl (by intro G G' h;simp (decide:=true) only [h]) ?_|refine Two.zBO rfl (fun _=>rfl) rfl (fun _=>rfl) (by exact rfl) (by exact fun _=>rfl) (by intro G G' h;simp (decide:=true) only [h]) ?_)|(with_reducible refine Two.zB2 ?_)))
  all_goals
   (intro G;simp only [regsT,z8,Two.zA7,Two.ini,List.nil_append,List.cons_append])
   (repeat' (first|(with_reducible first|refine zA ?_|refine zR ?_)))
   exact zN (by exact rTm rfl) () trivial (by first|exact congrArg Value.bool (by rw [zx.2 (by omega)])|exact congrArg Value.bool (by rw [zAQ.2 (by omega)])) (fun _ h=>h.sub (by (repeat constructor)))
 ·have hso:zBX t k ⟨st,off⟩=true:=by rw [zBX,zEJ h];rfl
  rw [hso]
  (refine zD (n:=32) Tryz.func134 rfl rfl rfl ?_)
  (repeat' (first|((with_reducible refine zH ?_);first|refine zC rfl rfl rfl ?_|(refine zf rfl rfl rfl rfl (fun b=>?_)))|(with_reducible first|refine zK ?_|refine zB ?_|refine zG ?_|refine zA ?_)))
  (refine Two.zAP [] [] [] rfl (show ([]:List Nat).Nodup by decide) (fun _ h=>h) (by kernel_rfl) [[],[Z],[Z,Z],[Z,Z,Z],[Z,Z,Z,Z],[Y,Y,Y,Y,Y],[Z,Y,Y,Y,Y,Y],[Z,Z,Y,Y,Y,Y,Y],[Z,Z,Z,Z,Z,Z,Z,Z],[Z,Z,Z,Z,Z,Z,Z,Z,Z],[Z,Z,Z,Z,Z,Z,Z,Z,Z,Z],[Z,Z,Z,Z,Z,Z,Z,Z,Z,Z,Z],[Z,Z,Z,Z,Z,Z,Z,Z,Z,Z,Z,Z],[Y,Y,Z,Z,Z,Z,Z,Z,Z,Z,Z,Z,Z],[Z,Y,Y,Z,Z,Z,Z,Z,Z,Z,Z,Z,Z,Z],[Z,Z,Y,Y,Z,Z,Z,Z,Z,Z,Z,Z,Z,Z,Z],[Y,Y,Y,Y,Y,Z,Z,Z,Z,Z,Z,Z,Z,Z,Z,Z],[Z,Y,Y,Y,Y,Y,Z,Z,Z,Z,Z,Z,Z,Z,Z,Z,Z],[Z,Z,Z,Z,Z,Y,Y,Z,Z,Z,Z,Z,Z,Z,Z,Z,Z,Z],[Z,Z,Z,Z,Z,Z,Y,Y,Z,Z,Z,Z,Z,Z,Z,Z,Z,Z,Z],[Z,Z,Z,Z,Z,Z,Z,Y,Y,Z,Z,Z,Z,Z,Z,Z,Z,Z,Z,Z],[Z,Z,Z,Z,Z,Z,Z,Z,Y,Y,Z,Z,Z,Z,Z,Z,Z,Z,Z,Z,Z],[Z,Z,Z,Z,Z,Z,Z,Z,Z,Y,Y,Z,Z,Z,Z,Z,Z,Z,Z,Z,Z,Z],[Z,Z,Z,Z,Z,Z,Z,Z,Z,Z,Z,Z,Z,Z,Z,Z,Z,Z,Z,Z,Z,Z,Z],[Z,Z,Z,Z,Z,Z,Z,Z,Z,Z,Z,Z,Z,Z,Z,Z,Z,Z,Z,Z,Z,Z,Z,Z],[Z,Z,Z,Z,Z,Z,Z,Z,Z,Z,Z,Z,Z,Z,Z,Z,Z,Z,Z,Z,Z,Z,Z,Z,Z],[Z,Z,Z,Z,Z,Z,Z,Z,Z,Z,Z,Z,Z,Z,Z,Z,Z,Z,Z,Z,Z,Z,Z,Z,Z,Z]] (by kernel_rfl) (by kernel_rfl) (by kernel_rfl) (by kernel_rfl) (by kernel_rfl) ?_)
  (repeat' (first|(((with_reducible refine Two.zCL ?_ ?_);(· exact rfl);refine ⟨_,fun G=>(by (try simp (decide:=true) only [Two.vis,Two.see,fltT,z8,Nat.reduceAdd,Nat.reduceSub,if_true,if_false,List.set_cons_zero,List.set_cons_succ,List.set_nil,List.nil_append,List.cons_append]);rfl),?_⟩);first|refine Two.zW _ (fun _=>zAi rfl rfl) (fun _=>rfl) rfl (by intro G G' h;simp (decide:=true) only [h]) ?_|refine Two.zW _ (fun _=>zAC rfl rfl (by exact rfl)) (fun _=>rfl) rfl (by intro G G' h;simp (decide:=true) only [h]) ?_|(refine Two.zAj rfl ?_;refine Two.zW _ (fun _=>zAd rfl rfl) (fun _=>rfl) rfl (by intro G G' h;simp (decide:=true) only [h]) ?_)|refine Two.zW _ (fun _=>zCA rfl rfl rfl) (fun _=>rfl) rfl (by intro G G' h;simp (decide:=true) only [h]) ?_|refine Two.zW _ (fun _=>zAa rfl rfl) (fun _=>rfl) rfl (by intro G G' h;simp (decide:=true) only [h]) ?_|refine Two.zDN (fun _=>rfl) rfl ?_|(refine Two.zCM rfl (fun _=>rfl) rfl (fun _=>rfl) (fun _=>rfl) (fun _ _ _ q=>in1 _ _ _ _ _ _ (zo (enc:=encI) (by exact rfl) _ q.below q.own)) (fun h=>?_) (fun h=>?_)<;>((try simp only [zy,zBo,zx,zAQ] at h);(try (exfalso;omega))))|refine Two.zW _ (fun _=>zF3 rfl rfl) (fun _=>rfl) rfl (by intro G G' h;simp (decide:=true) only [h]) ?_|refine Two.zW _ (fun _=>zDy rfl rfl rfl (IntWalk.i64_in _ (by omega))) (fun _=>rfl) rfl (by intro G G' h;simp (decide:=true) only [h]) ?_|refine Two.zW _ (fun _=>zF4 rfl rfl) (fun _=>rfl) rfl (by intro G G' h;simp (decide:=true) only [h]) ?_|refine Two.zBO rfl (fun _=>rfl) rfl (fun _=>rfl) (by exact rfl) (by exact fun _=>rfl) (by intro G G' h;simp (decide:=true) only [h]) ?_)|(with_reducible refine Two.zB2 ?_)))
  (intro G;simp only [regsT,z8,Two.zA7,Two.ini,List.nil_append,List.cons_append])
  (repeat' (first|(with_reducible first|refine zA ?_|refine zR ?_)))
  exact zN (by exact rTm rfl) () trivial rfl (fun _ h=>h.sub (by (repeat constructor)))
end Go.Proofs.YtcpdjamlhhfbhaaGreat
namespace Go.Proofs.YtcpdjamlhhfbhaaGreat
open Go.ChangeShapes Go.WideShapes Go.ChangeAt Go.RowKit
section
variable {H : Type} {enc:TypeId × Value→H} {w:World} {sp:Nat→Bool} {held:Bool} {n:Nat} {cs:List Value} {x:DataW H × List MemPlace}
theorem fitT_of {t:List St} (h:∀ s∈t,FitSt s):zBs t:=fun s hs=>(h s hs).2.2.2.2.1
end
end Go.Proofs.YtcpdjamlhhfbhaaGreat
namespace Go.Proofs.YtcpdjamlhhfbhaaGreat
structure Opn where
 sig:Int
 lo:Int
 hi:Int
deriving DecidableEq
structure RdK where
 m:Nat
 least:Nat→Int
 opts:Nat→List Opn
 start:Int
 now:Int
 misses:Int
 fakes:Int
 nsig:Int
section
variable {k : RdK}
def IsMin {K:Type} (S:K→Int→Prop) (f:K→Option Int):Prop:=∀ x,(∀ v,f x=some v→S x v∧∀ u,S x u→v≤u)∧(f x=none→∀ u,¬ S x u)
def IsMax {K:Type} (S:K→Int→Prop) (f:K→Option Int):Prop:=∀ x,(∀ v,f x=some v→S x v∧∀ u,S x u→u≤v)∧(f x=none→∀ u,¬ S x u)
theorem IsMin.none {K:Type}:IsMin (fun _ _=>False) (fun _:K=>Option.none):=fun x=>⟨fun v h=>(by cases h),fun _ _ h=>h⟩
theorem IsMax.none {K:Type}:IsMax (fun _ _=>False) (fun _:K=>Option.none):=fun x=>⟨fun v h=>(by cases h),fun _ _ h=>h⟩
end
end Go.Proofs.YtcpdjamlhhfbhaaGreat
namespace Go.Proofs.YtcpdjamlhhfbhaaGreat
section
variable {k : RdK}
def IsSpan (S:Int→Int→Prop):Option (Int × Int)→Prop
 | none=>∀ a b,¬ S a b
 | some (lo,hi)=>(∃ b,S lo b)∧(∃ a,S a hi)∧∀ a b,S a b→lo≤a∧b≤hi
def addS (s:Option (Int × Int)) (a b:Int):Option (Int × Int):=match s with|none=>some (a,b)|some p=>some (min a p.1,max b p.2)
end
end Go.Proofs.YtcpdjamlhhfbhaaGreat
namespace Go.Proofs.YtcpdjamlhhfbhaaGreat
structure Sy where
 at_:Int
 ah:Sp
deriving DecidableEq
instance : Inhabited Sy:=⟨⟨0,⟨0,0⟩⟩⟩
structure Clk where
 drift:Int
 syncs:List Sy
deriving DecidableEq
instance : Inhabited Clk:=⟨⟨0,[]⟩⟩
def upI (n by_:Int):Int:=(n+by_ - 1) / by_
def bsF (p:Int→Bool):Nat→Int→Int→Int
 | 0,lo,_=>lo
 | f+1,lo,hi=>if lo<hi then (if p (lo+(hi - lo) / 2) then bsF p f lo (lo+(hi - lo) / 2) else bsF p f (lo+(hi - lo) / 2+1) hi) else lo
theorem zC9 (p:Int→Bool):∀ (f:Nat) (lo hi:Int),lo≤hi→lo≤bsF p f lo hi∧bsF p f lo hi≤hi
 | 0,lo,hi,h=>⟨Int.le_refl _,h⟩
 | f+1,lo,hi,h=>by
  unfold bsF
  by_cases h0:lo<hi
  ·rw [if_pos h0]
   split
   ·have:=zC9 p f lo (lo+(hi - lo) / 2) (by omega);omega
   ·have:=zC9 p f (lo+(hi - lo) / 2+1) hi (by omega);omega
  ·rw [if_neg h0];omega
theorem zEc {p:Int→Bool}:∀ (f:Nat) (lo hi:Int),lo≤hi→hi - lo<2 ^ f→(∀ a b,lo≤a→a≤b→b<hi→p a=true→p b=true)→(∀ a,lo≤a→a<bsF p f lo hi→p a=false)∧∀ a,bsF p f lo hi≤a→a<hi→p a=true
 | 0,lo,hi,h,hf,hm=>by
  simp only [Int.pow_zero] at hf
  simp only [bsF]
  exact ⟨fun a h1 h2=>by omega,fun a h1 h2=>by omega⟩
 | f+1,lo,hi,h,hf,hm=>by
  rw [Int.pow_succ] at hf
  unfold bsF
  by_cases h0:lo<hi
  ·rw [if_pos h0]
   by_cases hp:p (lo+(hi - lo) / 2)=true
   ·rw [if_pos hp]
    have hb:=zC9 p f lo (lo+(hi - lo) / 2) (by omega)
    obtain ⟨a1,a2⟩:=zEc (p:=p) f lo (lo+(hi - lo) / 2) (by omega) (by omega) (fun a b h1 h2 h3=>hm a b h1 h2 (by omega))
    refine ⟨a1,fun a h1 h2=>?_⟩
    by_cases h3:a<lo+(hi - lo) / 2
    ·exact a2 a h1 h3
    ·exact hm _ a (by omega) (by omega) h2 hp
   ·rw [if_neg hp]
    have hb:=zC9 p f (lo+(hi - lo) / 2+1) hi (by omega)
    obtain ⟨a1,a2⟩:=zEc (p:=p) f (lo+(hi - lo) / 2+1) hi (by omega) (by omega) (fun a b h1 h2 h3=>hm a b (by omega) h2 h3)
    refine ⟨fun a h1 h2=>?_,a2⟩
    by_cases h3:lo+(hi - lo) / 2+1≤a
    ·exact a1 a h3 h2
    ·cases hpa:p a with
     | false=>rfl
     | true=>exact absurd (hm a _ h1 (by omega) (by omega) hpa) hp
  ·rw [if_neg h0]
   exact ⟨fun a h1 h2=>by omega,fun a h1 h2=>by omega⟩
theorem bsF_step {p:Int→Bool} {f:Nat} {lo hi:Int} (h:lo<hi):bsF p (f+1) lo hi=if p (lo+(hi - lo) / 2) then bsF p f lo (lo+(hi - lo) / 2) else bsF p f (lo+(hi - lo) / 2+1) hi:=by
 rw [bsF,if_pos h]
theorem bsF_done {p:Int→Bool} {f:Nat} {lo:Int}:bsF p f lo lo=lo:=by
 cases f with
 | zero=>rfl
 | succ f=>rw [bsF,if_neg (by omega)]
end Go.Proofs.YtcpdjamlhhfbhaaGreat
namespace Go.Proofs.YtcpdjamlhhfbhaaGreat
structure SlM where
 cls:Int
 start:Sp
 rub:Sp
 drag:Sp
 weight:Sp
 steer:Sp
def zCg (s:SlM):Bool:=inB 1 3 s.cls && zAh s.start 0 200000 && zAh s.rub 0 100 && zAh s.drag 0 1000 && zAh s.weight 50000 800000 && zAh s.steer (-500) 500
def zBN (b:Bool) (s:Sp) (f:Bool):Int:=if b=f then s.hi else s.lo
def airI (b:Bool) (s:SlM) (h long:Int):Int:=min h (h * zBN b s.drag false * long / (100 * zBN b s.weight true))
def iceI (b:Bool) (s:SlM) (long:Int):Int:=zBN b s.rub false * long / 100
def zE4 (b:Bool) (s:SlM) (x:St) (h:Int):Int:=max 0 (h+zBN b x.fall true - airI b s h (zBN b x.long false) - iceI b s (zBN b x.long false))
def zt (b:Bool) (s:SlM) (t:List St):Nat→Int
 | 0=>zBN b s.start true
 | i+1=>match t[i]? with|some x=>zE4 b s x (zt b s t i)|none=>zt b s t i
theorem zEX {b:Bool} {s:SlM} {t:List St} {i:Nat} {x:St} (h:t[i]?=some x):zt b s t (i+1)=zE4 b s x (zt b s t i):=by simp [zt,h]
def zBe (b:Bool) (s:SlM) (t:List St) (i:Nat):List Int:=(List.range i).map (zt b s t)
theorem zDx {b:Bool} {s:SlM} {t:List St} {i:Nat}:(zBe b s t i).length=i:=by simp [zBe]
theorem zC6 {b:Bool} {s:SlM} {t:List St} {i k:Nat} (h:k<i):(zBe b s t i)[k]?=some (zt b s t k):=by
 unfold zBe;rw [List.getElem?_map,List.getElem?_range h];rfl
structure zCO (s:SlM):Prop where
 cls:1≤s.cls∧s.cls≤3
 start:0≤s.start.lo∧s.start.lo≤s.start.hi∧s.start.hi≤200000
 rub:0≤s.rub.lo∧s.rub.lo≤s.rub.hi∧s.rub.hi≤100
 drag:0≤s.drag.lo∧s.drag.lo≤s.drag.hi∧s.drag.hi≤1000
 weight:50000≤s.weight.lo∧s.weight.lo≤s.weight.hi∧s.weight.hi≤800000
 steer:-500≤s.steer.lo∧s.steer.lo≤s.steer.hi∧s.steer.hi≤500
theorem zBm {s:SlM}:zCg s=true↔zCO s:=by
 unfold zCg
 simp only [Bool.and_eq_true,zy,zx]
 exact ⟨fun ⟨⟨⟨⟨⟨a,b⟩,c⟩,d⟩,e⟩,f⟩=>⟨a,b,c,d,e,f⟩,fun h=>⟨⟨⟨⟨⟨h.cls,h.start⟩,h.rub⟩,h.drag⟩,h.weight⟩,h.steer⟩⟩
structure StF (x:St):Prop where
 long:1≤x.long.lo∧x.long.lo≤x.long.hi∧x.long.hi≤30000
 fall:0≤x.fall.lo∧x.fall.lo≤x.fall.hi∧x.fall.hi≤5000
theorem zE2 : ∀ {l:List St} {a:Int},okFrom a l=true→∀ x∈l,StF x
 | y::l,a,h,x,hx=>by
  simp only [okFrom,Bool.and_eq_true] at h
  rcases List.mem_cons.1 hx with rfl|hx
  ·have h1:=h.1
   unfold zD3 at h1
   simp only [Bool.and_eq_true,zx] at h1
   exact ⟨h1.1.1.1.2,h1.1.1.2⟩
  ·exact zE2 h.2 x hx
theorem zDB {t:List St} (h:valid t=true):∀ x∈t,StF x:=by
 unfold valid at h
 simp only [Bool.and_eq_true] at h
 exact zE2 h.2
theorem valid_ln {t:List St} (h:valid t=true):1≤t.length∧t.length≤12:=by
 unfold valid at h
 simp only [Bool.and_eq_true,zy] at h
 omega
theorem zBM {b f:Bool} {s:Sp} {lo hi:Int} (h1:lo≤s.lo) (h2:s.lo≤s.hi) (h3:s.hi≤hi):lo≤zBN b s f∧zBN b s f≤hi:=by
 unfold zBN;split<;>omega
theorem zDh {a b A B:Int} (h1:0≤a) (h2:a≤A) (h3:0≤b) (h4:b≤B):0≤a * b∧a * b≤A * B :=
 ⟨Int.mul_nonneg h1 h3,Int.mul_le_mul h2 h4 h3 (Int.le_trans h1 h2)⟩
theorem air_in {b:Bool} {s:SlM} {h long:Int} (hs:zCO s) (h0:0≤h) (hl:0≤long):0≤airI b s h long∧airI b s h long≤h:=by
 have h1:=zBM (b:=b) (f:=false) hs.drag.1 hs.drag.2.1 hs.drag.2.2
 have h2:=zBM (b:=b) (f:=true) hs.weight.1 hs.weight.2.1 hs.weight.2.2
 have h3:=Int.mul_nonneg (Int.mul_nonneg h0 h1.1) hl
 have h4:=Int.ediv_nonneg h3 (b:=100 * zBN b s.weight true) (by omega)
 unfold airI;omega
theorem ice_in {b:Bool} {s:SlM} {long:Int} (hs:zCO s) (hl:0≤long) (hl2:long≤30000):0≤iceI b s long∧iceI b s long≤30000:=by
 have h1:=zBM (b:=b) (f:=false) hs.rub.1 hs.rub.2.1 hs.rub.2.2
 have h3:=zDh h1.1 h1.2 hl hl2
 unfold iceI
 omega
theorem next_in {b:Bool} {s:SlM} {x:St} {h H:Int} (hs:zCO s) (hx:StF x) (h0:0≤h) (hH:h≤H):0≤zE4 b s x h∧zE4 b s x h≤H+5000:=by
 have h1:=zBM (b:=b) (f:=true) hx.fall.1 hx.fall.2.1 hx.fall.2.2
 have h2:=zBM (b:=b) (f:=false) hx.long.1 hx.long.2.1 hx.long.2.2
 have h3:=air_in (b:=b) (long:=zBN b x.long false) hs h0 (by omega)
 have h4:=ice_in (b:=b) (long:=zBN b x.long false) hs (by omega) h2.2
 unfold zE4;omega
theorem zB1 {b:Bool} {s:SlM} {t:List St} (hs:zCO s) (ht:∀ x∈t,StF x):∀ i:Nat,0≤zt b s t i∧zt b s t i≤200000+5000 * (i:Int)
 | 0=>by
  have h1:=zBM (b:=b) (f:=true) hs.start.1 hs.start.2.1 hs.start.2.2
  simp only [zt];omega
 | i+1=>by
  have ih:=zB1 (b:=b) hs ht i
  cases h:t[i]? with
  | none=>simp only [zt,h];omega
  | some x =>
   rw [zEX h]
   have:=next_in (b:=b) hs (ht x (List.mem_of_getElem? h)) ih.1 ih.2
   omega
def zEt (h v:Int):Bool:=decide (1962 * h<10 * v * v)
def zCc (h v:Int):Bool:=decide (1962 * h≤10 * v * v)
def zEu (h:Int):Int:=bsF (zEt h) 14 0 10000 - 1
def zBE (h:Int):Int:=bsF (zCc h) 14 0 10000
theorem sq_mono {a b:Int} (h0:0≤a) (h:a≤b):10 * a * a≤10 * b * b:=Int.mul_le_mul (by omega) h h0 (by omega)
theorem zGZ {h a b:Int} (h0:0≤a) (hab:a≤b) (hp:zCc h a=true):zCc h b=true:=by
 unfold zCc at *
 have:=sq_mono h0 hab
 simp only [decide_eq_true_eq] at *
 omega
theorem zEA {h:Int}:0≤zBE h∧zBE h≤10000:=zC9 _ _ _ _ (by omega)
theorem zE8 {h:Int}:(∀ a,0≤a→a<zBE h→zCc h a=false)∧∀ a,zBE h≤a→a<10000→zCc h a=true :=
 zEc 14 0 10000 (by omega) (by decide) (fun a b h1 h2 h3 h4=>zGZ h1 h2 h4)
theorem zE9 {h k:Int} (hk:h≤k):zBE h≤zBE k:=by
 have h1:=zEA (h:=h)
 have h2:=zEA (h:=k)
 refine Int.not_lt.1 fun h3=>?_
 have h4:=(zE8 (h:=h)).1 (zBE k) h2.1 h3
 have h5:=(zE8 (h:=k)).2 (zBE k) (Int.le_refl _) (by omega)
 unfold zCc at h4 h5
 simp only [decide_eq_true_eq,decide_eq_false_iff_not] at h4 h5
 omega
theorem fast_max {h k:Int}:zBE (max h k)=max (zBE h) (zBE k):=by
 rcases Int.le_total h k with h1|h1
 ·have:=zE9 h1
  rw [Int.max_eq_right h1,Int.max_eq_right this]
 ·have:=zE9 h1
  rw [Int.max_eq_left h1,Int.max_eq_left this]
def zFU (L v:Int):Int:=(if 0<1000 * L % v then 1000 * L+v else 1000 * L) / v
theorem zHG {L v:Int} (hv:0<v):zFU L v=upI (1000 * L) v:=by
 unfold zFU upI
 generalize 1000 * L=n
 have h1:=Int.emod_add_mul_ediv n v
 have h2:=Int.emod_nonneg n (show v≠0 by omega)
 have h3:=Int.emod_lt_of_pos n hv
 obtain ⟨q,hq⟩:∃ q,q=n / v:=⟨_,rfl⟩
 rw [← hq] at h1
 by_cases h:0<n % v
 ·rw [if_pos h]
  have e1:n+v=n % v+v * (q+1):=by rw [Int.mul_add];omega
  have e2:n+v - 1=(n % v - 1)+v * (q+1):=by rw [Int.mul_add];omega
  rw [e2,e1,Int.add_mul_ediv_left _ _ (by omega),Int.add_mul_ediv_left _ _ (by omega),Int.ediv_eq_zero_of_lt h2 h3,Int.ediv_eq_zero_of_lt (by omega) (by omega)]
 ·rw [if_neg h]
  have h0:n % v=0:=by omega
  rw [h0] at h1
  have e1:n=v * q:=by omega
  have e2:n+v - 1=(v - 1)+v * q:=by omega
  have e3:(v - 1) / v=0:=Int.ediv_eq_zero_of_lt (by omega) (by omega)
  rw [e2,Int.add_mul_ediv_left _ _ (by omega),e3]
  omega
theorem upI_anti {n v w:Int} (hn:0≤n) (hv:0<v) (h:v≤w):upI n w≤upI n v:=by
 unfold upI
 have h1:=Int.emod_add_mul_ediv (n+v - 1) v
 have h2:=Int.emod_lt_of_pos (n+v - 1) hv
 have h3:=Int.emod_nonneg (n+v - 1) (show v≠0 by omega)
 have hq:0≤(n+v - 1) / v:=Int.ediv_nonneg (by omega) (by omega)
 generalize (n+v - 1) / v=q at *
 -- n≤v q,so n+w - 1<w (q+1)
 have h4:n≤v * q:=by omega
 have h5:v * q≤w * q:=Int.mul_le_mul_of_nonneg_right h hq
 have h6:n+w - 1<(q+1) * w:=by rw [Int.add_mul,Int.mul_comm q w];omega
 have:=Int.ediv_lt_of_lt_mul (show 0<w by omega) h6
 omega
def zCZ (f:Nat→Int):Nat→Int
 | 0=>0
 | i+1=>max (zCZ f i) (f i)
theorem zFf {f:Nat→Int}:∀ {n i:Nat},i<n→f i≤zCZ f n
 | n+1,i,h=>by
  simp only [zCZ]
  rcases Nat.lt_succ_iff_lt_or_eq.1 h with h1|rfl
  ·have:=zFf (f:=f) h1;omega
  ·omega
theorem zFe {f:Nat→Int} {B:Int} (hB:0≤B) (hf:∀ i,f i≤B):∀ n,0≤zCZ f n∧zCZ f n≤B
 | 0=>by simp only [zCZ];omega
 | n+1=>by
  have:=zFe hB hf n
  have:=hf n
  simp only [zCZ];omega
end Go.Proofs.YtcpdjamlhhfbhaaGreat
namespace Go.Proofs.YtcpdjamlhhfbhaaGreat
open Go.RowKit
open Go.ChangeMaps (setBlock)
set_option maxRecDepth 20000
def SeqG (P:Program) (gf:FuncId) (lb:List Value) {α:Type} (D:List α→List Ent) (enc:α→List Value) (N:List α→α→Prop) (E:List α→Prop) (wb:World):Prop :=
 ∀ (ι:Type) (l:Nat) (I:List α→ι→Prop) (C:ι→List Ent) (s0:ι) (w:World),Below wb.heap.size wb w→I [] s0→Own wb.heap.size w (D []++C s0) →
  (∀ ys x s W,N ys x→I ys s→Below wb.heap.size wb W→Own wb.heap.size W (D (ys++[x])++C s)→YieldF P l (enc x) W (D (ys++[x])++C s) true (fun s'=>D (ys++[x])++C s') (I (ys++[x]))) →
  zEg P gf (.func (.yield l) #[] #[]::lb) w (D []++C s0) (fun _:List α × ι=>.tuple #[]) (fun z=>D z.1++C z.2) (fun z=>E z.1∧I z.1 z.2)
section
variable {P : Program} {w0:World} {n:Nat} {d:List Deferred} {R:List (Nat × Value)} {H H' H1 H2:List Ent} {Q:Exit→Act→World→Prop} {ops:Array Oper} {rest:List Oper} {o:Oper} {t:Tmp} {x y z:Operand} {v:Value}
theorem u_rangeG {ι α:Type} {g:Operand} {ps:Array Tmp} {assign body:Code} {gf:FuncId} {lb:List Value} {bs:List Nat} (D:List α→List Ent) (enc:α→List Value) (N:List α→α→Prop) (E:List α→Prop) (I:List α→ι→Prop) (C:ι→List Ent) (s0:ι)
  (hg:evR R g=some (.func (.func gf) #[] lb.toArray)) [ci:zJ P gf] (hs:Out H (D []++(C s0++[.dfr bs]))) (h0:I [] s0)
  (hps:∀ x,(enc x).length=ps.size) (hpn:∀ p∈ps.toList,p<n)
  (hit:SeqG P gf lb D enc N E w0)
  (hround:∀ (l:Nat) (ys:List α) (x:α) (s:ι) (r:Loop) (W:World),N ys x→I ys s→r.state = .ready→r.pending=none→Below w0.heap.size w0 W →
   U w0 n [] (parR ps.toList (enc x)++R) ((D (ys++[x])++(C s++[.lrec l r,.dfr (r.defers::bs)]))++[.oldx W w0.heap.size (feet (D (ys++[x])++(C s++[.lrec l r,.dfr (r.defers::bs)])))]) (assign.wpI (some l) P (rndA P l body (rndB P l W (D (ys++[x])++(C s++[.lrec l r,.dfr (r.defers::bs)])) true (fun s'=>D (ys++[x])++(C s'++[.lrec l r,.dfr (r.defers::bs)])) (I (ys++[x]))))))
  (hdone:∀ b ys s,E ys→I ys s→U w0 n (dL (b::bs)) R (D ys++(C s++[.dfr (b::bs)])) (Q .normal)):U w0 n (dL bs) R H ((Code.rangeFunc g ps assign body).wpI none P Q):=fun a w q0=>by
 have q:=q0.sub (fun _ _ h=>h) hs
 refine wpIn_rangeFunc ?_
 intro fn _
 obtain ⟨rec,hrec⟩:∃ rec:LoopState→Option Code→Loop,rec=fun st pe=>{ state:=st,pending:=pe,fn,tmps:=a.tmps,params:=ps,assign,body,defers:=w.heap.size }:=⟨_,rfl⟩
 obtain ⟨W1,hW1⟩:∃ W1,(w.alloc (.deferred (some []))).alloc (.loop (rec .ready none))=W1:=⟨_,rfl⟩
 have hs1:W1.heap.size=w.heap.size+2:=by rw [← hW1];simp
 have hL1:W1.heap[w.heap.size+1]?=some (.loop (rec .ready none)):=by
  rw [← hW1];have:=World.alloc_heap_new (w.alloc (.deferred (some []))) (.loop (rec .ready none));rwa [World.size_alloc] at this
 have hK1:W1.heap[w.heap.size]?=some (.deferred (some [])):=by
  rw [← hW1];exact (Below.heap_alloc _ _ _ (by simp)).trans (World.alloc_heap_new w _)
 have hB1:Below w.heap.size w W1:=by
  rw [← hW1];exact ⟨rfl,rfl,rfl,by simp;omega,fun b hb=>(Below.heap_alloc _ _ _ (by simp;omega)).trans (Below.heap_alloc _ _ _ hb)⟩
 have hBw:Below w0.heap.size w0 W1:=q.below.trans (hB1.mono q.base)
 have hO1:Own w0.heap.size W1 (D []++(C s0++[.lrec (w.heap.size+1) (rec .ready none),.dfr (w.heap.size::bs)])):=by
  obtain ⟨p1,p2,p3⟩:=Own.append.1 q.own
  obtain ⟨p4,p5,p6⟩:=Own.append.1 p2
  have hd5:=p5.here (.dfr bs) (by simp)
  have hf5:=p5.foot (.dfr bs) (by simp)
  have b1:=p1.below hB1
  have b4:=p4.below hB1
  have hbs:∀ b,b∈bs→b<w.heap.size:=fun b hb=>(hf5 b hb).2
  refine Own.append.2 ⟨b1,Own.append.2 ⟨b4,⟨fun e he=>?_,fun e he b hb=>?_,?_⟩,fun e he f hf b hb hb'=>?_⟩,fun e he f hf b hb hb'=>?_⟩
  ·simp only [List.mem_cons,List.not_mem_nil,or_false] at he
   rcases he with rfl|rfl
   ·exact hL1
   ·refine ⟨List.nodup_cons.2 ⟨fun hm=>by have:=hbs _ hm;omega,hd5.1⟩,fun b hb=>?_⟩
    rcases List.mem_cons.1 hb with rfl|hb
    ·exact hK1
    ·exact (hB1.block b (hbs b hb)).trans (hd5.2 b hb)
  ·simp only [List.mem_cons,List.not_mem_nil,or_false] at he
   have:=q.base
   rcases he with rfl|rfl
   ·cases hb;omega
   ·rcases List.mem_cons.1 hb with rfl|hb
    ·omega
    ·have:=hf5 b hb;omega
  ·simp only [List.pairwise_cons,List.mem_singleton,forall_eq,List.not_mem_nil,false_implies,implies_true,List.Pairwise.nil,and_true]
   rintro b hb hb'
   cases hb
   rcases List.mem_cons.1 hb' with h|h
   ·omega
   ·have:=hbs _ h;omega
  ·have hlt:=(p4.foot e he b hb).2
   simp only [List.mem_cons,List.not_mem_nil,or_false] at hf
   rcases hf with rfl|rfl
   ·cases hb';omega
   ·rcases List.mem_cons.1 hb' with rfl|h
    ·omega
    ·exact p6 e he (.dfr bs) (by simp) b hb h
  ·have hlt:=(p1.foot e he b hb).2
   rcases List.mem_append.1 hf with hf|hf
   ·exact p3 e he f (List.mem_append_left _ hf) b hb hb'
   ·simp only [List.mem_cons,List.not_mem_nil,or_false] at hf
    rcases hf with rfl|rfl
    ·cases hb';omega
    ·rcases List.mem_cons.1 hb' with rfl|h
     ·omega
     ·exact p3 e he (.dfr bs) (by simp) b hb h
 refine ⟨w.heap.size+1,[{ target:=.collected w.heap.size,args:=#[] }],W1,{ target:=.fn (.func gf) lb.toArray,args:=#[.func (.yield (w.heap.size+1)) #[] #[]] },W1,gf,
  #[.func (.yield (w.heap.size+1)) #[] #[]]++lb.toArray,W1,?_,?_,?_,?_,(fun h=>by cases h),?_⟩
 ·rw [← hW1,hrec];exact run_enterLoop_outer _ _ _ _ _
 ·simp only [resolve,q0.ev hg]
  simp [go_sem]
 ·intro f' _;trivial
 ·simp [invoke,go_sem,ci.ent]
 ·have hseq:=hit ι (w.heap.size+1) I (fun s=>C s++[.lrec (w.heap.size+1) (rec .ready none),.dfr (w.heap.size::bs)]) s0 W1 hBw h0 hO1 ?_
  ·have hc:=hseq.calls
   have e9:(#[.func (.yield (w.heap.size+1)) #[] #[]]++lb.toArray:Array Value)=(.func (.yield (w.heap.size+1)) #[] #[]::lb:List Value).toArray:=by apply Array.ext';simp
   rw [e9]
   refine (zGx (ro:=none) (n:=8) hc).mono ?_
   rintro e W2 ⟨⟨ys,s⟩,⟨hE,hI⟩,rfl,⟨h1,h2,h3,h4⟩,h5,h6,h7⟩
   simp only at hE hI h6 h7
   have h8:Own w0.heap.size W2 (D ys++(C s++[.lrec (w.heap.size+1) (rec .ready none),.dfr (w.heap.size::bs)])):=by
    have hO2:Own w0.heap.size W1 ((D []++(C s0++[.lrec (w.heap.size+1) (rec .ready none),.dfr (w.heap.size::bs)]))++[]):=by
     rw [List.append_nil];exact hO1
    have:=zET hO2 (by have:=q.base;omega) h4 h5 h6 h7
    rwa [List.append_nil] at this
   have hB2:Below w0.heap.size w0 W2:=hBw.trans ⟨h1,h2,h3,h4,fun b hb=>h5 b (by have:=q.base;omega) (by
    rintro ⟨e,he,hS⟩
    have:=(hO1.foot e he b hS).1
    omega)⟩
   have hl2:W2.heap[w.heap.size+1]?=some (.loop (rec .ready none)):=h8.here (.lrec (w.heap.size+1) (rec .ready none)) (by simp)
   have hnb:(rec .ready none).state≠.busy:=by rw [hrec];simp
   have hend2:=run_endLoop (P:=P) hl2 hnb
   have h9:Own w0.heap.size (W2.putObj (w.heap.size+1) (.loop { rec .ready none with state:=.exhausted })) (D ys++(C s++[.dfr (w.heap.size::bs)])):=by
    have hlo:w0.heap.size≤w.heap.size+1:=by have:=q.base;omega
    obtain ⟨p1,p2,p3⟩:=Own.append.1 h8
    obtain ⟨p4,p5,p6⟩:=Own.append.1 p2
    have hne:∀ e∈D ys++(C s++[.dfr (w.heap.size::bs)]),∀ b,e.S b→b≠w.heap.size+1:=by
     rintro e he b hb rfl
     rcases List.mem_append.1 he with he|he
     ·exact p3 e he (.lrec (w.heap.size+1) (rec .ready none)) (by simp) _ hb rfl
     ·rcases List.mem_append.1 he with he|he
      ·exact p6 e he (.lrec (w.heap.size+1) (rec .ready none)) (by simp) _ hb rfl
      ·have:=(List.pairwise_cons.1 p5.apart).1 e (by simpa using he) (w.heap.size+1) rfl hb
       exact this
    have hsub:Own w0.heap.size W2 (D ys++(C s++[.dfr (w.heap.size::bs)])):=by
     refine Own.append.2 ⟨p1,Own.append.2 ⟨p4,p5.tail,fun e he f hf=>p6 e he f (List.mem_cons_of_mem _ hf)⟩,fun e he f hf=>p3 e he f ?_⟩
     rcases List.mem_append.1 hf with hf|hf
     ·exact List.mem_append_left _ hf
     ·exact List.mem_append_right _ (List.mem_cons_of_mem _ hf)
    exact hsub.past (by simp) (fun e he b hb=>World.putObj_heap_other (fun e'=>hne e he b hb e'))
   have hB3:=hB2.trans (zCX (w:=W2) (.loop { rec .ready none with state:=.exhausted }) (show w0.heap.size≤w.heap.size+1 by have:=q.base;omega))
   have hkn:Kn w0 n (dL (w.heap.size::bs)) R (D ys++(C s++[.dfr (w.heap.size::bs)])) { a with defers:=[{ target:=.collected w.heap.size,args:=#[] }]++a.defers } (W2.putObj (w.heap.size+1) (.loop { rec .ready none with state:=.exhausted })) :=
    ⟨q.size,by show _++a.defers=_;rw [q.defers];rfl,q.regs,hB3,h9⟩
   obtain ⟨X,hX⟩:∃ X,X=W2.putObj (w.heap.size+1) (.loop { rec .ready none with state:=.exhausted }):=⟨_,rfl⟩
   rw [← hX] at hend2 hkn
   have hpe:(rec .ready none).pending=none:=by rw [hrec]
   exact ⟨none,X,by rw [hend2,hpe],hdone _ ys s hE hI _ _ hkn⟩
  ·intro ys x s W hN hI hBW hOW
   have hl:W.heap[w.heap.size+1]?=some (.loop (rec .ready none)):=hOW.here (.lrec (w.heap.size+1) (rec .ready none)) (by simp)
   have hy:=run_yield (P:=P) (args:=(enc x).toArray) hl (by rw [hrec];simp [hps])
   refine ⟨_,_,_,_,hy,roundIn_of_wpIn trivial ?_⟩
   have hr:=hround (w.heap.size+1) ys x s (rec .ready none) W hN hI (by rw [hrec]) (by rw [hrec]) hBW { tmps:=(rec .ready none).params.zip (enc x).toArray |>.foldl (fun tmps (t,a)=>tmps.setIfInBounds t a) (rec .ready none).tmps,defers:=[] } W ?_
   ·have hdf:(rec .ready none).defers=w.heap.size:=by rw [hrec]
    have has:(rec .ready none).assign=assign:=by rw [hrec]
    have hbo:(rec .ready none).body=body:=by rw [hrec]
    rw [hdf] at hr
    rw [has,hbo]
    refine wpIn_mono (wpFW hr) ?_
    rintro e a1 W2 hq
    cases e with
    | normal =>
     obtain ⟨w2,hb1,hb2⟩:=hq
     refine ⟨w2,hb1,wpIn_mono hb2 ?_⟩
     intro e a2 W3 hq
     cases e with
     | normal=>exact hq
     | ret=>exact hq
     | exit id=>exact hq
     | goto l=>exact hq
     | panic c=>exact hq.elim
     | outgrown=>exact hq.elim
    | _=>exact hq.elim
   ·refine ⟨?_,rfl,?_,hBW,?_⟩
    ·rw [hrec]
     simp only
     rw [← Array.foldl_toList,zFu];exact q.size
    ·rw [hrec]
     simp only
     rw [← Array.foldl_toList,Array.toList_zip]
     exact zE1 _ _ _ (fun p hp=>by rw [q.size];exact hpn p hp) q.regs
    ·have hdf:(rec .ready none).defers=w.heap.size:=by rw [hrec]
     rw [hdf]
     refine Own.append.2 ⟨hOW,⟨fun e he=>?_,fun e he b hb=>?_,by simp⟩,fun e he f hf b hb hb'=>?_⟩
     ·simp only [List.mem_singleton] at he;subst he;exact ⟨Nat.le_refl _,fun b _=>rfl⟩
     ·simp only [List.mem_singleton] at he;subst he;exact hb.1
     ·simp only [List.mem_singleton] at hf;subst hf;exact hb'.2 ⟨e,he,hb⟩
end
end Go.Proofs.YtcpdjamlhhfbhaaGreat
namespace Go.Proofs.YtcpdjamlhhfbhaaGreat.Two
variable {ro : Option Nat}
open Go.RowKit
set_option maxRecDepth 20000
section
variable {S : List (Nat × Nat)} {I:List (Nat × Nat × Nat × List Ent)} {P:Program} {w0:World} {n:Nat} {d:List Deferred} {R R0:List (Nat × Value)} {H H' H0:List Ent} {Q:Exit→Act→World→Prop} {ops:Array Oper} {bs:List (List Bool)} {b:List Bool} {k:Nat} {o:Oper} {rest:List Oper} {T:List Rw} {t:Tmp} {Hk:zAU→List Ent} {x y:Operand} {v:Value}
theorem c_take {f:zAU→Value × List Ent} (j:Nat) (hjk:(j,k)∈S) (hkI:keyI I k=false) (hl:Loc b k f) (ht:Takes S I P w0 n d ops R0 H0 b k o T f (z8 (only j T))) (h:zAc ro S I P w0 n d ops R0 H0 Q bs (k+1) rest (⟨k,o.dst,f⟩::T)):zAc ro S I P w0 n d ops R0 H0 Q (b::bs) k (o::rest) T :=
 .inl ⟨f,hl,.inr (.inl ⟨hkI,j,hjk,ht⟩),h⟩
theorem c_takeI {f:zAU→Value × List Ent} {E0:List Ent} {lo hi:Nat} (hkE:(k,lo,hi,E0)∈I) (hfree:takes S k=false) (hl:Loc b k f) (ht:Takes S I P w0 n d ops R0 H0 b k o T f (fun _=>E0)) (h:zAc ro S I P w0 n d ops R0 H0 Q bs (k+1) rest (⟨k,o.dst,f⟩::T)):zAc ro S I P w0 n d ops R0 H0 Q (b::bs) k (o::rest) T :=
 .inl ⟨f,hl,.inr (.inr ⟨hfree,lo,hi,E0,hkE,ht⟩),h⟩
theorem zCl {T1:TypeId} {td:TypeDesc} {s off:Nat} {g:Bool} {gx:zAU→Nat} {vy:zAU→Value} {cs:zAU→List Value} {cs':zAU→List Value} (j:Nat) (hjk:(j,k)∈S) (hkI:keyI I k=false) (hop:o.op = .store T1 x y) [i1:TyI P T1 td s g] (hw:∀ G,want (Rk R0 ops b o T G) ops o=some true) (hd:o.dst=none) (hx:∀ G,evR (Rk R0 ops b o T G) x=some (.pointer (some ⟨gx G,off,none⟩))) (hy:∀ G,evR (Rk R0 ops b o T G) y=some (vy G)) (hent:∀ G,z8 (only j T) G=[.blk (gx G) (cs G)])
  (hv:∀ G,Nat.beq (vy G).cells.toList.length s=true) (hv1:∀ G,(vy G).cells.toList.all Value.oneCell'=true) (hl:∀ G,Nat.ble (off+s) (cs G).length=true) (hc:∀ G,put1 (cs G) off (vy G).cells.toList=cs' G) (hg:LocB b k gx) (hcs:LocB b k cs')
  (h:zAc ro S I P w0 n d ops R0 H0 Q bs (k+1) rest (⟨k,none,fun G=>(undef,[.blk (gx G) (cs' G)])⟩::T)):zAc ro S I P w0 n d ops R0 H0 Q (b::bs) k (o::rest) T:=by
 refine c_take (f:=fun G=>(undef,[.blk (gx G) (cs' G)])) j hjk hkI (fun G G' hG=>by simp only [hg.loc G G' hG,hcs.loc G G' hG]) (fun G L a w q ho K hK=>?_) (by rw [hd];exact h)
 rw [hent G] at ho
 refine zEr hop (hw G) hd (hx G) (hy G) (hv G) (hv1 G) (hl G) (hc G) q ho (fun w' hB hO=>?_)
 have:=hK undef [.blk (gx G) (cs' G)] w' ⟨⟨0,none,0⟩,by simp only [hg.up,hcs.up]⟩ hB hO
 rw [hd] at this
 exact this
def partA (A:Option Addr) (c L s:Nat):Option Addr:=if c=L then A else A.map (·.add (L * s))
theorem e_slice {T1 e:TypeId} {td:TypeDesc} {s s' m c:Nat} {g g':Bool} {A:Option Addr} {lo hi:Option Operand} {l u:Int} (L M:Nat) (hop:o.op = .slice T1 x lo hi none) [i1:TyI P T1 (.slice e) s g] [i2:TyI P e td s' g'] (hx:evR R x=some (.slice A m c))
  (hl:bnd R lo 0=some l) (hu:bnd R hi m=some u) (hL:l=(L:Int)) (hM:u=(M:Int)) (h1:L≤M) (h2:M≤c):Ev P w0 n d R H o (.slice (partA A c L s') (M - L) (c - L)):=fun a w q=>by
 subst hL hM
 unfold execOp;rw [hop]
 have e1:=run_underlying i1.und w
 have e2:=i2.siz w
 have b1:∀ (r:Nat) (code:BoundsCode) (z:Nat),z≤r→∀ k,(Instr.sliceBound (.int k (z:Int)) r code).run P w = .ok z w:=fun r code z hz k=>by
  simp [Instr.sliceBound,asIntOf,hz]
 have hlo:(∃ k,lo.map a.eval=some (.int k (L:Int)))∨(lo=none∧L=0):=by
  cases lo with
  | none=>simp only [bnd,Option.some.injEq] at hl;exact .inr ⟨rfl,by omega⟩
  | some y =>
   simp only [bnd] at hl
   cases hy:evR R y with
   | none=>rw [hy] at hl;simp at hl
   | some v =>
    rw [hy] at hl
    cases v<;>simp at hl
    rename_i k i
    subst hl
    exact .inl ⟨k,by simp [q.ev hy]⟩
 have hhi:(∃ k,hi.map a.eval=some (.int k (M:Int)))∨(hi=none∧M=m):=by
  cases hi with
  | none=>simp only [bnd,Option.some.injEq] at hu;exact .inr ⟨rfl,by omega⟩
  | some y =>
   simp only [bnd] at hu
   cases hy:evR R y with
   | none=>rw [hy] at hu;simp at hu
   | some v =>
    rw [hy] at hu
    cases v<;>simp at hu
    rename_i k i
    subst hu
    exact .inl ⟨k,by simp [q.ev hy]⟩
 unfold partA
 rcases hlo with ⟨k1,hlo⟩ | ⟨hlo,rfl⟩<;>rcases hhi with ⟨k2,hhi⟩ | ⟨hhi,rfl⟩ <;>
  simp [Instr.sliceAt,Instr.slice,e1,e2,q.ev hx,Instr.sliceBounds,hlo,hhi,b1,h1,h2]
end
end Go.Proofs.YtcpdjamlhhfbhaaGreat.Two
namespace Go.Proofs.YtcpdjamlhhfbhaaGreat
variable {ro : Option Nat}
open Go.RowKit
open Go.ChangeMaps (setBlock)
set_option linter.unusedSectionVars false
section
variable {K V:Type} [DecidableEq K] {kv:K→Value} {vv:V→Value}
def zDk (kv:K→Value) (vv:V→Value) (x:K × V × Nat):MapEntry:=⟨kv x.1,vv x.2.1,x.2.2⟩
def look : List (K × V × Nat)→K→Option V
 | [],_=>none
 | x::r,k=>if k=x.1 then some x.2.1 else look r k
structure MOk (l:List (K × V × Nat)) (c:Nat):Prop where
 keys:(l.map (·.1)).Nodup
 born:(l.map (·.2.2)).Nodup
 lt:∀ x∈l,x.2.2<c
theorem MOk.nil (c:Nat):MOk ([]:List (K × V × Nat)) c:=⟨by simp,by simp,by simp⟩
end
def Ent.ml {K V:Type} (m:Nat) (kv:K→Value) (vv:V→Value) (l:List (K × V × Nat)) (c:Nat):Ent:=⟨(· = m),fun w=>w.heap[m]?=some (.map (l.map (zDk kv vv)).toArray c),fun _ _ _ h hp=>(h m rfl).trans hp⟩
def Ent.fm {K V:Type} [DecidableEq K] (m:Nat) (kv:K→Value) (vv:V→Value) (f:K→Option V):Ent:=⟨(· = m),fun w=>∃ l c,w.heap[m]?=some (.map (l.map (zDk kv vv)).toArray c)∧MOk l c∧look l=f,fun w w' _ h hp=>by
 obtain ⟨l,c,hp,h1,h2⟩:=hp
 exact ⟨l,c,(h m rfl).trans hp,h1,h2⟩⟩
def Ent.fms {K V:Type} [DecidableEq K] (m:Nat) (kv:K→Value) (vv:V→Value) (f:K→Option V) (k:K) (s:Nat):Ent:=⟨(· = m),fun w=>∃ l c v,w.heap[m]?=some (.map (l.map (zDk kv vv)).toArray c)∧MOk l c∧look l=f∧(k,v,s)∈l,fun w w' _ h hp=>by
 obtain ⟨l,c,v,hp,h1,h2⟩:=hp
 exact ⟨l,c,v,(h m rfl).trans hp,h1,h2⟩⟩
theorem fms_fm {K V:Type} [DecidableEq K] {m:Nat} {kv:K→Value} {vv:V→Value} {f:K→Option V} {k:K} {s:Nat} {w:World}:(Ent.fms m kv vv f k s).p w→(Ent.fm m kv vv f).p w:=fun ⟨l,c,v,h1,h2,h3,_⟩=>⟨l,c,h1,h2,h3⟩
class MapR (H:List Ent) (m:Nat) {K V:Type} [DecidableEq K] (kv:outParam (K→Value)) (vv:outParam (V→Value)) (f:outParam (K→Option V)):Prop where
 rd:∀ base w,Own base w H→∃ l c,w.heap[m]?=some (.map (l.map (zDk kv vv)).toArray c)∧MOk l c∧look l=f
instance mapR_fm {H:List Ent} {m:Nat} {K V:Type} [DecidableEq K] {kv:K→Value} {vv:V→Value} {f:K→Option V}:MapR (.fm m kv vv f::H) m kv vv f:=⟨fun _ _ ho=>ho.here (.fm m kv vv f) (by simp)⟩
instance mapR_fms {H:List Ent} {m:Nat} {K V:Type} [DecidableEq K] {kv:K→Value} {vv:V→Value} {f:K→Option V} {k:K} {s:Nat}:MapR (.fms m kv vv f k s::H) m kv vv f:=⟨fun _ _ ho=>fms_fm (ho.here (.fms m kv vv f k s) (by simp))⟩
instance (priority := low) mapR_there {e:Ent} {H:List Ent} {m:Nat} {K V:Type} [DecidableEq K] {kv:K→Value} {vv:V→Value} {f:K→Option V} [i:MapR H m kv vv f]:MapR (e::H) m kv vv f:=⟨fun b w ho=>i.rd b w ho.tail⟩
section
variable {P : Program} {w0:World} {n:Nat} {d:List Deferred} {R:List (Nat × Value)} {H H' H1 H2:List Ent} {Q:Exit→Act→World→Prop} {ops:Array Oper} {rest:List Oper} {o:Oper} {t:Tmp} {x y z:Operand} {v:Value} {X:Act→World→Prop}
variable {K V:Type} [DecidableEq K] {kv:K→Value} {vv:V→Value} {f:K→Option V}
def Ent.itl (r m c:Nat) (seen:List Nat):Ent:=⟨(· = r),fun w=>w.heap[r]?=some (.mapIter (some m) c seen.toArray c),fun _ _ _ h hp=>(h r rfl).trans hp⟩
theorem own_itl (w:World) (m c:Nat):Own w.heap.size (w.alloc (.mapIter (some m) c #[] c)) [.itl w.heap.size m c []] :=
 ⟨fun e he=>by simp only [List.mem_singleton] at he;subst he;exact heap_alloc_new w _,fun e he b hb=>by simp only [List.mem_singleton] at he;subst he;cases hb;simp,by simp⟩
theorem u_rangeM {T1 kt et:TypeId} {s m c:Nat} {g:Bool} {l:List (K × V × Nat)} (hop:o.op = .range T1 x) [i1:TyI P T1 (.map kt et) s g] (hrd:rdy R ops n o=some t) (hx:evR R x=some (.map (some m))) (hm:Take H (.ml m kv vv l c) H')
  (h:∀ r,U w0 n d ((t,.pointer (some ⟨r,0,none⟩))::R) (.itl r m c []::H) (wpL ro P ops Q rest)):U w0 n d R H (wpL ro P ops Q (o::rest)) :=
 zEE (rW hrd) fun a w q K' hK=>by
  have e1:=run_underlying i1.und w
  have e2:w.heap[m]?=some (.map (l.map (zDk kv vv)).toArray c):=q.own.here _ hm.mem
  unfold Oper.wp execOp;rw [hop]
  have hrun:(Instr.range T1 (.map (some m))).run P w = .ok (.pointer (some ⟨w.heap.size,0,none⟩)) (w.alloc (.mapIter (some m) c #[] c)):=by
   simp [Instr.range,e1,getObj,Sem.run_bind,Sem.run,e2]
  simp only [Sem.run_bind,q.ev hx,hrun,Result.andThen_ok,Sem.run_pure,Oper.upon_value,(rD hrd)]
  exact hK _ _ (h w.heap.size _ _ ((q.call (zk w _) (own_itl w m c)).put (rT hrd)))
theorem u_nextM {m r c:Nat} {seen:List Nat} {l:List (K × V × Nat)} (hop:o.op = .next x false) (hrd:rdy R ops n o=some t) (hx:evR R x=some (.pointer (some ⟨r,0,none⟩))) (htk:Take H (.itl r m c seen) H') (hm:Take H (.ml m kv vv l c) H1) (hl:MOk l c)
  (h1:(∀ x∈l,x.2.2∈seen)→U w0 n d ((t,.tuple #[.bool false])::R) H (wpL ro P ops Q rest))
  (h2:∀ x∈l,x.2.2 ∉ seen→U w0 n d ((t,.tuple #[.bool true,kv x.1,vv x.2.1])::R) (.itl r m c (seen++[x.2.2])::H') (wpL ro P ops Q rest)):U w0 n d R H (wpL ro P ops Q (o::rest)) :=
 zEE (rW hrd) fun a w q K' hK=>by
  have e2:w.heap[m]?=some (.map (l.map (zDk kv vv)).toArray c):=q.own.here _ hm.mem
  have ho:=q.own.take htk
  have hr:w.heap[r]?=some (.mapIter (some m) c seen.toArray c):=ho.here (.itl r m c seen) (by simp)
  have hfoot:=ho.foot (.itl r m c seen) (by simp) r rfl
  have hold:∀ x∈((l.map (zDk kv vv)).toArray).toList,x.born<c:=fun x hx=>by
   simp only [List.mem_map] at hx
   obtain ⟨y,hy,rfl⟩:=hx
   exact hl.lt y hy
  unfold Oper.wp execOp;rw [hop]
  rcases run_next_at (P:=P) w o.type r m c c seen.toArray (l.map (zDk kv vv)).toArray c hr e2 hold (Nat.le_refl _) with ⟨h0,hrun⟩ | ⟨e,he,w1,hw1,hrun⟩
  ·simp only [Sem.run_bind,q.ev hx,hrun,Result.andThen_ok,Sem.run_pure,Oper.upon_value,(rD hrd)]
   refine hK _ _ (h1 (fun y hy=>?_) _ _ (q.put (rT hrd)))
   have h9:leftOf (l.map (zDk kv vv)).toArray seen.toArray=#[]:=Array.eq_empty_of_size_eq_zero h0
   unfold leftOf at h9
   rw [Array.filter_eq_empty_iff] at h9
   have:=h9 (zDk kv vv y) (by simp only [List.mem_toArray,List.mem_map];exact ⟨y,hy,rfl⟩)
   simpa [zDk] using this
  ·have he':e∈l.map (zDk kv vv)∧e.born ∉ seen:=by
    unfold leftOf at he
    simpa using he
   obtain ⟨y,hy,rfl⟩:=List.mem_map.1 he'.1
   simp only [Sem.run_bind,q.ev hx,hrun,Result.andThen_ok,Sem.run_pure,Oper.upon_value,(rD hrd)]
   refine hK _ _ (h2 y hy he'.2 _ _ ((q.heap (q.below.trans ?_) (ho.turn ?_ ?_ q.base ?_ ?_)).put (rT hrd)))
   ·rcases hw1 with rfl|rfl<;>exact ⟨rfl,rfl,rfl,by simp [setBlock],fun b hb=>by
     simp only [setBlock]
     rw [Array.getElem?_setIfInBounds_ne (by have:=hfoot.1;omega)]
     try rfl⟩
   ·rcases hw1 with rfl|rfl<;>simp [setBlock]
   ·intro b hb hn
    have hne:r≠b:=fun e=>hn e.symm
    rcases hw1 with rfl|rfl<;>(simp only [setBlock];rw [Array.getElem?_setIfInBounds_ne hne];try rfl)
   ·rcases hw1 with rfl|rfl<;>simp [Ent.itl,setBlock,zDk,hfoot.2]
   ·intro b hb
    cases hb
    refine ⟨.inl rfl,?_⟩
    rcases hw1 with rfl|rfl<;>simp [setBlock,hfoot.2]
end
section
variable {P : Program} {w0:World} {n:Nat} {d:List Deferred} {R:List (Nat × Value)} {H H':List Ent} {Q:Exit→Act→World→Prop} {ops:Array Oper} {o:Oper} {K:Act→World→Prop}
def qk (K:Act→World→Prop):Exit→Act→World→Prop:=fun e a w=>match e with | .normal=>K a w | _=>False
abbrev wpA (ro:Option Nat) (P:Program) (ops:Array Oper) (Q:Exit→Act→World→Prop) (fuel:Nat) (listed:Array Bool):Act→World→Prop:=wpAnyIn (FW ro) 9 P .any ops Q fuel listed
inductive AllU (w0:World) (n:Nat) (d:List Deferred) (R:List (Nat × Value)) (H:List Ent) (ro:Option Nat) (P:Program) (ops:Array Oper) (Q:Exit→Act→World→Prop) (fuel:Nat) (listed:Array Bool):List Nat→Prop
 | nil:AllU w0 n d R H ro P ops Q fuel listed []
 | cons {i:Nat} {l:List Nat} {o:Oper} (ho:ops[i]?=some o) (h:U w0 n d R H (wpL ro P ops (qk (wpA ro P ops Q fuel (listed.setIfInBounds i true))) [o])) (hr:AllU w0 n d R H ro P ops Q fuel listed l):AllU w0 n d R H ro P ops Q fuel listed (i::l)
end
end Go.Proofs.YtcpdjamlhhfbhaaGreat
