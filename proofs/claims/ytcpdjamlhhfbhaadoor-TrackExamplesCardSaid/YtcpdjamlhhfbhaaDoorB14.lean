/- B14 -/
import Derived.Test.YtcpdjamlhhfbhaaDoorB5
import Derived.Test.YtcpdjamlhhfbhaaDoorB12
import Derived.Test.YtcpdjamlhhfbhaaDoorB13
import Derived.Test.YtcpdjamlhhfbhaaDoorB10
import Derived.Test.YtcpdjamlhhfbhaaDoorB8
set_option linter.unusedSimpArgs false
set_option linter.unusedVariables false
namespace Go.Proofs.YtcpdjamlhhfbhaaDoor
variable {ro : Option Nat}
open Go.RowKit
set_option maxRecDepth 20000
def Wit.off (x:Wit):Nat:=match x.A with|some a=>a.off|none=>0
end Go.Proofs.YtcpdjamlhhfbhaaDoor
namespace Go.Proofs.YtcpdjamlhhfbhaaDoor
variable {ro : Option Nat}
open Go.RowKit
set_option maxRecDepth 20000
def zBC (s:Spot):List Value:=[.int .i64 s.st,.int .i64 s.off.lo,.int .i64 s.off.hi]
def zDS (s:Spot):Value:=.agg #[.int .i64 s.st,.int .i64 s.off.lo,.int .i64 s.off.hi]
theorem one_spot (x:Spot):∀ u∈zBC x,u.oneCell'=true:=by simp [zBC,Value.oneCell']
instance : zDh zBC 3:=⟨fun _=>rfl,one_spot⟩
set_option maxHeartbeats 2000000 in
theorem pickSpot (l:List Spot) (A:Option Addr) (cap:Nat) (kf:FuncId) [zR Tryd.prog kf] (cs:Array Value) (p:Nat→Spot→Bool) (w:World) (hk:zS zBC 3 w A l) (hl:l.length≤100000)
  (hp:∀ (i:Nat) x W,l[i]?=some x→Below w.heap.size w W→Gv Tryd.prog kf ([.int .i64 (i:Int),zDS x]++cs.toList) W (.bool (p i x))) :
  zAh encI 1 (picks p l) (fun v=>v) Tryd.prog 54 [.slice A l.length cap,.func (.func kf) #[] cs] w:=by
 unfold zAh
 (refine zH (n:=25) Tryd.func54 rfl rfl rfl ?_)
 (repeat' (first|((with_reducible refine zI ?_);first|refine zF rfl rfl rfl ?_|refine zD rfl rfl rfl ?_|refine zAx rfl rfl rfl ?_)|(with_reducible first|refine zJ ?_|refine zC ?_|refine zG ?_|refine zA ?_|refine zb ?_)))
 refine zCQ encI 1 3 ?_
 refine zAc (ι:=Nat × Value) (fun i=>i.1≤l.length) (fun i=>[(1,.func (.func kf) #[] cs),(5,i.2),(8,.slice A l.length cap),(9,.int .i64 (l.length:Int)),(10,.int .i64 (i.1:Int))]) (fun i=>[.row encI 1 3 i.2 (z0 p l i.1)]) (fun i=>l.length - i.1) (0,.slice none 0 0) (Nat.zero_le _) (by (repeat first|exact lK1|refine zW rfl ?_)) (by (repeat constructor)) ?_
 rintro ⟨i,v⟩ hi
 simp only at hi ⊢
 have hpl:=zBN p l i
 by_cases hlt:i<l.length
 ·have hx:l[i]?=some l[i]:=by simp [hlt]
  obtain ⟨b,o,rfl,hblt,hc⟩:=hk.at_ hlt
  have:InS w b o zBC 3 l:=⟨hk⟩
  have:zCG l i l[i]:=⟨hx⟩
  have hso:zCe p l i=p i l[i]:=by simp [zCe,hlt]
  (repeat' (first|((with_reducible refine zI ?_);first|refine zF rfl rfl rfl ?_|refine zD rfl rfl rfl ?_|(refine zf rfl rfl rfl ?_;refine ⟨_,rfl,?_⟩)|(refine zT rfl rfl rfl rfl rfl (fun h=>?_) (fun h=>?_)<;>(dsimp only [cmpP] at h;(try (exfalso;omega))))|(refine zBj rfl rfl rfl rfl (fun _ _ q=>hp i _ _ hx q.below) (fun h=>?_) (fun h=>?_)<;>(try (exfalso;omega)))|(refine zBk (enc:=encI) [_] rfl rfl rfl (by (repeat constructor)) rfl rfl (zAu (by exact rfl)) (by refine ⟨?_,by decide⟩;(try simp only [List.length_append,List.length_cons,List.length_nil]);omega) (fun A' c'=>?_))|refine zAY rfl rfl rfl rfl (by omega) ?_|refine zBv rfl rfl rfl rfl rfl (by omega) ?_|(refine zQ rfl rfl rfl rfl rfl ?_;refine ⟨rfl,by first|decide|exact Nat.le_of_ble_eq_true rfl|(simp;omega),_,rfl,?_⟩)|(refine zV rfl rfl (fun b=>?_))|(refine zi rfl rfl rfl ?_;refine ⟨rfl,_,rfl,fun b=>?_⟩))|(with_reducible first|refine zJ ?_|refine zC ?_|refine zG ?_|refine zA ?_|refine ze ?_|refine zb ?_|refine zAL ?_)|((with_reducible refine zM ?_ ?_);(· exact rfl))|((with_reducible refine zL ?_ ?_);(· exact rfl))))
  ·refine zm (i+1,.slice A' (z0 p l i++[(i:Int)]).length c') (by simp only;omega) (by simp only;omega) (by (repeat first|exact lK1|refine zW rfl ?_)) ?_
   rw [zAq (hso.trans h)]
   (repeat constructor)
  ·refine zm (i+1,v) (by simp only;omega) (by simp only;omega) (by (repeat first|exact lK1|refine zW rfl ?_)) ?_
   rw [zA2 (hso.trans h)]
   (repeat constructor)
 ·obtain rfl:i=l.length:=by omega
  (repeat' (first|((with_reducible refine zI ?_);first|refine zF rfl rfl rfl ?_|refine zD rfl rfl rfl ?_|(refine zT rfl rfl rfl rfl rfl (fun h=>?_) (fun h=>?_)<;>(dsimp only [cmpP] at h;(try (exfalso;omega)))))|(with_reducible first|refine zJ ?_|refine zC ?_|refine zG ?_|refine zA ?_|refine zg ?_|refine zAd ?_|refine zo ?_|refine zx ?_)|((with_reducible refine zL ?_ ?_);(· exact rfl))))
  refine zBa (enc:=encI) (by (repeat constructor)) ?_
  rintro A' c' rfl
  exact zP (by exact rTm rfl) (A',c') trivial rfl (fun _ h=>(h.zEF (by (repeat constructor))).sub (by (repeat constructor)))
def zAM (t:List St) (s:Spot):Bool:=inB 0 (t.length - 1) s.st && match t[s.st.toNat]? with|some o=>zB5 s.off 0 (o.long.lo - 1)|none=>false
def zBl (t:List St) (_:Nat) (s:Spot):Bool:=!zAM t s
theorem zFa {t:List St} {I:Nat} {off:Sp} (h:I<t.length):zAM t ⟨I,off⟩=zB5 off 0 (t[I].long.lo - 1):=by
 have h1:inB 0 (t.length - 1) (I:Int)=true:=zAS.2 (by omega)
 simp [zAM,h1,h]
theorem zG3 {t:List St} {s:Spot} (h:¬ (0≤s.st∧s.st≤(t.length:Int) - 1)):zAM t s=false:=by
 have h1:=zCl.2 h
 simp [zAM,h1]
theorem zCd {t:List St} {s:Spot} (h:zAM t s=true):∃ I:Nat,s.st=I∧I<t.length:=by
 simp only [zAM,Bool.and_eq_true,zAS] at h
 exact ⟨s.st.toNat,by omega,by omega⟩
set_option maxHeartbeats 1000000 in
theorem zGO (t:List St) (A:Option Addr) (cap k:Nat) (s:Spot) (b:Nat) (w:World) (ht:zS zO 9 w A t) (ho:∀ s∈t,zDB s) (hl:t.length≤1000) (h1:InC w b 0 [.slice A t.length cap]) :
  Gv Tryd.prog 55 [.int .i64 (k:Int),zDS s,.pointer (some ⟨b,0,none⟩)] w (.bool (zBl t k s)):=by
 unfold Gv zDS
 obtain ⟨st,off⟩:=s
 by_cases h:0≤st∧st≤(t.length:Int) - 1
 ·obtain ⟨I,rfl⟩:∃ I:Nat,st=I:=⟨st.toNat,by omega⟩
  have hI:I<t.length:=by omega
  have hso:zBl t k ⟨(I:Int),off⟩ = !zB5 off 0 (t[I].long.lo - 1):=by rw [zBl,zFa hI]
  rw [hso]
  have:zCG t I t[I]:=⟨by simp [hI]⟩
  obtain ⟨bb,o,rfl,hblt,hc⟩:=ht.at_ hI
  have:InS w bb o zO 9 t:=⟨ht⟩
  obtain ⟨y1,y2,y3,y4,y5,y6,y7,y8⟩:=ho t[I] (List.getElem_mem hI)
  generalize t[I]=z at *
  (refine zH (n:=32) Tryd.func55 rfl rfl rfl ?_)
  (repeat' (first|((with_reducible refine zI ?_);first|refine zD rfl rfl rfl ?_|(refine zAD rfl rfl rfl rfl (fun b=>?_)))|(with_reducible first|refine zJ ?_|refine zC ?_|refine zG ?_|refine zA ?_)))
  (refine Two.zAU [] [] [] rfl (show ([]:List Nat).Nodup by decide) (fun _ h=>h) (by kernel_rfl) [[],[Z],[Z,Z],[Z,Z,Z],[Z,Z,Z,Z],[Y,Y,Y,Y,Y],[Z,Y,Y,Y,Y,Y],[Z,Z,Y,Y,Y,Y,Y],[Z,Z,Z,Z,Z,Z,Z,Z],[Z,Z,Z,Z,Z,Z,Z,Z,Z],[Z,Z,Z,Z,Z,Z,Z,Z,Z,Z],[Z,Z,Z,Z,Z,Z,Z,Z,Z,Z,Z],[Z,Z,Z,Z,Z,Z,Z,Z,Z,Z,Z,Z],[Y,Y,Z,Z,Z,Z,Z,Z,Z,Z,Z,Z,Z],[Z,Y,Y,Z,Z,Z,Z,Z,Z,Z,Z,Z,Z,Z],[Z,Z,Y,Y,Z,Z,Z,Z,Z,Z,Z,Z,Z,Z,Z],[Y,Y,Y,Y,Y,Z,Z,Z,Z,Z,Z,Z,Z,Z,Z,Z],[Z,Y,Y,Y,Y,Y,Z,Z,Z,Z,Z,Z,Z,Z,Z,Z,Z],[Z,Z,Z,Z,Z,Y,Y,Z,Z,Z,Z,Z,Z,Z,Z,Z,Z,Z],[Z,Z,Z,Z,Z,Z,Y,Y,Z,Z,Z,Z,Z,Z,Z,Z,Z,Z,Z],[Z,Z,Z,Z,Z,Z,Z,Y,Y,Z,Z,Z,Z,Z,Z,Z,Z,Z,Z,Z],[Z,Z,Z,Z,Z,Z,Z,Z,Y,Y,Z,Z,Z,Z,Z,Z,Z,Z,Z,Z,Z],[Z,Z,Z,Z,Z,Z,Z,Z,Z,Y,Y,Z,Z,Z,Z,Z,Z,Z,Z,Z,Z,Z],[Z,Z,Z,Z,Z,Z,Z,Z,Z,Z,Z,Z,Z,Z,Z,Z,Z,Z,Z,Z,Z,Z,Z],[Z,Z,Z,Z,Z,Z,Z,Z,Z,Z,Z,Z,Z,Z,Z,Z,Z,Z,Z,Z,Z,Z,Z,Z],[Z,Z,Z,Z,Z,Z,Z,Z,Z,Z,Z,Z,Z,Z,Z,Z,Z,Z,Z,Z,Z,Z,Z,Z,Z],[Z,Z,Z,Z,Z,Z,Z,Z,Z,Z,Z,Z,Z,Z,Z,Z,Z,Z,Z,Z,Z,Z,Z,Z,Z,Z]] (by kernel_rfl) (by kernel_rfl) (by kernel_rfl) (by kernel_rfl) (by kernel_rfl) ?_)
  (repeat' (first|(((with_reducible refine Two.zB0 ?_ ?_);(· exact rfl);refine ⟨_,fun G=>(by (try simp (decide:=true) only [Two.vis,Two.see,fltT,zc,Nat.reduceAdd,Nat.reduceSub,if_true,if_false,List.set_cons_zero,List.set_cons_succ,List.set_nil,List.nil_append,List.cons_append]);rfl),?_⟩);first|refine Two.zK _ (fun _=>zA5 rfl rfl) (fun _=>rfl) rfl (by intro G G' h;simp (decide:=true) only [h]) ?_|refine Two.zK _ (fun _=>zAA rfl rfl (by exact rfl)) (fun _=>rfl) rfl (by intro G G' h;simp (decide:=true) only [h]) ?_|(refine Two.zAE rfl ?_;refine Two.zK _ (fun _=>zAb rfl rfl) (fun _=>rfl) rfl (by intro G G' h;simp (decide:=true) only [h]) ?_)|refine Two.zK _ (fun _=>zDc rfl rfl rfl) (fun _=>rfl) rfl (by intro G G' h;simp (decide:=true) only [h]) ?_|refine Two.zK _ (fun _=>zCA rfl rfl) (fun _=>rfl) rfl (by intro G G' h;simp (decide:=true) only [h]) ?_|(refine Two.zFO rfl (fun _=>rfl) rfl (fun _=>rfl) (fun _=>rfl) (fun _ _ _ q=>in1 _ _ _ _ _ _ (zAu (enc:=encI) (by exact rfl) _ q.below q.own)) (fun h=>?_) (fun h=>?_)<;>((try simp only [zAS,zCl,zA4,zCU] at h);(try (exfalso;omega))))|(refine Two.zFO rfl (fun _=>rfl) rfl (fun _=>rfl) (fun _=>rfl) (fun _ _ _ _=>(zEK off 0 _ _).gv) (fun h=>?_) (fun h=>?_)<;>((try simp only [zAS,zCl,zA4,zCU] at h);(try (exfalso;omega))))|refine Two.zK _ (fun _=>e_not rfl rfl) (fun _=>rfl) rfl (by intro G G' h;simp (decide:=true) only [h]) ?_|refine Two.zK _ (fun _=>e_sub rfl rfl rfl (IntWalk.i64_in _ (by omega))) (fun _=>rfl) rfl (by intro G G' h;simp (decide:=true) only [h]) ?_|refine Two.zK _ (fun _=>zBU rfl rfl rfl rfl (by omega)) (fun _=>rfl) rfl (by intro G G' h;simp (decide:=true) only [h]) ?_|refine Two.zK _ (fun _=>zGp rfl rfl) (fun _=>rfl) rfl (by intro G G' h;simp (decide:=true) only [h]) ?_|refine Two.zAw rfl (fun _=>rfl) rfl (fun _=>rfl) (by exact rfl) (by exact fun _=>rfl) (by intro G G' h;simp (decide:=true) only [h]) ?_)|(with_reducible refine Two.zEd ?_)))
  all_goals
   (intro G;simp only [regsT,zc,Two.zAR,Two.ini,List.nil_append,List.cons_append])
   (repeat' (first|(with_reducible first|refine zA ?_|refine zg ?_)))
   exact zP (by exact rTm rfl) () trivial (by first|exact congrArg Value.bool (by rw [zA4.2 (by omega)])|exact congrArg Value.bool (by rw [zCU.2 (by omega)])) (fun _ h=>h.sub (by (repeat constructor)))
 ·have hso:zBl t k ⟨st,off⟩=true:=by rw [zBl,zG3 h];rfl
  rw [hso]
  (refine zH (n:=32) Tryd.func55 rfl rfl rfl ?_)
  (repeat' (first|((with_reducible refine zI ?_);first|refine zD rfl rfl rfl ?_|(refine zAD rfl rfl rfl rfl (fun b=>?_)))|(with_reducible first|refine zJ ?_|refine zC ?_|refine zG ?_|refine zA ?_)))
  (refine Two.zAU [] [] [] rfl (show ([]:List Nat).Nodup by decide) (fun _ h=>h) (by kernel_rfl) [[],[Z],[Z,Z],[Z,Z,Z],[Z,Z,Z,Z],[Y,Y,Y,Y,Y],[Z,Y,Y,Y,Y,Y],[Z,Z,Y,Y,Y,Y,Y],[Z,Z,Z,Z,Z,Z,Z,Z],[Z,Z,Z,Z,Z,Z,Z,Z,Z],[Z,Z,Z,Z,Z,Z,Z,Z,Z,Z],[Z,Z,Z,Z,Z,Z,Z,Z,Z,Z,Z],[Z,Z,Z,Z,Z,Z,Z,Z,Z,Z,Z,Z],[Y,Y,Z,Z,Z,Z,Z,Z,Z,Z,Z,Z,Z],[Z,Y,Y,Z,Z,Z,Z,Z,Z,Z,Z,Z,Z,Z],[Z,Z,Y,Y,Z,Z,Z,Z,Z,Z,Z,Z,Z,Z,Z],[Y,Y,Y,Y,Y,Z,Z,Z,Z,Z,Z,Z,Z,Z,Z,Z],[Z,Y,Y,Y,Y,Y,Z,Z,Z,Z,Z,Z,Z,Z,Z,Z,Z],[Z,Z,Z,Z,Z,Y,Y,Z,Z,Z,Z,Z,Z,Z,Z,Z,Z,Z],[Z,Z,Z,Z,Z,Z,Y,Y,Z,Z,Z,Z,Z,Z,Z,Z,Z,Z,Z],[Z,Z,Z,Z,Z,Z,Z,Y,Y,Z,Z,Z,Z,Z,Z,Z,Z,Z,Z,Z],[Z,Z,Z,Z,Z,Z,Z,Z,Y,Y,Z,Z,Z,Z,Z,Z,Z,Z,Z,Z,Z],[Z,Z,Z,Z,Z,Z,Z,Z,Z,Y,Y,Z,Z,Z,Z,Z,Z,Z,Z,Z,Z,Z],[Z,Z,Z,Z,Z,Z,Z,Z,Z,Z,Z,Z,Z,Z,Z,Z,Z,Z,Z,Z,Z,Z,Z],[Z,Z,Z,Z,Z,Z,Z,Z,Z,Z,Z,Z,Z,Z,Z,Z,Z,Z,Z,Z,Z,Z,Z,Z],[Z,Z,Z,Z,Z,Z,Z,Z,Z,Z,Z,Z,Z,Z,Z,Z,Z,Z,Z,Z,Z,Z,Z,Z,Z],[Z,Z,Z,Z,Z,Z,Z,Z,Z,Z,Z,Z,Z,Z,Z,Z,Z,Z,Z,Z,Z,Z,Z,Z,Z,Z]] (by kernel_rfl) (by kernel_rfl) (by kernel_rfl) (by kernel_rfl) (by kernel_rfl) ?_)
  (repeat' (first|(((with_reducible refine Two.zB0 ?_ ?_);(· exact rfl);refine ⟨_,fun G=>(by (try simp (decide:=true) only [Two.vis,Two.see,fltT,zc,Nat.reduceAdd,Nat.reduceSub,if_true,if_false,List.set_cons_zero,List.set_cons_succ,List.set_nil,List.nil_append,List.cons_append]);rfl),?_⟩);first|refine Two.zK _ (fun _=>zA5 rfl rfl) (fun _=>rfl) rfl (by intro G G' h;simp (decide:=true) only [h]) ?_|refine Two.zK _ (fun _=>zAA rfl rfl (by exact rfl)) (fun _=>rfl) rfl (by intro G G' h;simp (decide:=true) only [h]) ?_|(refine Two.zAE rfl ?_;refine Two.zK _ (fun _=>zAb rfl rfl) (fun _=>rfl) rfl (by intro G G' h;simp (decide:=true) only [h]) ?_)|refine Two.zK _ (fun _=>zDc rfl rfl rfl) (fun _=>rfl) rfl (by intro G G' h;simp (decide:=true) only [h]) ?_|refine Two.zK _ (fun _=>zCA rfl rfl) (fun _=>rfl) rfl (by intro G G' h;simp (decide:=true) only [h]) ?_|refine Two.zD0 (fun _=>rfl) rfl ?_|(refine Two.zFO rfl (fun _=>rfl) rfl (fun _=>rfl) (fun _=>rfl) (fun _ _ _ q=>in1 _ _ _ _ _ _ (zAu (enc:=encI) (by exact rfl) _ q.below q.own)) (fun h=>?_) (fun h=>?_)<;>((try simp only [zAS,zCl,zA4,zCU] at h);(try (exfalso;omega))))|refine Two.zK _ (fun _=>e_not rfl rfl) (fun _=>rfl) rfl (by intro G G' h;simp (decide:=true) only [h]) ?_|refine Two.zK _ (fun _=>e_sub rfl rfl rfl (IntWalk.i64_in _ (by omega))) (fun _=>rfl) rfl (by intro G G' h;simp (decide:=true) only [h]) ?_|refine Two.zK _ (fun _=>zGp rfl rfl) (fun _=>rfl) rfl (by intro G G' h;simp (decide:=true) only [h]) ?_|refine Two.zAw rfl (fun _=>rfl) rfl (fun _=>rfl) (by exact rfl) (by exact fun _=>rfl) (by intro G G' h;simp (decide:=true) only [h]) ?_)|(with_reducible refine Two.zEd ?_)))
  (intro G;simp only [regsT,zc,Two.zAR,Two.ini,List.nil_append,List.cons_append])
  (repeat' (first|(with_reducible first|refine zA ?_|refine zg ?_)))
  exact zP (by exact rTm rfl) () trivial rfl (fun _ h=>h.sub (by (repeat constructor)))
end Go.Proofs.YtcpdjamlhhfbhaaDoor
namespace Go.Proofs.YtcpdjamlhhfbhaaDoor
open Go.RowKit
set_option maxRecDepth 20000
theorem zEA {t:List St} {s:Spot} (h:zAM t s=true) (ho:∀ s∈t,zDB s):0≤s.off.lo∧s.off.lo≤s.off.hi∧s.off.hi≤30000:=by
 obtain ⟨I,hI,hlt⟩:=zCd h
 obtain ⟨st,off⟩:=s
 simp only at hI ⊢
 subst hI
 rw [zFa hlt,zA4] at h
 have:=(ho t[I] (List.getElem_mem hlt)).l1
 have:=(ho t[I] (List.getElem_mem hlt)).l2
 omega
theorem stand_1 (t:List St) (s:Spot):decide ((picks (zBl t) [s]).length=0)=zAM t s:=by
 have e:picks (zBl t) [s]=z0 (zBl t) [s] (0+1):=rfl
 have h0:zCe (zBl t) [s] 0 = !zAM t s:=rfl
 rw [e]
 cases h:zAM t s
 ·rw [zAq (by rw [h0,h];rfl)];simp
 ·rw [zA2 (by rw [h0,h];rfl)];simp [z0]
theorem stand_2 (t:List St) (a b:Spot):decide ((picks (zBl t) [a,b]).length=0)=(zAM t a && zAM t b):=by
 have e:picks (zBl t) [a,b]=z0 (zBl t) [a,b] (0+1+1):=rfl
 have h0:zCe (zBl t) [a,b] 0 = !zAM t a:=rfl
 have h1:zCe (zBl t) [a,b] (0+1) = !zAM t b:=rfl
 rw [e]
 cases h:zAM t b
 ·rw [zAq (by rw [h1,h];rfl)];simp
 ·rw [zA2 (by rw [h1,h];rfl)]
  cases h2:zAM t a
  ·rw [zAq (by rw [h0,h2];rfl)];simp
  ·rw [zA2 (by rw [h0,h2];rfl)];simp [z0]
set_option maxHeartbeats 1000000 in
theorem zEv (t:List St) (A:Option Addr) (cap:Nat) (ss:List Spot) (B:Option Addr) (c:Nat) (w:World) (ht:zS zO 9 w A t) (ho:∀ s∈t,zDB s) (hl:t.length≤1000) (hs:zS zBC 3 w B ss) (hsl:ss.length≤1000) :
  Gv Tryd.prog 34 [.agg #[.slice A t.length cap],.slice B ss.length c] w (.bool (decide ((picks (zBl t) ss).length=0))):=by
 unfold Gv
 have hpl:(picks (zBl t) ss).length≤ss.length:=zBN _ _ _
 (refine zH (n:=10) Tryd.func34 rfl rfl rfl ?_)
 (repeat' (first|((with_reducible refine zI ?_);first|refine zF rfl rfl rfl ?_|refine zD rfl rfl rfl ?_|(refine zT rfl rfl rfl rfl rfl (fun h=>?_) (fun h=>?_)<;>(dsimp only [cmpP] at h;(try (exfalso;omega))))|refine zz rfl rfl rfl rfl (fun _ _ q=>(pickSpot ss _ _ _ _ (zBl t) _ (hs.below q.below) (by omega) (fun k o W hx hW=>zGO t A cap k o _ W ((ht.below q.below).below hW) ho hl (zBW q.own hW)))) (fun A' c'=>?_)|refine zAx rfl rfl rfl ?_|(refine zAD rfl rfl rfl rfl (fun b=>?_))|refine zA0 rfl rfl rfl rfl ?_)|(with_reducible first|refine zJ ?_|refine zC ?_|refine zG ?_|refine zA ?_|refine zg ?_)))
 all_goals exact zP (by exact rTm rfl) () trivial (by first|exact congrArg Value.bool (decide_eq_true (by omega))|exact congrArg Value.bool (decide_eq_false (by omega))) (fun _ h=>h.sub (by (repeat constructor)))
theorem stands_1 (t:List St) (A:Option Addr) (cap:Nat) (s:Spot) (B:Option Addr) (w:World) (ht:zS zO 9 w A t) (ho:∀ s∈t,zDB s) (hl:t.length≤1000) (hs:zS zBC 3 w B [s]) :
  Gv Tryd.prog 34 [.agg #[.slice A t.length cap],.slice B 1 1] w (.bool (zAM t s)):=by
 rw [← stand_1];exact zEv t A cap [s] B 1 w ht ho hl hs (by simp)
theorem stands_2 (t:List St) (A:Option Addr) (cap:Nat) (a b:Spot) (B:Option Addr) (w:World) (ht:zS zO 9 w A t) (ho:∀ s∈t,zDB s) (hl:t.length≤1000) (hs:zS zBC 3 w B [a,b]) :
  Gv Tryd.prog 34 [.agg #[.slice A t.length cap],.slice B 2 2] w (.bool (zAM t a && zAM t b)):=by
 rw [← stand_2];exact zEv t A cap [a,b] B 2 w ht ho hl hs (by simp)
def zBZ (s:Sp):Sp:=⟨-s.hi,-s.lo⟩
theorem zFA (s:Sp) (w:World) (h:near 1000000000000 s):Gv Tryd.prog 45 [vSp s] w (vSp (zBZ s)):=by
 unfold Gv vSp
 obtain ⟨h1,h2,h3,h4⟩:=h
 (refine zH (n:=10) Tryd.func45 rfl rfl rfl ?_)
 (repeat' (first|((with_reducible refine zI ?_);first|(refine zf rfl rfl rfl ?_;refine ⟨_,rfl,?_⟩)|refine zAQ rfl rfl rfl ?_|(refine zQ rfl rfl rfl rfl rfl ?_;refine ⟨rfl,by first|decide|exact Nat.le_of_ble_eq_true rfl|(simp;omega),_,rfl,?_⟩)|(refine zV rfl rfl (fun b=>?_))|(refine zAD rfl rfl rfl rfl (fun b=>?_))|(refine zAH rfl rfl rfl ?_;refine ⟨_,rfl,?_⟩)|refine u_neg rfl rfl rfl (by rw [Int.zero_sub];exact IntWalk.i64_in _ (by omega)) ?_)|(with_reducible first|refine zJ ?_|refine zC ?_|refine zG ?_|refine zA ?_|refine zg ?_)))
 exact zP (by (exact zY.cons (by exact res1c rfl (by exact rfl)) zY.nil)) () trivial rfl (fun _ h=>h.sub (by (repeat constructor)))
def atT (t:List St) (s:Spot):Sp:=if valid t && zAM t s then zAT (mark t s.st.toNat) s.off else ⟨0,0⟩
def errA (t:List St) (s:Spot):Int:=if valid t then (if zAM t s then 0 else 12) else 10
set_option maxHeartbeats 1000000 in
theorem at_any (t:List St) (A:Option Addr) (cap:Nat) (s:Spot) (w:World) (ht:zS zO 9 w A t) (hf:zCb t) (hl:t.length≤1000) :
  Gv Tryd.prog 13 [.agg #[.slice A t.length cap],zDS s] w (.tuple #[vSp (atT t s),.int .i64 (errA t s)]):=by
 unfold Gv zDS
 have h1:=fun W (h:Below w.heap.size w W)=>zE5 t A cap W (ht.below h) hf (by omega)
 cases hv:valid t
 ·have e1:atT t s=⟨0,0⟩:=by simp [atT,hv]
  have e2:errA t s=10:=by simp [errA,hv]
  rw [e1,e2]
  rw [zBz hv] at h1
  (refine zH (n:=37) Tryd.func13 rfl rfl rfl ?_)
  (repeat' (first|((with_reducible refine zI ?_);first|refine zF rfl rfl rfl ?_|refine zD rfl rfl rfl ?_|(refine zf rfl rfl rfl ?_;refine ⟨_,rfl,?_⟩)|(refine zT rfl rfl rfl rfl rfl (fun h=>?_) (fun h=>?_)<;>(dsimp only [cmpP] at h;(try (exfalso;omega))))|refine zN rfl rfl rfl rfl (fun _ _ q=>h1 _ q.below) ?_|refine zZ rfl rfl rfl rfl ?_|(refine zQ rfl rfl rfl rfl rfl ?_;refine ⟨rfl,by first|decide|exact Nat.le_of_ble_eq_true rfl|(simp;omega),_,rfl,?_⟩)|(refine zV rfl rfl (fun b=>?_))|(refine zAD rfl rfl rfl rfl (fun b=>?_))|(refine zAH rfl rfl rfl ?_;refine ⟨_,rfl,?_⟩))|(with_reducible first|refine zJ ?_|refine zC ?_|refine zG ?_|refine zA ?_|refine zg ?_|refine zq ?_)|((with_reducible refine zM ?_ ?_);(· exact rfl))))
  exact zP (by (exact zY.cons (by exact res1c rfl (by exact rfl)) (zY.cons (by exact zAW.tmp rfl) zY.nil))) () trivial rfl (fun _ h=>h.sub (by (repeat constructor)))
 ·rw [zBG hv] at h1
  have ho:=zAi hv
  have h2:=fun B W (h:Below w.heap.size w W) hB=>stands_1 t A cap s B W (ht.below h) ho hl hB
  have hlen:=zAl hv
  cases hs:zAM t s
  ·have e1:atT t s=⟨0,0⟩:=by simp [atT,hs]
   have e2:errA t s=12:=by simp [errA,hv,hs]
   rw [e1,e2]
   rw [hs] at h2
   (refine zH (n:=37) Tryd.func13 rfl rfl rfl ?_)
   (repeat' (first|((with_reducible refine zI ?_);first|refine zF rfl rfl rfl ?_|refine zD rfl rfl rfl ?_|(refine zf rfl rfl rfl ?_;refine ⟨_,rfl,?_⟩)|(refine zT rfl rfl rfl rfl rfl (fun h=>?_) (fun h=>?_)<;>(dsimp only [cmpP] at h;(try (exfalso;omega))))|refine zN rfl rfl rfl rfl (fun _ _ q=>h1 _ q.below) ?_|refine zN rfl rfl rfl rfl (fun _ _ q=>h2 _ _ q.below (zAu (enc:=zBC) (by exact rfl) _ q.below q.own)) ?_|refine zZ rfl rfl rfl rfl ?_|refine zCR rfl rfl rfl ?_|(refine zQ rfl rfl rfl rfl rfl ?_;refine ⟨rfl,by first|decide|exact Nat.le_of_ble_eq_true rfl|(simp;omega),_,rfl,?_⟩)|(refine zV rfl rfl (fun b=>?_))|(refine zAD rfl rfl rfl rfl (fun b=>?_))|(refine zAH rfl rfl rfl ?_;refine ⟨_,rfl,?_⟩)|(refine zi rfl rfl rfl ?_;refine ⟨rfl,_,rfl,fun b=>?_⟩))|(with_reducible first|refine zJ ?_|refine zC ?_|refine zG ?_|refine zA ?_|refine zg ?_|refine ze ?_|refine zq ?_)|((with_reducible refine zM ?_ ?_);(· exact rfl))|((with_reducible refine zL ?_ ?_);(· exact rfl))))
   exact zP (by (exact zY.cons (by exact res1c rfl (by exact rfl)) (zY.cons (by exact zAW.tmp rfl) zY.nil))) () trivial rfl (fun _ h=>h.sub (by (repeat constructor)))
  ·have hbd:=zEA hs ho
   obtain ⟨I,hI,hlt⟩:=zCd hs
   have e1:atT t s=zAT (zE t 0 I) s.off:=by simp [atT,hv,hs,hI,mark]
   have e2:errA t s=0:=by simp [errA,hv,hs]
   rw [e1,e2]
   rw [hs] at h2
   obtain ⟨st,off⟩:=s
   simp only at hI hbd h2 ⊢
   subst hI
   have h3:∀ W,Below w.heap.size w W→Gv Tryd.prog 28 [.agg #[.slice A t.length cap],.int .i64 0,.int .i64 I] W (.tuple #[vSp (zE t 0 I),vSp (zU t 0 I)]):=fun W h=>(zDD t A cap 0 I W (ht.below h) ho (by omega) (by omega) (by omega)).gv
   have hb:=zCq ho (Nat.zero_le I) (by omega)
   generalize zE t 0 I=L at *
   generalize zU t 0 I=F at *
   have n1:near 1000000000000 L:=by unfold near;omega
   have n2:∀ x∈[off],near 1000000000 x:=by simp [near];omega
   (refine zH (n:=37) Tryd.func13 rfl rfl rfl ?_)
   (repeat' (first|((with_reducible refine zI ?_);first|refine zF rfl rfl rfl ?_|refine zD rfl rfl rfl ?_|(refine zf rfl rfl rfl ?_;refine ⟨_,rfl,?_⟩)|refine zAQ rfl rfl rfl ?_|(refine zT rfl rfl rfl rfl rfl (fun h=>?_) (fun h=>?_)<;>(dsimp only [cmpP] at h;(try (exfalso;omega))))|refine zN rfl rfl rfl rfl (fun _ _ q=>h1 _ q.below) ?_|refine zN rfl rfl rfl rfl (fun _ _ q=>h2 _ _ q.below (zAu (enc:=zBC) (by exact rfl) _ q.below q.own)) ?_|refine zN rfl rfl rfl rfl (fun _ _ q=>h3 _ q.below) ?_|refine zN rfl rfl rfl rfl (fun _ _ q=>(zC5 L [off] _ _ _ (zAu (enc:=zBH) (by exact rfl) _ q.below q.own) n1 n2 (by simp)).gv) ?_|refine zZ rfl rfl rfl rfl ?_|refine zCR rfl rfl rfl ?_|(refine zQ rfl rfl rfl rfl rfl ?_;refine ⟨rfl,by first|decide|exact Nat.le_of_ble_eq_true rfl|(simp;omega),_,rfl,?_⟩)|(refine zV rfl rfl (fun b=>?_))|(refine zAD rfl rfl rfl rfl (fun b=>?_))|(refine zi rfl rfl rfl ?_;refine ⟨rfl,_,rfl,fun b=>?_⟩))|(with_reducible first|refine zJ ?_|refine zC ?_|refine zG ?_|refine zA ?_|refine zg ?_|refine ze ?_)|((with_reducible refine zL ?_ ?_);(· exact rfl))))
   exact zP (by (exact zY.cons (by exact res1c rfl (by exact rfl)) (zY.cons (by exact zAW.tmp rfl) zY.nil))) () trivial rfl (fun _ h=>h.sub (by (repeat constructor)))
end Go.Proofs.YtcpdjamlhhfbhaaDoor
namespace Go.Proofs.YtcpdjamlhhfbhaaDoor
open Go.RowKit
set_option maxRecDepth 20000
def ap0 (t:List St) (a b:Spot):Sp:=⟨(zE t a.st.toNat b.st.toNat).lo+b.off.lo - a.off.hi,(zE t a.st.toNat b.st.toNat).hi+b.off.hi - a.off.lo⟩
def apT (t:List St) (a b:Spot):Sp:=if valid t && (zAM t a && zAM t b) then (if b.st<a.st then zBZ (ap0 t b a) else ap0 t a b) else ⟨0,0⟩
def errB (t:List St) (a b:Spot):Int:=if valid t then (if zAM t a && zAM t b then 0 else 12) else 10
set_option maxHeartbeats 2000000 in
theorem zIC (t:List St) (A:Option Addr) (cap:Nat) (a b:Spot) (w:World) (ht:zS zO 9 w A t) (hf:zCb t) (hl:t.length≤1000) :
  Gv Tryd.prog 22 [.agg #[.slice A t.length cap],zDS a,zDS b] w (.tuple #[vSp (apT t a b),.int .i64 (errB t a b)]):=by
 unfold Gv zDS
 have h1:=fun W (h:Below w.heap.size w W)=>zE5 t A cap W (ht.below h) hf (by omega)
 cases hv:valid t
 ·have e1:apT t a b=⟨0,0⟩:=by simp [apT,hv]
  have e2:errB t a b=10:=by simp [errB,hv]
  rw [e1,e2]
  rw [zBz hv] at h1
  (refine zH (n:=58) Tryd.func22 rfl rfl rfl ?_)
  (repeat' (first|((with_reducible refine zI ?_);first|refine zF rfl rfl rfl ?_|refine zD rfl rfl rfl ?_|(refine zf rfl rfl rfl ?_;refine ⟨_,rfl,?_⟩)|(refine zT rfl rfl rfl rfl rfl (fun h=>?_) (fun h=>?_)<;>(dsimp only [cmpP] at h;(try (exfalso;omega))))|refine zN rfl rfl rfl rfl (fun _ _ q=>h1 _ q.below) ?_|refine zZ rfl rfl rfl rfl ?_|(refine zQ rfl rfl rfl rfl rfl ?_;refine ⟨rfl,by first|decide|exact Nat.le_of_ble_eq_true rfl|(simp;omega),_,rfl,?_⟩)|(refine zV rfl rfl (fun b=>?_))|(refine zAD rfl rfl rfl rfl (fun b=>?_))|(refine zAH rfl rfl rfl ?_;refine ⟨_,rfl,?_⟩))|(with_reducible first|refine zJ ?_|refine zC ?_|refine zG ?_|refine zA ?_|refine zg ?_|refine zq ?_)|((with_reducible refine zM ?_ ?_);(· exact rfl))))
  exact zP (by (exact zY.cons (by exact res1c rfl (by exact rfl)) (zY.cons (by exact zAW.tmp rfl) zY.nil))) () trivial rfl (fun _ h=>h.sub (by (repeat constructor)))
 ·rw [zBG hv] at h1
  have ho:=zAi hv
  have h2:=fun B W (h:Below w.heap.size w W) hB=>stands_2 t A cap a b B W (ht.below h) ho hl hB
  have hlen:=zAl hv
  cases hs:(zAM t a && zAM t b)
  ·have e1:apT t a b=⟨0,0⟩:=by simp only [apT,hs,Bool.and_false];rfl
   have e2:errB t a b=12:=by simp only [errB,hv,hs];rfl
   rw [e1,e2]
   rw [hs] at h2
   (refine zH (n:=58) Tryd.func22 rfl rfl rfl ?_)
   (repeat' (first|((with_reducible refine zI ?_);first|refine zF rfl rfl rfl ?_|refine zD rfl rfl rfl ?_|(refine zf rfl rfl rfl ?_;refine ⟨_,rfl,?_⟩)|(refine zT rfl rfl rfl rfl rfl (fun h=>?_) (fun h=>?_)<;>(dsimp only [cmpP] at h;(try (exfalso;omega))))|refine zN rfl rfl rfl rfl (fun _ _ q=>h1 _ q.below) ?_|refine zN rfl rfl rfl rfl (fun _ _ q=>h2 _ _ q.below (zAn (enc:=zBC) [_,_] (by exact rfl) _ q.below q.own)) ?_|refine zZ rfl rfl rfl rfl ?_|refine zCR rfl rfl rfl ?_|(refine zQ rfl rfl rfl rfl rfl ?_;refine ⟨rfl,by first|decide|exact Nat.le_of_ble_eq_true rfl|(simp;omega),_,rfl,?_⟩)|(refine zV rfl rfl (fun b=>?_))|(refine zAD rfl rfl rfl rfl (fun b=>?_))|(refine zAH rfl rfl rfl ?_;refine ⟨_,rfl,?_⟩)|(refine zi rfl rfl rfl ?_;refine ⟨rfl,_,rfl,fun b=>?_⟩))|(with_reducible first|refine zJ ?_|refine zC ?_|refine zG ?_|refine zA ?_|refine zg ?_|refine ze ?_|refine zq ?_)|((with_reducible refine zM ?_ ?_);(· exact rfl))|((with_reducible refine zL ?_ ?_);(· exact rfl))))
   exact zP (by (exact zY.cons (by exact res1c rfl (by exact rfl)) (zY.cons (by exact zAW.tmp rfl) zY.nil))) () trivial rfl (fun _ h=>h.sub (by (repeat constructor)))
  ·have hs':=hs
   simp only [Bool.and_eq_true] at hs'
   have bda:=zEA hs'.1 ho
   have bdb:=zEA hs'.2 ho
   obtain ⟨I,hI,hlI⟩:=zCd hs'.1
   obtain ⟨J,hJ,hlJ⟩:=zCd hs'.2
   have e1:apT t a b=if b.st<a.st then zBZ (ap0 t b a) else ap0 t a b:=by simp only [apT,hv,hs,Bool.and_true];rfl
   have e2:errB t a b=0:=by simp only [errB,hv,hs];rfl
   rw [e1,e2]
   rw [hs] at h2
   obtain ⟨st,off⟩:=a
   obtain ⟨st2,off2⟩:=b
   simp only at hI hJ bda bdb h2 ⊢
   subst hI hJ
   have nn:near 1000000000000 off:=by unfold near;omega
   by_cases hij:J<I
   ·have h3:∀ W,Below w.heap.size w W→Gv Tryd.prog 28 [.agg #[.slice A t.length cap],.int .i64 (min (I:Int) J),.int .i64 (max (I:Int) J)] W (.tuple #[vSp (zE t J I),vSp (zU t J I)]):=fun W h=>by
     rw [show min (I:Int) J=J by omega,show max (I:Int) J=I by omega]
     exact (zDD t A cap J I W (ht.below h) ho (by omega) (by omega) (by omega)).gv
    have hb:=zCq ho (Nat.le_of_lt hij) (by omega)
    have e3:ap0 t ⟨(J:Int),off2⟩ ⟨(I:Int),off⟩=⟨(zE t J I).lo+off.lo - off2.hi,(zE t J I).hi+off.hi - off2.lo⟩:=rfl
    rw [if_pos (by omega),e3]
    generalize zE t J I=L at *
    generalize zU t J I=F at *
    have e9:zBZ ⟨L.lo+off.lo - off2.hi,L.hi+off.hi - off2.lo⟩=[off2,zBZ off].foldl zAT (zBZ L):=by
     simp only [List.foldl_cons,List.foldl_nil,zAT,zBZ,Sp.mk.injEq];omega
    rw [e9]
    have n1:near 1000000000000 L:=by unfold near;omega
    have n2:∀ x∈[off2,zBZ off],near 1000000000 x:=by simp [near,zBZ];omega
    have n3:near 1000000000000 (zBZ L):=by simp only [near,zBZ];omega
    (refine zH (n:=58) Tryd.func22 rfl rfl rfl ?_)
    (repeat' (first|((with_reducible refine zI ?_);first|refine zF rfl rfl rfl ?_|refine zD rfl rfl rfl ?_|(refine zf rfl rfl rfl ?_;refine ⟨_,rfl,?_⟩)|refine zAQ rfl rfl rfl ?_|(refine zT rfl rfl rfl rfl rfl (fun h=>?_) (fun h=>?_)<;>(dsimp only [cmpP] at h;(try (exfalso;omega))))|refine zN rfl rfl rfl rfl (fun _ _ q=>h1 _ q.below) ?_|refine zN rfl rfl rfl rfl (fun _ _ q=>h2 _ _ q.below (zAn (enc:=zBC) [_,_] (by exact rfl) _ q.below q.own)) ?_|refine zN rfl rfl rfl rfl (fun _ _ q=>h3 _ q.below) ?_|refine zN rfl rfl rfl rfl (fun _ _ q=>zFA L _ n1) ?_|refine zZ rfl rfl rfl rfl ?_|refine zCR rfl rfl rfl ?_|(refine zQ rfl rfl rfl rfl rfl ?_;refine ⟨rfl,by first|decide|exact Nat.le_of_ble_eq_true rfl|(simp;omega),_,rfl,?_⟩)|(refine zV rfl rfl (fun b=>?_))|(refine zAD rfl rfl rfl rfl (fun b=>?_))|(refine zi rfl rfl rfl ?_;refine ⟨rfl,_,rfl,fun b=>?_⟩)|refine u_min rfl rfl rfl rfl ?_|refine u_max rfl rfl rfl rfl ?_)|(with_reducible first|refine zJ ?_|refine zC ?_|refine zG ?_|refine zA ?_|refine ze ?_)|((with_reducible refine zM ?_ ?_);(· exact rfl))|((with_reducible refine zL ?_ ?_);(· exact rfl))))
    (refine Two.zAU [] [] [] rfl (show ([]:List Nat).Nodup by decide) (fun _ h=>h) (by kernel_rfl) [[],[Y],[Z,Y],[Y,Y,Y],[Z,Y,Y,Y],[Z,Z,Y,Y,Y],[Z,Z,Z,Z,Z,Y],[Z,Z,Z,Z,Z,Z,Z],[Z,Z,Z,Z,Z,Z,Z,Z],[Z,Z,Z,Z,Z,Z,Z,Z,Z]] (by kernel_rfl) (by kernel_rfl) (by kernel_rfl) (by kernel_rfl) (by kernel_rfl) ?_)
    (repeat' (first|(((with_reducible refine Two.zB0 ?_ ?_);(· exact rfl);refine ⟨_,fun G=>(by (try simp (decide:=true) only [Two.vis,Two.see,fltT,zc,Nat.reduceAdd,Nat.reduceSub,if_true,if_false,List.set_cons_zero,List.set_cons_succ,List.set_nil,List.nil_append,List.cons_append]);rfl),?_⟩);first|refine Two.zK _ (fun _=>zAA rfl rfl (by exact rfl)) (fun _=>rfl) rfl (by intro G G' h;simp (decide:=true) only [h]) ?_|(refine Two.zAE rfl ?_;refine Two.zK _ (fun _=>zAb rfl rfl) (fun _=>rfl) rfl (by intro G G' h;simp (decide:=true) only [h]) ?_)|refine Two.zAB _ rfl (fun _=>rfl) rfl (fun _=>rfl) (fun _=>rfl) (fun _ _ _ q=>zFA off _ nn) (by intro G G' h;simp (decide:=true) only [h]) ?_|refine Two.zAB _ rfl (fun _=>rfl) rfl (fun _=>rfl) (fun _=>rfl) (fun _ _ _ q=>(zC5 (zBZ L) [off2,zBZ off] _ _ _ (zAn (enc:=zBH) [_,_] (by exact rfl) _ q.below q.own) n3 n2 (by simp)).gv) (by intro G G' h;simp (decide:=true) only [h]) ?_|refine Two.zAw rfl (fun _=>rfl) rfl (fun _=>rfl) (by exact rfl) (by exact fun _=>rfl) (by intro G G' h;simp (decide:=true) only [h]) ?_)|((with_reducible refine Two.zBE ?_ ?_);(· exact rfl))))
    (intro G;simp only [regsT,zc,Two.zAR,Two.ini,List.nil_append,List.cons_append])
    (repeat' (first|((with_reducible refine zI ?_);first|refine zD rfl rfl rfl ?_|(refine zQ rfl rfl rfl rfl rfl ?_;refine ⟨rfl,by first|decide|exact Nat.le_of_ble_eq_true rfl|(simp;omega),_,rfl,?_⟩))|(with_reducible first|refine zG ?_|refine zA ?_|refine zg ?_)))
    exact zP (by (exact zY.cons (by exact res1c rfl (by exact rfl)) (zY.cons (by exact zAW.tmp rfl) zY.nil))) () trivial rfl (fun _ h=>h.sub (by (repeat constructor)))
   ·have h3:∀ W,Below w.heap.size w W→Gv Tryd.prog 28 [.agg #[.slice A t.length cap],.int .i64 (min (I:Int) J),.int .i64 (max (I:Int) J)] W (.tuple #[vSp (zE t I J),vSp (zU t I J)]):=fun W h=>by
     rw [show min (I:Int) J=I by omega,show max (I:Int) J=J by omega]
     exact (zDD t A cap I J W (ht.below h) ho (by omega) (by omega) (by omega)).gv
    have hb:=zCq ho (Nat.le_of_not_lt hij) (by omega)
    have e3:ap0 t ⟨(I:Int),off⟩ ⟨(J:Int),off2⟩=⟨(zE t I J).lo+off2.lo - off.hi,(zE t I J).hi+off2.hi - off.lo⟩:=rfl
    rw [if_neg (by omega),e3]
    generalize zE t I J=L at *
    generalize zU t I J=F at *
    have e9:(⟨L.lo+off2.lo - off.hi,L.hi+off2.hi - off.lo⟩:Sp)=[off2,zBZ off].foldl zAT L:=by
     simp only [List.foldl_cons,List.foldl_nil,zAT,zBZ,Sp.mk.injEq];omega
    rw [e9]
    have n1:near 1000000000000 L:=by unfold near;omega
    have n2:∀ x∈[off2,zBZ off],near 1000000000 x:=by simp [near,zBZ];omega
    (refine zH (n:=58) Tryd.func22 rfl rfl rfl ?_)
    (repeat' (first|((with_reducible refine zI ?_);first|refine zF rfl rfl rfl ?_|refine zD rfl rfl rfl ?_|(refine zf rfl rfl rfl ?_;refine ⟨_,rfl,?_⟩)|refine zAQ rfl rfl rfl ?_|(refine zT rfl rfl rfl rfl rfl (fun h=>?_) (fun h=>?_)<;>(dsimp only [cmpP] at h;(try (exfalso;omega))))|refine zN rfl rfl rfl rfl (fun _ _ q=>h1 _ q.below) ?_|refine zN rfl rfl rfl rfl (fun _ _ q=>h2 _ _ q.below (zAn (enc:=zBC) [_,_] (by exact rfl) _ q.below q.own)) ?_|refine zN rfl rfl rfl rfl (fun _ _ q=>h3 _ q.below) ?_|refine zZ rfl rfl rfl rfl ?_|refine zCR rfl rfl rfl ?_|(refine zQ rfl rfl rfl rfl rfl ?_;refine ⟨rfl,by first|decide|exact Nat.le_of_ble_eq_true rfl|(simp;omega),_,rfl,?_⟩)|(refine zV rfl rfl (fun b=>?_))|(refine zAD rfl rfl rfl rfl (fun b=>?_))|(refine zi rfl rfl rfl ?_;refine ⟨rfl,_,rfl,fun b=>?_⟩)|refine u_min rfl rfl rfl rfl ?_|refine u_max rfl rfl rfl rfl ?_)|(with_reducible first|refine zJ ?_|refine zC ?_|refine zG ?_|refine zA ?_|refine ze ?_)|((with_reducible refine zL ?_ ?_);(· exact rfl))))
    (refine Two.zAU [] [] [] rfl (show ([]:List Nat).Nodup by decide) (fun _ h=>h) (by kernel_rfl) [[],[Y],[Z,Y],[Y,Y,Y],[Z,Y,Y,Y],[Z,Z,Y,Y,Y],[Z,Z,Z,Z,Z,Y],[Z,Z,Z,Z,Z,Z,Z],[Z,Z,Z,Z,Z,Z,Z,Z],[Z,Z,Z,Z,Z,Z,Z,Z,Z]] (by kernel_rfl) (by kernel_rfl) (by kernel_rfl) (by kernel_rfl) (by kernel_rfl) ?_)
    (repeat' (first|(((with_reducible refine Two.zB0 ?_ ?_);(· exact rfl);refine ⟨_,fun G=>(by (try simp (decide:=true) only [Two.vis,Two.see,fltT,zc,Nat.reduceAdd,Nat.reduceSub,if_true,if_false,List.set_cons_zero,List.set_cons_succ,List.set_nil,List.nil_append,List.cons_append]);rfl),?_⟩);first|refine Two.zK _ (fun _=>zAA rfl rfl (by exact rfl)) (fun _=>rfl) rfl (by intro G G' h;simp (decide:=true) only [h]) ?_|(refine Two.zAE rfl ?_;refine Two.zK _ (fun _=>zAb rfl rfl) (fun _=>rfl) rfl (by intro G G' h;simp (decide:=true) only [h]) ?_)|refine Two.zAB _ rfl (fun _=>rfl) rfl (fun _=>rfl) (fun _=>rfl) (fun _ _ _ q=>zFA off _ nn) (by intro G G' h;simp (decide:=true) only [h]) ?_|refine Two.zAB _ rfl (fun _=>rfl) rfl (fun _=>rfl) (fun _=>rfl) (fun _ _ _ q=>(zC5 L [off2,zBZ off] _ _ _ (zAn (enc:=zBH) [_,_] (by exact rfl) _ q.below q.own) n1 n2 (by simp)).gv) (by intro G G' h;simp (decide:=true) only [h]) ?_|refine Two.zAw rfl (fun _=>rfl) rfl (fun _=>rfl) (by exact rfl) (by exact fun _=>rfl) (by intro G G' h;simp (decide:=true) only [h]) ?_)|((with_reducible refine Two.zBE ?_ ?_);(· exact rfl))))
    (intro G;simp only [regsT,zc,Two.zAR,Two.ini,List.nil_append,List.cons_append])
    (repeat' (first|((with_reducible refine zI ?_);first|refine zD rfl rfl rfl ?_|(refine zQ rfl rfl rfl rfl rfl ?_;refine ⟨rfl,by first|decide|exact Nat.le_of_ble_eq_true rfl|(simp;omega),_,rfl,?_⟩))|(with_reducible first|refine zG ?_|refine zA ?_|refine zg ?_)))
    exact zP (by (exact zY.cons (by exact res1c rfl (by exact rfl)) (zY.cons (by exact zAW.tmp rfl) zY.nil))) () trivial rfl (fun _ h=>h.sub (by (repeat constructor)))
end Go.Proofs.YtcpdjamlhhfbhaaDoor
namespace Go.Proofs.YtcpdjamlhhfbhaaDoor.Two
variable {ro : Option Nat}
open Go.RowKit
set_option maxRecDepth 20000
section
variable {S : List (Nat × Nat)} {I:List (Nat × Nat × Nat × List Ent)} {w0:World} {n:Nat} {d:List Deferred} {R R0:List (Nat × Value)} {H H' H0:List Ent} {Q:Exit→Act→World→Prop} {ops:Array Oper} {bs:List (List Bool)} {b:List Bool} {k:Nat} {o:Oper} {rest:List Oper} {T:List Rw} {t:Tmp} {Hk:zAC→List Ent} {x y:Operand} {v:Value}
theorem c_eqspT {a b' c e:Int} {T':TypeId} (hop:o.op = .binOp .eql 23 x y T') (hw:∀ G,want (Rk R0 ops b o T G) ops o=some true) (hd:o.dst=some t) (hx:∀ G,evR (Rk R0 ops b o T G) x=some (.agg #[.int .i64 a,.int .i64 b'])) (hy:∀ G,evR (Rk R0 ops b o T G) y=some (.agg #[.int .i64 c,.int .i64 e]))
  (h1:a=c∧b'=e→zAG ro S I Tryd.prog w0 n d ops R0 H0 Q bs (k+1) rest (⟨k,some t,fun _=>(.bool true,[])⟩::T)) (h2:¬ (a=c∧b'=e)→zAG ro S I Tryd.prog w0 n d ops R0 H0 Q bs (k+1) rest (⟨k,some t,fun _=>(.bool false,[])⟩::T)):CAt ro S I Tryd.prog w0 n d ops R0 H0 Q b bs k o rest T Hk :=
 c_eql hop hw hd hx hy (fun w=>gd_sp _ _ _ _ _ w) (fun w=>zG7 a b' c e w) (fun h=>h1 (by simpa using zFM.1 h)) (fun h=>h2 (by simpa using zHa.1 h))
theorem c_nespT {a b' c e:Int} {T':TypeId} (hop:o.op = .binOp .neq 23 x y T') (hw:∀ G,want (Rk R0 ops b o T G) ops o=some true) (hd:o.dst=some t) (hx:∀ G,evR (Rk R0 ops b o T G) x=some (.agg #[.int .i64 a,.int .i64 b'])) (hy:∀ G,evR (Rk R0 ops b o T G) y=some (.agg #[.int .i64 c,.int .i64 e]))
  (h1:a=c∧b'=e→zAG ro S I Tryd.prog w0 n d ops R0 H0 Q bs (k+1) rest (⟨k,some t,fun _=>(.bool false,[])⟩::T)) (h2:¬ (a=c∧b'=e)→zAG ro S I Tryd.prog w0 n d ops R0 H0 Q bs (k+1) rest (⟨k,some t,fun _=>(.bool true,[])⟩::T)):CAt ro S I Tryd.prog w0 n d ops R0 H0 Q b bs k o rest T Hk :=
 c_eql hop hw hd hx hy (fun w=>gd_sp _ _ _ _ _ w) (fun w=>zG6 a b' c e w) (fun h=>h2 (by simpa using zHa.1 (by simpa using h))) (fun h=>h1 (by simpa using zFM.1 (by simpa using h)))
end
end Go.Proofs.YtcpdjamlhhfbhaaDoor.Two
namespace Go.Proofs.YtcpdjamlhhfbhaaDoor
open Go.RowKit
set_option maxRecDepth 20000
theorem zFL : zCj zX=[⟨0,0⟩,⟨4000,4100⟩,⟨6000,6300⟩,⟨9000,9300⟩]∧zBY zX=0:=by decide +kernel
theorem zGn : zCf zX 1=⟨68,80⟩∧errS zX 1=0:=by decide +kernel
theorem ev_steep : zD9 zX=[0,2]:=by decide +kernel
theorem zGo : apT zX ⟨0,⟨50,50⟩⟩ ⟨1,⟨100,110⟩⟩=⟨4050,4160⟩∧errB zX ⟨0,⟨50,50⟩⟩ ⟨1,⟨100,110⟩⟩=0:=by decide +kernel
theorem zDw : zBs zX 4050=[0,1]∧zEg zX 4050=0∧zBs zX 9100=[2,3]∧zEg zX 9100=0:=by decide +kernel
theorem spans_s (a:List Sp) (A B:Option Addr) (c d:Nat) (w:World) (ha:zS zBH 2 w A a) (hb:zS zBH 2 w B a) (hl:a.length≤1000000):Gv Tryd.prog 23 [.slice A a.length c,.slice B a.length d] w (.bool true) :=
 ((zG5 a a A B c d w ha hb hl hl).of (by simp)).gv
set_option maxHeartbeats 4000000 in
theorem zIE (w:World):Gv Tryd.prog 6 [] w (.bool true):=by
 unfold Gv
 have h1:=fun W A cap (ht:zS zO 9 W A zX)=>zE8 (V:=fun v=>.tuple #[v,.int .i64 (zBY zX)]) (zEJ zX A cap W ht zAa (by decide))
 have h2:=fun W A cap (ht:zS zO 9 W A zX)=>(zFb zX A cap 1 W ht zAa (by decide)).gv
 have h3:=fun W A cap (ht:zS zO 9 W A zX)=>zF2 zX A cap W ht zAa (by decide)
 have h4:=fun W A cap (ht:zS zO 9 W A zX)=>zIC zX A cap ⟨0,⟨50,50⟩⟩ ⟨1,⟨100,110⟩⟩ W ht zAa (by decide)
 rw [zFL.1,zFL.2] at h1
 rw [zGn.1,zGn.2] at h2
 rw [ev_steep,zFL.2] at h3
 rw [zGo.1,zGo.2] at h4
 unfold vT at h1 h2 h3
 unfold vSp at h2 h4
 unfold zDS at h4
 (refine zH (n:=86) Tryd.func6 rfl rfl rfl ?_)
 (repeat' (first|((with_reducible refine zI ?_);first|refine zF rfl rfl rfl ?_|refine zD rfl rfl rfl ?_|(refine zBJ rfl rfl rfl rfl (fun _ _ q=>zCK _) ?_;rintro gr -;dsimp only [List.cons_append,List.nil_append];refine u_ow (fun _ h=>h.zDg (Take.here _ _)) ?_)|refine zz rfl rfl rfl rfl (fun _ _ q=>h1 _ _ _ (zAp q.own (Below.refl _ _))) (fun A' c'=>?_)|refine zN rfl rfl rfl rfl (fun _ _ q=>h2 _ _ _ (zAp q.own (Below.refl _ _))) ?_|refine zz rfl rfl rfl rfl (fun _ _ q=>h3 _ _ _ (zAp q.own (Below.refl _ _))) (fun A' c'=>?_)|refine zN rfl rfl rfl rfl (fun _ _ q=>zBA _ _ _) ?_|refine zN rfl rfl rfl rfl (fun _ _ q=>h4 _ _ _ (zAp q.own (Below.refl _ _))) ?_|refine zZ rfl rfl rfl rfl ?_|(refine zQ rfl rfl rfl rfl rfl ?_;refine ⟨rfl,by first|decide|exact Nat.le_of_ble_eq_true rfl|(simp;omega),_,rfl,?_⟩)|(refine zV rfl rfl (fun b=>?_))|(refine zAH rfl rfl rfl ?_;refine ⟨_,rfl,?_⟩))|(with_reducible first|refine zJ ?_|refine zC ?_|refine zG ?_|refine zA ?_)))
 (refine Two.zAU [] [] [] rfl (show ([]:List Nat).Nodup by decide) (fun _ h=>h) (by kernel_rfl) [[],[Z],[Z,Z],[Z,Z,Z],[Y,Z,Z,Z],[Z,Y,Z,Z,Z],[Z,Z,Y,Z,Z,Z],[Z,Z,Z,Y,Z,Z,Z],[Z,Z,Z,Z,Y,Z,Z,Z],[Z,Z,Z,Z,Z,Z,Z,Z,Z],[Z,Z,Z,Z,Z,Z,Z,Z,Z,Z],[Z,Z,Z,Z,Z,Z,Z,Z,Z,Z,Z],[Z,Z,Z,Z,Z,Z,Z,Z,Z,Z,Z,Z],[Z,Z,Z,Z,Z,Z,Z,Z,Z,Z,Z,Z,Z],[Z,Z,Z,Z,Z,Z,Z,Z,Z,Z,Z,Z,Z,Z],[Z,Z,Z,Z,Z,Z,Z,Z,Z,Z,Z,Z,Z,Z,Z],[Z,Z,Z,Z,Z,Z,Z,Z,Z,Z,Z,Z,Z,Z,Z,Z],[Z,Z,Z,Z,Z,Z,Z,Z,Z,Z,Z,Z,Z,Z,Z,Z,Z],[Z,Z,Z,Z,Z,Z,Z,Z,Z,Z,Z,Z,Z,Z,Z,Z,Z,Z],[Z,Z,Z,Z,Z,Z,Z,Z,Z,Z,Z,Z,Z,Z,Z,Z,Z,Z,Z],[Z,Z,Z,Z,Z,Z,Z,Z,Z,Z,Z,Z,Z,Z,Z,Z,Z,Z,Z,Z],[Z,Z,Z,Z,Z,Z,Z,Z,Z,Z,Z,Z,Z,Z,Z,Z,Z,Z,Z,Z,Z],[Z,Z,Z,Z,Z,Z,Z,Z,Z,Z,Z,Z,Z,Z,Z,Z,Z,Z,Z,Z,Z,Z],[Z,Z,Z,Z,Z,Z,Z,Z,Z,Z,Z,Z,Z,Z,Z,Z,Z,Z,Z,Z,Z,Z,Z],[Z,Z,Z,Z,Z,Z,Z,Z,Z,Z,Z,Z,Z,Z,Z,Z,Z,Z,Z,Z,Z,Z,Z,Z],[Y,Z,Z,Z,Z,Z,Z,Z,Z,Z,Z,Z,Z,Z,Z,Z,Z,Z,Z,Z,Z,Z,Z,Z,Z],[Z,Z,Z,Z,Z,Z,Z,Z,Z,Z,Z,Z,Z,Z,Z,Z,Z,Z,Z,Z,Z,Z,Z,Z,Z,Z],[Z,Z,Z,Z,Z,Z,Z,Z,Z,Z,Z,Z,Z,Z,Z,Z,Z,Z,Z,Z,Z,Z,Z,Z,Z,Z,Z],[Z,Z,Z,Z,Z,Z,Z,Z,Z,Z,Z,Z,Z,Z,Z,Z,Z,Z,Z,Z,Z,Z,Z,Z,Z,Z,Z,Z],[Z,Z,Z,Z,Z,Z,Z,Z,Z,Z,Z,Z,Z,Z,Z,Z,Z,Z,Z,Z,Z,Z,Z,Z,Z,Z,Z,Z,Z],[Z,Z,Z,Z,Z,Z,Z,Z,Z,Z,Z,Z,Z,Z,Z,Z,Z,Z,Z,Z,Z,Z,Z,Z,Z,Z,Z,Z,Z,Z],[Z,Z,Z,Z,Z,Z,Z,Z,Z,Z,Z,Z,Z,Z,Z,Z,Z,Z,Z,Z,Z,Z,Z,Z,Z,Z,Z,Z,Z,Z,Z],[Z,Z,Z,Z,Z,Z,Z,Z,Z,Z,Z,Z,Z,Z,Z,Z,Z,Z,Z,Z,Z,Z,Z,Z,Z,Z,Z,Z,Z,Z,Z,Z],[Z,Z,Z,Z,Z,Z,Z,Z,Z,Z,Z,Z,Z,Z,Z,Z,Z,Z,Z,Z,Z,Z,Z,Z,Z,Z,Z,Z,Z,Z,Z,Z,Z],[Y,Z,Z,Z,Z,Z,Z,Z,Z,Z,Z,Z,Z,Z,Z,Z,Z,Z,Z,Z,Z,Z,Z,Z,Z,Z,Z,Z,Z,Z,Z,Z,Z,Z],[Z,Z,Z,Z,Z,Z,Z,Z,Z,Z,Z,Z,Z,Z,Z,Z,Z,Z,Z,Z,Z,Z,Z,Z,Z,Z,Z,Z,Z,Z,Z,Z,Z,Z,Z],[Z,Z,Z,Z,Z,Z,Z,Z,Z,Z,Z,Z,Z,Z,Z,Z,Z,Z,Z,Z,Z,Z,Z,Z,Z,Z,Z,Z,Z,Z,Z,Z,Z,Z,Z,Z],[Z,Z,Z,Z,Z,Z,Z,Z,Z,Z,Z,Z,Z,Z,Z,Z,Z,Z,Z,Z,Z,Z,Z,Z,Z,Z,Z,Z,Z,Z,Z,Z,Z,Z,Z,Z,Z],[Z,Z,Z,Z,Z,Z,Z,Z,Z,Z,Z,Z,Z,Z,Z,Z,Z,Z,Z,Z,Z,Z,Z,Z,Z,Z,Z,Z,Z,Z,Z,Z,Z,Z,Z,Z,Z,Z],[Z,Z,Z,Z,Z,Z,Z,Z,Z,Z,Z,Z,Z,Z,Z,Z,Z,Z,Z,Z,Z,Z,Z,Z,Z,Z,Z,Z,Z,Z,Z,Z,Z,Z,Z,Z,Z,Z,Z],[Z,Z,Z,Z,Z,Z,Z,Z,Z,Z,Z,Z,Z,Z,Z,Z,Z,Z,Z,Z,Z,Z,Z,Z,Z,Z,Z,Z,Z,Z,Z,Z,Z,Z,Z,Z,Z,Z,Z,Z],[Z,Z,Z,Z,Z,Z,Z,Z,Z,Z,Z,Z,Z,Z,Z,Z,Z,Z,Z,Z,Z,Z,Z,Z,Z,Z,Z,Z,Z,Z,Z,Z,Z,Z,Z,Z,Z,Z,Z,Z,Z],[Z,Z,Z,Z,Z,Z,Z,Z,Z,Z,Z,Z,Z,Z,Z,Z,Z,Z,Z,Z,Z,Z,Z,Z,Z,Z,Z,Z,Z,Z,Z,Z,Z,Z,Z,Z,Z,Z,Z,Z,Z,Z],[Z,Z,Z,Z,Z,Z,Z,Z,Z,Z,Z,Z,Z,Z,Z,Z,Z,Z,Z,Z,Z,Z,Z,Z,Z,Z,Z,Z,Z,Z,Z,Z,Z,Z,Z,Z,Z,Z,Z,Z,Z,Z,Z],[Z,Z,Z,Z,Z,Z,Z,Z,Z,Z,Z,Z,Z,Z,Z,Z,Z,Z,Z,Z,Z,Z,Z,Z,Z,Z,Z,Z,Z,Z,Z,Z,Z,Z,Z,Z,Z,Z,Z,Z,Z,Z,Z,Z],[Z,Z,Z,Z,Z,Z,Z,Z,Z,Z,Z,Z,Z,Z,Z,Z,Z,Z,Z,Z,Z,Z,Z,Z,Z,Z,Z,Z,Z,Z,Z,Z,Z,Z,Z,Z,Z,Z,Z,Z,Z,Z,Z,Z,Z],[Z,Z,Z,Z,Z,Z,Z,Z,Z,Z,Z,Z,Z,Z,Z,Z,Z,Z,Z,Z,Z,Z,Z,Z,Z,Z,Z,Z,Z,Z,Z,Z,Z,Z,Z,Z,Z,Z,Z,Z,Z,Z,Z,Z,Z,Z],[Z,Z,Z,Z,Z,Z,Z,Z,Z,Z,Z,Z,Z,Z,Z,Z,Z,Z,Z,Z,Z,Z,Z,Z,Z,Z,Z,Z,Z,Z,Z,Z,Z,Z,Z,Z,Z,Z,Z,Z,Z,Z,Z,Z,Z,Z,Z],[Z,Z,Z,Z,Z,Z,Z,Z,Z,Z,Z,Z,Z,Z,Z,Z,Z,Z,Z,Z,Z,Z,Z,Z,Z,Z,Z,Z,Z,Z,Z,Z,Z,Z,Z,Z,Z,Z,Z,Z,Z,Z,Z,Z,Z,Z,Z,Z],[Z,Z,Z,Z,Z,Z,Z,Z,Z,Z,Z,Z,Z,Z,Z,Z,Z,Z,Z,Z,Z,Z,Z,Z,Z,Z,Z,Z,Z,Z,Z,Z,Z,Z,Z,Z,Z,Z,Z,Z,Z,Z,Z,Z,Z,Z,Z,Z,Z],[Y,Z,Z,Z,Z,Z,Z,Z,Z,Z,Z,Z,Z,Z,Z,Z,Z,Z,Z,Z,Z,Z,Z,Z,Z,Z,Z,Z,Z,Z,Z,Z,Z,Z,Z,Z,Z,Z,Z,Z,Z,Z,Z,Z,Z,Z,Z,Z,Z,Z],[Z,Z,Z,Z,Z,Z,Z,Z,Z,Z,Z,Z,Z,Z,Z,Z,Z,Z,Z,Z,Z,Z,Z,Z,Z,Z,Z,Z,Z,Z,Z,Z,Z,Z,Z,Z,Z,Z,Z,Z,Z,Z,Z,Z,Z,Z,Z,Z,Z,Z,Z],[Z,Z,Z,Z,Z,Z,Z,Z,Z,Z,Z,Z,Z,Z,Z,Z,Z,Z,Z,Z,Z,Z,Z,Z,Z,Z,Z,Z,Z,Z,Z,Z,Z,Z,Z,Z,Z,Z,Z,Z,Z,Z,Z,Z,Z,Z,Z,Z,Z,Z,Z,Z],[Z,Z,Z,Z,Z,Z,Z,Z,Z,Z,Z,Z,Z,Z,Z,Z,Z,Z,Z,Z,Z,Z,Z,Z,Z,Z,Z,Z,Z,Z,Z,Z,Z,Z,Z,Z,Z,Z,Z,Z,Z,Z,Z,Z,Z,Z,Z,Z,Z,Z,Z,Z,Z]] (by kernel_rfl) (by kernel_rfl) (by kernel_rfl) (by kernel_rfl) (by kernel_rfl) ?_)
 (repeat' (first|(((with_reducible refine Two.zB0 ?_ ?_);(· exact rfl);refine ⟨_,fun G=>(by (try simp (decide:=true) only [Two.vis,Two.see,fltT,zc,Nat.reduceAdd,Nat.reduceSub,if_true,if_false,List.set_cons_zero,List.set_cons_succ,List.set_nil,List.nil_append,List.cons_append]);rfl),?_⟩);first|refine Two.zK _ (fun _=>zA5 rfl rfl) (fun _=>rfl) rfl (by intro G G' h;simp (decide:=true) only [h]) ?_|refine Two.zK _ (fun _=>zAA rfl rfl (by exact rfl)) (fun _=>rfl) rfl (by intro G G' h;simp (decide:=true) only [h]) ?_|refine Two.zK _ (fun _=>zDc rfl rfl rfl) (fun _=>rfl) rfl (by intro G G' h;simp (decide:=true) only [h]) ?_|refine Two.zK _ (fun _=>zCA rfl rfl) (fun _=>rfl) rfl (by intro G G' h;simp (decide:=true) only [h]) ?_|(refine Two.c_cmp rfl rfl (fun _=>rfl) rfl (fun _=>rfl) (fun _=>rfl) (fun h=>?_) (fun h=>?_)<;>(dsimp only [cmpP] at h;(try (exfalso;omega))))|refine Two.zAB _ rfl (fun _=>rfl) rfl (fun _=>rfl) (fun _=>rfl) (fun _ _ _ q=>zBA _ _ _) (by intro G G' h;simp (decide:=true) only [h]) ?_|refine Two.zAB _ rfl (fun _=>rfl) rfl (fun _=>rfl) (fun _=>rfl) (fun _ _ _ q=>spans_s [⟨0,0⟩,⟨4000,4100⟩,⟨6000,6300⟩,⟨9000,9300⟩] _ _ _ _ _ (zAp q.own (Below.refl _ _)) (zAn (enc:=zBH) [⟨0,0⟩,⟨4000,4100⟩,⟨6000,6300⟩,⟨9000,9300⟩] (by exact rfl) _ q.below q.own) (by decide)) (by intro G G' h;simp (decide:=true) only [h]) ?_|refine Two.zAB _ rfl (fun _=>rfl) rfl (fun _=>rfl) (fun _=>rfl) (fun _ _ _ q=>zDa 4050 [0,1] _ _ _ (zAn (enc:=encI) [0,1] (by exact rfl) _ q.below q.own) zDw.1 zDw.2.1 (by decide)) (by intro G G' h;simp (decide:=true) only [h]) ?_|refine Two.zAB _ rfl (fun _=>rfl) rfl (fun _=>rfl) (fun _=>rfl) (fun _ _ _ q=>zDa 9100 [2,3] _ _ _ (zAn (enc:=encI) [2,3] (by exact rfl) _ q.below q.own) zDw.2.2.1 zDw.2.2.2 (by decide)) (by intro G G' h;simp (decide:=true) only [h]) ?_|(first|refine c_eqsp rfl (fun _=>rfl) rfl (fun _=>rfl) (fun _=>rfl) (fun h=>?_) (fun h=>absurd ⟨rfl,rfl⟩ h)|refine Two.c_eqspT rfl (fun _=>rfl) rfl (fun _=>rfl) (fun _=>rfl) (fun h=>?_) (fun h=>absurd ⟨rfl,rfl⟩ h))|refine Two.zAB _ rfl (fun _=>rfl) rfl (fun _=>rfl) (fun _=>rfl) (fun _ _ _ q=>ints_s [0,2] _ _ _ _ _ (zAp q.own (Below.refl _ _)) (zAn (enc:=encI) [0,2] (by exact rfl) _ q.below q.own) (by decide)) (by intro G G' h;simp (decide:=true) only [h]) ?_|refine Two.zAB _ rfl (fun _=>rfl) rfl (fun _=>rfl) (fun _=>rfl) (fun _ _ _ q=>zEL _) (by intro G G' h;simp (decide:=true) only [h]) ?_|refine Two.zAB _ rfl (fun _=>rfl) rfl (fun _=>rfl) (fun _=>rfl) (fun _ _ _ q=>zHF _ _ (zAu (enc:=zAt) (by exact rfl) _ q.below q.own)) (by intro G G' h;simp (decide:=true) only [h]) ?_|refine Two.zAw rfl (fun _=>rfl) rfl (fun _=>rfl) (by exact rfl) (by exact fun _=>rfl) (by intro G G' h;simp (decide:=true) only [h]) ?_)|(with_reducible refine Two.zEd ?_)))
 all_goals
  (intro G;simp only [regsT,zc,Two.zAR,Two.ini,List.nil_append,List.cons_append])
  (repeat' (first|(with_reducible first|refine zA ?_|refine zg ?_)))
  exact zP (by exact rTm rfl) () trivial rfl (fun _ h=>h.sub (by (repeat constructor)))
end Go.Proofs.YtcpdjamlhhfbhaaDoor
