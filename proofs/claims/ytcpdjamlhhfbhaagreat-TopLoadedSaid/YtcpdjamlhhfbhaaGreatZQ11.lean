/- ZQ11 -/
import Derived.Test.YtcpdjamlhhfbhaaGreatZQ10
import Derived.Test.YtcpdjamlhhfbhaaGreatZQ7
set_option linter.unusedSimpArgs false
set_option linter.unusedVariables false
namespace Go.Proofs.YtcpdjamlhhfbhaaGreat
variable {ro : Option Nat}
open Go.RowKit
set_option maxRecDepth 20000
section
variable {P : Program} {w0:World} {n:Nat} {d:List Deferred} {R:List (Nat × Value)} {H H':List Ent} {Q:Exit→Act→World→Prop} {ops:Array Oper} {rest:List Oper} {o:Oper} {t:Tmp} {x y:Operand}
theorem zGs {T1 e k bytes m c:Nat} {A:Option Addr} [el:ElI P T1 e k bytes] (hop:o.op = .call { callee:=.builtin .append,args:=#[x,y],argTypes:=#[T1,T1] }) (hrd:rdy R ops n o=some t) (hx:evR R x=some (.slice A m c)) (hy:evR R y=some (.slice none 0 0)) (hm:Nat.ble m c=true)
  (h:U w0 n d ((t,.slice A m c)::R) H (wpL ro P ops Q rest)):U w0 n d R H (wpL ro P ops Q (o::rest)):=by
 refine zAg hrd (fun a w q=>?_) h
 obtain ⟨z,hE⟩:=el.el
 obtain ⟨i,i1,i2,i3,i4⟩:=hE.info
 have hm':=Nat.le_of_ble_eq_true hm
 have e1:(Builtin.append_ #[T1,T1] o.type #[.slice A m c,.slice none 0 0]).run P w = .ok (.slice A m c) w:=by
  cases A<;>simp [Builtin.append_,run_underlying hE.under,sizeOf,typeInfo,i1,Builtin.lenOf,Builtin.firstCells,hm',storeCells]
 unfold execOp
 simp only [hop,resolve,invoke,builtin,Sem.run_bind,Sem.run_pure,Result.andThen_ok,List.map_toArray,List.map_cons,List.map_nil,q.ev hx,q.ev hy,e1]
end
theorem cin_fn (x lo hi:Int) (b c:Nat) (w:World) (h1:InC w b 0 [.int .i64 lo]) (h2:InC w c 0 [.int .i64 hi]):Gv Tryz.prog 74 [.int .i64 x,.pointer (some ⟨b,0,none⟩),.pointer (some ⟨c,0,none⟩)] w (.bool (!inB lo hi x)):=by
 unfold Gv
 (refine ze (n:=13) Tryz.func74 rfl rfl rfl ?_)
 (repeat' (first|((with_reducible refine zV ?_);first|refine zO rfl rfl rfl ?_|refine zD rfl rfl rfl ?_|(refine zQ rfl rfl rfl ?_;refine ⟨_,rfl,?_⟩)|refine zr rfl rfl rfl rfl ?_|refine zN rfl rfl rfl ?_|refine zM rfl rfl ?_|(refine zd rfl rfl rfl rfl rfl (fun h=>?_) (fun h=>?_)<;>(dsimp only [cmpP] at h;(try (exfalso;omega)))))|(with_reducible first|refine zW ?_|refine zC ?_|refine zU ?_|refine zB ?_|refine zX ?_|refine zT ?_|refine zF ?_|refine zf ?_)))
 all_goals exact zk (by exact rTm rfl) () trivial (by simp [resV,inB];omega) (fun _ h=>h.sub (by (repeat constructor)))
theorem zGj (lo hi:Int) (l:List Int) (A:Option Addr) (cap:Nat) (w:World) (hk:zAB encI 1 w A l) (hl:l.length≤1000000):Gv Tryz.prog 42 [.int .i64 lo,.int .i64 hi,.slice A l.length cap] w (.bool (l.all (inB lo hi))):=by
 unfold Gv
 rw [← zIR]
 (refine ze (n:=11) Tryz.func42 rfl rfl rfl ?_)
 (repeat' (first|((with_reducible refine zV ?_);first|refine zO rfl rfl rfl ?_|refine zD rfl rfl rfl ?_|refine zn rfl rfl rfl rfl (fun _ _ q=>ci_con l A cap _ _ (fun n=>!inB lo hi n) _ (hk.below q.below) hl (fun x W' _ hW'=>cin_fn x lo hi _ _ W' (zBC q.own hW' rfl) (zBC q.own hW' rfl))) ?_|refine zt rfl rfl rfl ?_|(refine zl rfl rfl rfl rfl (fun b=>?_))|refine zz rfl rfl rfl rfl ?_)|(with_reducible first|refine zW ?_|refine zC ?_|refine zU ?_|refine zB ?_|refine zX ?_|refine zT ?_|refine zF ?_|refine zf ?_)))
 all_goals exact zk (by exact rTm rfl) () trivial rfl (fun _ h=>h.sub (by (repeat constructor)))
theorem zIy (kf:FuncId) (cs:Array Value) (w:World):Gv Tryz.prog 116 [.slice none 0 0,.func (.func kf) #[] cs] w (.bool false):=by
 have h1:∀ W,Gv Tryz.prog 139 [.slice none 0 0,.func (.func kf) #[] cs] W (.int .i64 (-1)):=fun W=>by
  unfold Gv
  (refine ze (n:=19) Tryz.func139 rfl rfl rfl ?_)
  (repeat' (first|((with_reducible refine zV ?_);first|refine zO rfl rfl rfl ?_|refine zD rfl rfl rfl ?_|(refine zQ rfl rfl rfl ?_;refine ⟨_,rfl,?_⟩)|(refine zd rfl rfl rfl rfl rfl (fun h=>?_) (fun h=>?_)<;>(dsimp only [cmpP] at h;(try (exfalso;omega))))|refine zb rfl rfl rfl rfl (by omega) ?_|refine zm rfl rfl rfl rfl (IntWalk.i64_in _ (by omega)) ?_|refine zK rfl rfl rfl rfl rfl (by omega) ?_|refine zL rfl rfl rfl rfl rfl (by first|decide|omega) ?_|refine zj rfl rfl rfl ?_)|(with_reducible first|refine zW ?_|refine zC ?_|refine zU ?_|refine zB ?_|refine zX ?_|refine zT ?_|refine zF ?_|refine zf ?_|refine zP ?_|refine zZ ?_|refine zY ?_|refine za ?_|refine zG ?_|refine zJ ?_)|((with_reducible refine zE ?_ ?_);(· exact rfl))|((with_reducible refine zI ?_ ?_);(· exact rfl))|((with_reducible refine zH ?_ ?_);(· exact rfl))))
  refine zAC (ι:=Unit) [] rfl (fun _=>True) (fun _=>[(7,.int .i64 0),(8,.int .i64 0)]) (fun _=>[]) (fun _=>0) () trivial (by (repeat first|exact lK1|refine zp rfl ?_)) (by (repeat constructor)) ?_
  rintro ⟨⟩ -
  simp only [zAm,List.cons_append,List.nil_append]
  (repeat' (first|((with_reducible refine zV ?_);first|refine zO rfl rfl rfl ?_|refine zD rfl rfl rfl ?_|(refine zQ rfl rfl rfl ?_;refine ⟨_,rfl,?_⟩)|(refine zd rfl rfl rfl rfl rfl (fun h=>?_) (fun h=>?_)<;>(dsimp only [cmpP] at h;(try (exfalso;omega))))|refine zb rfl rfl rfl rfl (by omega) ?_|refine zm rfl rfl rfl rfl (IntWalk.i64_in _ (by omega)) ?_|refine zK rfl rfl rfl rfl rfl (by omega) ?_|refine zL rfl rfl rfl rfl rfl (by first|decide|omega) ?_|refine zj rfl rfl rfl ?_)|(with_reducible first|refine zW ?_|refine zC ?_|refine zU ?_|refine zB ?_|refine zX ?_|refine zT ?_|refine zF ?_|refine zf ?_|refine zP ?_|refine zZ ?_|refine zY ?_|refine za ?_|refine zG ?_|refine zJ ?_)|((with_reducible refine zE ?_ ?_);(· exact rfl))|((with_reducible refine zI ?_ ?_);(· exact rfl))|((with_reducible refine zH ?_ ?_);(· exact rfl))))
  exact zk (by exact rTm rfl) () trivial rfl (fun _ h=>h.sub (by (repeat constructor)))
 unfold Gv
 (refine ze (n:=9) Tryz.func116 rfl rfl rfl ?_)
 (repeat' (first|((with_reducible refine zV ?_);first|refine zO rfl rfl rfl ?_|refine zD rfl rfl rfl ?_|(refine zd rfl rfl rfl rfl rfl (fun h=>?_) (fun h=>?_)<;>(dsimp only [cmpP] at h;(try (exfalso;omega))))|refine zn rfl rfl rfl rfl (fun _ _ q=>h1 _) ?_)|(with_reducible first|refine zW ?_|refine zC ?_|refine zU ?_|refine zB ?_|refine zX ?_|refine zT ?_|refine zF ?_|refine zf ?_)))
 exact zk (by exact rTm rfl) () trivial rfl (fun _ h=>h.sub (by (repeat constructor)))
theorem cin_1 (lo hi a:Int) (c:Nat) (A:Option Addr) (w:World) (hk:zAB encI 1 w A [a]):Gv Tryz.prog 42 [.int .i64 lo,.int .i64 hi,.slice A 1 c] w (.bool (inB lo hi a)):=by
 have:=zGj lo hi [a] A c w hk (by simp)
 simpa using this
theorem zEk (lo hi a:Int) (c:Nat) (A:Option Addr) (w:World) (hk:zAB encI 1 w A [a]) (h:inB lo hi a=true):Gv Tryz.prog 42 [.int .i64 lo,.int .i64 hi,.slice A 1 c] w (.bool true):=h ▸ cin_1 lo hi a c A w hk
theorem cbare_0 (w:World):Gv Tryz.prog 117 [.agg #[.slice none 0 0,.int .i64 500,.int .i64 0,.int .i64 0,.slice none 0 0,.slice none 0 0,.int .i64 0,.bool false]] w (.bool true):=by
 unfold Gv
 (refine ze (n:=43) Tryz.func117 rfl rfl rfl ?_)
 (repeat' (first|((with_reducible refine zV ?_);first|refine zO rfl rfl rfl ?_|refine zD rfl rfl rfl ?_|(refine zQ rfl rfl rfl ?_;refine ⟨_,rfl,?_⟩)|refine zS rfl rfl rfl ?_|refine zr rfl rfl rfl rfl ?_|refine zN rfl rfl rfl ?_|refine zM rfl rfl ?_|(refine zd rfl rfl rfl rfl rfl (fun h=>?_) (fun h=>?_)<;>(dsimp only [cmpP] at h;(try (exfalso;omega))))|refine zn rfl rfl rfl rfl (fun _ _ q=>zEk _ _ _ _ _ _ (zAO (enc:=encI) (by exact rfl) _ q.below q.own) (by decide)) ?_|refine zGs rfl rfl rfl rfl rfl ?_|refine zj rfl rfl rfl ?_|(refine zl rfl rfl rfl rfl (fun b=>?_))|(refine zR rfl rfl rfl ?_;refine ⟨rfl,_,rfl,fun b=>?_⟩))|(with_reducible first|refine zW ?_|refine zC ?_|refine zU ?_|refine zB ?_|refine zX ?_|refine zT ?_|refine zF ?_|refine zf ?_)))
 exact zk (by exact rTm rfl) () trivial rfl (fun _ h=>h.sub (by (repeat constructor)))
theorem cfits_0 (g:Nat) (w:World):Gv Tryz.prog 71 [.pointer (some ⟨g,0,none⟩),.agg #[.slice none 0 0,.int .i64 500,.int .i64 0,.int .i64 0,.slice none 0 0,.slice none 0 0,.int .i64 0,.bool false]] w (.bool true):=by
 unfold Gv
 (refine ze (n:=22) Tryz.func71 rfl rfl rfl ?_)
 (repeat' (first|((with_reducible refine zV ?_);first|refine zO rfl rfl rfl ?_|refine zD rfl rfl rfl ?_|(refine zQ rfl rfl rfl ?_;refine ⟨_,rfl,?_⟩)|refine zS rfl rfl rfl ?_|refine zr rfl rfl rfl rfl ?_|refine zN rfl rfl rfl ?_|refine zM rfl rfl ?_|(refine zd rfl rfl rfl rfl rfl (fun h=>?_) (fun h=>?_)<;>(dsimp only [cmpP] at h;(try (exfalso;omega))))|refine zn rfl rfl rfl rfl (fun _ _ q=>zIy _ _ _) ?_|refine zn rfl rfl rfl rfl (fun _ _ q=>cbare_0 _) ?_|refine zt rfl rfl rfl ?_|refine zj rfl rfl rfl ?_|(refine zl rfl rfl rfl rfl (fun b=>?_))|refine zz rfl rfl rfl rfl ?_)|(with_reducible first|refine zW ?_|refine zC ?_|refine zU ?_|refine zB ?_|refine zX ?_|refine zT ?_|refine zF ?_|refine zf ?_)))
 exact zk (by exact rTm rfl) () trivial rfl (fun _ h=>h.sub (by (repeat constructor)))
def zDR (_:Unit):List Value:=[.slice none 0 0,.int .i64 500,.int .i64 0,.int .i64 0,.slice none 0 0,.slice none 0 0,.int .i64 0,.bool false]
instance : zBX zDR 8:=⟨fun _=>rfl,fun x v hv=>by simp [zDR] at hv;rcases hv with rfl|rfl|rfl|rfl|rfl|rfl|rfl|rfl<;>rfl⟩
def zBr (i:Int):Value:=.int .i64 i
def zBf (h m:Nat):List Ent:=[.blk h [.slice none 0 0,.map (some m)],.ml m zBr zBr ([]:List (Int × Int × Nat)) 0]
theorem copen_0 (w:World):Ret Tryz.prog 70 [.agg #[.slice none 0 0]] w (fun p:Nat × Nat=>.tuple #[.pointer (some ⟨p.1,0,none⟩),.int .i64 0]) (fun p=>zBf p.1 p.2) (fun _=>True):=by
 unfold zBf
 (refine ze (n:=43) Tryz.func70 rfl rfl rfl ?_)
 (repeat' (first|((with_reducible refine zV ?_);first|refine zO rfl rfl rfl ?_|refine zD rfl rfl rfl ?_|(refine zQ rfl rfl rfl ?_;refine ⟨_,rfl,?_⟩)|refine zS rfl rfl rfl ?_|refine zr rfl rfl rfl rfl ?_|refine zN rfl rfl rfl ?_|refine zM rfl rfl ?_|(refine zd rfl rfl rfl rfl rfl (fun h=>?_) (fun h=>?_)<;>(dsimp only [cmpP] at h;(try (exfalso;omega))))|refine zFf rfl rfl (fun m=>?_)|refine zt rfl rfl rfl ?_|refine zb rfl rfl rfl rfl (by omega) ?_|refine zm rfl rfl rfl rfl (IntWalk.i64_in _ (by omega)) ?_|refine zK rfl rfl rfl rfl rfl (by omega) ?_|refine zL rfl rfl rfl rfl rfl (by first|decide|omega) ?_|refine zj rfl rfl rfl ?_|(refine zg rfl rfl rfl rfl rfl ?_;refine ⟨rfl,by first|decide|exact Nat.le_of_ble_eq_true rfl|(simp;omega),_,rfl,?_⟩)|(refine zh rfl rfl (fun b=>?_))|(refine zl rfl rfl rfl rfl (fun b=>?_))|(refine zy rfl rfl rfl ?_;refine ⟨_,rfl,?_⟩)|refine zx rfl rfl rfl ?_)|(with_reducible first|refine zW ?_|refine zC ?_|refine zU ?_|refine zB ?_|refine zX ?_|refine zT ?_|refine zF ?_|refine zf ?_|refine zP ?_|refine zZ ?_|refine zY ?_|refine za ?_|refine zG ?_|refine zJ ?_)|((with_reducible refine zE ?_ ?_);(· exact rfl))|((with_reducible refine zI ?_ ?_);(· exact rfl))|((with_reducible refine zH ?_ ?_);(· exact rfl))))
 obtain ⟨bh,hbh⟩:∃ y,y=b:=⟨_,rfl⟩
 subst hbh
 refine zBx (H':=[.blk bh [.slice none 0 0,.map (some m)],.ml m zBr zBr ([]:List (Int × Int × Nat)) 0,.blk b [.slice none 0 0]]) (fun _ h=>h) ?_
 refine zAC (ι:=Unit) [1,4] rfl (fun _=>True) (fun _=>[(14,.int .i64 0),(15,.int .i64 0)]) (fun _=>[.blk bh [.slice none 0 0,.map (some m)],.ml m zBr zBr ([]:List (Int × Int × Nat)) 0,.blk b [.slice none 0 0]]) (fun _=>0) () trivial (by (repeat first|exact lK1|refine zp rfl ?_)) (by (repeat constructor)) ?_
 rintro ⟨⟩ -
 simp only [zAm,List.cons_append,List.nil_append]
 (repeat' (first|((with_reducible refine zV ?_);first|refine zO rfl rfl rfl ?_|refine zD rfl rfl rfl ?_|(refine zQ rfl rfl rfl ?_;refine ⟨_,rfl,?_⟩)|refine zS rfl rfl rfl ?_|refine zr rfl rfl rfl rfl ?_|refine zN rfl rfl rfl ?_|refine zM rfl rfl ?_|(refine zd rfl rfl rfl rfl rfl (fun h=>?_) (fun h=>?_)<;>(dsimp only [cmpP] at h;(try (exfalso;omega))))|refine zt rfl rfl rfl ?_|refine zb rfl rfl rfl rfl (by omega) ?_|refine zm rfl rfl rfl rfl (IntWalk.i64_in _ (by omega)) ?_|refine zK rfl rfl rfl rfl rfl (by omega) ?_|refine zL rfl rfl rfl rfl rfl (by first|decide|omega) ?_|refine zj rfl rfl rfl ?_|(refine zg rfl rfl rfl rfl rfl ?_;refine ⟨rfl,by first|decide|exact Nat.le_of_ble_eq_true rfl|(simp;omega),_,rfl,?_⟩)|(refine zh rfl rfl (fun b=>?_))|(refine zl rfl rfl rfl rfl (fun b=>?_))|(refine zy rfl rfl rfl ?_;refine ⟨_,rfl,?_⟩)|refine zx rfl rfl rfl ?_)|(with_reducible first|refine zW ?_|refine zC ?_|refine zU ?_|refine zB ?_|refine zX ?_|refine zT ?_|refine zF ?_|refine zf ?_|refine zP ?_|refine zZ ?_|refine zY ?_|refine za ?_|refine zG ?_|refine zJ ?_)|((with_reducible refine zE ?_ ?_);(· exact rfl))|((with_reducible refine zI ?_ ?_);(· exact rfl))|((with_reducible refine zH ?_ ?_);(· exact rfl))))
 exact zk (by (exact zAX.cons (by exact zBv.tmp rfl) (zAX.cons (by exact zBv.tmp rfl) zAX.nil))) (bh,m) trivial rfl (fun _ h=>h.sub (by (repeat constructor)))
set_option maxHeartbeats 1000000 in
theorem casked_0 (A:Option Addr) (w:World) (hA:zAB zDR 8 w A [()]):Ret Tryz.prog 38 [.agg #[.slice none 0 0],.slice A 1 1] w (fun p:Nat × Nat=>.tuple #[.pointer (some ⟨p.1,0,none⟩),.int .i64 0]) (fun p=>zBf p.1 p.2) (fun _=>True):=by
 obtain ⟨bA,oA,rfl,_,_⟩:=hA.at_ (show 0 < [()].length by simp)
 have:InS w bA oA zDR 8 [()]:=⟨hA⟩
 have:zAZ [()] 0 ():=⟨rfl⟩
 unfold zBf
 (refine ze (n:=30) Tryz.func38 rfl rfl rfl ?_)
 (repeat' (first|((with_reducible refine zV ?_);first|refine zO rfl rfl rfl ?_|refine zD rfl rfl rfl ?_|(refine zQ rfl rfl rfl ?_;refine ⟨_,rfl,?_⟩)|(refine zd rfl rfl rfl rfl rfl (fun h=>?_) (fun h=>?_)<;>(dsimp only [cmpP] at h;(try (exfalso;omega))))|(refine zAU rfl rfl rfl rfl (fun _ _ q=>copen_0 _) ?_;rintro ⟨bh,m⟩ -;unfold zBf;dsimp only [List.cons_append,List.nil_append])|refine zq rfl rfl rfl rfl ?_|refine zt rfl rfl rfl ?_|refine zb rfl rfl rfl rfl (by omega) ?_|refine zm rfl rfl rfl rfl (IntWalk.i64_in _ (by omega)) ?_|refine zK rfl rfl rfl rfl rfl (by omega) ?_|refine zL rfl rfl rfl rfl rfl (by first|decide|omega) ?_|refine zj rfl rfl rfl ?_|(refine zg rfl rfl rfl rfl rfl ?_;refine ⟨rfl,by first|decide|exact Nat.le_of_ble_eq_true rfl|(simp;omega),_,rfl,?_⟩)|(refine zh rfl rfl (fun b=>?_))|(refine zl rfl rfl rfl rfl (fun b=>?_)))|(with_reducible first|refine zW ?_|refine zC ?_|refine zU ?_|refine zB ?_|refine zX ?_|refine zT ?_|refine zF ?_|refine zf ?_|refine zP ?_|refine zZ ?_|refine zY ?_|refine za ?_|refine zG ?_|refine zJ ?_)|((with_reducible refine zE ?_ ?_);(· exact rfl))|((with_reducible refine zI ?_ ?_);(· exact rfl))|((with_reducible refine zH ?_ ?_);(· exact rfl))))
 refine zAC (ι:=Nat) [6,18,19] rfl (fun i=>i≤1) (fun i=>[(20,.int .i64 (i:Int))]) (fun _=>[.blk bh [.slice none 0 0,.map (some m)],.ml m zBr zBr ([]:List (Int × Int × Nat)) 0]) (fun i=>1 - i) 0 (by omega) (by (repeat first|exact lK1|refine zp rfl ?_)) (by (repeat constructor)) ?_
 rintro i hi
 simp only [zAm,List.cons_append,List.nil_append]
 by_cases hlt:i<1
 ·obtain rfl:i=0:=by omega
  (repeat' (first|((with_reducible refine zV ?_);first|refine zO rfl rfl rfl ?_|refine zD rfl rfl rfl ?_|(refine zQ rfl rfl rfl ?_;refine ⟨_,rfl,?_⟩)|(refine zd rfl rfl rfl rfl rfl (fun h=>?_) (fun h=>?_)<;>(dsimp only [cmpP] at h;(try (exfalso;omega))))|refine zK (I:=0) rfl rfl rfl rfl rfl (by decide) ?_|refine zn rfl rfl rfl rfl (fun _ _ q=>cfits_0 _ _) ?_|refine zq rfl rfl rfl rfl ?_|refine zt rfl rfl rfl ?_|refine zb rfl rfl rfl rfl (by omega) ?_|refine zm rfl rfl rfl rfl (IntWalk.i64_in _ (by omega)) ?_|refine zK rfl rfl rfl rfl rfl (by omega) ?_|refine zL rfl rfl rfl rfl rfl (by first|decide|omega) ?_|refine zj rfl rfl rfl ?_|(refine zg rfl rfl rfl rfl rfl ?_;refine ⟨rfl,by first|decide|exact Nat.le_of_ble_eq_true rfl|(simp;omega),_,rfl,?_⟩)|(refine zh rfl rfl (fun b=>?_))|(refine zl rfl rfl rfl rfl (fun b=>?_)))|(with_reducible first|refine zW ?_|refine zC ?_|refine zU ?_|refine zB ?_|refine zX ?_|refine zT ?_|refine zF ?_|refine zf ?_|refine zP ?_|refine zZ ?_|refine zY ?_|refine za ?_|refine zG ?_|refine zJ ?_)|((with_reducible refine zE ?_ ?_);(· exact rfl))|((with_reducible refine zI ?_ ?_);(· exact rfl))|((with_reducible refine zH ?_ ?_);(· exact rfl))))
  exact z6 (ι:=Nat) 1 (by omega) (by omega) (by (repeat first|exact lK1|refine zp rfl ?_)) (by (repeat constructor))
 ·obtain rfl:i=1:=by omega
  (repeat' (first|((with_reducible refine zV ?_);first|refine zO rfl rfl rfl ?_|refine zD rfl rfl rfl ?_|(refine zQ rfl rfl rfl ?_;refine ⟨_,rfl,?_⟩)|(refine zd rfl rfl rfl rfl rfl (fun h=>?_) (fun h=>?_)<;>(dsimp only [cmpP] at h;(try (exfalso;omega))))|refine zq rfl rfl rfl rfl ?_|refine zt rfl rfl rfl ?_|refine zb rfl rfl rfl rfl (by omega) ?_|refine zm rfl rfl rfl rfl (IntWalk.i64_in _ (by omega)) ?_|refine zK rfl rfl rfl rfl rfl (by omega) ?_|refine zL rfl rfl rfl rfl rfl (by first|decide|omega) ?_|refine zj rfl rfl rfl ?_|(refine zg rfl rfl rfl rfl rfl ?_;refine ⟨rfl,by first|decide|exact Nat.le_of_ble_eq_true rfl|(simp;omega),_,rfl,?_⟩)|(refine zh rfl rfl (fun b=>?_))|(refine zl rfl rfl rfl rfl (fun b=>?_)))|(with_reducible first|refine zW ?_|refine zC ?_|refine zU ?_|refine zB ?_|refine zX ?_|refine zT ?_|refine zF ?_|refine zf ?_|refine zP ?_|refine zZ ?_|refine zY ?_|refine za ?_|refine zG ?_|refine zJ ?_)|((with_reducible refine zE ?_ ?_);(· exact rfl))|((with_reducible refine zI ?_ ?_);(· exact rfl))|((with_reducible refine zH ?_ ?_);(· exact rfl))))
  exact zk (by (exact zAX.cons (by exact zBv.tmp rfl) (zAX.cons (by exact zBv.tmp rfl) zAX.nil))) (bh,m) trivial rfl (fun _ h=>h.sub (by (repeat constructor)))
set_option maxHeartbeats 1000000 in
theorem cused_0 (gh m:Nat) (w:World) (wb:World) (hwb:Below wb.heap.size wb w) (hO:Own wb.heap.size w (zBf gh m)):zC2 Tryz.prog 43 [.pointer (some ⟨gh,0,none⟩),.agg #[.slice none 0 0,.int .i64 500,.int .i64 0,.int .i64 0,.slice none 0 0,.slice none 0 0,.int .i64 0,.bool false]] w (zBf gh m) (fun _:Unit=>.slice none 0 0) (fun _=>zBf gh m) (fun _=>True):=by
 unfold zBf at *
 refine zBi (n:=56) hwb hO Tryz.func43 rfl rfl rfl ?_
 simp only [List.cons_append,List.nil_append]
 (repeat' (first|((with_reducible refine zV ?_);first|refine zO rfl rfl rfl ?_|refine zD rfl rfl rfl ?_|(refine zQ rfl rfl rfl ?_;refine ⟨_,rfl,?_⟩)|refine zS rfl rfl rfl ?_|(refine zd rfl rfl rfl rfl rfl (fun h=>?_) (fun h=>?_)<;>(dsimp only [cmpP] at h;(try (exfalso;omega))))|refine zFf rfl rfl (fun m2=>?_)|refine zGr (kv:=zBr) (vv:=zBr) rfl rfl rfl (by (repeat constructor)) (fun r=>?_)|refine zq rfl rfl rfl rfl ?_|refine zt rfl rfl rfl ?_|refine zb rfl rfl rfl rfl (by omega) ?_|refine zm rfl rfl rfl rfl (IntWalk.i64_in _ (by omega)) ?_|refine zK rfl rfl rfl rfl rfl (by omega) ?_|refine zL rfl rfl rfl rfl rfl (by first|decide|omega) ?_|refine zj rfl rfl rfl ?_|(refine zg rfl rfl rfl rfl rfl ?_;refine ⟨rfl,by first|decide|exact Nat.le_of_ble_eq_true rfl|(simp;omega),_,rfl,?_⟩)|(refine zh rfl rfl (fun b=>?_))|(refine zl rfl rfl rfl rfl (fun b=>?_))|(refine zR rfl rfl rfl ?_;refine ⟨rfl,_,rfl,fun b=>?_⟩)|refine zx rfl rfl rfl ?_)|(with_reducible first|refine zW ?_|refine zC ?_|refine zU ?_|refine zB ?_|refine zX ?_|refine zT ?_|refine zF ?_|refine zf ?_|refine zP ?_|refine zZ ?_|refine zY ?_|refine za ?_|refine zG ?_|refine zJ ?_)|((with_reducible refine zE ?_ ?_);(· exact rfl))|((with_reducible refine zI ?_ ?_);(· exact rfl))|((with_reducible refine zH ?_ ?_);(· exact rfl))))
 refine zAC (ι:=Unit) [0,3,17] rfl (fun _=>True) (fun _=>[]) (fun _=>[.itl r m 0 [],.blk b [.slice none 0 0,.int .i64 500,.int .i64 0,.int .i64 0,.slice none 0 0,.slice none 0 0,.int .i64 0,.bool false],.blk gh [.slice none 0 0,.map (some m)],.ml m zBr zBr ([]:List (Int × Int × Nat)) 0,.oldx w wb.heap.size (feet [.blk gh [.slice none 0 0,.map (some m)],.ml m zBr zBr ([]:List (Int × Int × Nat)) 0])]) (fun _=>0) () trivial (by (repeat first|exact lK1|refine zp rfl ?_)) (by (repeat constructor)) ?_
 rintro ⟨⟩ -
 simp only [zAm,List.cons_append,List.nil_append]
 (repeat' (first|((with_reducible refine zV ?_);first|refine zO rfl rfl rfl ?_|refine zD rfl rfl rfl ?_|(refine zQ rfl rfl rfl ?_;refine ⟨_,rfl,?_⟩)|refine zS rfl rfl rfl ?_|(refine zd rfl rfl rfl rfl rfl (fun h=>?_) (fun h=>?_)<;>(dsimp only [cmpP] at h;(try (exfalso;omega))))|(refine zIE (kv:=zBr) (vv:=zBr) rfl rfl rfl (by (repeat constructor)) (by (repeat constructor)) (MOk.nil 0) (fun hend=>?_) (fun p hp hpn=>by cases hp))|refine zq rfl rfl rfl rfl ?_|refine zt rfl rfl rfl ?_|refine zb rfl rfl rfl rfl (by omega) ?_|refine zm rfl rfl rfl rfl (IntWalk.i64_in _ (by omega)) ?_|refine zK rfl rfl rfl rfl rfl (by omega) ?_|refine zL rfl rfl rfl rfl rfl (by first|decide|omega) ?_|refine zj rfl rfl rfl ?_|(refine zg rfl rfl rfl rfl rfl ?_;refine ⟨rfl,by first|decide|exact Nat.le_of_ble_eq_true rfl|(simp;omega),_,rfl,?_⟩)|(refine zh rfl rfl (fun b=>?_))|(refine zl rfl rfl rfl rfl (fun b=>?_))|(refine zR rfl rfl rfl ?_;refine ⟨rfl,_,rfl,fun b=>?_⟩)|refine zx rfl rfl rfl ?_)|(with_reducible first|refine zW ?_|refine zC ?_|refine zU ?_|refine zB ?_|refine zX ?_|refine zT ?_|refine zF ?_|refine zf ?_|refine zP ?_|refine zZ ?_|refine zY ?_|refine za ?_|refine zG ?_|refine zJ ?_)|((with_reducible refine zE ?_ ?_);(· exact rfl))|((with_reducible refine zI ?_ ?_);(· exact rfl))|((with_reducible refine zH ?_ ?_);(· exact rfl))))
 refine zAC (ι:=Unit) [0,3] rfl (fun _=>True) (fun _=>[(26,.int .i64 0),(27,.int .i64 0)]) (fun _=>[.blk b [.slice none 0 0,.int .i64 500,.int .i64 0,.int .i64 0,.slice none 0 0,.slice none 0 0,.int .i64 0,.bool false],.blk gh [.slice none 0 0,.map (some m)],.ml m zBr zBr ([]:List (Int × Int × Nat)) 0,.oldx w wb.heap.size (feet [.blk gh [.slice none 0 0,.map (some m)],.ml m zBr zBr ([]:List (Int × Int × Nat)) 0])]) (fun _=>0) () trivial (by (repeat first|exact lK1|refine zp rfl ?_)) (by (repeat constructor)) ?_
 rintro ⟨⟩ -
 simp only [zAm,List.cons_append,List.nil_append]
 (repeat' (first|((with_reducible refine zV ?_);first|refine zO rfl rfl rfl ?_|refine zD rfl rfl rfl ?_|(refine zQ rfl rfl rfl ?_;refine ⟨_,rfl,?_⟩)|refine zS rfl rfl rfl ?_|(refine zd rfl rfl rfl rfl rfl (fun h=>?_) (fun h=>?_)<;>(dsimp only [cmpP] at h;(try (exfalso;omega))))|refine zq rfl rfl rfl rfl ?_|refine zt rfl rfl rfl ?_|refine zb rfl rfl rfl rfl (by omega) ?_|refine zm rfl rfl rfl rfl (IntWalk.i64_in _ (by omega)) ?_|refine zK rfl rfl rfl rfl rfl (by omega) ?_|refine zL rfl rfl rfl rfl rfl (by first|decide|omega) ?_|refine zj rfl rfl rfl ?_|(refine zg rfl rfl rfl rfl rfl ?_;refine ⟨rfl,by first|decide|exact Nat.le_of_ble_eq_true rfl|(simp;omega),_,rfl,?_⟩)|(refine zh rfl rfl (fun b=>?_))|(refine zl rfl rfl rfl rfl (fun b=>?_))|(refine zR rfl rfl rfl ?_;refine ⟨rfl,_,rfl,fun b=>?_⟩)|refine zx rfl rfl rfl ?_)|(with_reducible first|refine zW ?_|refine zC ?_|refine zU ?_|refine zB ?_|refine zX ?_|refine zT ?_|refine zF ?_|refine zf ?_|refine zP ?_|refine zZ ?_|refine zY ?_|refine za ?_|refine zG ?_|refine zJ ?_)|((with_reducible refine zE ?_ ?_);(· exact rfl))|((with_reducible refine zI ?_ ?_);(· exact rfl))|((with_reducible refine zH ?_ ?_);(· exact rfl))))
 refine zAC (ι:=Unit) [0] rfl (fun _=>True) (fun _=>[(9,.slice none 0 0),(40,.int .i64 0),(41,.int .i64 0)]) (fun _=>[.blk b [.slice none 0 0,.int .i64 500,.int .i64 0,.int .i64 0,.slice none 0 0,.slice none 0 0,.int .i64 0,.bool false],.blk gh [.slice none 0 0,.map (some m)],.ml m zBr zBr ([]:List (Int × Int × Nat)) 0,.oldx w wb.heap.size (feet [.blk gh [.slice none 0 0,.map (some m)],.ml m zBr zBr ([]:List (Int × Int × Nat)) 0])]) (fun _=>0) () trivial (by (repeat first|exact lK1|refine zp rfl ?_)) (by (repeat constructor)) ?_
 rintro ⟨⟩ -
 simp only [zAm,List.cons_append,List.nil_append]
 (repeat' (first|((with_reducible refine zV ?_);first|refine zO rfl rfl rfl ?_|refine zD rfl rfl rfl ?_|(refine zQ rfl rfl rfl ?_;refine ⟨_,rfl,?_⟩)|refine zS rfl rfl rfl ?_|(refine zd rfl rfl rfl rfl rfl (fun h=>?_) (fun h=>?_)<;>(dsimp only [cmpP] at h;(try (exfalso;omega))))|refine zq rfl rfl rfl rfl ?_|refine zt rfl rfl rfl ?_|refine zb rfl rfl rfl rfl (by omega) ?_|refine zm rfl rfl rfl rfl (IntWalk.i64_in _ (by omega)) ?_|refine zK rfl rfl rfl rfl rfl (by omega) ?_|refine zL rfl rfl rfl rfl rfl (by first|decide|omega) ?_|refine zj rfl rfl rfl ?_|(refine zg rfl rfl rfl rfl rfl ?_;refine ⟨rfl,by first|decide|exact Nat.le_of_ble_eq_true rfl|(simp;omega),_,rfl,?_⟩)|(refine zh rfl rfl (fun b=>?_))|(refine zl rfl rfl rfl rfl (fun b=>?_))|(refine zR rfl rfl rfl ?_;refine ⟨rfl,_,rfl,fun b=>?_⟩)|refine zx rfl rfl rfl ?_)|(with_reducible first|refine zW ?_|refine zC ?_|refine zU ?_|refine zB ?_|refine zX ?_|refine zT ?_|refine zF ?_|refine zf ?_|refine zP ?_|refine zZ ?_|refine zY ?_|refine za ?_|refine zG ?_|refine zJ ?_)|((with_reducible refine zE ?_ ?_);(· exact rfl))|((with_reducible refine zI ?_ ?_);(· exact rfl))|((with_reducible refine zH ?_ ?_);(· exact rfl))))
 exact zCq (by exact rTm rfl) () trivial rfl hwb (fun _ h=>h.sub (by (repeat constructor)))
set_option maxHeartbeats 1000000 in
theorem zIu (gh m:Nat) (w:World) (wb:World) (hwb:Below wb.heap.size wb w) (hO:Own wb.heap.size w (zBf gh m)):zC2 Tryz.prog 39 [.pointer (some ⟨gh,0,none⟩),.agg #[.slice none 0 0,.int .i64 500,.int .i64 0,.int .i64 0,.slice none 0 0,.slice none 0 0,.int .i64 0,.bool false]] w (zBf gh m) (fun p:Nat=>.slice (some ⟨p,0,none⟩) 1 1) (fun p=>.blk p [.int .i64 500,.int .i64 500]::zBf gh m) (fun _=>True):=by
 refine zBi (n:=29) hwb hO Tryz.func39 rfl rfl rfl ?_
 unfold zBf
 simp only [List.cons_append,List.nil_append]
 (repeat' (first|((with_reducible refine zV ?_);first|refine zO rfl rfl rfl ?_|refine zD rfl rfl rfl ?_|(refine zQ rfl rfl rfl ?_;refine ⟨_,rfl,?_⟩)|refine zS rfl rfl rfl ?_|(refine zd rfl rfl rfl rfl rfl (fun h=>?_) (fun h=>?_)<;>(dsimp only [cmpP] at h;(try (exfalso;omega))))|refine zb rfl rfl rfl rfl (by omega) ?_|refine zm rfl rfl rfl rfl (IntWalk.i64_in _ (by omega)) ?_|refine zK rfl rfl rfl rfl rfl (by omega) ?_|refine zL rfl rfl rfl rfl rfl (by first|decide|omega) ?_|refine zj rfl rfl rfl ?_|(refine zg rfl rfl rfl rfl rfl ?_;refine ⟨rfl,by first|decide|exact Nat.le_of_ble_eq_true rfl|(simp;omega),_,rfl,?_⟩)|(refine zh rfl rfl (fun b=>?_))|(refine zl rfl rfl rfl rfl (fun b=>?_))|(refine zy rfl rfl rfl ?_;refine ⟨_,rfl,?_⟩)|(refine zR rfl rfl rfl ?_;refine ⟨rfl,_,rfl,fun b=>?_⟩)|refine zz rfl rfl rfl rfl ?_)|(with_reducible first|refine zW ?_|refine zC ?_|refine zU ?_|refine zB ?_|refine zX ?_|refine zT ?_|refine zF ?_|refine zf ?_|refine zP ?_|refine zZ ?_|refine zY ?_|refine za ?_|refine zG ?_|refine zJ ?_)|((with_reducible refine zE ?_ ?_);(· exact rfl))|((with_reducible refine zI ?_ ?_);(· exact rfl))|((with_reducible refine zH ?_ ?_);(· exact rfl))))
 rename_i b3 b14
 obtain ⟨b5,hb5⟩:∃ y,y=b:=⟨_,rfl⟩
 subst hb5
 refine zDN (zBf gh m) [.blk b5 [.slice (some ⟨b14,0,none⟩) 1 1],.blk b14 [.int .i64 500,.int .i64 500],.blk b3 [.slice none 0 0,.int .i64 500,.int .i64 0,.int .i64 0,.slice none 0 0,.slice none 0 0,.int .i64 0,.bool false],.oldx w wb.heap.size (feet [.blk gh [.slice none 0 0,.map (some m)],.ml m zBr zBr ([]:List (Int × Int × Nat)) 0])] rfl rfl rfl rfl (by unfold zBf;simp only [List.cons_append,List.nil_append];(repeat constructor)) (fun a W q=>cused_0 gh m W wb q.below (Own.append.1 q.own).1) ?_
 rintro ⟨⟩ -
 unfold zBf
 simp only [List.cons_append,List.nil_append]
 (repeat' (first|((with_reducible refine zV ?_);first|refine zO rfl rfl rfl ?_|refine zD rfl rfl rfl ?_|(refine zQ rfl rfl rfl ?_;refine ⟨_,rfl,?_⟩)|refine zS rfl rfl rfl ?_|(refine zd rfl rfl rfl rfl rfl (fun h=>?_) (fun h=>?_)<;>(dsimp only [cmpP] at h;(try (exfalso;omega))))|refine zb rfl rfl rfl rfl (by omega) ?_|refine zm rfl rfl rfl rfl (IntWalk.i64_in _ (by omega)) ?_|refine zK rfl rfl rfl rfl rfl (by omega) ?_|refine zL rfl rfl rfl rfl rfl (by first|decide|omega) ?_|refine zj rfl rfl rfl ?_|(refine zg rfl rfl rfl rfl rfl ?_;refine ⟨rfl,by first|decide|exact Nat.le_of_ble_eq_true rfl|(simp;omega),_,rfl,?_⟩)|(refine zh rfl rfl (fun b=>?_))|(refine zl rfl rfl rfl rfl (fun b=>?_))|(refine zy rfl rfl rfl ?_;refine ⟨_,rfl,?_⟩)|(refine zR rfl rfl rfl ?_;refine ⟨rfl,_,rfl,fun b=>?_⟩)|refine zz rfl rfl rfl rfl ?_)|(with_reducible first|refine zW ?_|refine zC ?_|refine zU ?_|refine zB ?_|refine zX ?_|refine zT ?_|refine zF ?_|refine zf ?_|refine zP ?_|refine zZ ?_|refine zY ?_|refine za ?_|refine zG ?_|refine zJ ?_)|((with_reducible refine zE ?_ ?_);(· exact rfl))|((with_reducible refine zI ?_ ?_);(· exact rfl))|((with_reducible refine zH ?_ ?_);(· exact rfl))))
 refine zAC (ι:=Unit) [5] rfl (fun _=>True) (fun _=>[(19,.int .i64 0),(20,.int .i64 0)]) (fun _=>[.blk gh [.slice none 0 0,.map (some m)],.ml m zBr zBr ([]:List (Int × Int × Nat)) 0,.blk b5 [.slice (some ⟨b14,0,none⟩) 1 1],.blk b14 [.int .i64 500,.int .i64 500],.blk b3 [.slice none 0 0,.int .i64 500,.int .i64 0,.int .i64 0,.slice none 0 0,.slice none 0 0,.int .i64 0,.bool false],.oldx w wb.heap.size (feet [.blk gh [.slice none 0 0,.map (some m)],.ml m zBr zBr ([]:List (Int × Int × Nat)) 0])]) (fun _=>0) () trivial (by (repeat first|exact lK1|refine zp rfl ?_)) (by (repeat constructor)) ?_
 rintro ⟨⟩ -
 simp only [zAm,List.cons_append,List.nil_append]
 (repeat' (first|((with_reducible refine zV ?_);first|refine zO rfl rfl rfl ?_|refine zD rfl rfl rfl ?_|(refine zQ rfl rfl rfl ?_;refine ⟨_,rfl,?_⟩)|refine zS rfl rfl rfl ?_|(refine zd rfl rfl rfl rfl rfl (fun h=>?_) (fun h=>?_)<;>(dsimp only [cmpP] at h;(try (exfalso;omega))))|refine zb rfl rfl rfl rfl (by omega) ?_|refine zm rfl rfl rfl rfl (IntWalk.i64_in _ (by omega)) ?_|refine zK rfl rfl rfl rfl rfl (by omega) ?_|refine zL rfl rfl rfl rfl rfl (by first|decide|omega) ?_|refine zj rfl rfl rfl ?_|(refine zg rfl rfl rfl rfl rfl ?_;refine ⟨rfl,by first|decide|exact Nat.le_of_ble_eq_true rfl|(simp;omega),_,rfl,?_⟩)|(refine zh rfl rfl (fun b=>?_))|(refine zl rfl rfl rfl rfl (fun b=>?_))|(refine zy rfl rfl rfl ?_;refine ⟨_,rfl,?_⟩)|(refine zR rfl rfl rfl ?_;refine ⟨rfl,_,rfl,fun b=>?_⟩)|refine zz rfl rfl rfl rfl ?_)|(with_reducible first|refine zW ?_|refine zC ?_|refine zU ?_|refine zB ?_|refine zX ?_|refine zT ?_|refine zF ?_|refine zf ?_|refine zP ?_|refine zZ ?_|refine zY ?_|refine za ?_|refine zG ?_|refine zJ ?_)|((with_reducible refine zE ?_ ?_);(· exact rfl))|((with_reducible refine zI ?_ ?_);(· exact rfl))|((with_reducible refine zH ?_ ?_);(· exact rfl))))
 exact zCq (by exact rTm rfl) b14 trivial rfl hwb (fun _ h=>h.sub (by (try unfold zBf);(try simp only [List.cons_append,List.nil_append]);(repeat constructor)))
set_option maxHeartbeats 1000000 in
theorem zI1 (w:World):Ret Tryz.prog 16 [.agg #[.slice none 0 0],.agg #[.slice none 0 0,.int .i64 500,.int .i64 0,.int .i64 0,.slice none 0 0,.slice none 0 0,.int .i64 0,.bool false]] w (fun p:Nat=>.tuple #[.slice (some ⟨p,0,none⟩) 1 1,.int .i64 0]) (fun p=>[.blk p [.int .i64 500,.int .i64 500]]) (fun _=>True):=by
 have hA:=fun W A (h:zAB zDR 8 W A [()])=>casked_0 A W h
 unfold zBf at hA
 (refine ze (n:=26) Tryz.func16 rfl rfl rfl ?_)
 (repeat' (first|((with_reducible refine zV ?_);first|refine zO rfl rfl rfl ?_|refine zD rfl rfl rfl ?_|(refine zQ rfl rfl rfl ?_;refine ⟨_,rfl,?_⟩)|(refine zd rfl rfl rfl rfl rfl (fun h=>?_) (fun h=>?_)<;>(dsimp only [cmpP] at h;(try (exfalso;omega))))|(refine zAU rfl rfl rfl rfl (fun _ _ q=>hA _ _ (zAO (enc:=zDR) (by exact rfl) _ q.below q.own)) ?_;rintro ⟨gh,m⟩ -;dsimp only [List.cons_append,List.nil_append])|refine zq rfl rfl rfl rfl ?_|refine zj rfl rfl rfl ?_|(refine zl rfl rfl rfl rfl (fun b=>?_))|(refine zR rfl rfl rfl ?_;refine ⟨rfl,_,rfl,fun b=>?_⟩))|(with_reducible first|refine zW ?_|refine zC ?_|refine zU ?_|refine zB ?_|refine zX ?_|refine zT ?_|refine zF ?_|refine zf ?_)|((with_reducible refine zI ?_ ?_);(· exact rfl))|((with_reducible refine zH ?_ ?_);(· exact rfl))))
 refine zDN (zBf gh m) [] rfl rfl rfl rfl (by unfold zBf;simp only [List.cons_append,List.nil_append];(repeat constructor)) (fun a W q=>zIu gh m W w q.below (Own.append.1 q.own).1) ?_
 rintro bp -
 unfold zBf
 simp only [List.cons_append,List.nil_append]
 (repeat' (first|((with_reducible refine zV ?_);first|refine zO rfl rfl rfl ?_|refine zD rfl rfl rfl ?_|(refine zQ rfl rfl rfl ?_;refine ⟨_,rfl,?_⟩)|(refine zd rfl rfl rfl rfl rfl (fun h=>?_) (fun h=>?_)<;>(dsimp only [cmpP] at h;(try (exfalso;omega))))|refine zq rfl rfl rfl rfl ?_|refine zj rfl rfl rfl ?_|(refine zl rfl rfl rfl rfl (fun b=>?_))|(refine zR rfl rfl rfl ?_;refine ⟨rfl,_,rfl,fun b=>?_⟩))|(with_reducible first|refine zW ?_|refine zC ?_|refine zU ?_|refine zB ?_|refine zX ?_|refine zT ?_|refine zF ?_|refine zf ?_)|((with_reducible refine zI ?_ ?_);(· exact rfl))|((with_reducible refine zH ?_ ?_);(· exact rfl))))
 exact zk (by (exact zAX.cons (by exact zBv.tmp rfl) (zAX.cons (by exact zBv.tmp rfl) zAX.nil))) bp trivial rfl (fun _ h=>h.sub (by (repeat constructor)))
end Go.Proofs.YtcpdjamlhhfbhaaGreat
namespace Go.Proofs.YtcpdjamlhhfbhaaGreat
variable {ro : Option Nat}
open Go.RowKit
set_option maxRecDepth 20000
section
variable {P : Program} {w0:World} {n:Nat} {d:List Deferred} {R:List (Nat × Value)} {H H':List Ent} {Q:Exit→Act→World→Prop} {ops:Array Oper} {rest:List Oper} {o:Oper} {t:Tmp} {x y z:Operand} {v:Value} {T T':TypeId} {k:IntKind} {i j:Int}
theorem zHc (hop:o.op = .binOp .rem T x y T') (hrd:rdy R ops n o=some t) (hx:evR R x=some (.int k i)) (hy:evR R y=some (.int k j)) (h1:j≠0) (h:U w0 n d ((t,.int k (i.tmod j))::R) H (wpL ro P ops Q rest)):U w0 n d R H (wpL ro P ops Q (o::rest)) :=
 zAg hrd (fun a w q=>by unfold execOp;rw [hop];simp [q.ev hx,q.ev hy,eqGuard,binOp,Op.intDiv,h1]) h
theorem u_quoT (hop:o.op = .binOp .quo T x y T') (hrd:rdy R ops n o=some t) (hx:evR R x=some (.int k i)) (hy:evR R y=some (.int k j)) (h1:j≠0) (hW:k.wrap (i.tdiv j)=i.tdiv j) (h:U w0 n d ((t,.int k (i.tdiv j))::R) H (wpL ro P ops Q rest)):U w0 n d R H (wpL ro P ops Q (o::rest)) :=
 zAg hrd (fun a w q=>by unfold execOp;rw [hop];simp [q.ev hx,q.ev hy,eqGuard,binOp,Op.intDiv,h1,hW]) h
end
structure TrM where
 weight:Int
 shown:Int
structure ScM where
 id:Int
 step:Int
 gain:Sp
 off:Sp
 tA:Option Addr
 tr:List TrM
 tc:Nat
structure LdM where
 scale:Int
 shown:Int
structure GrM where
 lA:Option Addr
 loads:List LdM
 lc:Nat
 added:Int
 base:Int
 jitter:Int
 uA:Option Addr
 run:List Int
 uc:Nat
 kA:Option Addr
 str:List Int
 kc:Nat
 spread:Int
 stamp:Bool
def zBz (t:TrM):List Value:=[.int .i64 t.weight,.int .i64 t.shown]
def zAW (s:ScM):List Value:=[.int .i64 s.id,.int .i64 s.step,.int .i64 s.gain.lo,.int .i64 s.gain.hi,.int .i64 s.off.lo,.int .i64 s.off.hi,.slice s.tA s.tr.length s.tc]
def zB9 (l:LdM):List Value:=[.int .i64 l.scale,.int .i64 l.shown]
def zB0 (g:GrM):List Value:=[.slice g.lA g.loads.length g.lc,.int .i64 g.added,.int .i64 g.base,.int .i64 g.jitter,.slice g.uA g.run.length g.uc,.slice g.kA g.str.length g.kc,.int .i64 g.spread,.bool g.stamp]
def vTr (t:TrM):Value:=.agg #[.int .i64 t.weight,.int .i64 t.shown]
def vLd (l:LdM):Value:=.agg #[.int .i64 l.scale,.int .i64 l.shown]
def vSc (s:ScM):Value:=.agg #[.int .i64 s.id,.int .i64 s.step,.int .i64 s.gain.lo,.int .i64 s.gain.hi,.int .i64 s.off.lo,.int .i64 s.off.hi,.slice s.tA s.tr.length s.tc]
def vGr (g:GrM):Value:=.agg #[.slice g.lA g.loads.length g.lc,.int .i64 g.added,.int .i64 g.base,.int .i64 g.jitter,.slice g.uA g.run.length g.uc,.slice g.kA g.str.length g.kc,.int .i64 g.spread,.bool g.stamp]
instance encI_tr : zBX zBz 2:=⟨fun _=>rfl,fun x v hv=>by simp [zBz] at hv;rcases hv with rfl|rfl<;>rfl⟩
instance encI_ld : zBX zB9 2:=⟨fun _=>rfl,fun x v hv=>by simp [zB9] at hv;rcases hv with rfl|rfl<;>rfl⟩
instance encI_sc : zBX zAW 7:=⟨fun _=>rfl,fun x v hv=>by simp [zAW] at hv;rcases hv with rfl|rfl|rfl|rfl|rfl|rfl|rfl<;>rfl⟩
instance encI_gr : zBX zB0 8:=⟨fun _=>rfl,fun x v hv=>by simp [zB0] at hv;rcases hv with rfl|rfl|rfl|rfl|rfl|rfl|rfl|rfl<;>rfl⟩
structure zCX (w:World) (A:Option Addr) (scs:List ScM):Prop where
 sl:zAB zAW 7 w A scs
 tr:∀ s∈scs,zAB zBz 2 w s.tA s.tr
theorem zCX.below {w W:World} {A:Option Addr} {scs:List ScM} (h:zCX w A scs) (hB:Below w.heap.size w W):zCX W A scs:=⟨h.sl.below hB,fun s hs=>(h.tr s hs).below hB⟩
structure zDm (w:World) (g:GrM):Prop where
 loads:zAB zB9 2 w g.lA g.loads
 run:zAB encI 1 w g.uA g.run
 str:zAB encI 1 w g.kA g.str
theorem zDm.below {w W:World} {g:GrM} (h:zDm w g) (hB:Below w.heap.size w W):zDm W g:=⟨h.loads.below hB,h.run.below hB,h.str.below hB⟩
structure zEA (scs:List ScM) (g:GrM):Prop where
 bay:scs.length≤1000000
 tr:∀ s∈scs,s.tr.length≤1000000
 loads:g.loads.length≤1000000
 run:g.run.length≤1000000
 str:g.str.length≤1000000
def zBb (n step:Int):Bool:=inB (-2000000) 2000000 n && decide (n.tmod step=0)
def trB (step:Int) (t:TrM):Bool:=inB 0 1000000 t.weight && zBb t.shown step
def scB (s:ScM):Bool:=inB 0 9999 s.id && inB 1 500 s.step && zAt s.gain (-10) 10 && zAt s.off (-100) 100 && decide (s.tr.length≤6) && s.tr.all (trB s.step)
structure zC3 (scs:List ScM):Prop where
 len:scs.length≤4
 ok:∀ s∈scs,scB s=true
 ord:∀ i s t,scs[i]?=some s→scs[i+1]?=some t→s.id<t.id
def atI (scs:List ScM) (id:Int):Option Nat:=scs.findIdx? fun s=>decide (s.id=id)
structure zHZ (g:GrM):Prop where
 added:inB 0 1000000 g.added=true
 base:inB (-1000) 1000 g.base=true
 jitter:inB 0 1000 g.jitter=true
 run:g.run.length≤8∧∀ x∈g.run,inB (-1000) 1000 x=true
 str:g.str.length≤8∧∀ x∈g.str,inB 0 2000 x=true
 spread:inB 0 2000 g.spread=true
structure GrF (scs:List ScM) (g:GrM):Prop where
 len:g.loads.length≤6
 ok:∀ l∈g.loads,∃ (k:Nat) (s:ScM),atI scs l.scale=some k∧scs[k]?=some s∧zBb l.shown s.step=true
 bare:zHZ g
theorem zAD (n lo hi:Int) (w:World):Gv Tryz.prog 110 [.int .i64 n,.int .i64 lo,.int .i64 hi] w (.bool (inB lo hi n)):=by
 unfold Gv
 (refine ze (n:=15) Tryz.func110 rfl rfl rfl ?_)
 (repeat' (first|((with_reducible refine zV ?_);first|refine zO rfl rfl rfl ?_|refine zD rfl rfl rfl ?_|refine zr rfl rfl rfl rfl ?_|refine zN rfl rfl rfl ?_|refine zM rfl rfl ?_|(refine zd rfl rfl rfl rfl rfl (fun h=>?_) (fun h=>?_)<;>(dsimp only [cmpP] at h;(try (exfalso;omega)))))|(with_reducible first|refine zW ?_|refine zC ?_|refine zU ?_|refine zB ?_|refine zX ?_|refine zT ?_|refine zF ?_|refine zf ?_)))
 all_goals first|exact zk (by exact rTm rfl) () trivial (by first|rw [show inB lo hi n=true from zAu.2 ⟨by omega,by omega⟩];rfl|rw [show inB lo hi n=false from zEN.2 (by omega)];rfl) (fun _ h=>h.sub (by (repeat constructor)))
theorem zHl (s:Sp) (lo hi:Int) (w:World):Gv Tryz.prog 111 [.agg #[.int .i64 s.lo,.int .i64 s.hi],.int .i64 lo,.int .i64 hi] w (.bool (zAt s lo hi)):=by
 unfold Gv
 (refine ze (n:=24) Tryz.func111 rfl rfl rfl ?_)
 (repeat' (first|((with_reducible refine zV ?_);first|refine zO rfl rfl rfl ?_|refine zD rfl rfl rfl ?_|(refine zQ rfl rfl rfl ?_;refine ⟨_,rfl,?_⟩)|refine zS rfl rfl rfl ?_|refine zr rfl rfl rfl rfl ?_|refine zN rfl rfl rfl ?_|refine zM rfl rfl ?_|(refine zd rfl rfl rfl rfl rfl (fun h=>?_) (fun h=>?_)<;>(dsimp only [cmpP] at h;(try (exfalso;omega))))|(refine zl rfl rfl rfl rfl (fun b=>?_)))|(with_reducible first|refine zW ?_|refine zC ?_|refine zU ?_|refine zB ?_|refine zX ?_|refine zT ?_|refine zF ?_|refine zf ?_)))
 all_goals first|exact zk (by exact rTm rfl) () trivial (by first|rw [show zAt s lo hi=true from zAa.2 ⟨by omega,by omega,by omega⟩];rfl|rw [show zAt s lo hi=false from zBn.2 (by omega)];rfl) (fun _ h=>h.sub (by (repeat constructor)))
theorem zEa (n step:Int) (w:World) (h:1≤step):Gv Tryz.prog 68 [.int .i64 n,.int .i64 step] w (.bool (zBb n step)):=by
 have hW:=fun W=>zAD n (-2000000) 2000000 W
 unfold Gv zBb
 cases hb:inB (-2000000) 2000000 n
 ·rw [hb] at hW
  (refine ze (n:=13) Tryz.func68 rfl rfl rfl ?_)
  (repeat' (first|((with_reducible refine zV ?_);first|refine zO rfl rfl rfl ?_|refine zD rfl rfl rfl ?_|refine zr rfl rfl rfl rfl ?_|refine zN rfl rfl rfl ?_|refine zM rfl rfl ?_|(refine zd rfl rfl rfl rfl rfl (fun h=>?_) (fun h=>?_)<;>(dsimp only [cmpP] at h;(try (exfalso;omega))))|refine zn rfl rfl rfl rfl (fun _ _ q=>hW _) ?_|refine zBZ rfl rfl rfl rfl (by omega) (by omega) ?_)|(with_reducible first|refine zW ?_|refine zC ?_|refine zU ?_|refine zB ?_|refine zX ?_|refine zT ?_|refine zF ?_|refine zf ?_)))
  exact zk (by exact rTm rfl) () trivial rfl (fun _ h=>h.sub (by (repeat constructor)))
 ·rw [hb] at hW
  (refine ze (n:=13) Tryz.func68 rfl rfl rfl ?_)
  (repeat' (first|((with_reducible refine zV ?_);first|refine zO rfl rfl rfl ?_|refine zD rfl rfl rfl ?_|refine zr rfl rfl rfl rfl ?_|refine zN rfl rfl rfl ?_|refine zM rfl rfl ?_|(refine zd rfl rfl rfl rfl rfl (fun h=>?_) (fun h=>?_)<;>(dsimp only [cmpP] at h;(try (exfalso;omega))))|refine zn rfl rfl rfl rfl (fun _ _ q=>hW _) ?_|refine zHc rfl rfl rfl rfl (by omega) ?_|refine zBZ rfl rfl rfl rfl (by omega) (by omega) ?_)|(with_reducible first|refine zW ?_|refine zC ?_|refine zU ?_|refine zB ?_|refine zX ?_|refine zT ?_|refine zF ?_|refine zf ?_)))
  all_goals first|exact zk (by exact rTm rfl) () trivial (by first|rw [decide_eq_true (show n.tmod step=0 by assumption)];rfl|rw [decide_eq_false (show ¬ n.tmod step=0 by assumption)];rfl) (fun _ h=>h.sub (by (repeat constructor)))
end Go.Proofs.YtcpdjamlhhfbhaaGreat
