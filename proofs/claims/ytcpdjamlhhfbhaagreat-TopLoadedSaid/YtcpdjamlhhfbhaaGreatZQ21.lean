/- ZQ21 -/
import Derived.Test.YtcpdjamlhhfbhaaGreatZQ20
set_option linter.unusedSimpArgs false
set_option linter.unusedVariables false
namespace Go.Proofs.YtcpdjamlhhfbhaaGreat
def zC8 : Nat→Code→Option Code
 | 0,c=>some c
 | n+1,.seq _ b=>zC8 n b
 | _+1,_=>none
def wpCut (P:Program) (AG:Act→World→Prop) (Q:Exit→Act→World→Prop):Nat→Code→Act→World→Prop
 | 0,_=>AG
 | n+1,.seq a b=>a.wpI none P (Exit.then (wpCut P AG Q n b) Q)
 | _+1,c=>c.wpI none P Q
theorem cut_wp {P:Program} {Q:Exit→Act→World→Prop} {rest:Code}:∀ (k:Nat) (c:Code),zC8 k c=some rest→∀ a w,wpCut P (rest.wpI none P Q) Q k c a w→c.wpI none P Q a w
 | 0,c,h,a,w,hh=>by cases h;exact hh
 | k+1,c,h,a,w,hh=>by
  cases c with
  | seq x y =>
   have h:zC8 k y=some rest:=h
   exact wpIn_seq (Code.wpIn_mono (fun e a w q=>by cases e<;>first|exact cut_wp k y h _ _ q|exact q) hh)
  | _=>cases h
theorem u_cutN {P:Program} {w0:World} {n:Nat} {d:List Deferred} {R:List (Nat × Value)} {H:List Ent} {Q:Exit→Act→World→Prop} {rest c:Code} (k:Nat) (hc:zC8 k c=some rest) (h:U w0 n d R H (wpCut P (rest.wpI none P Q) Q k c)):U w0 n d R H (c.wpI none P Q):=fun a w q=>cut_wp k c hc a w (h a w q)
theorem wg_bd {step t0 t1 n:Int} (h0:-10≤t0∧t0≤10) (h1:-100≤t1∧t1≤100) (hn:-2000000≤n∧n≤2000000) (hst:0≤step∧step≤500):0≤(wgI step t0 t1 n).lo∧(wgI step t0 t1 n).lo≤3000000000∧-3000000000≤(wgI step t0 t1 n).hi∧(wgI step t0 t1 n).hi≤1000000:=by
 have e1:=zD2 (n:=-1000 * (n - t1)) (b:=1000+t0) (B:=3000000000) (by omega) (by omega)
 have e2:=zD2 (n:=1000 * (n+step - t1) - 1) (b:=1000+t0) (B:=3000000000) (by omega) (by omega)
 unfold wgI
 simp only
 omega
theorem zHW {α:Type} {p:α→Prop} {l:List α} {x:α} (h:∀ y∈l,p y) (hx:p x):∀ y∈l++[x],p y:=fun y hy=>by
 rcases List.mem_append.1 hy with h1|h1
 ·exact h y h1
 ·rw [List.mem_singleton.1 h1];exact hx
theorem all_set {α:Type} {p:α→Prop} {l:List α} {x:α} {i:Nat} (h:∀ y∈l,p y) (hx:p x):∀ y∈l.set i x,p y:=fun y hy=>by
 rcases List.mem_or_eq_of_mem_set hy with h1|h1
 ·exact h y h1
 ·rw [h1];exact hx
namespace Two
variable {ro : Option Nat}
open Go.RowKit
set_option maxRecDepth 20000
def vAr (p:Int × Int):Value:=.agg #[.int .i64 p.1,.int .i64 p.2]
theorem zero_ar : ∀ w,(zeroValue 117).run Tryz.prog w = .ok (vAr (0,0)) w:=fun w=>Tryz.zeroValue117 w
set_option maxHeartbeats 8000000 in
theorem truth_t3 (g:GrM) (A TA:Option Addr) (n9 c9 tm tc hh m mt bG bT bR bw bd:Nat) (fT:Int→Option ScM) (f:Int→Option (Int × Int)) (total:Int) (w:World) (hg:zAB zB9 2 w g.lA g.loads) (hl:g.loads.length≤6) (hsh:∀ l∈g.loads,-2000000≤l.shown∧l.shown≤2000000) (hadd:0≤g.added∧g.added≤1000000) (htot:0≤total∧total≤25000000)
  (hfT:∀ k,0≤((fT k).getD sc0).step∧((fT k).getD sc0).step≤500) (hf:∀ k,(-10≤((f k).getD (0,0)).1∧((f k).getD (0,0)).1≤10)∧-100≤((f k).getD (0,0)).2∧((f k).getD (0,0)).2≤100) (cd:Code) (hcd:Tryz.f18.body.bind (zC8 13)=some cd) (Q:Exit→Act→World→Prop)
  (hret:∀ b2 A2 m2 c2 a W,Kn w 215 (dL [b2,bd]) [(6,.pointer (some ⟨bR,0,none⟩)),(7,.int .i64 0)] [.blk bR [.slice TA tm tc,.slice A2 m2 c2],.dfr [b2,bd]] a W→Q .ret a W) :
  U w 215 (dL [bd]) [(4,.pointer (some ⟨bG,0,none⟩)),(5,.pointer (some ⟨bT,0,none⟩)),(6,.pointer (some ⟨bR,0,none⟩)),(8,.pointer (some ⟨hh,0,none⟩)),(14,.pointer (some ⟨bw,0,none⟩)),(16,.map (some mt))] [.blk bG (zB0 g),.blk bT [.int .i64 total],.blk bR [.slice none 0 0,.slice none 0 0],.blk hh [.slice A n9 c9,.map (some m)],.fm m vI vSc fT,.fm mt vI vAr f,.blk bw [.slice TA tm tc,.slice none 0 0],.dfr [bd]] (cd.wpI none Tryz.prog Q):=by
 obtain rfl:_=cd:=Option.some.inj ((rfl:Tryz.f18.body.bind (zC8 13)=some _).symm.trans hcd)
 clear hcd
 have hWg:=fun k1 k2 n W (hn:-2000000≤n∧n≤2000000)=>zD3 ((fT k1).getD sc0) ((f k2).getD (0,0)).1 ((f k2).getD (0,0)).2 n W (hf k2).1 (hf k2).2 hn (hfT k1)
 have hWb:=fun k1 k2 n (hn:-2000000≤n∧n≤2000000)=>wg_bd (step:=((fT k1).getD sc0).step) (n:=n) (hf k2).1 (hf k2).2 hn (hfT k1)
 obtain ⟨lA,loads,lc,ad,ba,ji,uA,run,uc,kA,str,kc,spd,stm⟩:=g
 unfold zB0
 simp only at *
 (repeat' (first|((with_reducible refine zV ?_);first|refine zO rfl rfl rfl ?_|refine zD rfl rfl rfl ?_|(refine zQ rfl rfl rfl ?_;refine ⟨_,rfl,?_⟩)|refine zS rfl rfl rfl ?_|(refine zd rfl rfl rfl rfl rfl (fun h=>?_) (fun h=>?_)<;>(dsimp only [cmpP] at h;(try (exfalso;omega))))|refine zq rfl rfl rfl rfl ?_|refine zt rfl rfl rfl ?_|refine zb rfl rfl rfl rfl (by omega) ?_|refine zm rfl rfl rfl rfl (IntWalk.i64_in _ (by omega)) ?_|refine z7 rfl rfl rfl rfl (IntWalk.i64_in _ (by omega)) ?_|refine zK rfl rfl rfl rfl rfl (by omega) ?_|refine zL rfl rfl rfl rfl rfl (by first|decide|omega) ?_|refine zj rfl rfl rfl ?_|(refine zg rfl rfl rfl rfl rfl ?_;refine ⟨rfl,by first|decide|exact Nat.le_of_ble_eq_true rfl|(simp;omega),_,rfl,?_⟩)|(refine zh rfl rfl (fun b=>?_))|(refine zl rfl rfl rfl rfl (fun b=>?_))|(refine zy rfl rfl rfl ?_;refine ⟨_,rfl,?_⟩)|(refine zR rfl rfl rfl ?_;refine ⟨rfl,_,rfl,fun b=>?_⟩)|refine zx rfl rfl rfl ?_|refine zA5 rfl rfl rfl rfl ?_|refine zz rfl rfl rfl rfl ?_)|(with_reducible first|refine zW ?_|refine zC ?_|refine zU ?_|refine zB ?_|refine zX ?_|refine zT ?_|refine zF ?_|refine zf ?_|refine zP ?_|refine zZ ?_|refine zY ?_|refine za ?_|refine zG ?_|refine zJ ?_)|((with_reducible refine zE ?_ ?_);(· exact rfl))|((with_reducible refine zI ?_ ?_);(· exact rfl))|((with_reducible refine zH ?_ ?_);(· exact rfl))))
 rename_i b21
 obtain ⟨b22,hb22⟩:∃ y,y=b:=⟨_,rfl⟩
 subst hb22
 refine zAw encI 1 3 ?_
 refine zAw zo 2 26 ?_
 refine zAC (ι:=Nat × (Value × List Sp) × (Value × List Int) × Int) [6,8,14,16,21,22,150,151] rfl (fun q=>q.1≤loads.length∧(q.2.1.2.length=q.1∧∀ s∈q.2.1.2,0≤s.lo∧s.lo≤3000000000∧-3000000000≤s.hi∧s.hi≤1000000)∧(q.2.2.1.2.length=q.1∧∀ x∈q.2.2.1.2,0≤x∧x≤3000000000)∧-1000000 - 3000000000 * (q.1:Int)≤q.2.2.2∧q.2.2.2≤25000000) (fun q=>[(152,.int .i64 (q.1:Int))]) (fun q=>[.row zo 2 26 q.2.1.1 q.2.1.2,.blk b22 [q.2.1.1],.row encI 1 3 q.2.2.1.1 q.2.2.1.2,.blk bw [.slice TA tm tc,q.2.2.1.1],.blk b21 [.int .i64 q.2.2.2],.fm m vI vSc fT,.fm mt vI vAr f,.blk hh [.slice A n9 c9,.map (some m)],.blk bR [.slice none 0 0,.slice none 0 0],.dfr [bd]]) (fun q=>loads.length - q.1) (0,(.slice none 0 0,[]),(.slice none 0 0,[]),total - ad) ⟨Nat.zero_le _,⟨rfl,by simp⟩,⟨rfl,by simp⟩,by simp only;omega⟩ (by (repeat first|exact lK1|refine zp rfl ?_)) (by (repeat constructor)) ?_
 rintro ⟨i,⟨v1,sp⟩,⟨v2,ws⟩,la⟩ ⟨hi,⟨hsl,hsb⟩,⟨hwl,hwb⟩,hla⟩
 simp only at hi hsl hsb hwl hwb hla
 simp only [zAm,List.cons_append,List.nil_append]
 by_cases hlt:i<loads.length
 ·obtain ⟨x,hx⟩:∃ x,loads[i]?=some x:=⟨_,List.getElem?_eq_getElem hlt⟩
  have:zAZ loads i x:=⟨hx⟩
  obtain ⟨bL,oL,hLe,_,_⟩:=hg.at_ hlt
  subst hLe
  have:InS w bL oL zB9 2 loads:=⟨hg⟩
  have hxr:=hsh x (List.mem_of_getElem? hx)
  obtain ⟨xs,xn⟩:=x
  simp only at hxr
  have hW1:=fun W=>hWg xs xs xn W hxr
  have hW2:=hWb xs xs xn hxr
  (repeat' (first|((with_reducible refine zV ?_);first|refine zO rfl rfl rfl ?_|refine zD rfl rfl rfl ?_|(refine zQ rfl rfl rfl ?_;refine ⟨_,rfl,?_⟩)|refine zS rfl rfl rfl ?_|(refine zd rfl rfl rfl rfl rfl (fun h=>?_) (fun h=>?_)<;>(dsimp only [cmpP] at h;(try (exfalso;omega))))|refine zK (I:=i) rfl rfl rfl rfl rfl (by omega) ?_|refine zq rfl rfl rfl rfl ?_|refine zt rfl rfl rfl ?_|refine zb rfl rfl rfl rfl (by omega) ?_|refine zm rfl rfl rfl rfl (IntWalk.i64_in _ (by omega)) ?_|refine z7 rfl rfl rfl rfl (IntWalk.i64_in _ (by omega)) ?_|refine zK rfl rfl rfl rfl rfl (by omega) ?_|refine zL rfl rfl rfl rfl rfl (by first|decide|omega) ?_|refine zj rfl rfl rfl ?_|(refine zg rfl rfl rfl rfl rfl ?_;refine ⟨rfl,by first|decide|exact Nat.le_of_ble_eq_true rfl|(simp;omega),_,rfl,?_⟩)|(refine zh rfl rfl (fun b=>?_))|(refine zl rfl rfl rfl rfl (fun b=>?_))|(refine zy rfl rfl rfl ?_;refine ⟨_,rfl,?_⟩)|(refine zR rfl rfl rfl ?_;refine ⟨rfl,_,rfl,fun b=>?_⟩)|refine zx rfl rfl rfl ?_|refine zA5 rfl rfl rfl rfl ?_|refine zz rfl rfl rfl rfl ?_)|(with_reducible first|refine zW ?_|refine zC ?_|refine zU ?_|refine zB ?_|refine zX ?_|refine zT ?_|refine zF ?_|refine zf ?_|refine zP ?_|refine zZ ?_|refine zY ?_|refine za ?_|refine zG ?_|refine zJ ?_)|((with_reducible refine zE ?_ ?_);(· exact rfl))|((with_reducible refine zI ?_ ?_);(· exact rfl))|((with_reducible refine zH ?_ ?_);(· exact rfl))))
  generalize hs9:(fT xs).getD sc0=s9 at *
  generalize hp9:(f xs).getD (0,0)=p9 at *
  obtain ⟨p1,p2⟩:=p9
  simp only at hW1 hW2
  generalize wgI s9.step p1 p2 xn=wg at *
  obtain ⟨w1,w2⟩:=wg
  simp only at hW1 hW2
  obtain ⟨b24,hb24⟩:∃ y,y=b:=⟨_,rfl⟩
  subst hb24
  (refine zA9 [] [] [] rfl (show ([]:List Nat).Nodup by decide) (fun _ h=>h) (by kernel_rfl) [[],[Z],[Z,Z],[Z,Z,Z],[Y,Y,Y,Y],[Z,Y,Y,Y,Y],[Z,Z,Z,Z,Z,Z],[Y,Y,Y,Y,Y,Y,Y],[Y,Y,Y,Y,Y,Y,Y,Y],[Z,Y,Y,Y,Y,Y,Y,Y,Y],[Z,Z,Z,Y,Y,Y,Y,Y,Y,Y],[Y,Y,Y,Y,Y,Y,Y,Y,Y,Y,Y],[Z,Y,Y,Y,Y,Y,Y,Y,Y,Y,Y,Y],[Z,Z,Z,Z,Z,Z,Z,Z,Z,Z,Z,Z,Z],[Y,Y,Y,Y,Y,Y,Y,Y,Y,Y,Y,Y,Y,Y],[Z,Z,Z,Z,Z,Z,Z,Z,Z,Z,Z,Z,Z,Z,Z]] (by kernel_rfl) (by kernel_rfl) (by kernel_rfl) (by kernel_rfl) (by kernel_rfl) ?_)
  (repeat' (first|(((with_reducible refine zDU ?_ ?_);(· exact rfl);refine ⟨_,fun G=>(by (try simp (decide:=true) only [vis,see,fltT,zAV,Nat.reduceAdd,Nat.reduceSub,if_true,if_false,List.set_cons_zero,List.set_cons_succ,List.set_nil,List.nil_append,List.cons_append]);rfl),?_⟩);first|refine zw _ (fun _=>zAT rfl rfl) (fun _=>rfl) rfl (by intro G G' h;simp (decide:=true) only [h]) ?_|refine zw _ (fun _=>zAF rfl rfl (by exact rfl)) (fun _=>rfl) rfl (by intro G G' h;simp (decide:=true) only [h]) ?_|(refine zBp rfl ?_;refine zw _ (fun _=>zAQ rfl rfl) (fun _=>rfl) rfl (by intro G G' h;simp (decide:=true) only [h]) ?_)|refine zw _ (fun _=>zEu (kv:=vI) (vv:=vSc) (f:=fT) xs s9 rfl zBt zIB rfl rfl hs9) (fun _=>rfl) rfl (by exact fun _ _ _=>rfl) ?_|refine zw _ (fun _=>zEu (kv:=vI) (vv:=vAr) (f:=f) xs (p1,p2) rfl zBt zero_ar rfl rfl hp9) (fun _=>rfl) rfl (by exact fun _ _ _=>rfl) ?_|refine zCI _ rfl (fun _=>rfl) rfl (fun _=>rfl) (fun _=>rfl) (fun _ _ _ q=>hW1 _) (by intro G G' h;simp (decide:=true) only [h]) ?_|refine zw _ (fun _=>zAE rfl rfl) (fun _=>rfl) rfl (by intro G G' h;simp (decide:=true) only [h]) ?_|refine zGl rfl (fun _=>rfl) rfl ?_)|((with_reducible refine zBk ?_ ?_);(· exact rfl))|(with_reducible refine zCb ?_)))
  (intro G;simp only [regsT,zAV,zBY,ini,List.nil_append,List.cons_append])
  try simp only [Nat.reduceAdd]
  generalize (G 14).g=b25
  (repeat' (first|((with_reducible refine zV ?_);first|refine zO rfl rfl rfl ?_|refine zD rfl rfl rfl ?_|(refine zQ rfl rfl rfl ?_;refine ⟨_,rfl,?_⟩)|refine zS rfl rfl rfl ?_|(refine zd rfl rfl rfl rfl rfl (fun h=>?_) (fun h=>?_)<;>(dsimp only [cmpP] at h;(try (exfalso;omega))))|(refine zBc (enc:=zo) [⟨w1,w2⟩] rfl rfl rfl (by (repeat constructor)) rfl rfl (zAO (enc:=zo) (by exact rfl)) (by refine ⟨?_,by decide⟩;(try simp only [List.length_append,List.length_cons,List.length_nil]);omega) (fun A' c'=>?_))|(refine zBc (enc:=encI) [w1] rfl rfl rfl (by (repeat constructor)) rfl rfl (zAO (enc:=encI) (by exact rfl)) (by refine ⟨?_,by decide⟩;(try simp only [List.length_append,List.length_cons,List.length_nil]);omega) (fun A' c'=>?_))|refine zq rfl rfl rfl rfl ?_|refine zt rfl rfl rfl ?_|refine zb rfl rfl rfl rfl (by omega) ?_|refine zm rfl rfl rfl rfl (IntWalk.i64_in _ (by omega)) ?_|refine z7 rfl rfl rfl rfl (IntWalk.i64_in _ (by omega)) ?_|refine zK rfl rfl rfl rfl rfl (by omega) ?_|refine zL rfl rfl rfl rfl rfl (by first|decide|omega) ?_|refine zj rfl rfl rfl ?_|(refine zg rfl rfl rfl rfl rfl ?_;refine ⟨rfl,by first|decide|exact Nat.le_of_ble_eq_true rfl|(simp;omega),_,rfl,?_⟩)|(refine zh rfl rfl (fun b=>?_))|(refine zl rfl rfl rfl rfl (fun b=>?_))|(refine zy rfl rfl rfl ?_;refine ⟨_,rfl,?_⟩)|(refine zR rfl rfl rfl ?_;refine ⟨rfl,_,rfl,fun b=>?_⟩)|refine zx rfl rfl rfl ?_|refine zA5 rfl rfl rfl rfl ?_|refine zz rfl rfl rfl rfl ?_)|(with_reducible first|refine zW ?_|refine zC ?_|refine zU ?_|refine zB ?_|refine zX ?_|refine zT ?_|refine zF ?_|refine zf ?_|refine zP ?_|refine zZ ?_|refine zY ?_|refine za ?_|refine zG ?_|refine zJ ?_)|((with_reducible refine zE ?_ ?_);(· exact rfl))|((with_reducible refine zI ?_ ?_);(· exact rfl))|((with_reducible refine zH ?_ ?_);(· exact rfl))))
  rename_i b3 A1 c1
  exact z6 (ι:=Nat × (Value × List Sp) × (Value × List Int) × Int) (i+1,(.slice A1 (sp++[(⟨w1,w2⟩:Sp)]).length c1,sp++[⟨w1,w2⟩]),(.slice A' (ws++[w1]).length c',ws++[w1]),la - w1) ⟨by simp only;omega,⟨by simp only [List.length_append,List.length_cons,List.length_nil];omega,zHW hsb (by simp only;omega)⟩,⟨by simp only [List.length_append,List.length_cons,List.length_nil];omega,zHW hwb (by omega)⟩,by simp only;omega⟩ (by simp only;omega) (by (repeat first|exact lK1|refine zp rfl ?_)) (by (repeat constructor))
 obtain rfl:i=loads.length:=by omega
 refine zAp (xs:=sp) (enc:=zo) (by (repeat constructor)) ?_
 rintro A9 c10 rfl
 refine zAp (xs:=ws) (enc:=encI) (by (repeat constructor)) ?_
 rintro A8 c8 rfl
 refine zBx (fun _ h=>h.zCe (xs:=sp) (enc:=zo) (by (repeat constructor))) ?_
 (repeat' (first|((with_reducible refine zV ?_);first|refine zO rfl rfl rfl ?_|refine zD rfl rfl rfl ?_|(refine zQ rfl rfl rfl ?_;refine ⟨_,rfl,?_⟩)|refine zS rfl rfl rfl ?_|(refine zd rfl rfl rfl rfl rfl (fun h=>?_) (fun h=>?_)<;>(dsimp only [cmpP] at h;(try (exfalso;omega))))|(refine zAU rfl rfl rfl rfl (fun _ _ q=>zH5 sp A9 c10 _) ?_;rintro gB -;dsimp only [List.cons_append,List.nil_append])|refine zq rfl rfl rfl rfl ?_|refine zt rfl rfl rfl ?_|refine zb rfl rfl rfl rfl (by omega) ?_|refine zm rfl rfl rfl rfl (IntWalk.i64_in _ (by omega)) ?_|refine z7 rfl rfl rfl rfl (IntWalk.i64_in _ (by omega)) ?_|refine zK rfl rfl rfl rfl rfl (by omega) ?_|refine zL rfl rfl rfl rfl rfl (by first|decide|omega) ?_|refine zj rfl rfl rfl ?_|(refine zg rfl rfl rfl rfl rfl ?_;refine ⟨rfl,by first|decide|exact Nat.le_of_ble_eq_true rfl|(simp;omega),_,rfl,?_⟩)|(refine zh rfl rfl (fun b=>?_))|(refine zl rfl rfl rfl rfl (fun b=>?_))|(refine zy rfl rfl rfl ?_;refine ⟨_,rfl,?_⟩)|(refine zR rfl rfl rfl ?_;refine ⟨rfl,_,rfl,fun b=>?_⟩)|refine zx rfl rfl rfl ?_|refine zA5 rfl rfl rfl rfl ?_|refine zz rfl rfl rfl rfl ?_)|(with_reducible first|refine zW ?_|refine zC ?_|refine zU ?_|refine zB ?_|refine zX ?_|refine zT ?_|refine zF ?_|refine zf ?_|refine zP ?_|refine zZ ?_|refine zY ?_|refine za ?_|refine zG ?_|refine zJ ?_)|((with_reducible refine zE ?_ ?_);(· exact rfl))|((with_reducible refine zI ?_ ?_);(· exact rfl))|((with_reducible refine zH ?_ ?_);(· exact rfl))))
 refine U.sub (R':=[(187,.func (.func 82) #[] #[.pointer (some ⟨gB,0,none⟩)]),(6,.pointer (some ⟨bR,0,none⟩)),(14,.pointer (some ⟨bw,0,none⟩)),(21,.pointer (some ⟨b21,0,none⟩)),(22,.pointer (some ⟨b22,0,none⟩))]) (by (repeat first|exact lK1|refine zp rfl ?_)) (Out.all _) ?_
 refine zC4 (ι:=List Int × Int) (α:=Nat × Sp) (gf:=82) (lb:=[.pointer (some ⟨gB,0,none⟩)]) (bs:=[bd]) (fun _=>[.blk gB [.slice A9 sp.length c10],.sl zo 2 A9 sp]) zD0 (NBackP sp) (zH9 sp) (fun ys st=>ys.length≤sp.length∧st.1.length=ws.length∧(∀ x∈st.1,-30000000000 * ((ys.length:Int)+1)≤x∧x≤10000000000 * ((ys.length:Int)+1))∧-20000000000≤st.2∧st.2≤25000000+10000000000 * (ys.length:Int)) (fun st=>[.row encI 1 3 (.slice A8 ws.length c8) st.1,.blk bw [.slice TA tm tc,.slice A8 ws.length c8],.blk b21 [.int .i64 st.2],.blk b22 [.slice A9 sp.length c10],.blk bR [.slice none 0 0,.slice none 0 0]]) (ws,la) rfl (by (repeat constructor)) ⟨Nat.zero_le _,rfl,fun x hx=>by have:=hwb x hx;simp only [List.length_nil];omega,by simp only;omega,by simp only [List.length_nil];omega⟩ (fun _=>rfl) (by decide) (zI3 sp A9 c10 gB w (by omega)) ?_ ?_
 rotate_left
 ·rintro b2 ys ⟨ws',la'⟩ hE hI
  simp only [List.cons_append,List.nil_append]
  (repeat' (first|((with_reducible refine zV ?_);first|refine zO rfl rfl rfl ?_|refine zD rfl rfl rfl ?_|(refine zQ rfl rfl rfl ?_;refine ⟨_,rfl,?_⟩)|refine zS rfl rfl rfl ?_|(refine zd rfl rfl rfl rfl rfl (fun h=>?_) (fun h=>?_)<;>(dsimp only [cmpP] at h;(try (exfalso;omega))))|refine zq rfl rfl rfl rfl ?_|refine zt rfl rfl rfl ?_|refine zb rfl rfl rfl rfl (by omega) ?_|refine zm rfl rfl rfl rfl (IntWalk.i64_in _ (by omega)) ?_|refine z7 rfl rfl rfl rfl (IntWalk.i64_in _ (by omega)) ?_|refine zK rfl rfl rfl rfl rfl (by omega) ?_|refine zL rfl rfl rfl rfl rfl (by first|decide|omega) ?_|refine zj rfl rfl rfl ?_|(refine zg rfl rfl rfl rfl rfl ?_;refine ⟨rfl,by first|decide|exact Nat.le_of_ble_eq_true rfl|(simp;omega),_,rfl,?_⟩)|(refine zh rfl rfl (fun b=>?_))|(refine zl rfl rfl rfl rfl (fun b=>?_))|(refine zy rfl rfl rfl ?_;refine ⟨_,rfl,?_⟩)|(refine zR rfl rfl rfl ?_;refine ⟨rfl,_,rfl,fun b=>?_⟩)|refine zx rfl rfl rfl ?_|refine zA5 rfl rfl rfl rfl ?_|refine zz rfl rfl rfl rfl ?_)|(with_reducible first|refine zW ?_|refine zC ?_|refine zU ?_|refine zB ?_|refine zX ?_|refine zT ?_|refine zF ?_|refine zf ?_|refine zP ?_|refine zZ ?_|refine zY ?_|refine za ?_|refine zG ?_|refine zJ ?_)|((with_reducible refine zE ?_ ?_);(· exact rfl))|((with_reducible refine zI ?_ ?_);(· exact rfl))|((with_reducible refine zH ?_ ?_);(· exact rfl))))
  refine U.sub (R':=[(6,.pointer (some ⟨bR,0,none⟩)),(7,.int .i64 0)]) (H':=[.blk bR [.slice TA tm tc,.slice A8 ws.length c8],.dfr [b2,bd]]) (by (repeat first|exact lK1|refine zp rfl ?_)) (by (repeat constructor)) ?_
  exact fun a W q=>hret b2 _ _ _ a W q
 rintro ly ys ⟨k,x⟩ ⟨ws',la'⟩ ⟨r1,r2,rfn,rtm,rps,ras,rbo,rde⟩ W HH ⟨hk,hx⟩ ⟨hyl,hwl',hwb',hla'⟩ hr hrp hW
 simp only at hk hx hyl hwl' hwb' hla' hr hrp
 subst hr hrp
 obtain ⟨y,hy⟩:∃ y,ws'[k]?=some y:=⟨_,List.getElem?_eq_getElem (by omega)⟩
 have:zAZ sp k x:=⟨hx⟩
 have:zAZ ws' k y:=⟨hy⟩
 have hxb:=hsb x (List.mem_of_getElem? hx)
 have hyb:=hwb' y (List.mem_of_getElem? hy)
 simp only [zD0,zEo,List.cons_append,List.nil_append]
 refine zAo (enc:=zo) (xs:=sp) (by (repeat constructor)) (by omega) (fun bS oS hSe=>?_)
 subst hSe
 refine zDd (enc:=encI) (xs:=ws') (by (repeat constructor)) (by omega) (fun g8 hg8=>?_)
 subst hg8
 (repeat' (first|((with_reducible refine zV ?_);first|refine zO rfl rfl rfl ?_|refine zD rfl rfl rfl ?_|(refine zQ rfl rfl rfl ?_;refine ⟨_,rfl,?_⟩)|refine zS rfl rfl rfl ?_|(refine zd rfl rfl rfl rfl rfl (fun h=>?_) (fun h=>?_)<;>(dsimp only [cmpP] at h;(try (exfalso;omega))))|refine zq rfl rfl rfl rfl ?_|refine zt rfl rfl rfl ?_|refine zb rfl rfl rfl rfl (by omega) ?_|refine zm rfl rfl rfl rfl (IntWalk.i64_in _ (by omega)) ?_|refine z7 rfl rfl rfl rfl (IntWalk.i64_in _ (by omega)) ?_|refine zK rfl rfl rfl rfl rfl (by omega) ?_|refine zL rfl rfl rfl rfl rfl (by first|decide|omega) ?_|refine zj rfl rfl rfl ?_|(refine zg rfl rfl rfl rfl rfl ?_;refine ⟨rfl,by first|decide|exact Nat.le_of_ble_eq_true rfl|(simp;omega),_,rfl,?_⟩)|(refine zh rfl rfl (fun b=>?_))|(refine zl rfl rfl rfl rfl (fun b=>?_))|(refine zy rfl rfl rfl ?_;refine ⟨_,rfl,?_⟩)|(refine zR rfl rfl rfl ?_;refine ⟨rfl,_,rfl,fun b=>?_⟩)|refine zx rfl rfl rfl ?_|refine zA5 rfl rfl rfl rfl ?_|refine zz rfl rfl rfl rfl ?_)|(with_reducible first|refine zW ?_|refine zC ?_|refine zU ?_|refine zB ?_|refine zX ?_|refine zT ?_|refine zF ?_|refine zf ?_|refine zP ?_|refine zZ ?_|refine zY ?_|refine za ?_|refine zG ?_|refine zJ ?_)|((with_reducible refine zE ?_ ?_);(· exact rfl))|((with_reducible refine zI ?_ ?_);(· exact rfl))|((with_reducible refine zH ?_ ?_);(· exact rfl))))
 refine zDs (by (repeat constructor)) rfl ?_
 (repeat' (first|((with_reducible refine zV ?_);first|refine zO rfl rfl rfl ?_|refine zD rfl rfl rfl ?_|(refine zQ rfl rfl rfl ?_;refine ⟨_,rfl,?_⟩)|refine zS rfl rfl rfl ?_|(refine zd rfl rfl rfl rfl rfl (fun h=>?_) (fun h=>?_)<;>(dsimp only [cmpP] at h;(try (exfalso;omega))))|refine zq rfl rfl rfl rfl ?_|refine zt rfl rfl rfl ?_|refine zb rfl rfl rfl rfl (by omega) ?_|refine zm rfl rfl rfl rfl (IntWalk.i64_in _ (by omega)) ?_|refine z7 rfl rfl rfl rfl (IntWalk.i64_in _ (by omega)) ?_|refine zK rfl rfl rfl rfl rfl (by omega) ?_|refine zL rfl rfl rfl rfl rfl (by first|decide|omega) ?_|refine zj rfl rfl rfl ?_|(refine zg rfl rfl rfl rfl rfl ?_;refine ⟨rfl,by first|decide|exact Nat.le_of_ble_eq_true rfl|(simp;omega),_,rfl,?_⟩)|(refine zh rfl rfl (fun b=>?_))|(refine zl rfl rfl rfl rfl (fun b=>?_))|(refine zy rfl rfl rfl ?_;refine ⟨_,rfl,?_⟩)|(refine zR rfl rfl rfl ?_;refine ⟨rfl,_,rfl,fun b=>?_⟩)|refine zx rfl rfl rfl ?_|refine zA5 rfl rfl rfl rfl ?_|refine zz rfl rfl rfl rfl ?_)|(with_reducible first|refine zW ?_|refine zC ?_|refine zU ?_|refine zB ?_|refine zX ?_|refine zT ?_|refine zF ?_|refine zf ?_|refine zP ?_|refine zZ ?_|refine zY ?_|refine za ?_|refine zG ?_|refine zJ ?_)|((with_reducible refine zE ?_ ?_);(· exact rfl))|((with_reducible refine zI ?_ ?_);(· exact rfl))|((with_reducible refine zH ?_ ?_);(· exact rfl))))
 (refine zAY (by kernel_rfl) (by kernel_rfl) (by kernel_rfl) ?_)
 (repeat' (first|((with_reducible refine zAq ?_);first|refine zA (zAT rfl rfl) rfl ?_|refine zA (zAF rfl rfl (by exact rfl)) rfl ?_|refine zA (zAQ rfl rfl) rfl ?_|refine zA (zAz rfl rfl rfl) rfl ?_|refine zA (zAS rfl rfl) rfl ?_|refine zAA rfl rfl rfl ?_|(refine zBP rfl rfl rfl rfl rfl (fun h=>?_) (fun h=>?_)<;>(dsimp only [cmpP] at h;(try (exfalso;omega))))|refine zA (zu (I:=k) rfl rfl rfl (by omega) (by first|omega|(dsimp only;omega))) rfl ?_|refine zA (zAM rfl rfl rfl) rfl ?_|refine zA (zBU rfl rfl) rfl ?_|refine zA (zAl rfl rfl rfl (by omega)) rfl ?_|refine zA (zA8 rfl rfl rfl (IntWalk.i64_in _ (by omega))) rfl ?_|refine zA (zBB rfl rfl rfl (IntWalk.i64_in _ (by omega))) rfl ?_|refine zA (zA6 rfl rfl rfl (IntWalk.i64_in _ (by omega))) rfl ?_|refine zA (zu rfl rfl rfl rfl (by omega)) rfl ?_|refine zA (zAJ rfl rfl rfl rfl (by first|decide|omega)) rfl ?_|refine zA (zBM rfl rfl) rfl ?_|refine zA (zBV rfl rfl) rfl ?_|refine zA (zAE rfl rfl) rfl ?_|refine zA (zAR rfl rfl (IntWalk.i64_in _ (by omega))) rfl ?_|refine zA (zBE rfl rfl rfl (by omega) (by omega) (IntWalk.i64_in _ (by omega))) rfl ?_|refine zA (zBT rfl rfl rfl (by omega) (by omega)) rfl ?_|refine zA (zBF rfl rfl rfl) rfl ?_|refine zA (zA7 rfl rfl rfl) rfl ?_|refine zA (zAN rfl rfl (by exact rfl)) rfl ?_|refine zA (zAI rfl rfl rfl) rfl ?_)|(with_reducible refine zBI ?_)))
 (repeat' (first|((with_reducible refine zV ?_);first|refine zO rfl rfl rfl ?_|refine zD rfl rfl rfl ?_|(refine zQ rfl rfl rfl ?_;refine ⟨_,rfl,?_⟩)|refine zS rfl rfl rfl ?_|(refine zd rfl rfl rfl rfl rfl (fun h=>?_) (fun h=>?_)<;>(dsimp only [cmpP] at h;(try (exfalso;omega))))|refine zK (I:=k) rfl rfl rfl rfl rfl (by omega) ?_|refine zDc (i:=k) (j:=0) (z:=y) (y+min la' (x.hi - x.lo)) rfl rfl rfl rfl rfl rfl rfl rfl (by decide) ?_|refine zq rfl rfl rfl rfl ?_|refine zt rfl rfl rfl ?_|refine zb rfl rfl rfl rfl (by omega) ?_|refine zm rfl rfl rfl rfl (IntWalk.i64_in _ (by omega)) ?_|refine z7 rfl rfl rfl rfl (IntWalk.i64_in _ (by omega)) ?_|refine zK rfl rfl rfl rfl rfl (by omega) ?_|refine zL rfl rfl rfl rfl rfl (by first|decide|omega) ?_|refine zj rfl rfl rfl ?_|(refine zg rfl rfl rfl rfl rfl ?_;refine ⟨rfl,by first|decide|exact Nat.le_of_ble_eq_true rfl|(simp;omega),_,rfl,?_⟩)|(refine zh rfl rfl (fun b=>?_))|(refine zl rfl rfl rfl rfl (fun b=>?_))|(refine zy rfl rfl rfl ?_;refine ⟨_,rfl,?_⟩)|(refine zR rfl rfl rfl ?_;refine ⟨rfl,_,rfl,fun b=>?_⟩)|refine zx rfl rfl rfl ?_|refine zA5 rfl rfl rfl rfl ?_|refine zz rfl rfl rfl rfl ?_)|(with_reducible first|refine zW ?_|refine zC ?_|refine zU ?_|refine zB ?_|refine zX ?_|refine zT ?_|refine zF ?_|refine zf ?_|refine zP ?_|refine zZ ?_|refine zY ?_|refine za ?_|refine zG ?_|refine zJ ?_)|((with_reducible refine zE ?_ ?_);(· exact rfl))|((with_reducible refine zI ?_ ?_);(· exact rfl))|((with_reducible refine zH ?_ ?_);(· exact rfl))))
 exact zC5 none (.inl ⟨rfl,rfl⟩) rfl (by (repeat constructor)) (ws'.set k (y+min la' (x.hi - x.lo)),la' - min la' (x.hi - x.lo)) ⟨by simp only [List.length_append,List.length_cons,List.length_nil];omega,by simp only [List.length_set];exact hwl',fun z hz=>all_set (p:=fun z=>-30000000000 * (((ys++[(k,x)]).length:Int)+1)≤z∧z≤10000000000 * (((ys++[(k,x)]).length:Int)+1)) (fun z hz=>by have:=hwb' z hz;simp only [List.length_append,List.length_cons,List.length_nil];omega) (by simp only [List.length_append,List.length_cons,List.length_nil];omega) z hz,by simp only;omega,by simp only [List.length_append,List.length_cons,List.length_nil];omega⟩ hW (fun _ h=>h.sub (by (repeat constructor)))
end Two
end Go.Proofs.YtcpdjamlhhfbhaaGreat
namespace Go.Proofs.YtcpdjamlhhfbhaaGreat
theorem slOf_mk {α:Type} {enc:α→List Value} {k c:Nat} {A:Option Addr} {xs:List α}:zCs enc k ⟨A,xs,c⟩ = .sl enc k A xs:=rfl
theorem fit_at {T:List Sp} {R:Int→Prop} (hT:∀ n,zAn T n↔R n) {l:List zBK} {left:Sp} {t:Int} (h1:left.lo≤t) (h2:t≤left.hi) (ht:∃ x y,zAn (l.map Two.zBe) x∧R y∧t=x+y):∃ (k:Nat) (x:zBK),l[k]?=some x∧zCB (fun x=>T.any fun u=>Two.zEP left x.sum u) l=(k:Int)∧(T.any fun u=>Two.zEP left x.sum u)=true:=by
 obtain ⟨x,hx,u,hu,h3,h4⟩:=zHG hT h1 h2 ht
 obtain ⟨z,hz,rfl⟩:=List.mem_map.1 hx
 have hz2:(T.any fun u=>Two.zEP left z.sum u)=true:=List.any_eq_true.2 ⟨u,hu,by
  unfold Two.zEP Two.zBe at *
  simp only [Bool.and_eq_true,decide_eq_true_eq]
  exact ⟨h3,h4⟩⟩
 unfold zCB
 cases hf:l.findIdx? (fun x=>T.any fun u=>Two.zEP left x.sum u) with
 | none =>
  rw [List.findIdx?_eq_none_iff] at hf
  exact absurd hz2 (by rw [hf z hz];simp)
 | some k =>
  obtain ⟨h5,h6,_⟩:=List.findIdx?_eq_some_iff_getElem.1 hf
  exact ⟨k,l[k],List.getElem?_eq_getElem h5,rfl,h6⟩
namespace Two
variable {ro : Option Nat}
open Go.RowKit
set_option maxRecDepth 20000
def zFO (p:Int × Int):List Value:=[.int .i64 p.1,.int .i64 p.2]
instance encI_ar : zBX zFO 2:=⟨fun _=>rfl,fun x v hv=>by simp [zFO] at hv;rcases hv with rfl|rfl<;>rfl⟩
theorem elem_ar : Elem Tryz.prog 59 117 2 16 (.agg #[.int .i64 0,.int .i64 0]):=⟨by rfl,by exact ⟨_,rfl,rfl,rfl,rfl⟩,by decide,by decide⟩
instance elI_ar : ElI Tryz.prog 59 117 2 16:=⟨⟨_,elem_ar⟩⟩
set_option maxHeartbeats 8000000 in
theorem truth_t2 (g:GrM) (us:List ScM) (tl:ScM→List zBK) (sm:Nat→Int→Prop) (L1:List (zBD zBK)) (L2:List (zBD Sp)) (A A9:Option Addr) (n9 c9 c10 hh m bG bT bR bU b11 b12 g1 g2 n1 n2 c1 c2 bd:Nat) (fT:Int→Option ScM) (total:Int) (w:World) (hg:zAB zB9 2 w g.lA g.loads) (hl:g.loads.length≤6) (hsh:∀ l∈g.loads,-2000000≤l.shown∧l.shown≤2000000) (hadd:0≤g.added∧g.added≤1000000) (htot:0≤total∧total≤25000000)
  (hfT:∀ k,0≤((fT k).getD sc0).step∧((fT k).getD sc0).step≤500) (hI:zEn us tl sm 0 L1 L2) (e1:n1=L1.length) (e2:n2=L2.length) (hul:us.length≤4) (hTb:∀ x∈us,∀ y∈tl x,-10≤y.gain∧y.gain≤10∧-100≤y.off∧y.off≤100∧0≤y.sum.lo∧y.sum.lo≤y.sum.hi∧y.sum.hi≤6000000) (hTl:∀ x∈us,(tl x).length≤4221) (hsmb:∀ k,k≤us.length→∀ t,sm k t→0≤t∧t≤25000000)
  (hsmS:∀ k x,us[k]?=some x→∀ t,sm k t→∃ a b,zAn ((tl x).map zBe) a∧sm (k+1) b∧t=a+b) (hs0:sm 0 (total - g.added)) (cd:Code) (hcd:Tryz.f18.body.bind (zC8 9)=some cd) (Q:Exit→Act→World→Prop)
  (hret:∀ TA tm tc b2 A2 m2 c2 a W,Kn w 215 (dL [b2,bd]) [(6,.pointer (some ⟨bR,0,none⟩)),(7,.int .i64 0)] [.blk bR [.slice TA tm tc,.slice A2 m2 c2],.dfr [b2,bd]] a W→Q .ret a W) :
  U w 215 (dL [bd]) [(4,.pointer (some ⟨bG,0,none⟩)),(5,.pointer (some ⟨bT,0,none⟩)),(6,.pointer (some ⟨bR,0,none⟩)),(8,.pointer (some ⟨hh,0,none⟩)),(10,.pointer (some ⟨bU,0,none⟩)),(11,.pointer (some ⟨b11,0,none⟩)),(12,.pointer (some ⟨b12,0,none⟩))] [.zC1 zCC (zCs zAf 4) g1 L1,.zC1 zCC (zCs zo 2) g2 L2,.blk b12 [.slice (some ⟨g2,0,none⟩) n2 c2],.blk b11 [.slice (some ⟨g1,0,none⟩) n1 c1],.blk bU [.slice A9 us.length c10],.sl zAW 7 A9 us,.blk bG (zB0 g),.blk bT [.int .i64 total],.blk bR [.slice none 0 0,.slice none 0 0],.blk hh [.slice A n9 c9,.map (some m)],.fm m vI vSc fT,.dfr [bd]] (cd.wpI none Tryz.prog Q):=by
 subst e1 e2
 obtain ⟨rest,hrest⟩:∃ rest,zC8 4 cd=some rest:=by
  obtain rfl:_=cd:=Option.some.inj ((rfl:Tryz.f18.body.bind (zC8 9)=some _).symm.trans hcd)
  exact ⟨_,rfl⟩
 have hT3:=fun TA tm tc mt bw f hf=>truth_t3 g A TA n9 c9 tm tc hh m mt bG bT bR bw bd fT f total w hg hl hsh hadd htot hfT hf rest (by rw [← hrest];obtain rfl:_=cd:=Option.some.inj ((rfl:Tryz.f18.body.bind (zC8 9)=some _).symm.trans hcd);rfl) Q (hret TA tm tc)
 refine u_cutN 4 hrest ?_
 generalize rest.wpI none Tryz.prog Q=AG at hT3 ⊢
 clear hrest
 obtain rfl:_=cd:=Option.some.inj ((rfl:Tryz.f18.body.bind (zC8 9)=some _).symm.trans hcd)
 clear hcd hret
 dsimp only [wpCut]
 obtain ⟨lA,loads,lc,ad,ba,ji,uA,run,uc,kA,str,kc,spd,stm⟩:=g
 unfold zB0 at *
 simp only at *
 (repeat' (first|((with_reducible refine zV ?_);first|refine zO rfl rfl rfl ?_|refine zD rfl rfl rfl ?_|(refine zQ rfl rfl rfl ?_;refine ⟨_,rfl,?_⟩)|refine zS rfl rfl rfl ?_|(refine zd rfl rfl rfl rfl rfl (fun h=>?_) (fun h=>?_)<;>(dsimp only [cmpP] at h;(try (exfalso;omega))))|refine zDr Int (Int × Int) vI vAr rfl rfl (fun mt=>?_)|refine zq rfl rfl rfl rfl ?_|refine zt rfl rfl rfl ?_|refine zb rfl rfl rfl rfl (by omega) ?_|refine zm rfl rfl rfl rfl (IntWalk.i64_in _ (by omega)) ?_|refine z7 rfl rfl rfl rfl (IntWalk.i64_in _ (by omega)) ?_|refine zK rfl rfl rfl rfl rfl (by omega) ?_|refine zL rfl rfl rfl rfl rfl (by first|decide|omega) ?_|refine zj rfl rfl rfl ?_|(refine zg rfl rfl rfl rfl rfl ?_;refine ⟨rfl,by first|decide|exact Nat.le_of_ble_eq_true rfl|(simp;omega),_,rfl,?_⟩)|(refine zh rfl rfl (fun b=>?_))|(refine zl rfl rfl rfl rfl (fun b=>?_))|(refine zy rfl rfl rfl ?_;refine ⟨_,rfl,?_⟩)|(refine zR rfl rfl rfl ?_;refine ⟨rfl,_,rfl,fun b=>?_⟩)|refine zx rfl rfl rfl ?_|refine zA5 rfl rfl rfl rfl ?_|refine zz rfl rfl rfl rfl ?_)|(with_reducible first|refine zW ?_|refine zC ?_|refine zU ?_|refine zB ?_|refine zX ?_|refine zT ?_|refine zF ?_|refine zf ?_|refine zP ?_|refine zZ ?_|refine zY ?_|refine za ?_|refine zG ?_|refine zJ ?_)|((with_reducible refine zE ?_ ?_);(· exact rfl))|((with_reducible refine zI ?_ ?_);(· exact rfl))|((with_reducible refine zH ?_ ?_);(· exact rfl))))
 rename_i bw
 obtain ⟨bl,hbl⟩:∃ y,y=b:=⟨_,rfl⟩
 subst hbl
 have hL1:=hI.l1
 have hL2:=hI.l2
 refine zAw zFO 2 117 ?_
 refine zAC (ι:=Nat × (Value × List (Int × Int)) × Sp × (Int→Option (Int × Int))) [4,5,6,8,11,12,14,15,16,99,100] rfl (fun q=>q.1≤us.length∧q.2.1.2.length=q.1∧(-1000000 - 6000000 * (q.1:Int)≤q.2.2.1.lo∧q.2.2.1.lo≤q.2.2.1.hi∧q.2.2.1.hi≤25000000)∧(∃ t,q.2.2.1.lo≤t∧t≤q.2.2.1.hi∧sm q.1 t)∧∀ k,(-10≤((q.2.2.2 k).getD (0,0)).1∧((q.2.2.2 k).getD (0,0)).1≤10)∧-100≤((q.2.2.2 k).getD (0,0)).2∧((q.2.2.2 k).getD (0,0)).2≤100) (fun q=>[(101,.int .i64 (q.1:Int))]) (fun q=>[.row zFO 2 117 q.2.1.1 q.2.1.2,.blk bw [q.2.1.1,.slice none 0 0],.blk bl [.int .i64 q.2.2.1.lo,.int .i64 q.2.2.1.hi],.fm mt vI vAr q.2.2.2,.zC1 zCC (zCs zAf 4) g1 L1,.zC1 zCC (zCs zo 2) g2 L2,.blk b12 [.slice (some ⟨g2,0,none⟩) L2.length c2],.blk b11 [.slice (some ⟨g1,0,none⟩) L1.length c1],.sl zAW 7 A9 us,.blk bG [.slice lA loads.length lc,.int .i64 ad,.int .i64 ba,.int .i64 ji,.slice uA run.length uc,.slice kA str.length kc,.int .i64 spd,.bool stm],.blk bT [.int .i64 total],.blk bR [.slice none 0 0,.slice none 0 0],.blk hh [.slice A n9 c9,.map (some m)],.fm m vI vSc fT,.dfr [bd]]) (fun q=>us.length - q.1) (0,(.slice none 0 0,[]),⟨total - ad,total - ad⟩,fun _=>none) ⟨Nat.zero_le _,rfl,by simp only;omega,⟨total - ad,by simp only;omega,by simp only;omega,hs0⟩,fun k=>by simp⟩ (by (repeat first|exact lK1|refine zp rfl ?_)) (by (repeat constructor)) ?_
 rintro ⟨i,⟨v,tu⟩,⟨l1,l2⟩,f⟩ ⟨hi,htu,hlb,⟨t,ht1,ht2,hst⟩,hf⟩
 simp only at hi htu hlb ht1 ht2 hst hf
 simp only [zAm,List.cons_append,List.nil_append]
 by_cases hlt:i<us.length
 rotate_left
 ·obtain rfl:i=us.length:=by omega
  (repeat' (first|((with_reducible refine zV ?_);first|refine zO rfl rfl rfl ?_|refine zD rfl rfl rfl ?_|(refine zQ rfl rfl rfl ?_;refine ⟨_,rfl,?_⟩)|refine zS rfl rfl rfl ?_|(refine zd rfl rfl rfl rfl rfl (fun h=>?_) (fun h=>?_)<;>(dsimp only [cmpP] at h;(try (exfalso;omega))))|refine zq rfl rfl rfl rfl ?_|refine zt rfl rfl rfl ?_|refine zb rfl rfl rfl rfl (by omega) ?_|refine zm rfl rfl rfl rfl (IntWalk.i64_in _ (by omega)) ?_|refine z7 rfl rfl rfl rfl (IntWalk.i64_in _ (by omega)) ?_|refine zK rfl rfl rfl rfl rfl (by omega) ?_|refine zL rfl rfl rfl rfl rfl (by first|decide|omega) ?_|refine zj rfl rfl rfl ?_|(refine zg rfl rfl rfl rfl rfl ?_;refine ⟨rfl,by first|decide|exact Nat.le_of_ble_eq_true rfl|(simp;omega),_,rfl,?_⟩)|(refine zh rfl rfl (fun b=>?_))|(refine zl rfl rfl rfl rfl (fun b=>?_))|(refine zy rfl rfl rfl ?_;refine ⟨_,rfl,?_⟩)|(refine zR rfl rfl rfl ?_;refine ⟨rfl,_,rfl,fun b=>?_⟩)|refine zx rfl rfl rfl ?_|refine zA5 rfl rfl rfl rfl ?_|refine zz rfl rfl rfl rfl ?_)|(with_reducible first|refine zW ?_|refine zC ?_|refine zU ?_|refine zB ?_|refine zX ?_|refine zT ?_|refine zF ?_|refine zf ?_|refine zP ?_|refine zZ ?_|refine zY ?_|refine za ?_|refine zG ?_|refine zJ ?_)|((with_reducible refine zE ?_ ?_);(· exact rfl))|((with_reducible refine zI ?_ ?_);(· exact rfl))|((with_reducible refine zH ?_ ?_);(· exact rfl))))
  refine zAp (xs:=tu) (enc:=zFO) (by (repeat constructor)) ?_
  rintro TA tc rfl
  refine U.sub (R':=[(4,.pointer (some ⟨bG,0,none⟩)),(5,.pointer (some ⟨bT,0,none⟩)),(6,.pointer (some ⟨bR,0,none⟩)),(8,.pointer (some ⟨hh,0,none⟩)),(14,.pointer (some ⟨bw,0,none⟩)),(16,.map (some mt))]) (H':=[.blk bG [.slice lA loads.length lc,.int .i64 ad,.int .i64 ba,.int .i64 ji,.slice uA run.length uc,.slice kA str.length kc,.int .i64 spd,.bool stm],.blk bT [.int .i64 total],.blk bR [.slice none 0 0,.slice none 0 0],.blk hh [.slice A n9 c9,.map (some m)],.fm m vI vSc fT,.fm mt vI vAr f,.blk bw [.slice TA tu.length tc,.slice none 0 0],.dfr [bd]]) (by (repeat first|exact lK1|refine zp rfl ?_)) (by (repeat constructor)) ?_
  exact hT3 TA tu.length tc mt bw f hf
 obtain ⟨x,hx⟩:∃ x,us[i]?=some x:=⟨_,List.getElem?_eq_getElem hlt⟩
 have hxm:=List.mem_of_getElem? hx
 obtain ⟨r1,hr1,hr1x⟩:=hI.all i x (Nat.zero_le _) hx
 obtain ⟨r2,hr2,hr2c,hr2m⟩:=hI.later (i+1) (Nat.zero_le _) (by omega)
 obtain ⟨k,y,hk,hfi,hfy⟩:=fit_at hr2m (l:=tl x) (left:=⟨l1,l2⟩) ht1 ht2 (hsmS i x hx t hst)
 have hyb:=hTb x hxm y (List.mem_of_getElem? hk)
 obtain ⟨t',ht1',ht2',hst'⟩:=fit_left hr2m hr2c.ord (left:=⟨l1,l2⟩) (x:=y.sum) (by omega) (by simp only;omega) hfy
 simp only at ht1' ht2'
 have hkl:=(List.getElem?_eq_some_iff.1 hk).1
 have htl:=hTl x hxm
 have hr2l:r2.xs.length≤100000000000:=by
  have h1:=hr2c.bd (B:=25000000) (fun n hn=>hsmb (i+1) (by omega) n ((hr2m n).1 hn))
  have:=zCU hr2c (B:=25000000) (by omega) (fun s hs=>⟨(h1 s hs).1,(h1 s hs).2.2⟩)
  omega
 have hyx:=fun z hz=>hTb x hxm z hz
 generalize tl x=tx at *
 obtain ⟨r1A,r1x,r1c⟩:=r1
 simp only at hr1x
 subst hr1x
 have hIdx:=fun W b17 (h1:zAB zAf 4 W r1A r1x) (h2:InC W b12 0 [.slice (some ⟨g2,0,none⟩) L2.length c2]) (h3:InC W b17 0 [.int .i64 (i:Int)]) (h4:InC W bl 0 [.int .i64 l1,.int .i64 l2]) (h5:zGL zo 2 W (some ⟨g2,0,none⟩) L2)=>ctu_idx r1x r1A r1c 49 #[.pointer (some ⟨b12,0,none⟩),.pointer (some ⟨b17,0,none⟩),.pointer (some ⟨bl,0,none⟩)] (fun y=>r2.xs.any fun u=>zEP ⟨l1,l2⟩ y.sum u) W h1 (by omega) (fun z W' hz hW'=>zHM L2 (some ⟨g2,0,none⟩) c2 i z ⟨l1,l2⟩ r2 b12 b17 bl W' (h2.below hW') (h3.below hW') (h4.below hW') (h5.below hW') hr2 hr2l (by omega) (by simp only;omega) (by have:=hyx z hz;omega))
 rw [hfi] at hIdx
 clear hfi hfy hsmS hTb hyx
 have:zAZ us i x:=⟨hx⟩
 have:zAZ r1x k y:=⟨hk⟩
 have:zAZ (L1.set i (⟨r1A,r1x,r1c⟩:zBD zBK)) i (⟨r1A,r1x,r1c⟩:zBD zBK):=⟨by rw [List.getElem?_set_self (by omega)]⟩
 refine zAo (enc:=zAW) (xs:=us) (by (repeat constructor)) (by omega) (fun bA oA hAe=>?_)
 subst hAe
 refine zDL i (s:=(⟨r1A,r1x,r1c⟩:zBD zBK)) hr1 (by (repeat constructor)) ?_
 simp only [slOf_mk]
 refine zAo (enc:=zAf) (xs:=r1x) (by (repeat constructor)) (by omega) (fun bX oX hXe=>?_)
 subst hXe
 (repeat' (first|((with_reducible refine zV ?_);first|refine zO rfl rfl rfl ?_|refine zD rfl rfl rfl ?_|(refine zQ rfl rfl rfl ?_;refine ⟨_,rfl,?_⟩)|refine zS rfl rfl rfl ?_|(refine zd rfl rfl rfl rfl rfl (fun h=>?_) (fun h=>?_)<;>(dsimp only [cmpP] at h;(try (exfalso;omega))))|refine zK (I:=i) rfl rfl rfl rfl rfl (by omega) ?_|refine zK (I:=k) rfl rfl rfl rfl rfl (by omega) ?_|refine zn rfl rfl rfl rfl (fun _ _ q=>hIdx _ _ (zDD q.own (Below.refl _ _)) (zBC q.own (Below.refl _ _) rfl) (zBC q.own (Below.refl _ _) rfl) (zBC q.own (Below.refl _ _) rfl) (tabSl_at q.own (by (repeat constructor)))) ?_|(refine zBc (enc:=zFO) [(y.gain,y.off)] rfl rfl rfl (by (repeat constructor)) rfl rfl (zAO (enc:=zFO) (by exact rfl)) (by refine ⟨?_,by decide⟩;(try simp only [List.length_append,List.length_cons,List.length_nil]);omega) (fun A' c'=>?_))|refine zEp (kv:=vI) (vv:=vAr) x.id (y.gain,y.off) rfl zBt rfl rfl rfl rfl rfl (by (repeat constructor)) ?_|refine zq rfl rfl rfl rfl ?_|refine zt rfl rfl rfl ?_|refine zb rfl rfl rfl rfl (by omega) ?_|refine zm rfl rfl rfl rfl (IntWalk.i64_in _ (by omega)) ?_|refine z7 rfl rfl rfl rfl (IntWalk.i64_in _ (by omega)) ?_|refine zK rfl rfl rfl rfl rfl (by omega) ?_|refine zL rfl rfl rfl rfl rfl (by first|decide|omega) ?_|refine zj rfl rfl rfl ?_|(refine zg rfl rfl rfl rfl rfl ?_;refine ⟨rfl,by first|decide|exact Nat.le_of_ble_eq_true rfl|(simp;omega),_,rfl,?_⟩)|(refine zh rfl rfl (fun b=>?_))|(refine zl rfl rfl rfl rfl (fun b=>?_))|(refine zy rfl rfl rfl ?_;refine ⟨_,rfl,?_⟩)|(refine zR rfl rfl rfl ?_;refine ⟨rfl,_,rfl,fun b=>?_⟩)|refine zx rfl rfl rfl ?_|refine zA5 rfl rfl rfl rfl ?_|refine zz rfl rfl rfl rfl ?_)|(with_reducible first|refine zW ?_|refine zC ?_|refine zU ?_|refine zB ?_|refine zX ?_|refine zT ?_|refine zF ?_|refine zf ?_|refine zP ?_|refine zZ ?_|refine zY ?_|refine za ?_|refine zG ?_|refine zJ ?_)|((with_reducible refine zE ?_ ?_);(· exact rfl))|((with_reducible refine zI ?_ ?_);(· exact rfl))|((with_reducible refine zH ?_ ?_);(· exact rfl))))
 refine zHb (re:=zCs zAf 4) i hr1 (by (repeat constructor)) (by (repeat constructor)) (by (repeat constructor)) ?_
 exact z6 (ι:=Nat × (Value × List (Int × Int)) × Sp × (Int→Option (Int × Int))) (i+1,(.slice A' (tu++[(y.gain,y.off)]).length c',tu++[(y.gain,y.off)]),⟨l1 - y.sum.hi,l2 - y.sum.lo⟩,zB1 f x.id (some (y.gain,y.off))) ⟨by simp only;omega,by simp only [List.length_append,List.length_cons,List.length_nil];omega,by simp only;omega,⟨t',by simp only;omega,by simp only;omega,hst'⟩,fun k=>by
  simp only
  by_cases he:k=x.id
  ·rw [he,zEE];simp only [Option.getD_some];omega
  ·rw [zGO he];exact hf k⟩ (by simp only;omega) (by (repeat first|exact lK1|refine zp rfl ?_)) (by (repeat constructor))
end Two
end Go.Proofs.YtcpdjamlhhfbhaaGreat
