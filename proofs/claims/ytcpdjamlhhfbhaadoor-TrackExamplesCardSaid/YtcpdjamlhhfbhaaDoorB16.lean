/- B16 -/
import Derived.Test.YtcpdjamlhhfbhaaDoorB7
import Derived.Test.YtcpdjamlhhfbhaaDoorB15
import Derived.Test.YtcpdjamlhhfbhaaDoorB12
import Derived.Test.YtcpdjamlhhfbhaaDoorB5
import Derived.Test.YtcpdjamlhhfbhaaDoorB6
import Derived.Test.YtcpdjamlhhfbhaaDoorB10
set_option linter.unusedSimpArgs false
set_option linter.unusedVariables false
namespace Go.Proofs.YtcpdjamlhhfbhaaDoor
variable {ro : Option Nat}
open Go.RowKit
set_option maxRecDepth 20000
set_option maxHeartbeats 1000000 in
theorem zGh (B:Option Addr) (w:World) (hB:zS zAt 5 w B [zAI,zAO]):Gv Tryd.prog 8 [vSp ⟨4100,4100⟩,vSp ⟨2150,2200⟩,.slice B 2 2] w (.bool true):=by
 unfold Gv vSp
 have hbl:∀ b o,B=some ⟨b,o,none⟩→b<w.heap.size:=fun b o e=>by
  obtain ⟨b',o',h1,h2,_⟩:=hB 0 zAI rfl
  rw [h1] at e;cases e;exact h2
 have h1:=fun W A cap (hA:zS zO 9 W A zX) (hW:Below w.heap.size w W)=>zCi zX A cap [zAI,zAO] B 2 W hA (hB.below hW) (fun b o e=>Nat.lt_of_lt_of_le (hbl b o e) hW.size) zAa (by intro m hm;simp at hm;rcases hm with rfl|rfl<;>decide) (by decide) (by decide)
 rw [nT_2.1,nT_2.2] at h1
 (refine zH (n:=34) Tryd.func8 rfl rfl rfl ?_)
 (repeat' (first|((with_reducible refine zI ?_);first|refine zF rfl rfl rfl ?_|refine zD rfl rfl rfl ?_|(refine zBJ rfl rfl rfl rfl (fun _ _ q=>zCK _) ?_;rintro gr -;dsimp only [List.cons_append,List.nil_append])|refine zz rfl rfl rfl rfl (fun _ _ q=>h1 _ _ _ (zFQ q.own (by (repeat constructor))) q.below) (fun A' c'=>?_)|refine zZ rfl rfl rfl rfl ?_|(refine zQ rfl rfl rfl rfl rfl ?_;refine ⟨rfl,by first|decide|exact Nat.le_of_ble_eq_true rfl|(simp;omega),_,rfl,?_⟩)|(refine zV rfl rfl (fun b=>?_))|(refine zAD rfl rfl rfl rfl (fun b=>?_)))|(with_reducible first|refine zJ ?_|refine zC ?_|refine zG ?_|refine zA ?_)))
 have g0:zCG zX 0 ⟨3,⟨4000,4100⟩,⟨400,420⟩,⟨0,0⟩,0,0⟩:=⟨rfl⟩
 have g1:zCG (zX.set 0 ⟨3,⟨4100,4100⟩,⟨400,420⟩,⟨0,0⟩,0,0⟩) 1 ⟨5,⟨2000,2200⟩,⟨150,160⟩,⟨1500,1600⟩,1,0⟩:=⟨rfl⟩
 (refine zDj ⟨8,[.arr zO 9 gr zX],[.arr zO 9 gr (zX.set 0 ⟨3,⟨4100,4100⟩,⟨400,420⟩,⟨0,0⟩,0,0⟩)]⟩ (H0:=_) (fun _ h=>(h.take (by (repeat constructor)))) (by kernel_rfl) [[],[Z],[Y,Y],[Z,Y,Y],[Y,Y,Y,Y],[Y,Y,Y,Y,Y],[Y,Z,Y,Y,Z,Z],[Z,Y,Z,Y,Y,Z,Z],[Z,Z,Y,Z,Y,Y,Z,Z],[Z,Z,Z,Z,Z,Z,Z,Z,Z],[Z,Z,Z,Z,Z,Z,Z,Z,Z,Z],[Z,Z,Z,Z,Z,Z,Z,Z,Z,Z,Z]] (by kernel_rfl) (by kernel_rfl) (by kernel_rfl) ?_)
 (repeat' (first|(((with_reducible refine zB0 ?_ ?_);(· exact rfl);refine ⟨_,fun G=>(by (try simp only [fltT,zc,List.nil_append,List.cons_append]);rfl),?_⟩);first|refine zK _ (fun _=>zAA rfl rfl (by exact rfl)) (fun _=>rfl) rfl (by intro G G' h;simp (decide:=true) only [h]) ?_|(refine zAE rfl ?_;refine zK _ (fun _=>zAb rfl rfl) (fun _=>rfl) rfl (by intro G G' h;simp (decide:=true) only [h]) ?_)|refine zK _ (fun _=>zBU (I:=0) rfl rfl rfl rfl (by decide)) (fun _=>rfl) rfl (by exact fun _ _ _=>rfl) ?_|refine zK _ (fun _=>zBU (I:=1) rfl rfl rfl rfl (by decide)) (fun _=>rfl) rfl (by exact fun _ _ _=>rfl) ?_)|(refine zGt (enc:=zO) (i:=0) (j:=1) (z:=⟨3,⟨4000,4100⟩,⟨400,420⟩,⟨0,0⟩,0,0⟩) ⟨3,⟨4100,4100⟩,⟨400,420⟩,⟨0,0⟩,0,0⟩ rfl (fun _=>rfl) rfl rfl rfl rfl (fun _=>rfl) (fun _=>rfl) rfl rfl rfl (by decide) ?_)|((with_reducible refine zBE ?_ ?_);(· exact rfl))))
 (intro G;simp only [regsT,zc,Pend.zEp,List.nil_append,List.cons_append])
 simp (decide:=true) only [Pend.at_lt,List.nil_append,List.cons_append]
 (repeat' (first|((with_reducible refine zI ?_);first|refine zF rfl rfl rfl ?_|(refine zf rfl rfl rfl ?_;refine ⟨_,rfl,?_⟩)|(refine zT rfl rfl rfl rfl rfl (fun h=>?_) (fun h=>?_)<;>(dsimp only [cmpP] at h;(try (exfalso;omega))))|refine zDi (enc:=zO) (z:=⟨5,⟨2000,2200⟩,⟨150,160⟩,⟨1500,1600⟩,1,0⟩) ⟨5,⟨2150,2200⟩,⟨150,160⟩,⟨1500,1600⟩,1,0⟩ rfl rfl rfl rfl rfl rfl rfl rfl (by decide) ?_)|(with_reducible first|refine zJ ?_|refine zC ?_|refine zG ?_|refine zA ?_)))
 (repeat' (first|((with_reducible refine zI ?_);first|refine zD rfl rfl rfl ?_|refine zBS rfl rfl rfl rfl ?_|refine zN rfl rfl rfl rfl (fun _ _ q=>zGM zEy _ _ _ _ _ (zAp q.own (Below.refl _ _)) (zFQ q.own (by (repeat constructor))) (by decide)) ?_)|(with_reducible first|refine zG ?_|refine zA ?_|refine zg ?_)))
 all_goals exact zP (by exact rTm rfl) () trivial rfl (fun _ h=>h.sub (by (repeat constructor)))
end Go.Proofs.YtcpdjamlhhfbhaaDoor
namespace Go.Proofs.YtcpdjamlhhfbhaaDoor.Two
variable {ro : Option Nat}
open Go.RowKit
set_option maxRecDepth 20000
theorem zFI {base g:Nat} {cs:List Value} {H H':List Ent} {w:World} (ho:Own base w H) (ht:Take H (.blk g cs) H'):∀ b o,some (⟨g,0,none⟩:Addr)=some ⟨b,o,none⟩→b<w.heap.size:=fun b o e=>by
 cases e
 exact (ho.foot _ ht.mem g rfl).2
set_option maxHeartbeats 16000000 in
theorem zDk (w:World):Gv Tryd.prog 3 [] w (.bool true):=by
 have hD1:=fun W A cap (ht:zS zO 9 W A zX)=>(zGr zX A cap 1 3 W ht zAa (by decide)).gv
 have hD2:=fun W A cap (ht:zS zO 9 W A zX)=>(zGr zX A cap 2 1 W ht zAa (by decide)).gv
 rw [zEo.1,zEo.2.1,zEo.2.2.1] at hD1
 rw [zEo.2.2.2] at hD2
 generalize zCx zX 2 1=dl at *
 generalize zCy zX 2 1=df at *
 have hU:=fun W A cap B c (ht:zS zO 9 W A zX) (hs:zS zAt 5 W B [zAI,zAO]) hB=>zGF zX A cap [zAI,zAO] B c W ht hs hB zAa (by intro m hm;simp at hm;rcases hm with rfl|rfl<;>decide) (by decide) (by decide)
 rw [usel_2,nT_2.2] at hU
 have hA1:=fun W A cap (ht:zS zO 9 W A zX)=>at_any zX A cap ⟨1,⟨100,110⟩⟩ W ht zAa (by decide)
 have hA2:=fun W A cap (ht:zS zO 9 W A zX)=>at_any zX A cap ⟨0,⟨0,4000⟩⟩ W ht zAa (by decide)
 rw [ev_at.1,ev_at.2.1] at hA1
 rw [ev_at.2.2] at hA2
 generalize atT zX ⟨0,⟨0,4000⟩⟩=a2 at *
 have hP:=fun W A cap (ht:zS zO 9 W A zX)=>zFf zX A cap 360001 W ht zAa (by decide)
 rw [zEM.2.2] at hP
 generalize zBs zX 360001=pl at *
 have hS:=fun W A cap (ht:zS zO 9 W A zX)=>(zFb zX A cap 3 W ht zAa (by decide)).gv
 rw [zH6] at hS
 generalize zCf zX 3=sl at *
 have hN1:=fun W A cap B c (ht:zS zO 9 W A zX) (hs:zS zAt 5 W B [badM]) hB=>zCi zX A cap [badM] B c W ht hs hB zAa (by intro m hm;simp at hm;subst hm;decide) (by decide) (by decide)
 have hN2:=fun W A cap B c (ht:zS zO 9 W A zX) (hs:zS zAt 5 W B [zFt]) hB=>zCi zX A cap [zFt] B c W ht hs hB zAa (by intro m hm;simp at hm;subst hm;decide) (by decide) (by decide)
 rw [errN_b] at hN1
 rw [errN_f] at hN2
 generalize nT zX [badM]=n1 at *
 generalize nT zX [zFt]=n2 at *
 have hJ:=fun W A ca B cb (ha:zS zO 9 W A zX) (hb:zS zO 9 W B zX)=>join_any zX zX A B ca cb W ha hb zAa zAa ⟨by decide,by decide⟩
 rw [ev_join] at hJ
 generalize zCu zX zX=jt at *
 have hM:=fun W=>zE8 (V:=fun v=>.tuple #[v,.int .i64 (zBY [])]) (zEJ [] none 0 W (fun i x h=>by simp at h) (fun s h=>by cases h) (by decide))
 rw [ev_nil] at hM
 generalize zCj []=mk at *
 have hC:=fun W=>zDy [] none 0 W (fun i x h=>by simp at h) (fun s h=>by cases h) (by decide)
 rw [ev_nil] at hC
 unfold vT at hD1 hD2 hS hM
 unfold vSp at hD1 hD2 hA1 hA2 hS
 unfold zDS at hA1 hA2
 unfold Gv
 (refine zH (n:=178) Tryd.func3 rfl rfl rfl ?_)
 (repeat' (first|((with_reducible refine zI ?_);first|refine zD rfl rfl rfl ?_|refine zN rfl rfl rfl rfl (fun _ _ q=>zBA _ _ _) ?_|(refine zQ rfl rfl rfl rfl rfl ?_;refine ⟨rfl,by first|decide|exact Nat.le_of_ble_eq_true rfl|(simp;omega),_,rfl,?_⟩)|(refine zV rfl rfl (fun b=>?_))|(refine zAH rfl rfl rfl ?_;refine ⟨_,rfl,?_⟩))|(with_reducible first|refine zJ ?_|refine zC ?_|refine zG ?_|refine zA ?_)))
 refine zGH (H':=[.blk b [.int .u8 1,.int .i64 0,.int .i64 1,.int .i64 4100,.int .i64 4200]]) (fun _ h=>h) ?_
 obtain ⟨b1,hb1⟩:∃ y,y=b:=⟨_,rfl⟩
 subst hb1
 (refine zAU [] [] [] rfl (show ([]:List Nat).Nodup by decide) (fun _ h=>h) (by kernel_rfl) [[],[Z],[Z,Z],[Z,Z,Z],[Z,Z,Z,Z],[Z,Z,Z,Z,Z],[Z,Z,Z,Z,Z,Z],[Z,Z,Z,Z,Z,Z,Z],[Z,Z,Z,Z,Z,Z,Z,Z],[Z,Z,Z,Z,Z,Z,Z,Z,Z],[Z,Z,Z,Z,Z,Z,Z,Z,Z,Z],[Z,Z,Z,Z,Z,Z,Z,Z,Z,Z,Z],[Z,Z,Z,Z,Z,Z,Z,Z,Z,Z,Z,Z],[Z,Z,Z,Z,Z,Z,Z,Z,Z,Z,Z,Z,Z],[Z,Z,Z,Z,Z,Z,Z,Z,Z,Z,Z,Z,Z,Z],[Z,Z,Z,Z,Z,Z,Z,Z,Z,Z,Z,Z,Z,Z,Z],[Z,Z,Z,Z,Z,Z,Z,Z,Z,Z,Z,Z,Z,Z,Z,Z],[Y,Y,Y,Z,Z,Z,Z,Z,Z,Z,Z,Z,Z,Z,Z,Z,Z],[Z,Z,Z,Z,Z,Z,Z,Z,Z,Z,Z,Z,Z,Z,Z,Z,Z,Z],[Z,Z,Z,Z,Z,Z,Z,Z,Z,Z,Z,Z,Z,Z,Z,Z,Z,Z,Z],[Z,Z,Z,Z,Z,Z,Z,Z,Z,Z,Z,Z,Z,Z,Z,Z,Z,Z,Z,Z],[Z,Z,Z,Z,Z,Z,Z,Z,Z,Z,Z,Z,Z,Z,Z,Z,Z,Z,Z,Z,Z]] (by kernel_rfl) (by kernel_rfl) (by kernel_rfl) (by kernel_rfl) (by kernel_rfl) ?_)
 (repeat' (first|(((with_reducible refine zB0 ?_ ?_);(· exact rfl);refine ⟨_,fun G=>(by (try simp (decide:=true) only [vis,see,fltT,zc,Nat.reduceAdd,Nat.reduceSub,if_true,if_false,List.set_cons_zero,List.set_cons_succ,List.set_nil,List.nil_append,List.cons_append]);rfl),?_⟩);first|refine zK _ (fun _=>zA5 rfl rfl) (fun _=>rfl) rfl (by intro G G' h;simp (decide:=true) only [h]) ?_|refine zK _ (fun _=>zAA rfl rfl (by exact rfl)) (fun _=>rfl) rfl (by intro G G' h;simp (decide:=true) only [h]) ?_|refine zK _ (fun _=>zDc rfl rfl rfl) (fun _=>rfl) rfl (by intro G G' h;simp (decide:=true) only [h]) ?_|refine zAB _ rfl (fun _=>rfl) rfl (fun _=>rfl) (fun _=>rfl) (fun _ _ _ q=>zBA _ _ _) (by intro G G' h;simp (decide:=true) only [h]) ?_|refine zAB _ rfl (fun _=>rfl) rfl (fun _=>rfl) (fun _=>rfl) (fun _ _ _ q=>error10 _) (by intro G G' h;simp (decide:=true) only [h]) ?_|(refine c_strNe rfl (fun _=>rfl) rfl (fun _=>rfl) (fun _=>rfl) ?_)|refine zAB _ rfl (fun _=>rfl) rfl (fun _=>rfl) (fun _=>rfl) (fun _ _ _ q=>zIE _) (by intro G G' h;simp (decide:=true) only [h]) ?_|refine zAB _ rfl (fun _=>rfl) rfl (fun _=>rfl) (fun _=>rfl) (fun _ _ _ q=>zDa 6100 [1,2] _ _ _ (zAn (enc:=encI) [1,2] (by exact rfl) _ q.below q.own) zEM.1 zEM.2.1 (by decide)) (by intro G G' h;simp (decide:=true) only [h]) ?_|refine zAB _ rfl (fun _=>rfl) rfl (fun _=>rfl) (fun _=>rfl) (fun _ _ _ q=>zEL _) (by intro G G' h;simp (decide:=true) only [h]) ?_|refine zAB _ rfl (fun _=>rfl) rfl (fun _=>rfl) (fun _=>rfl) (fun _ _ _ q=>zGh _ _ (zAn (enc:=zAt) [zAI,zAO] (by exact rfl) _ q.below q.own)) (by intro G G' h;simp (decide:=true) only [h]) ?_|refine zK _ (fun _=>e_not rfl rfl) (fun _=>rfl) rfl (by intro G G' h;simp (decide:=true) only [h]) ?_|refine zAw rfl (fun _=>rfl) rfl (fun _=>rfl) (by exact rfl) (by exact fun _=>rfl) (by intro G G' h;simp (decide:=true) only [h]) ?_)|(with_reducible refine zEd ?_)))
 (intro G;simp only [regsT,zc,zAR,ini,List.nil_append,List.cons_append])
 refine zGH (H':=[.blk b1 [.int .u8 1,.int .i64 0,.int .i64 1,.int .i64 4100,.int .i64 4200]]) (fun _ h=>h.sub (by (repeat constructor))) ?_
 (repeat' (first|((with_reducible refine zI ?_);first|refine zF rfl rfl rfl ?_|refine zD rfl rfl rfl ?_|(refine zBJ rfl rfl rfl rfl (fun _ _ q=>zCK _) ?_;rintro gr -;dsimp only [List.cons_append,List.nil_append];refine u_ow (fun _ h=>h.zDg (Take.here _ _)) ?_)|refine zN rfl rfl rfl rfl (fun _ _ q=>hD1 _ _ _ (zAp q.own (Below.refl _ _))) ?_|refine zZ rfl rfl rfl rfl ?_|(refine zQ rfl rfl rfl rfl rfl ?_;refine ⟨rfl,by first|decide|exact Nat.le_of_ble_eq_true rfl|(simp;omega),_,rfl,?_⟩)|(refine zV rfl rfl (fun b=>?_)))|(with_reducible first|refine zJ ?_|refine zC ?_|refine zG ?_|refine zA ?_|refine ze ?_)|((with_reducible refine zL ?_ ?_);(· exact rfl))))
 obtain ⟨b2,hb2⟩:∃ y,y=b:=⟨_,rfl⟩
 subst hb2
 obtain ⟨b3,hb3⟩:∃ y,y=b:=⟨_,rfl⟩
 subst hb3
 (refine zAU [] [] [] rfl (show ([]:List Nat).Nodup by decide) (fun _ h=>h) (by kernel_rfl) [[],[Z],[Y,Y],[Z,Z,Z],[Z,Z,Z,Z],[Z,Z,Z,Z,Z],[Z,Z,Z,Z,Z,Z],[Y,Z,Z,Z,Z,Z,Z],[Y,Z,Z,Z,Z,Z,Z,Z],[Z,Z,Z,Z,Z,Z,Z,Z,Z]] (by kernel_rfl) (by kernel_rfl) (by kernel_rfl) (by kernel_rfl) (by kernel_rfl) ?_)
 (repeat' (first|(((with_reducible refine zB0 ?_ ?_);(· exact rfl);refine ⟨_,fun G=>(by (try simp (decide:=true) only [vis,see,fltT,zc,Nat.reduceAdd,Nat.reduceSub,if_true,if_false,List.set_cons_zero,List.set_cons_succ,List.set_nil,List.nil_append,List.cons_append]);rfl),?_⟩);first|refine zK _ (fun _=>zA5 rfl rfl) (fun _=>rfl) rfl (by intro G G' h;simp (decide:=true) only [h]) ?_|refine zK _ (fun _=>zAA rfl rfl (by exact rfl)) (fun _=>rfl) rfl (by intro G G' h;simp (decide:=true) only [h]) ?_|refine zK _ (fun _=>zCA rfl rfl) (fun _=>rfl) rfl (by intro G G' h;simp (decide:=true) only [h]) ?_|(refine zHM rfl (fun _=>rfl) rfl (fun _=>rfl) (fun _=>rfl) (fun _ _ _ _=>zCK _) ?_)|refine zAB _ rfl (fun _=>rfl) rfl (fun _=>rfl) (fun _=>rfl) (fun _ _ _ q=>zEL _) (by intro G G' h;simp (decide:=true) only [h]) ?_|refine c_newsl rfl (fun _=>rfl) rfl (fun _=>rfl) (fun _=>rfl) (fun _ _ _ q=>hU _ _ _ _ _ (zFQ q.own (by (repeat constructor))) (zAn (enc:=zAt) [zAI,zAO] (by exact rfl) _ q.below q.own) (zFI q.own (by (repeat constructor)))) ?_|refine zK _ (fun _=>zH9 rfl rfl rfl) (fun _=>rfl) rfl (by intro G G' h;simp (decide:=true) only [h]) ?_|refine zAw rfl (fun _=>rfl) rfl (fun _=>rfl) (by exact rfl) (by exact fun _=>rfl) (by intro G G' h;simp (decide:=true) only [h]) ?_)|(with_reducible refine zEd ?_)))
 (intro G;simp only [regsT,zc,zAR,ini,List.nil_append,List.cons_append])
 refine zGH (H':=[.blk b2 [.int .i64 450,.int .i64 490],.blk b3 [.int .i64 5000,.int .i64 5200]]) (fun _ h=>h.sub (by (repeat constructor))) ?_
 (repeat' (first|((with_reducible refine zI ?_);first|refine zF rfl rfl rfl ?_|refine zD rfl rfl rfl ?_|refine zN rfl rfl rfl rfl (fun _ _ q=>zBA _ _ _) ?_|(refine zBJ rfl rfl rfl rfl (fun _ _ q=>zCK _) ?_;rintro gr -;dsimp only [List.cons_append,List.nil_append];refine u_ow (fun _ h=>h.zDg (Take.here _ _)) ?_)|refine zN rfl rfl rfl rfl (fun _ _ q=>hA1 _ _ _ (zAp q.own (Below.refl _ _))) ?_|refine zZ rfl rfl rfl rfl ?_|(refine zQ rfl rfl rfl rfl rfl ?_;refine ⟨rfl,by first|decide|exact Nat.le_of_ble_eq_true rfl|(simp;omega),_,rfl,?_⟩)|(refine zV rfl rfl (fun b=>?_))|(refine zAH rfl rfl rfl ?_;refine ⟨_,rfl,?_⟩))|(with_reducible first|refine zJ ?_|refine zC ?_|refine zG ?_|refine zA ?_)))
 (refine zAU [] [] [] rfl (show ([]:List Nat).Nodup by decide) (fun _ h=>h) (by kernel_rfl) [[],[Z],[Z,Z],[Z,Z,Z],[Y,Z,Z,Z],[Z,Z,Z,Z,Z],[Z,Z,Z,Z,Z,Z],[Z,Z,Z,Z,Z,Z,Z],[Z,Z,Z,Z,Z,Z,Z,Z],[Y,Z,Z,Z,Z,Z,Z,Z,Z],[Z,Z,Z,Z,Z,Z,Z,Z,Z,Z],[Z,Z,Z,Z,Z,Z,Z,Z,Z,Z,Z],[Z,Z,Z,Z,Z,Z,Z,Z,Z,Z,Z,Z],[Z,Z,Z,Z,Z,Z,Z,Z,Z,Z,Z,Z,Z],[Z,Z,Z,Z,Z,Z,Z,Z,Z,Z,Z,Z,Z,Z],[Z,Z,Z,Z,Z,Z,Z,Z,Z,Z,Z,Z,Z,Z,Z],[Z,Z,Z,Z,Z,Z,Z,Z,Z,Z,Z,Z,Z,Z,Z,Z],[Z,Z,Z,Z,Z,Z,Z,Z,Z,Z,Z,Z,Z,Z,Z,Z,Z],[Z,Z,Z,Z,Z,Z,Z,Z,Z,Z,Z,Z,Z,Z,Z,Z,Z,Z],[Z,Z,Z,Z,Z,Z,Z,Z,Z,Z,Z,Z,Z,Z,Z,Z,Z,Z,Z],[Z,Z,Z,Z,Z,Z,Z,Z,Z,Z,Z,Z,Z,Z,Z,Z,Z,Z,Z,Z],[Z,Z,Z,Z,Z,Z,Z,Z,Z,Z,Z,Z,Z,Z,Z,Z,Z,Z,Z,Z,Z],[Z,Z,Z,Z,Z,Z,Z,Z,Z,Z,Z,Z,Z,Z,Z,Z,Z,Z,Z,Z,Z,Z],[Z,Z,Z,Z,Z,Z,Z,Z,Z,Z,Z,Z,Z,Z,Z,Z,Z,Z,Z,Z,Z,Z,Z],[Z,Z,Z,Z,Z,Z,Z,Z,Z,Z,Z,Z,Z,Z,Z,Z,Z,Z,Z,Z,Z,Z,Z,Z],[Z,Z,Z,Z,Z,Z,Z,Z,Z,Z,Z,Z,Z,Z,Z,Z,Z,Z,Z,Z,Z,Z,Z,Z,Z],[Z,Z,Z,Z,Z,Z,Z,Z,Z,Z,Z,Z,Z,Z,Z,Z,Z,Z,Z,Z,Z,Z,Z,Z,Z,Z],[Y,Z,Z,Z,Z,Z,Z,Z,Z,Z,Z,Z,Z,Z,Z,Z,Z,Z,Z,Z,Z,Z,Z,Z,Z,Z,Z],[Z,Z,Z,Z,Z,Z,Z,Z,Z,Z,Z,Z,Z,Z,Z,Z,Z,Z,Z,Z,Z,Z,Z,Z,Z,Z,Z,Z],[Z,Z,Z,Z,Z,Z,Z,Z,Z,Z,Z,Z,Z,Z,Z,Z,Z,Z,Z,Z,Z,Z,Z,Z,Z,Z,Z,Z,Z]] (by kernel_rfl) (by kernel_rfl) (by kernel_rfl) (by kernel_rfl) (by kernel_rfl) ?_)
 (repeat' (first|(((with_reducible refine zB0 ?_ ?_);(· exact rfl);refine ⟨_,fun G=>(by (try simp (decide:=true) only [vis,see,fltT,zc,Nat.reduceAdd,Nat.reduceSub,if_true,if_false,List.set_cons_zero,List.set_cons_succ,List.set_nil,List.nil_append,List.cons_append]);rfl),?_⟩);first|refine zK _ (fun _=>zA5 rfl rfl) (fun _=>rfl) rfl (by intro G G' h;simp (decide:=true) only [h]) ?_|refine zK _ (fun _=>zAA rfl rfl (by exact rfl)) (fun _=>rfl) rfl (by intro G G' h;simp (decide:=true) only [h]) ?_|refine zK _ (fun _=>zDc rfl rfl rfl) (fun _=>rfl) rfl (by intro G G' h;simp (decide:=true) only [h]) ?_|refine zD0 (fun _=>rfl) rfl ?_|(refine c_cmp rfl rfl (fun _=>rfl) rfl (fun _=>rfl) (fun _=>rfl) (fun h=>?_) (fun h=>?_)<;>(dsimp only [cmpP] at h;(try (exfalso;omega))))|refine zAB _ rfl (fun _=>rfl) rfl (fun _=>rfl) (fun _=>rfl) (fun _ _ _ q=>zBA _ _ _) (by intro G G' h;simp (decide:=true) only [h]) ?_|(refine c_nespT rfl (fun _=>rfl) rfl (fun _=>rfl) (fun _=>rfl) (fun h=>?_) (fun h=>absurd ⟨rfl,rfl⟩ h))|refine zK _ (fun _=>zGp rfl rfl) (fun _=>rfl) rfl (by intro G G' h;simp (decide:=true) only [h]) ?_)|(with_reducible refine zEd ?_)))
 all_goals try exact absurd (show ((([]:List Int).length:Nat):Int)=0 from rfl) h
 (intro G;simp only [regsT,zc,zAR,ini,List.nil_append,List.cons_append])
 refine zGH (H':=[]) (fun _ h=>h.sub (Out.nil _)) ?_
 (repeat' (first|((with_reducible refine zI ?_);first|refine zF rfl rfl rfl ?_|refine zD rfl rfl rfl ?_|refine zBS rfl rfl rfl rfl ?_|(refine zT rfl rfl rfl rfl rfl (fun h=>?_) (fun h=>?_)<;>(dsimp only [cmpP] at h;(try (exfalso;omega))))|refine zN rfl rfl rfl rfl (fun _ _ q=>zBA _ _ _) ?_|(refine zBJ rfl rfl rfl rfl (fun _ _ q=>zCK _) ?_;rintro gr -;dsimp only [List.cons_append,List.nil_append];refine u_ow (fun _ h=>h.zDg (Take.here _ _)) ?_)|refine zN rfl rfl rfl rfl (fun _ _ q=>hD2 _ _ _ (zAp q.own (Below.refl _ _))) ?_|refine zz rfl rfl rfl rfl (fun _ _ q=>hP _ _ _ (zAp q.own (Below.refl _ _))) (fun A' c'=>?_)|refine zN rfl rfl rfl rfl (fun _ _ q=>hS _ _ _ (zAp q.own (Below.refl _ _))) ?_|refine zz rfl rfl rfl rfl (fun _ _ q=>hN1 _ _ _ _ _ (zAp q.own (Below.refl _ _)) (zAu (enc:=zAt) (by exact rfl) _ q.below q.own) (zFI q.own (by (repeat constructor)))) (fun A' c'=>?_)|refine zz rfl rfl rfl rfl (fun _ _ q=>hN2 _ _ _ _ _ (zAp q.own (Below.refl _ _)) (zAu (enc:=zAt) (by exact rfl) _ q.below q.own) (zFI q.own (by (repeat constructor)))) (fun A' c'=>?_)|refine zN rfl rfl rfl rfl (fun _ _ q=>hA2 _ _ _ (zAp q.own (Below.refl _ _))) ?_|refine zz rfl rfl rfl rfl (fun _ _ q=>hJ _ _ _ _ _ (zAp q.own (Below.refl _ _)) (zAp q.own (Below.refl _ _))) (fun A' c'=>?_)|refine zz rfl rfl rfl rfl (fun _ _ q=>hM _) (fun A' c'=>?_)|refine zN rfl rfl rfl rfl (fun _ _ q=>hC _) ?_|refine zZ rfl rfl rfl rfl ?_|(refine zQ rfl rfl rfl rfl rfl ?_;refine ⟨rfl,by first|decide|exact Nat.le_of_ble_eq_true rfl|(simp;omega),_,rfl,?_⟩)|(refine zV rfl rfl (fun b=>?_))|(refine zAH rfl rfl rfl ?_;refine ⟨_,rfl,?_⟩)|(refine zi rfl rfl rfl ?_;refine ⟨rfl,_,rfl,fun b=>?_⟩))|(with_reducible first|refine zJ ?_|refine zC ?_|refine zG ?_|refine zA ?_|refine zg ?_|refine ze ?_)|((with_reducible refine zL ?_ ?_);(· exact rfl))))
 exact zP (by exact rTm rfl) () trivial rfl (fun _ h=>h.sub (by (repeat constructor)))
end Go.Proofs.YtcpdjamlhhfbhaaDoor.Two
