/- C39 -/
import Derived.Test.YtdigopgncfhiaaaGreatDoorC31
import Derived.Test.YtdigopgncfhiaaaGreatDoorC30
set_option linter.unusedSimpArgs false
set_option linter.unusedVariables false
namespace Go.Proofs.YtdigopgncfhiaaaGreatDoor
variable {ro : Option Nat}
open Go.RowKit
set_option maxRecDepth 100000
def wildT : List St:=[⟨3,⟨4000,4100⟩,⟨400,420⟩,⟨0,0⟩,0,-1⟩,⟨5,⟨2000,2200⟩,⟨150,160⟩,⟨1500,1600⟩,1,0⟩,⟨8,⟨3000,3000⟩,⟨300,330⟩,⟨0,0⟩,0,0⟩]
def zHn : Cov:={ zAV 2 with t:=wildT }
def zO3 : Cov:={ zAV 2 with base:=261 }
theorem zO9 : Small zHn:=⟨fun s hs=>by
 simp only [zHn,wildT,List.mem_cons,List.not_mem_nil,or_false] at hs
 rcases hs with rfl|rfl|rfl<;>decide,by simp [zHn,wildT],by simp [zHn,zAV],by simp [zHn,zAV]⟩
theorem zQF : Small zO3:=⟨fun s hs=>(zCy 2).fit s hs,(zCy 2).t,(zCy 2).b,(zCy 2).h⟩
theorem x_loss : zL9 (zAV 2) 1 0=(⟨14,26⟩,0):=by decide +kernel
theorem x_safe : zBR (zAV 2) (zm [[],[],[]])=1∧zCG (zAV 2) (zm [[],[],[]])=0:=by decide +kernel
theorem x_wild : zDm zHn=([],10):=by decide +kernel
theorem x_bare : zDm zO3=([],20):=by decide +kernel
theorem x_thick1 : zDB (zAV 2) (zm [[0,1],[1,2]]) 9 9=(⟨0,0⟩,21):=by decide +kernel
theorem x_thick2 : zDB (zAV 2) (zm zEP) 3 0=(⟨0,0⟩,2):=by decide +kernel
theorem x_thick3 : zDB (zAV 2) (zm zEP) 0 4=(⟨0,0⟩,2):=by decide +kernel
theorem x_thick4 : (zDB (zAV 2) (zm zEP) 0 3).2=0:=by decide +kernel
theorem x_drill1 : (zCZ (zAV 2) 4050 ⟨0,2000⟩).2=6:=by decide +kernel
theorem x_drill2 : (zCZ (zAV 2) 100 ⟨0,299⟩).2=8:=by decide +kernel
theorem x_drill3 : (zCZ (zAV 2) (-1) ⟨0,299⟩).2=2:=by decide +kernel
theorem x_plan : zAy (zAV 1)=([],8):=by decide +kernel
theorem x_short : zF2 (zAV 2)=(0,[],6):=by decide +kernel
theorem x_thin : zDl (zAV 2) (zm [[],[],[0]])=[]∧zCG (zAV 2) (zm [[],[],[0]])=21:=by decide +kernel
theorem zRe (w:World):Ret Tryz.prog 89 [] w (fun g:Nat=>.agg #[.slice (some ⟨g,0,none⟩) 3 3]) (fun g=>[.arr zAt 9 g runE]) (fun _=>True):=by
 (refine zM (n:=13) Tryz.func89 rfl rfl rfl ?_)
 (repeat' (first|((with_reducible refine zG ?_);first|refine zS rfl rfl rfl rfl rfl rfl (fun _ _ q=>zB3 _ _ _) ?_|(refine zf rfl rfl rfl rfl rfl ?_;refine And.intro rfl (And.intro (by first|decide|exact Nat.le_of_ble_eq_true rfl|(simp;omega)) ⟨_,rfl,?_⟩))|(refine zo rfl rfl rfl rfl (fun b=>?_))|(refine zBA rfl rfl rfl rfl rfl ?_;refine ⟨_,rfl,?_⟩)|(refine zz rfl rfl rfl rfl rfl ?_;refine ⟨rfl,_,rfl,fun b=>?_⟩))|(with_reducible first|refine zI ?_|refine zB ?_|refine zD ?_|refine zA ?_|refine zb ?_)))
 exact zT (by (exact zO.cons (by exact res1c rfl (by exact rfl)) zO.nil)) b trivial rfl (fun w' h=>(h.take (e:=.blk b (runE.flatMap zAt)) (by (repeat (first|exact tK1 _ _|apply tK2)))).recast (e':=.arr zAt 9 b runE) (fun hp=>⟨[],by rw [List.append_nil];exact hp⟩) (fun x hx=>hx) |>.sub (by (repeat (first|exact oK1 _|(refine oK2 (by (repeat (first|exact tK1 _ _|apply tK2))) ?_)))))
theorem zOZ (k:Int) (w:World):Ret Tryz.prog 44 [.int .i64 k] w (fun p:Nat × Nat × Nat=>zAI (zAV k) (some ⟨p.1,0,none⟩) 3 (some ⟨p.2.1,0,none⟩) 3 (some ⟨p.2.2,0,none⟩) 3) (fun p=>[.arr zAt 9 p.1 runE,.sl zAJ 3 (some ⟨p.2.1,0,none⟩) (zAV k).beds,.sl zp 5 (some ⟨p.2.2,0,none⟩) (zAV k).hours]) (fun _=>True):=by
 (refine zM (n:=22) Tryz.func44 rfl rfl rfl ?_)
 (repeat' (first|((with_reducible refine zG ?_);first|refine zE rfl rfl rfl rfl rfl ?_|refine zS rfl rfl rfl rfl rfl rfl (fun _ _ q=>zB3 _ _ _) ?_|(refine zAG rfl rfl rfl rfl rfl rfl (fun _ _ q=>zRe _) ?_;rintro gr -;dsimp only [List.cons_append,List.nil_append])|(refine zf rfl rfl rfl rfl rfl ?_;refine And.intro rfl (And.intro (by first|decide|exact Nat.le_of_ble_eq_true rfl|(simp;omega)) ⟨_,rfl,?_⟩))|(refine zo rfl rfl rfl rfl (fun b=>?_))|(refine zBA rfl rfl rfl rfl rfl ?_;refine ⟨_,rfl,?_⟩)|(refine zz rfl rfl rfl rfl rfl ?_;refine ⟨rfl,_,rfl,fun b=>?_⟩))|(with_reducible first|refine zI ?_|refine zB ?_|refine zD ?_|refine zA ?_|refine zb ?_)))
 rename_i b2 bb
 exact zT (by (exact zO.cons (by exact res1c rfl (by exact rfl)) zO.nil)) (gr,bb,b) trivial rfl (fun _ h=>(Own.zFL (enc:=zAJ) (xs:=(zAV k).beds) (b:=bb) (Take.there _ (Take.there _ (Take.here _ _))) (Own.zFL (enc:=zp) (xs:=(zAV k).hours) (b:=b) (Take.there _ (Take.here _ _)) h)).sub (by (repeat (first|exact oK1 _|(refine oK2 (by (repeat (first|exact tK1 _ _|apply tK2))) ?_)))))
theorem zPS {g n:Nat} {A:Option Addr} {xss:List (List Int)} {base:Nat} {w:World} {H H':List Ent} (m:Nat) (h:Own base w H) (ht:Take H (.zEL g n A xss) H'):∃ pl:List Sli,pl.map Sli.xs=(zm (xss.take m)).map Sli.xs∧zAu w A pl:=by
 obtain ⟨pl,h1,h2⟩:=zBJ h ht
 rw [zCi] at h1
 exact ⟨pl.take m,by rw [zCi,← h1,List.map_take],⟨h2.p.take m,fun s hs=>h2.rows s (List.mem_of_mem_take hs)⟩⟩
theorem plan_one {base b b1:Nat} {w:World} {H H1 H2:List Ent} {cs cs1:List Value} (h:Own base w H) [i:zGK H b cs H1] (hc:cs=[.slice none 0 0,.slice none 0 0,.slice (some ⟨b1,0,none⟩) 1 1]) [j:zGK H b1 cs1 H2] (hc1:cs1=[.int .i64 0]):∃ pl:List Sli,pl.map Sli.xs=(zm [[],[],[0]]).map Sli.xs∧zAu w (some ⟨b,0,none⟩) pl:=by
 subst hc hc1
 have h1:Blk w b [.slice none 0 0,.slice none 0 0,.slice (some ⟨b1,0,none⟩) 1 1].toArray:=h.here _ i.tk.mem
 have h2:Blk w b1 [.int .i64 0].toArray:=h.here _ j.tk.mem
 refine ⟨[⟨none,[],0⟩,⟨none,[],0⟩,⟨some ⟨b1,0,none⟩,[0],1⟩],rfl,⟨zFT (enc:=zAC) (xs:=[⟨none,[],0⟩,⟨none,[],0⟩,⟨some ⟨b1,0,none⟩,[0],1⟩]) (fun _=>rfl) h1,fun s hs=>?_⟩⟩
 simp only [List.mem_cons,List.not_mem_nil,or_false] at hs
 rcases hs with rfl|rfl|rfl
 ·exact zAB.nil
 ·exact zAB.nil
 ·exact zFT (enc:=encI) (xs:=[0]) (fun _=>rfl) h2
end Go.Proofs.YtdigopgncfhiaaaGreatDoor
namespace Go.Proofs.YtdigopgncfhiaaaGreatDoor.Two
variable {ro : Option Nat}
open Go.RowKit
set_option maxRecDepth 100000
set_option maxHeartbeats 8000000 in
theorem zJc (w:World) (hG:InC w 0 0 zB7):Gv Tryz.prog 11 [] w (.bool true):=by
 have s2:=zCy 2
 have hAl:=fun W (hW:Below w.heap.size w W)=>zCu W (hG.below hW)
 have h1:=fun W A ca B cb C cc (hC:zAU W (zAV 2) A B C)=>zMK (zAV 2) A ca B cb C cc 1 0 W hC s2
 have h2:=fun W A ca B cb C cc P (hC:zAU W (zAV 2) A B C) hp (hG:InC W 0 0 zB7)=>zFJ (zAV 2) A ca B cb C cc [[],[],[]] P 3 W hC s2 hp (by decide) (by decide) hG
 have h3:=fun W A ca B cb C cc (hC:zAU W zHn A B C) (hG:InC W 0 0 zB7)=>zEY zHn A ca B cb C cc W hC zO9 hG
 have h4:=fun W A ca B cb C cc (hC:zAU W zO3 A B C) (hG:InC W 0 0 zB7)=>zEY zO3 A ca B cb C cc W hC zQF hG
 have h5:=fun W A ca B cb C cc P (hC:zAU W (zAV 2) A B C) hp=>zD5 (zAV 2) A ca B cb C cc [[0,1],[1,2]] P 3 W hC s2 hp (by decide) (by decide) 9 9
 have h6:=fun W A ca B cb C cc P (hC:zAU W (zAV 2) A B C) hp=>zD5 (zAV 2) A ca B cb C cc zEP P 3 W hC s2 hp (by decide) (by decide) 3 0
 have h7:=fun W A ca B cb C cc P (hC:zAU W (zAV 2) A B C) hp=>zD5 (zAV 2) A ca B cb C cc zEP P 3 W hC s2 hp (by decide) (by decide) 0 4
 have h8:=fun W A ca B cb C cc P (hC:zAU W (zAV 2) A B C) hp=>zD5 (zAV 2) A ca B cb C cc zEP P 3 W hC s2 hp (by decide) (by decide) 0 3
 have d1:=fun W A ca B cb C cc (hC:zAU W (zAV 2) A B C)=>Two.zF6 (zAV 2) A ca B cb C cc 4050 ⟨0,2000⟩ W hC s2
 have d2:=fun W A ca B cb C cc (hC:zAU W (zAV 2) A B C)=>Two.zF6 (zAV 2) A ca B cb C cc 100 ⟨0,299⟩ W hC s2
 have d3:=fun W A ca B cb C cc (hC:zAU W (zAV 2) A B C)=>Two.zF6 (zAV 2) A ca B cb C cc (-1) ⟨0,299⟩ W hC s2
 have h9:=fun W A ca B cb C cc (hC:zAU W (zAV 1) A B C) (hG:InC W 0 0 zB7)=>zEX (zAV 1) A ca B cb C cc W hC (zCy 1) hG
 have h10:=fun W A ca B cb C cc (hC:zAU W (zAV 2) A B C) (hG:InC W 0 0 zB7)=>zKr (zAV 2) A ca B cb C cc W hC s2 hG
 have h11:=fun W A ca B cb C cc P (hC:zAU W (zAV 2) A B C) hp (hG:InC W 0 0 zB7)=>zIy (zAV 2) A ca B cb C cc [[],[],[0]] P 3 W hC s2 hp (by decide) (by decide) hG
 rw [x_loss] at h1
 rw [x_safe.1,x_safe.2] at h2
 rw [x_wild] at h3
 rw [x_bare] at h4
 rw [x_thick1] at h5
 rw [x_thick2] at h6
 rw [x_thick3] at h7
 rw [x_thick4] at h8
 rw [x_plan] at h9
 rw [x_short] at h10
 rw [x_thin.1,x_thin.2] at h11
 rw [x_drill1] at d1
 rw [x_drill2] at d2
 rw [x_drill3] at d3
 generalize zCZ (zAV 2) 4050 ⟨0,2000⟩=dx1 at *
 generalize zCZ (zAV 2) 100 ⟨0,299⟩=dx2 at *
 generalize zCZ (zAV 2) (-1) ⟨0,299⟩=dx3 at *
 generalize (zDB (zAV 2) (zm zEP) 0 3).1=tk at *
 unfold vSp at h1 h5 h6 h7 h8 d1 d2 d3
 simp only [zAI,zH] at d1 d2 d3
 have hcv:=fun W=>zKk 2 W
 have hcv1:=fun W=>zKk 1 W
 have hcO:=fun W=>zOZ 2 W
 have hcw:=zQf
 have hsp:=fun W=>zIF W
 unfold zAI zH at h1 h2 h3 h4 h5 h6 h7 h8 h9 h10 h11 hcv hcv1 hcO hcw
 unfold Gv
 (refine zM (n:=185) Tryz.func11 rfl rfl rfl ?_)
 (repeat' (first|((with_reducible refine zG ?_);first|refine zE rfl rfl rfl rfl rfl ?_|refine zC rfl rfl rfl rfl rfl ?_|(refine zAG rfl rfl rfl rfl rfl rfl (fun _ _ q=>hcv _) ?_;rintro ⟨⟨A1,a1⟩,⟨A2,a2⟩,A3,a3⟩ -;dsimp only [List.cons_append,List.nil_append])|refine zS rfl rfl rfl rfl rfl rfl (fun _ _ q=>h1 _ _ _ _ _ _ _ ⟨(zAL q.own (Below.refl _ _)),(zAL q.own (Below.refl _ _)),(zAL q.own (Below.refl _ _))⟩) ?_|refine zg rfl rfl rfl rfl rfl rfl ?_|(refine zf rfl rfl rfl rfl rfl ?_;refine And.intro rfl (And.intro (by first|decide|exact Nat.le_of_ble_eq_true rfl|(simp;omega)) ⟨_,rfl,?_⟩))|(refine zo rfl rfl rfl rfl (fun b=>?_)))|(with_reducible first|refine zI ?_|refine zB ?_|refine zD ?_|refine zA ?_)))
 obtain ⟨b1,hb1⟩:∃ x,x=b:=⟨_,rfl⟩
 subst hb1
 (refine zAd [] [] [] rfl (show ([]:List Nat).Nodup by decide) (fun _ h=>h) (by kernel_rfl) [[],[Y],[Z,Z],[Z,Z,Z],[Z,Z,Z,Z],[Y,Z,Z,Z,Z],[Y,Z,Z,Z,Z,Z],[Z,Z,Z,Z,Z,Z,Z]] (by kernel_rfl) (by kernel_rfl) (by kernel_rfl) (by kernel_rfl) (by kernel_rfl) ?_)
 (repeat' (first|(((with_reducible refine zCJ ?_ ?_);(· exact rfl);refine ⟨_,fun G=>(by (try simp (decide:=true) only [vis,see,fltT,zAD,Nat.reduceAdd,Nat.reduceSub,if_true,if_false,List.set_cons_zero,List.set_cons_succ,List.set_nil,List.nil_append,List.cons_append]);rfl),?_⟩);first|refine zX _ (fun _=>zAK rfl rfl) (fun _=>rfl) rfl (by first|exact fun _ _ _=>rfl|(intro G G' h;simp (decide:=true) only [h])) ?_|refine zX _ (fun _=>zBK rfl rfl) (fun _=>rfl) rfl (by first|exact fun _ _ _=>rfl|(intro G G' h;simp (decide:=true) only [h])) ?_|(refine c_ret rfl (fun _=>rfl) rfl (fun _=>rfl) (fun _=>rfl) (fun _ _ _ _=>hcw _ _) ?_)|(refine zNV (v:=.slice none 0 0) rfl rfl rfl rfl rfl rfl (fun _=>rfl) rfl (fun _=>rfl) (fun _=>rfl) (by decide) ?_)|refine zBI _ rfl (fun _=>rfl) rfl (fun _=>rfl) (fun _=>rfl) (fun _ _ _ q=>h2 _ _ _ _ _ _ _ _ ⟨(zAL q.own (Below.refl _ _)),(zAL q.own (Below.refl _ _)),(zAL q.own (Below.refl _ _))⟩ (zKP (n:=3) q.own (by (repeat (first|exact tK1 _ _|apply tK2)))) (hG.below q.below)) (by first|exact fun _ _ _=>rfl|(intro G G' h;simp (decide:=true) only [h])) ?_|refine zX _ (fun _=>zCR rfl rfl rfl) (fun _=>rfl) rfl (by first|exact fun _ _ _=>rfl|(intro G G' h;simp (decide:=true) only [h])) ?_)|(with_reducible refine zFr ?_)))
 (intro G;simp only [regsT,zAD,zBU,ini,List.nil_append,List.cons_append])
 (repeat' (first|(with_reducible first|refine zI ?_|refine zA ?_)))
 (refine zAv (by kernel_rfl) (by kernel_rfl) (by kernel_rfl) ?_)
 (repeat' (first|((with_reducible refine zBH ?_);first|refine zW (zAK rfl rfl) rfl rfl rfl ?_|refine zW (zy rfl rfl (by exact rfl)) rfl rfl rfl ?_|refine zW (zB8 rfl rfl rfl) rfl rfl rfl ?_|(refine zCj rfl rfl rfl rfl rfl rfl rfl (fun h=>?_) (fun h=>?_)<;>(dsimp only [cmpP] at h;(try (exfalso;omega))))|refine zC4 rfl rfl rfl rfl rfl rfl (fun _ _ q=>hAl _ q.below) ?_|refine zC4 rfl rfl rfl rfl rfl rfl (fun _ _ q=>zB3 _ _ _) ?_|refine zW (zK4 rfl rfl rfl) rfl rfl rfl ?_|refine zW (zK3 rfl rfl) rfl rfl rfl ?_)|(with_reducible refine zBs ?_)))
 (repeat' (first|((with_reducible refine zG ?_);first|(refine zK rfl rfl rfl rfl rfl ?_;refine ⟨_,rfl,?_⟩)|refine ze rfl rfl rfl rfl rfl ?_|(refine zAG rfl rfl rfl rfl rfl rfl (fun _ _ q=>hcO _) ?_;rintro ⟨g1,g2,g3⟩ -;dsimp only [List.cons_append,List.nil_append])|(refine zf rfl rfl rfl rfl rfl ?_;refine And.intro rfl (And.intro (by first|decide|exact Nat.le_of_ble_eq_true rfl|(simp;omega)) ⟨_,rfl,?_⟩))|(refine zo rfl rfl rfl rfl (fun b=>?_)))|(with_reducible first|refine zI ?_|refine zB ?_|refine zD ?_|refine zA ?_|refine zP ?_)|((with_reducible refine zF ?_ ?_);(· exact rfl))))
 obtain ⟨b6,hb6⟩:∃ x,x=b:=⟨_,rfl⟩
 subst hb6
 obtain ⟨b5,hb5⟩:∃ x,x=b:=⟨_,rfl⟩
 subst hb5
 obtain ⟨f1,hf1⟩:∃ x,x=g1:=⟨_,rfl⟩
 subst hf1
 obtain ⟨gw,hgw⟩:∃ x,x=g1:=⟨_,rfl⟩
 subst hgw
 have i0:zAR runE 0 ⟨3,⟨4000,4100⟩,⟨400,420⟩,⟨0,0⟩,0,0⟩:=⟨rfl⟩
 (repeat' (first|((with_reducible refine zG ?_);first|refine zE rfl rfl rfl rfl rfl ?_|refine zC rfl rfl rfl rfl rfl ?_|(refine zK rfl rfl rfl rfl rfl ?_;refine ⟨_,rfl,?_⟩)|refine ze rfl rfl rfl rfl rfl ?_|refine zi (I:=0) rfl rfl rfl rfl rfl rfl rfl (by decide) ?_|refine zBw (enc:=zAt) (k:=9) (i:=0) (j:=8) (z:=⟨3,⟨4000,4100⟩,⟨400,420⟩,⟨0,0⟩,0,0⟩) ⟨3,⟨4000,4100⟩,⟨400,420⟩,⟨0,0⟩,0,-1⟩ rfl rfl rfl rfl rfl rfl rfl rfl (by decide) ?_|(refine zCE rfl rfl rfl rfl rfl rfl (fun _ _ q=>h3 _ _ _ _ _ _ _ ⟨zEK (q.own.here (.arr zAt 9 gw zHn.t) (Take.mem (by (repeat (first|exact tK1 _ _|apply tK2))))),(zAL q.own (Below.refl _ _)),(zAL q.own (Below.refl _ _))⟩ (hG.below q.below)) (fun N1 n1=>?_))|(refine zCE rfl rfl rfl rfl rfl rfl (fun _ _ q=>h4 _ _ _ _ _ _ _ ⟨zEK (q.own.here (.arr zAt 9 f1 zO3.t) (Take.mem (by (repeat (first|exact tK1 _ _|apply tK2))))),(zAL q.own (Below.refl _ _)),(zAL q.own (Below.refl _ _))⟩ (hG.below q.below)) (fun N2 n2=>?_))|refine zg rfl rfl rfl rfl rfl rfl ?_|(refine zf rfl rfl rfl rfl rfl ?_;refine And.intro rfl (And.intro (by first|decide|exact Nat.le_of_ble_eq_true rfl|(simp;omega)) ⟨_,rfl,?_⟩)))|(with_reducible first|refine zI ?_|refine zB ?_|refine zD ?_|refine zA ?_)))
 refine U.sub (R':=[(2,.int .i64 10),(4,.int .i64 20)]) (H':=[]) (by (first|exact lK1|(repeat (first|exact lK1|(refine zL rfl ?_))))) (by (repeat (first|exact oK1 _|(refine oK2 (by (repeat (first|exact tK1 _ _|apply tK2))) ?_)))) ?_
 (repeat' (first|((with_reducible refine zG ?_);first|refine zE rfl rfl rfl rfl rfl ?_|refine zC rfl rfl rfl rfl rfl ?_|(refine zAG rfl rfl rfl rfl rfl rfl (fun _ _ q=>hcv _) ?_;rintro ⟨⟨A1,a1⟩,⟨A2,a2⟩,A3,a3⟩ -;dsimp only [List.cons_append,List.nil_append])|(refine zAG rfl rfl rfl rfl rfl rfl (fun _ _ q=>hsp _) ?_;rintro ⟨pg,pn,pA⟩ -;dsimp only [List.cons_append,List.nil_append])|refine zAe rfl rfl rfl (zOu 2 rfl rfl rfl rfl (by decide)) ?_|refine zS rfl rfl rfl rfl rfl rfl (fun _ _ q=>h5 _ _ _ _ _ _ _ _ ⟨(zAL q.own (Below.refl _ _)),(zAL q.own (Below.refl _ _)),(zAL q.own (Below.refl _ _))⟩ (zPS (xss:=zEP) 2 q.own (by (repeat (first|exact tK1 _ _|apply tK2))))) ?_|refine zS rfl rfl rfl rfl rfl rfl (fun _ _ q=>h6 _ _ _ _ _ _ _ _ ⟨(zAL q.own (Below.refl _ _)),(zAL q.own (Below.refl _ _)),(zAL q.own (Below.refl _ _))⟩ (zBJ q.own (by (repeat (first|exact tK1 _ _|apply tK2))))) ?_|refine zS rfl rfl rfl rfl rfl rfl (fun _ _ q=>h7 _ _ _ _ _ _ _ _ ⟨(zAL q.own (Below.refl _ _)),(zAL q.own (Below.refl _ _)),(zAL q.own (Below.refl _ _))⟩ (zBJ q.own (by (repeat (first|exact tK1 _ _|apply tK2))))) ?_|refine zS rfl rfl rfl rfl rfl rfl (fun _ _ q=>zB3 _ _ _) ?_|refine zg rfl rfl rfl rfl rfl rfl ?_|(refine zf rfl rfl rfl rfl rfl ?_;refine And.intro rfl (And.intro (by first|decide|exact Nat.le_of_ble_eq_true rfl|(simp;omega)) ⟨_,rfl,?_⟩))|(refine zo rfl rfl rfl rfl (fun b=>?_)))|(with_reducible first|refine zI ?_|refine zB ?_|refine zD ?_|refine zA ?_)))
 refine U.sub (R':=[(2,.int .i64 10),(4,.int .i64 20),(8,.int .i64 21),(10,.int .i64 2),(12,.int .i64 2),(98,.agg #[.slice A1 (zAV 2).t.length a1,.slice A2 (zAV 2).beds.length a2,.slice A3 (zAV 2).hours.length a3,.int .i64 (zAV 2).wear.lo,.int .i64 (zAV 2).wear.hi,.int .i64 (zAV 2).layer.lo,.int .i64 (zAV 2).layer.hi,.int .i64 (zAV 2).rate,.int .i64 (zAV 2).limit,.int .i64 (zAV 2).base]),(99,.agg #[.int .i64 0,.int .i64 2000])]) (H':=[.sl zAt 9 A1 (zAV 2).t,.sl zAJ 3 A2 (zAV 2).beds,.sl zp 5 A3 (zAV 2).hours]) (by (first|exact lK1|(repeat (first|exact lK1|(refine zL rfl ?_))))) (by (repeat (first|exact oK1 _|(refine oK2 (by (repeat (first|exact tK1 _ _|apply tK2))) ?_)))) ?_
 (repeat' (first|((with_reducible refine zG ?_);first|refine zE rfl rfl rfl rfl rfl ?_|refine zC rfl rfl rfl rfl rfl ?_|(refine zAG rfl rfl rfl rfl rfl rfl (fun _ _ q=>hcv _) ?_;rintro ⟨⟨A1,a1⟩,⟨A2,a2⟩,A3,a3⟩ -;dsimp only [List.cons_append,List.nil_append])|(refine zAG rfl rfl rfl rfl rfl rfl (fun _ _ q=>d1 _ _ _ _ _ _ _ ⟨(zAL q.own (Below.refl _ _)),(zAL q.own (Below.refl _ _)),(zAL q.own (Below.refl _ _))⟩) ?_;rintro ⟨⟨E1,ec1⟩,⟨F1,fc1⟩,⟨G1,gc1⟩⟩ -;dsimp only [List.cons_append,List.nil_append])|(refine zAG rfl rfl rfl rfl rfl rfl (fun _ _ q=>d2 _ _ _ _ _ _ _ ⟨(zAL q.own (Below.refl _ _)),(zAL q.own (Below.refl _ _)),(zAL q.own (Below.refl _ _))⟩) ?_;rintro ⟨⟨E1,ec1⟩,⟨F1,fc1⟩,⟨G1,gc1⟩⟩ -;dsimp only [List.cons_append,List.nil_append])|(refine zAG rfl rfl rfl rfl rfl rfl (fun _ _ q=>d3 _ _ _ _ _ _ _ ⟨(zAL q.own (Below.refl _ _)),(zAL q.own (Below.refl _ _)),(zAL q.own (Below.refl _ _))⟩) ?_;rintro ⟨⟨E1,ec1⟩,⟨F1,fc1⟩,⟨G1,gc1⟩⟩ -;dsimp only [List.cons_append,List.nil_append])|refine zS rfl rfl rfl rfl rfl rfl (fun _ _ q=>zB3 _ _ _) ?_|refine zg rfl rfl rfl rfl rfl rfl ?_|(refine zf rfl rfl rfl rfl rfl ?_;refine And.intro rfl (And.intro (by first|decide|exact Nat.le_of_ble_eq_true rfl|(simp;omega)) ⟨_,rfl,?_⟩))|(refine zo rfl rfl rfl rfl (fun b=>?_)))|(with_reducible first|refine zI ?_|refine zB ?_|refine zD ?_|refine zA ?_)))
 refine U.sub (R':=[(2,.int .i64 10),(4,.int .i64 20),(8,.int .i64 21),(10,.int .i64 2),(12,.int .i64 2),(14,.int .i64 6),(16,.int .i64 8),(18,.int .i64 2)]) (H':=[]) (by (first|exact lK1|(repeat (first|exact lK1|(refine zL rfl ?_))))) (by (repeat (first|exact oK1 _|(refine oK2 (by (repeat (first|exact tK1 _ _|apply tK2))) ?_)))) ?_
 (repeat' (first|((with_reducible refine zG ?_);first|refine zE rfl rfl rfl rfl rfl ?_|refine zC rfl rfl rfl rfl rfl ?_|refine zAf rfl rfl rfl rfl rfl rfl ?_|(refine zQ rfl rfl rfl rfl rfl rfl rfl (fun h=>?_) (fun h=>?_)<;>(dsimp only [cmpP] at h;(try (exfalso;omega))))|(refine zAG rfl rfl rfl rfl rfl rfl (fun _ _ q=>hcv _) ?_;rintro ⟨⟨A1,a1⟩,⟨A2,a2⟩,A3,a3⟩ -;dsimp only [List.cons_append,List.nil_append])|(refine zAG rfl rfl rfl rfl rfl rfl (fun _ _ q=>hcv1 _) ?_;rintro ⟨⟨A1,a1⟩,⟨A2,a2⟩,A3,a3⟩ -;dsimp only [List.cons_append,List.nil_append])|(refine zAG rfl rfl rfl rfl rfl rfl (fun _ _ q=>hsp _) ?_;rintro ⟨pg,pn,pA⟩ -;dsimp only [List.cons_append,List.nil_append])|(refine zAG rfl rfl rfl rfl rfl rfl (fun _ _ q=>h9 _ _ _ _ _ _ _ ⟨(zAL q.own (Below.refl _ _)),(zAL q.own (Below.refl _ _)),(zAL q.own (Below.refl _ _))⟩ (hG.below q.below)) ?_;rintro ⟨⟨P1,p1⟩,L1⟩ -;dsimp only [List.cons_append,List.nil_append])|(refine zCE rfl rfl rfl rfl rfl rfl (fun _ _ q=>h10 _ _ _ _ _ _ _ ⟨(zAL q.own (Below.refl _ _)),(zAL q.own (Below.refl _ _)),(zAL q.own (Below.refl _ _))⟩ (hG.below q.below)) (fun S1 sc1=>?_))|(refine zAG rfl rfl rfl rfl rfl rfl (fun _ _ q=>h11 _ _ _ _ _ _ _ _ ⟨(zAL q.own (Below.refl _ _)),(zAL q.own (Below.refl _ _)),(zAL q.own (Below.refl _ _))⟩ (plan_one q.own rfl rfl) (hG.below q.below)) ?_;rintro ⟨T1,tc1⟩ -;dsimp only [List.cons_append,List.nil_append])|refine zS rfl rfl rfl rfl rfl rfl (fun _ _ q=>h8 _ _ _ _ _ _ _ _ ⟨(zAL q.own (Below.refl _ _)),(zAL q.own (Below.refl _ _)),(zAL q.own (Below.refl _ _))⟩ (zBJ q.own (by (repeat (first|exact tK1 _ _|apply tK2))))) ?_|refine zg rfl rfl rfl rfl rfl rfl ?_|(refine zf rfl rfl rfl rfl rfl ?_;refine And.intro rfl (And.intro (by first|decide|exact Nat.le_of_ble_eq_true rfl|(simp;omega)) ⟨_,rfl,?_⟩))|(refine zo rfl rfl rfl rfl (fun b=>?_))|(refine zz rfl rfl rfl rfl rfl ?_;refine ⟨rfl,_,rfl,fun b=>?_⟩))|(with_reducible first|refine zI ?_|refine zB ?_|refine zD ?_|refine zA ?_|refine zb ?_)))
 all_goals exact zT (by (exact zO.cons (by exact zq.tmp rfl) zO.nil)) () trivial rfl (fun _ _=>Own.nil _ _)
end Go.Proofs.YtdigopgncfhiaaaGreatDoor.Two
