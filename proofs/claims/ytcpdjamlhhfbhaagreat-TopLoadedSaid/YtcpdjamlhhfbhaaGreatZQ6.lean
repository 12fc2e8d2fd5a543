/- ZQ6 -/
import Derived.Test.YtcpdjamlhhfbhaaGreatZQ5
import Derived.Test.YtcpdjamlhhfbhaaGreatZQ1
import Derived.Test.YtcpdjamlhhfbhaaGreatZQ3
import Derived.Test.YtcpdjamlhhfbhaaGreatZQ4
import Derived.Maps.RangeRun
import Derived.Lib.SliceRun
import Derived.RangeFuncIn
import Derived.RangeFuncRecord
import Derived.RangeFuncSeq
import Derived.Deep.Quiet
import Derived.RegionIn
set_option linter.unusedSimpArgs false
set_option linter.unusedVariables false
namespace Go.Proofs.YtcpdjamlhhfbhaaGreat
open Go.RowKit
set_option maxRecDepth 20000
instance : zBX encI 1:=⟨fun _=>rfl,fun _=>one_i⟩
end Go.Proofs.YtcpdjamlhhfbhaaGreat
namespace Go.Proofs.YtcpdjamlhhfbhaaGreat
open Go.RowKit
set_option maxRecDepth 20000
instance : zBX zA3 9:=⟨fun _=>rfl,one_st⟩
instance : zBX encMe 5:=⟨fun _=>rfl,one_me⟩
instance : ElI Tryz.prog 32 3 1 8:=⟨⟨_,elem_i⟩⟩
instance : ElI Tryz.prog 55 26 2 16:=⟨⟨_,elem_sp⟩⟩
instance : zBX zo 2:=⟨fun _=>rfl,fun _=>one_sp⟩
end Go.Proofs.YtcpdjamlhhfbhaaGreat
namespace Go.Proofs.YtcpdjamlhhfbhaaGreat
open Go.RowKit
set_option maxHeartbeats 8000000 in
theorem zIY (t : List St) (A : Option Addr) (cap : Nat) (w : World) (ht : zAB zA3 9 w A t) (hf : FitT t) (hl : t.length ≤ 1000000) :
    zAs 7 #[vT A t.length cap] w (.bool (valid t)):=by
  unfold zAs vT
  have HT:=Lib.hid ht
  clear ht
  cases h1:inB 1 12 t.length
  · have H1:=Lib.hid h1
    clear h1
    go_enter Tryz.func7,Tryz.ntmps7
    go_wp2_with fail
    refine (zCN _ _ _ _).mono ?_
    rintro e w1 ⟨rfl,hb1⟩
    rw [H1.out]
    go_wp2
    go_ret
    exact ⟨zBA (by simp [valid,H1.out]),zBW (zAK w _) hb1⟩
  · have H1:=Lib.hid h1
    clear h1
    go_enter Tryz.func7,Tryz.ntmps7
    go_wp2_with fail
    refine (zCN _ _ _ _).mono ?_
    rintro e w1 ⟨rfl,hb1⟩
    rw [H1.out]
    have hB1:Below w.heap.size w w1:=zBW (zAK w _) hb1
    have kt:=(Blk.new w _ _).past hb1
    clear hb1
    go_wp2
    go_loopw [3] (fun v3 wr=>∃ (i:Nat) (last:Int),i≤t.length∧-1≤last∧last≤9999∧v3 = .int .i64 i∧Blk wr w.heap.size #[.slice A t.length cap]∧Below w.heap.size w wr∧Hid (okFrom (-1) t=okFrom last (t.drop i))∧Hid (last=if i=0 then -1 else (t.getD (i - 1) default).id)) (fun v _=>t.length - (intOf v).toNat)
    case atStart=>exact ⟨0,-1,Nat.zero_le _,by omega,by omega,rfl,kt,hB1,by unfold Hid;simp,by unfold Hid;simp⟩
    case round =>
      obtain ⟨i,last,hi,hl0,hl1,rfl,hK,hB,hF,hL⟩:=hrel
      clear kt hB1
      obtain ⟨tc,tf,tl⟩:=hK.facts
      by_cases hlt:i<t.length
      · obtain ⟨b,o,rfl,hblt,hc⟩:=(HT.out.below hB).at_ hlt
        have hF':okFrom (-1) t=(zEI last t[i] && okFrom t[i].id (t.drop (i+1))):=by
          rw [hF.out,List.drop_eq_getElem_cons hlt];rfl
        have HF:=Lib.hid hF'
        clear hF' hF
        obtain ⟨hs0,hs1⟩:=hf t[i] (List.getElem_mem hlt)
        have hLn:t[i].id=(t.getD (i+1 - 1) default).id:=by simp [List.getElem?_eq_getElem hlt]
        have HLn:=Lib.hid hLn
        clear hLn
        have hp:0<i→wr.cell? ⟨b,o+(i - 1) * 9,none⟩=some (.int .i64 last):=by
          intro h0
          obtain ⟨b',o',hA,hb',hc'⟩:=(HT.out.below hB).at_ (i:=i - 1) (by omega)
          cases hA
          have:=hc' 0 _ rfl
          rw [hL.out,if_neg (by omega)]
          simpa [List.getElem?_eq_getElem (show i - 1<t.length by omega)] using this
        generalize t[i]=s at hc HF hs0 hs1 HLn
        obtain ⟨id,⟨la,lb⟩,⟨fa,fb⟩,⟨ra,rb⟩,sd,wl⟩:=s
        simp only at hs0 hs1
        have c0:=hc 0 _ rfl
        have c1:=hc 1 _ rfl
        have c2:=hc 2 _ rfl
        have c3:=hc 3 _ rfl
        have c4:=hc 4 _ rfl
        have c5:=hc 5 _ rfl
        have c6:=hc 6 _ rfl
        have c7:=hc 7 _ rfl
        have c8:=hc 8 _ rfl
        simp only [Nat.add_zero] at c0
        clear hc
        have hi0:(0:Int)≤i:=by omega
        have hi1:(i:Int)<t.length:=by omega
        have hgt:(0<i→(i:Int) > 0)∧(¬ 0<i→¬ (i:Int) > 0):=by omega
        have hl3:¬ 0<i→last = -1:=by intro h;rw [hL.out,if_pos (by omega)]
        by_cases hz:0<i
        all_goals
          have hc9:=hp
          simp only [hz,forall_const,not_true,not_false_iff,false_implies,true_implies] at hc9 hgt hl3
          go_wp2_with fail
          refine zEv (by kernel_rfl) (by kernel_rfl) ?_
          repeat (any_goals (first
            | go_big_quiet_step ((first|(go_at_call 22;exact zDQ (zCN _ _ _ _))|(go_at_call 23;exact zDQ (zE4 ⟨_,_⟩ _ _ _))))
            | quiet_step ((first|(go_at_call 22;exact zDQ (zCN _ _ _ _))|(go_at_call 23;exact zDQ (zE4 ⟨_,_⟩ _ _ _))))
            | (refine wpQuiet_step (fun K hK=>?_);go_simp;split<;>(refine hK _ ?_;clear hK K))))
          all_goals
            refine grow_nil (fun w2 hg=>?_)
            have hB2:=zBW (zD4 hB _) hg
            have kb:=(Blk.new _ _ _).past hg
            obtain ⟨kc,kf,kl⟩:=kb.facts
            have hK2:=(hK.alloc (.cells #[.int .i64 id,.int .i64 la,.int .i64 lb,.int .i64 fa,.int .i64 fb,.int .i64 ra,.int .i64 rb,.int .u8 sd,.int .i64 wl] 70)).past hg
            obtain ⟨qc,qf,ql⟩:=hK2.facts
            clear hg
            go_wp2_with (go_at_call 23;refine (zE4 ⟨_,_⟩ _ _ _).mono ?_;rintro e wn ⟨rfl,hbn⟩;replace hB2:=zBW hB2 hbn;replace kb:=kb.past hbn;replace hK2:=hK2.past hbn;obtain ⟨kc,kf,kl⟩:=kb.facts;obtain ⟨qc,qf,ql⟩:=hK2.facts;clear hbn)
        all_goals
          have hOk:=HF.out
          have hId:=HLn.out
          clear HF HLn
          first
          | (go_ret
             refine ⟨zBA ?_,hB2⟩
             go_light
             have e:zEI last ⟨id,⟨la,lb⟩,⟨fa,fb⟩,⟨ra,rb⟩,sd,wl⟩=false:=by
               rw [Bool.eq_false_iff]
               intro hst
               simp only [zEI,Bool.and_eq_true,Bool.or_eq_true,zAu,zEN,zAa,zBn,zCT,decide_eq_true_eq,Bool.not_eq_true',Bool.not_eq_false',Bool.not_eq_true,beq_iff_eq,beq_eq_false_iff_ne,bne_iff_ne,bne_eq_false_iff_eq,ne_eq] at *
               omega
             simp [valid,hOk,e])
          | (go_light
             have e:zEI last ⟨id,⟨la,lb⟩,⟨fa,fb⟩,⟨ra,rb⟩,sd,wl⟩=true∧id≤9999∧-1≤id:=by
               simp only [zEI,Bool.and_eq_true,Bool.or_eq_true,zAu,zEN,zAa,zBn,zCT,decide_eq_true_eq,Bool.not_eq_true',Bool.not_eq_false',Bool.not_eq_true,beq_iff_eq,beq_eq_false_iff_ne,bne_iff_ne,bne_eq_false_iff_eq,ne_eq] at *
               omega
             refine ⟨⟨i+1,id,by omega,by omega,by omega,by go_num,hK2,hB2,?_,?_⟩,by simp [intOf];omega⟩
             · unfold Hid;simp [hOk,e.1]
             · unfold Hid;simpa using hId)
      · go_wp2
        go_ret
        refine ⟨zBA ?_,hB⟩
        simp [valid,H1.out,hF.out,List.drop_eq_nil_of_le (Nat.le_of_not_lt hlt),okFrom]
end Go.Proofs.YtcpdjamlhhfbhaaGreat
namespace Go.Proofs.YtcpdjamlhhfbhaaGreat
open Go.RowKit
set_option maxHeartbeats 4000000 in
theorem zIz (t : List St) (A : Option Addr) (cap : Nat) (w : World) (ht : zAB zA3 9 w A t) (hf : FitT t) (hl : t.length ≤ 1000000) :
    zAs 59 #[vT A t.length cap] w (.int .i64 (if valid t then 0 else 10)):=by
  unfold zAs vT
  have HT:=Lib.hid ht
  clear ht
  cases h1:inB 1 12 t.length
  · have H1:=Lib.hid h1
    clear h1
    go_enter Tryz.func59,Tryz.ntmps59
    go_wp2
    go_step3
    go_wp2_with fail
    refine (zHv 1 12 t.length _ _ _ _ (by simp)).mono ?_
    rintro e w1 ⟨rfl,hb1⟩
    rw [H1.out]
    go_wp2
    rw [Exit.noGoto_ret]
    go_ret
    refine ⟨zBA (by simp [valid,H1.out]),?_⟩
    exact (zAK w _).trans (((zAK _ _).trans (hb1.mono (by simp<;>omega))).mono (by simp))
  · have H1:=Lib.hid h1
    clear h1
    go_enter Tryz.func59,Tryz.ntmps59
    go_wp2
    go_step3
    go_wp2_with fail
    refine (zHv 1 12 t.length _ _ _ _ (by simp)).mono ?_
    rintro e w1 ⟨rfl,hb1⟩
    rw [H1.out]
    have hB1:Below w.heap.size w w1:=(zAK w _).trans (((zAK _ _).trans (hb1.mono (by simp<;>omega))).mono (by simp))
    have hcell:w1.cell? ⟨w.heap.size,0,none⟩=some (.slice A t.length cap):=by rw [hb1.cell (by simp<;>omega)];simp
    clear hb1
    go_wp2
    go_step3
    go_wp2
    go_loopw [3,4,18] (fun v3 v4 v18 wr=>∃ (i:Nat) (last:Int),i≤t.length∧-1≤last∧last≤9999∧v18 = .int .i64 i∧v3 = .int .i64 last∧v4 = .int .i64 0∧Below w.heap.size w wr∧Hid (okFrom (-1) t=okFrom last (t.drop i))) (fun _ _ v _=>t.length - (intOf v).toNat)
    case atStart=>exact ⟨0,-1,Nat.zero_le _,by omega,by omega,rfl,rfl,rfl,hB1,by unfold Hid;simp⟩
    case round =>
      obtain ⟨i,last,hi,hl0,hl1,rfl,rfl,rfl,hB,hF⟩:=hrel
      clear hcell hB1
      by_cases hlt:i<t.length
      · obtain ⟨b,o,rfl,hblt,hc⟩:=(HT.out.below hB).at_ hlt
        have hF':okFrom (-1) t=(zEI last t[i] && okFrom t[i].id (t.drop (i+1))):=by
          rw [hF.out,List.drop_eq_getElem_cons hlt];rfl
        have HF:=Lib.hid hF'
        clear hF' hF
        obtain ⟨hs0,hs1⟩:=hf t[i] (List.getElem_mem hlt)
        generalize t[i]=s at hc HF hs0 hs1
        obtain ⟨id,⟨la,lb⟩,⟨fa,fb⟩,⟨ra,rb⟩,sd,wl⟩:=s
        simp only at hs0 hs1
        have c0:=hc 0 _ rfl
        have c1:=hc 1 _ rfl
        have c2:=hc 2 _ rfl
        have c3:=hc 3 _ rfl
        have c4:=hc 4 _ rfl
        have c5:=hc 5 _ rfl
        have c6:=hc 6 _ rfl
        have c7:=hc 7 _ rfl
        have c8:=hc 8 _ rfl
        simp only [Nat.add_zero] at c0
        clear hc
        have hi0:(0:Int)≤i:=by omega
        have hi1:(i:Int)<t.length:=by omega
        go_wp2_with (first
          | (go_at_call 92;refine (zHv _ _ _ _ _ _ _ (by simp)).mono ?_;rintro e wn ⟨rfl,hbn⟩;(first|(replace hB:=zBW (zD4 hB _) hbn;replace kb:=(kb.alloc _).past hbn)|(replace hB:=zBW (zD4 (zD4 hB _) _) hbn;have kb:=((Blk.new _ _ _).alloc _).past hbn));obtain ⟨kc,kf,kl⟩:=kb.facts;clear hbn)
          | (go_at_call 93;refine (zIj ⟨_,_⟩ _ _ _).mono ?_;rintro e wn ⟨rfl,hbn⟩;replace hB:=zBW hB hbn;replace kb:=kb.past hbn;obtain ⟨kc,kf,kl⟩:=kb.facts;clear hbn))
        all_goals first
          | (rw [Exit.noGoto_ret]
             go_ret
             refine ⟨zBA ?_,hB⟩
             go_light
             try simp only [Bool.not_eq_true',Bool.not_eq_false'] at *
             have e:okFrom (-1) t=false:=by rw [HF.out];simp [zEI, *]
             simp [valid,e])
          | (go_light
             try simp only [Bool.not_eq_true',Bool.not_eq_false'] at *
             have h:=‹inB (last+1) 9999 id=true›
             rw [zAu] at h
             refine ⟨⟨i+1,id,by omega,by omega,by omega,by go_num,by first|rfl|trivial,by first|rfl|trivial,hB,?_⟩,by simp [intOf];omega⟩
             unfold Hid
             rw [HF.out]
             simp [zEI, *])
      · go_wp2
        rw [Exit.noGoto_ret]
        go_ret
        refine ⟨zBA ?_,hB⟩
        simp [valid,H1.out,hF.out,List.drop_eq_nil_of_le (Nat.le_of_not_lt hlt),okFrom]
end Go.Proofs.YtcpdjamlhhfbhaaGreat
namespace Go.Proofs.YtcpdjamlhhfbhaaGreat
open Go.RowKit
set_option maxRecDepth 20000
def errT (t:List St):Int:=if valid t then 0 else 10
end Go.Proofs.YtcpdjamlhhfbhaaGreat
namespace Go.Proofs.YtcpdjamlhhfbhaaGreat
variable {ro : Option Nat}
open Go.RowKit
set_option maxRecDepth 20000
theorem elem_st : Elem Tryz.prog 22 70 9 72 (.agg #[.int .i64 0,.int .i64 0,.int .i64 0,.int .i64 0,.int .i64 0,.int .i64 0,.int .i64 0,.int .u8 0,.int .i64 0]) :=
 ⟨by simp [go_sem],info_parts (by kernel_rfl),by rfl,by decide⟩
instance : ElI Tryz.prog 22 70 9 72:=⟨⟨_,elem_st⟩⟩
theorem check_n (t:List St) (A:Option Addr) (cap:Nat) (w:World) (ht:zAB zA3 9 w A t) (hf:FitT t) (hl:t.length≤1000000):Gv Tryz.prog 59 [.agg #[.slice A t.length cap]] w (.int .i64 (errT t)):=(zIz t A cap w ht hf hl).gv
theorem track_n (t:List St) (A:Option Addr) (cap:Nat) (w:World) (ht:zAB zA3 9 w A t) (hf:FitT t) (hl:t.length≤1000000):Gv Tryz.prog 7 [.agg #[.slice A t.length cap]] w (.bool (valid t)):=(zIY t A cap w ht hf hl).gv
end Go.Proofs.YtcpdjamlhhfbhaaGreat
namespace Go.Proofs.YtcpdjamlhhfbhaaGreat
variable {ro : Option Nat}
open Go.RowKit
set_option maxRecDepth 20000
theorem sl_nil {α:Type} {enc:α→List Value} {k:Nat} {base:Nat} {w:World} {H:List Ent} (_:Own base w H):Own base w [.sl enc k none ([]:List α)]:=by
 refine ⟨fun e he=>?_,fun e he b hb=>?_,by simp⟩
 ·simp only [List.mem_singleton] at he
  subst he
  exact zAB.nil
 ·simp only [List.mem_singleton] at he
  subst he
  obtain ⟨o,ho⟩:=hb
  cases ho
section
variable {w0 : World} {n:Nat} {d:List Deferred} {R:List (Nat × Value)} {H:List Ent} {Q:Exit→Act→World→Prop} {ops:Array Oper} {rest:List Oper} {o:Oper} {t:Tmp} {x y:Operand}
theorem u_nesp {a b c e:Int} {T':TypeId} (hop:o.op = .binOp .neq 26 x y T') (hrd:rdy R ops n o=some t) (hx:evR R x=some (.agg #[.int .i64 a,.int .i64 b])) (hy:evR R y=some (.agg #[.int .i64 c,.int .i64 e]))
  (h1:a=c∧b=e→U w0 n d ((t,.bool false)::R) H (wpL ro Tryz.prog ops Q rest)) (h2:¬ (a=c∧b=e)→U w0 n d ((t,.bool true)::R) H (wpL ro Tryz.prog ops Q rest)):U w0 n d R H (wpL ro Tryz.prog ops Q (o::rest)) :=
 u_eql hop hrd hx hy (fun w=>gd_sp _ _ _ _ _ w) (fun w=>zHj a b c e w) (fun h=>h2 (by simpa using eqSp_no.1 (by simpa using h))) (fun h=>h1 (by simpa using zCT.1 (by simpa using h)))
end
end Go.Proofs.YtcpdjamlhhfbhaaGreat
namespace Go.Proofs.YtcpdjamlhhfbhaaGreat
variable {ro : Option Nat}
open Go.RowKit
open Go.ChangeMaps (setBlock)
set_option maxRecDepth 20000
theorem zFu : ∀ (vs a b:List Value) (off:Nat),off+vs.length≤a.length→put1 (a++b) off vs=put1 a off vs++b
 | [],_,_,_,_=>rfl
 | v::r,a,b,off,h=>by
  simp only [List.length_cons] at h
  simp only [put1]
  rw [List.set_append_left _ _ (by omega),zFu r _ b (off+1) (by simp;omega)]
theorem zE9 : ∀ (vs a b:List Value) (off:Nat),put1 (a++b) (a.length+off) vs=a++put1 b off vs
 | [],_,_,_=>rfl
 | v::r,a,b,off=>by
  simp only [put1]
  rw [List.set_append_right _ _ (by omega),show a.length+off - a.length=off by omega,show a.length+off+1=a.length+(off+1) by omega,zE9 r a _ (off+1)]
theorem zFM {α:Type} {enc:α→List Value} {k:Nat} (henc:∀ x,(enc x).length=k) (vs tail:List Value) (j:Nat) (x':α):∀ (xs:List α) (i:Nat) (x:α),xs[i]?=some x→put1 (enc x) j vs=enc x'→j+vs.length≤k→put1 (xs.flatMap enc++tail) (i * k+j) vs=(xs.set i x').flatMap enc++tail
 | [],i,x,h,_,_=>by simp at h
 | y::r,0,x,h,h1,h2=>by
  simp at h;subst h
  simp only [List.flatMap_cons,List.set_cons_zero,List.append_assoc,Nat.zero_mul,Nat.zero_add]
  rw [zFu _ _ _ _ (by rw [henc];exact h2),h1]
 | y::r,i+1,x,h,h1,h2=>by
  have ih:=zFM henc vs tail j x' r i x (by simpa using h) h1 h2
  simp only [List.flatMap_cons,List.set_cons_succ,List.append_assoc]
  rw [show (i+1) * k+j=(enc y).length+(i * k+j) by rw [henc,Nat.succ_mul];omega,zE9,ih]
def Ent.arr {α:Type} (enc:α→List Value) (k:Nat) (g:Nat) (xs:List α):Ent :=
 ⟨(· = g),fun w=>∃ tail:List Value,Blk w g (xs.flatMap enc++tail).toArray,fun _ _ _ h ⟨tl,hp⟩=>⟨tl,hp.same (h g rfl)⟩⟩
class zGK (H:List Ent) (g:Nat) {α:outParam Type} (enc:outParam (α→List Value)) (k:outParam Nat) (xs:outParam (List α)) (H':outParam (List Ent)):Prop where tk:Take H (.arr enc k g xs) H'
instance (priority := high) takeA_here {H:List Ent} {g:Nat} {α:Type} {enc:α→List Value} {k:Nat} {xs:List α}:zGK (.arr enc k g xs::H) g enc k xs H:=⟨Take.here _ _⟩
instance takeA_there {H H':List Ent} {e:Ent} {g:Nat} {α:Type} {enc:α→List Value} {k:Nat} {xs:List α} [i:zGK H g enc k xs H']:zGK (e::H) g enc k xs (e::H'):=⟨Take.there _ i.tk⟩
section
variable {P : Program} {w0:World} {n:Nat} {d:List Deferred} {R:List (Nat × Value)} {H H':List Ent} {Q:Exit→Act→World→Prop} {ops:Array Oper} {rest:List Oper} {o:Oper} {t:Tmp} {x y:Operand} {X:Act→World→Prop}
instance srcI_arr {g i k:Nat} {α:Type} {enc:α→List Value} {xs:List α} {z:α} [ei:zBX enc k] [i1:zGK H g enc k xs H'] [i2:zAZ xs i z]:zET w0 H g (0+i * k) (enc z):=⟨fun w hb ho j v hv=>by
 obtain ⟨tl,hB⟩:=(ho.here _ i1.tk.mem:∃ tail:List Value,Blk w g (xs.flatMap enc++tail).toArray)
 have h1:=zCy ei.len xs i z i2.get j v hv
 rw [hB.cell]
 have hlt:=(List.getElem?_eq_some_iff.1 h1).1
 rw [show 0+i * k+j=i * k+j by omega]
 simp only [List.getElem?_toArray]
 rw [List.getElem?_append_left hlt]
 exact h1⟩
theorem u_storeA {α:Type} {enc:α→List Value} {k g i j s:Nat} {T1:TypeId} {td:TypeDesc} {gg:Bool} {xs:List α} {z:α} {v:Value} (z':α) (hop:o.op = .store T1 x y) [i1:TyI P T1 td s gg] (hw:want R ops o=some true) (hd:o.dst=none) (hx:evR R x=some (.pointer (some ⟨g,0+i * k+j,none⟩))) (hy:evR R y=some v) [ei:zBX enc k] [i2:zGK H g enc k xs H'] [i3:zAZ xs i z]
  (hc:put1 (enc z) j v.cells.toList=enc z') (hv:Nat.beq v.cells.toList.length s=true) (h1:v.cells.toList.all Value.oneCell'=true) (hj:j+s≤k)
  (h:U w0 n d R (.arr enc k g (xs.set i z')::H') (wpL ro P ops Q rest)):U w0 n d R H (wpL ro P ops Q (o::rest)):=fun a w q=>by
 have ho:=q.own.take i2.tk
 obtain ⟨tl,hB⟩:=(ho.here (.arr enc k g xs) (by simp):∃ tail:List Value,Blk w g (xs.flatMap enc++tail).toArray)
 have hs:v.cells.toList.length=s:=Nat.eq_of_beq_eq_true hv
 have q2:Kn w0 n d R (.blk g (xs.flatMap enc++tl)::H') a w:=q.heap q.below (ho.recast (fun _=>hB) (fun b hb=>hb))
 have hlen:i * k+k≤(xs.flatMap enc).length:=by
  have:(xs.flatMap enc).length=xs.length * k:=by simp [List.length_flatMap,ei.len,List.map_const',List.sum_replicate_nat]
  have hi:=(List.getElem?_eq_some_iff.1 i3.get).1
  rw [this,← Nat.succ_mul]
  exact Nat.mul_le_mul_right k hi
 refine zID hop hw hd hx hy (Take.here _ _) hv h1 (Nat.ble_eq_true_of_le (by rw [List.length_append];omega)) (cs':=(xs.set i z').flatMap enc++tl) (by
  rw [show 0+i * k+j=i * k+j by omega]
  exact zFM ei.len _ tl j z' xs i z i3.get hc (by rw [hs];exact hj)) ?_ a w q2
 intro a' w' q'
 exact h a' w' (q'.heap q'.below (q'.own.recast (fun hp=>⟨tl,hp⟩) (fun b hb=>hb)))
theorem Own.arr_sl {α:Type} {enc:α→List Value} {k base g:Nat} [ei:zBX enc k] {w:World} {xs:List α} (ht:Take H (.arr enc k g xs) H') (h:Own base w H):Own base w (.sl enc k (some ⟨g,0,none⟩) xs::H'):=by
 refine (h.take ht).recast (fun hp=>?_) ?_
 ·obtain ⟨tl,hB⟩:=hp
  intro i z hz
  refine ⟨g,0,rfl,hB.lt,fun j v hv=>?_⟩
  have h1:=zCy ei.len xs i z hz j v hv
  rw [hB.cell]
  have hlt:=(List.getElem?_eq_some_iff.1 h1).1
  simp only [List.getElem?_toArray,Nat.zero_add]
  rw [List.getElem?_append_left hlt]
  exact h1
 ·rintro b ⟨o,hA⟩
  cases hA
  rfl
end
open Go.RowKit
open Go.ChangeMaps (setBlock)
def feet (H:List Ent) (b:Nat):Prop:=∃ e∈H,e.S b
def Ent.oldx (w:World) (lo:Nat) (S:Nat→Prop):Ent :=
 ⟨fun b=>(lo≤b∧b<w.heap.size)∧¬ S b,fun w'=>w.heap.size≤w'.heap.size∧∀ b,(lo≤b∧b<w.heap.size)∧¬ S b→w'.heap[b]?=w.heap[b]?,fun _ _ hs h hp=>⟨Nat.le_trans hp.1 hs,fun b hb=>(h b hb).trans (hp.2 b hb)⟩⟩
def zDb {α:Type} (w:World) (H:List Ent) (V:α→Value) (C:α→List Ent) (p:α→Prop) (e:Ending) (w':World):Prop :=
 ∃ x,p x∧e = .returned (V x)∧(w'.os=w.os∧w'.tape=w.tape∧w'.output=w.output∧w.heap.size≤w'.heap.size)∧(∀ b,b<w.heap.size→¬ feet H b→w'.heap[b]?=w.heap[b]?)∧Own 0 w' (C x)∧∀ b,feet (C x) b→feet H b∨w.heap.size≤b
def zC2 (P:Program) (f:FuncId) (args:List Value) (w:World) (H:List Ent) {α:Type} (V:α→Value) (C:α→List Ent) (p:α→Prop):Prop :=
 Calls P f args.toArray w (zDb w H V C p)
theorem zC2.calls {P:Program} {f:FuncId} {args:List Value} {w:World} {H:List Ent} {α:Type} {V:α→Value} {C:α→List Ent} {p:α→Prop} (h:zC2 P f args w H V C p):Calls P f args.toArray w (zDb w H V C p):=h
theorem zC2.of {P:Program} {f:FuncId} {args:List Value} {w:World} {H:List Ent} {α:Type} {V:α→Value} {C:α→List Ent} {p:α→Prop} (h:Calls P f args.toArray w (zDb w H V C p)):zC2 P f args w H V C p:=h
attribute [irreducible] zC2
theorem Own.base {base base':Nat} {w:World} {H:List Ent} (h:Own base w H) (hb:∀ b,feet H b→base'≤b):Own base' w H :=
 ⟨h.here,fun e he b hS=>⟨hb b ⟨e,he,hS⟩,(h.foot e he b hS).2⟩,h.apart⟩
section
variable {P : Program} {w0:World} {n:Nat} {d:List Deferred} {R:List (Nat × Value)} {H H' H1 H2:List Ent} {Q:Exit→Act→World→Prop} {ops:Array Oper} {rest:List Oper} {o:Oper} {t:Tmp} {x y z:Operand} {v:Value}
theorem zFB {base:Nat} {w w':World} {H2 H' E:List Ent} (hH:Own base w (H2++H')) (hB:base≤w.heap.size) (h4:w.heap.size≤w'.heap.size) (h5:∀ b,b<w.heap.size→¬ feet H2 b→w'.heap[b]?=w.heap[b]?) (h6:Own 0 w' E) (h7:∀ b,feet E b→feet H2 b∨w.heap.size≤b):Own base w' (E++H'):=by
 obtain ⟨a1,a2,a3⟩:=Own.append.1 hH
 refine Own.append.2 ⟨⟨h6.here,fun e he b hS=>⟨?_,(h6.foot e he b hS).2⟩,h6.apart⟩,a2.past h4 (fun e he b hS=>h5 b (a2.foot e he b hS).2 ?_),fun e he f hf b hb hb'=>?_⟩
 ·rcases h7 b ⟨e,he,hS⟩ with ⟨f,hf,hS'⟩|h
  ·exact (a1.foot f hf b hS').1
  ·omega
 ·rintro ⟨f,hf,hS'⟩
  exact a3 f hf e he b hS' hS
 ·rcases h7 b ⟨e,he,hb⟩ with ⟨g,hg,hS'⟩|h
  ·exact a3 g hg f hf b hS' hb'
  ·have:=(a2.foot f hf b hb').2;omega
theorem zDN {f:FuncId} {fx:Operand} {xs:Array Operand} {ts:Array TypeId} {vs:List Value} {cap:Array Value} {α:Type} {V:α→Value} {C:α→List Ent} {p:α→Prop} (H2 H':List Ent) (hop:o.op = .call ⟨.value fx,xs,ts⟩) (hrd:rdy R ops n o=some t) (hf:evR R fx=some (.func (.func f) #[] cap)) (hx:evs R xs.toList=some vs) [ci:zi P f] (hs:Out H (H2++H'))
  (hc:∀ a w,Kn w0 n d R (H2++H') a w→zC2 P f (vs++cap.toList) w H2 V C p) (h:∀ x,p x→U w0 n d ((t,V x)::R) (C x++H') (wpL ro P ops Q rest)):U w0 n d R H (wpL ro P ops Q (o::rest)) :=
 zCh (rW hrd) fun a w q K hK=>by
  unfold Oper.wp execOp;rw [hop]
  have e1:xs.map a.eval=vs.toArray:=by apply Array.ext';simpa using q.evs hx
  have e2:vs.toArray++cap=(vs++cap.toList).toArray:=by apply Array.ext';simp
  simp only [resolve,q.ev hf,e1,Deferred.ofValue,Sem.run_bind,Sem.run_pure,Result.andThen_ok,invoke,Array.empty_append,e2,ci.ent,Oper.upon_enter,(rD hrd)]
  have q2:=q.sub (fun _ _ h=>h) hs
  refine Calls.mono (hc a w q2).calls ?_
  rintro e w' ⟨z,hp,rfl,⟨h1,h2,h3,h4⟩,h5,h6,h7⟩
  refine hK _ _ (h z hp _ _ ((q.heap (q.below.trans ⟨h1,h2,h3,h4,fun b hb=>h5 b (by have:=q.base;omega) ?_⟩) (zFB q2.own q.base h4 h5 h6 h7)).put (rT hrd)))
  rintro ⟨e,he,hS⟩
  have:=(q2.own.foot e (List.mem_append_left _ he) b hS).1
  omega
end
def Ent.map (m:Nat) (es:Array MapEntry) (c:Nat):Ent:=⟨(· = m),fun w=>w.heap[m]?=some (.map es c),fun _ _ _ h hp=>(h m rfl).trans hp⟩
theorem zEK {P:Program} {w:World} {e:Bool} {N:Nat} {kt:TypeId} {kd:IntKind} {i:Int} (hk:P.underlying kt=some (.int kd)):(Instr.checkKey e (N+1) kt (.int kd i)).run P w = .ok () w:=by
 have e1:=run_underlying hk w
 simp [Instr.checkKey,e1,Sem.run_bind]
section
variable {P : Program} {w0:World} {n:Nat} {d:List Deferred} {R:List (Nat × Value)} {H H' H1 H2:List Ent} {Q:Exit→Act→World→Prop} {ops:Array Oper} {rest:List Oper} {o:Oper} {t:Tmp} {x y z:Operand} {v:Value}
theorem zD7 {w:World} {r:Nat} {ob:Obj} {B:Nat} (hr:B≤r):Below B w (setBlock w r ob) :=
 ⟨rfl,rfl,rfl,by simp [setBlock],fun b hb=>by
  simp only [setBlock]
  rw [Array.getElem?_setIfInBounds_ne (by omega)]⟩
theorem zFf {T1:TypeId} (hop:o.op = .makeMap T1 none) (hrd:rdy R ops n o=some t) (h:∀ m,U w0 n d ((t,.map (some m))::R) (.map m #[] 0::H) (wpL ro P ops Q rest)):U w0 n d R H (wpL ro P ops Q (o::rest)) :=
 zCh (rW hrd) fun a w q K hK=>by
  unfold Oper.wp execOp;rw [hop]
  have hrun:(Instr.makeMap T1 none).run P w = .ok (.map (some w.heap.size)) (w.alloc (.map #[] 0)):=rfl
  simp only [Option.map_none,Sem.run_bind,hrun,Result.andThen_ok,Sem.run_pure,Oper.upon_value,(rD hrd)]
  exact hK _ _ (h w.heap.size _ _ ((q.call (E:=[.map w.heap.size #[] 0]) (zAK w _) ⟨fun e he=>by simp only [List.mem_singleton] at he;subst he;exact heap_alloc_new w _,fun e he b hb=>by simp only [List.mem_singleton] at he;subst he;cases hb;simp,by simp⟩).put (rT hrd)))
end
end Go.Proofs.YtcpdjamlhhfbhaaGreat
namespace Go.Proofs.YtcpdjamlhhfbhaaGreat
variable {ro : Option Nat}
open Go.RowKit
def dL (bs:List Nat):List Deferred:=bs.map fun b=>{ target:=.collected b,args:=#[] }
def Ent.dfr (bs:List Nat):Ent:=⟨fun b=>b∈bs,fun w=>bs.Nodup∧∀ b,b∈bs→w.heap[b]?=some (.deferred (some [])),fun _ _ _ h hp=>⟨hp.1,fun b hb=>(h b hb).trans (hp.2 b hb)⟩⟩
def Ent.lrec (l:Nat) (r:Loop):Ent:=⟨(· = l),fun w=>w.heap[l]?=some (.loop r),fun _ _ _ h hp=>(h l rfl).trans hp⟩
def Ent.all (L:List Ent):Ent:=⟨feet L,fun w=>Own 0 w L,fun _ _ hs h hp=>hp.past hs fun e he b hb=>h b ⟨e,he,hb⟩⟩
theorem zDP {base:Nat} {w:World} {L B:List Ent}:Own base w (L++B)↔Own base w (.all L::B):=by
 constructor
 ·intro h
  obtain ⟨h1,h2,h3⟩:=Own.append.1 h
  refine ⟨fun e he=>?_,fun e he b hb=>?_,List.pairwise_cons.2 ⟨fun f hf b hb hb'=>?_,h2.apart⟩⟩
  ·rcases List.mem_cons.1 he with rfl|he
   ·exact ⟨h1.here,fun e he b hb=>⟨Nat.zero_le _,(h1.foot e he b hb).2⟩,h1.apart⟩
   ·exact h2.here e he
  ·rcases List.mem_cons.1 he with rfl|he
   ·obtain ⟨f,hf,hS⟩:=hb
    exact h1.foot f hf b hS
   ·exact h2.foot e he b hb
  ·obtain ⟨e,he,hS⟩:=hb
   exact h3 e he f hf b hS hb'
 ·intro h
  have h0:Own 0 w L:=h.here (.all L) (by simp)
  obtain ⟨a1,a2⟩:=List.pairwise_cons.1 h.apart
  exact Own.append.2 ⟨⟨h0.here,fun e he b hb=>⟨(h.foot (.all L) (by simp) b ⟨e,he,hb⟩).1,(h0.foot e he b hb).2⟩,h0.apart⟩,h.tail,fun e he f hf b hb hb'=>a1 f hf b ⟨e,he,hb⟩ hb'⟩
theorem zA0 {base:Nat} {w:World} {D L B:List Ent}:Own base w ((D++L)++B)↔Own base w (D ++ .all L::B):=by
 rw [List.append_assoc]
 constructor
 ·intro h
  obtain ⟨h1,h2,h3⟩:=Own.append.1 h
  refine Own.append.2 ⟨h1,zDP.1 h2,fun e he f hf b hb hb'=>?_⟩
  rcases List.mem_cons.1 hf with rfl|hf
  ·obtain ⟨g,hg,hS⟩:=hb'
   exact h3 e he g (List.mem_append_left _ hg) b hb hS
  ·exact h3 e he f (List.mem_append_right _ hf) b hb hb'
 ·intro h
  obtain ⟨h1,h2,h3⟩:=Own.append.1 h
  refine Own.append.2 ⟨h1,zDP.2 h2,fun e he f hf b hb hb'=>?_⟩
  rcases List.mem_append.1 hf with hf|hf
  ·exact h3 e he (.all L) (by simp) b hb ⟨f,hf,hb'⟩
  ·exact h3 e he f (List.mem_cons_of_mem _ hf) b hb hb'
def YieldF (P:Program) (l:Nat) (args:List Value) (w:World) (H:List Ent) (go:Bool) {ι:Type} (C:ι→List Ent) (p:ι→Prop):Prop :=
 YieldAt Fence.wide 8 P l args.toArray w (zDb w H (fun _:ι=>.bool go) C p)
section
variable {P : Program} {w0:World} {n:Nat} {d:List Deferred} {R:List (Nat × Value)} {H H' H1 H2:List Ent} {Q:Exit→Act→World→Prop} {ops:Array Oper} {rest:List Oper} {o:Oper} {t:Tmp} {x y z:Operand} {v:Value}
theorem zBi {α:Type} {f:FuncId} {fn:Func} {c:Code} {args:List Value} {w:World} {V:α→Value} {C:α→List Ent} {p:α→Prop} {n:Nat} {wb:World} (hwb:Below wb.heap.size wb w) (hO:Own wb.heap.size w H) (hf:P.funcs[f]?=some fn) (hb:fn.body=some c) (hnn:fn.ntmps=n) (hn:Nat.ble args.length n=true)
  (h:U wb n [] (zHV 0 args) (H++[.oldx w wb.heap.size (feet H)]) (c.wpI none P (zD5 P fn (zDb w H V C p)))):zC2 P f args w H V C p :=
 zC2.of <| (callsIn_wide (n:=9)).1 <| callsIn_of_wp_marks hf hb trivial (h _ _ ⟨by have:=Nat.le_of_ble_eq_true hn;simp;omega,rfl,fun t v ht=>by
  have:=zES args 0 t v ht
  obtain ⟨_,h2⟩:=this
  simp only [Nat.sub_zero] at h2
  have hlt:t<args.length:=by
   rcases Nat.lt_or_ge t args.length with h|h
   ·exact h
   ·rw [List.getElem?_eq_none h] at h2;cases h2
  rw [Array.getD_eq_getD_getElem?,Array.getElem?_append_left (by simpa using hlt)]
  simp [h2],hwb,by
  refine Own.append.2 ⟨hO,⟨fun e he=>?_,fun e he b hb=>?_,by simp⟩,fun e he f hf b hb hb'=>?_⟩
  ·simp only [List.mem_singleton] at he;subst he;exact ⟨Nat.le_refl _,fun b _=>rfl⟩
  ·simp only [List.mem_singleton] at he;subst he;exact hb.1
  ·simp only [List.mem_singleton] at hf;subst hf;exact hb'.2 ⟨e,he,hb⟩⟩)
theorem zCq {α:Type} {fn:Func} {V:α→Value} {C:α→List Ent} {p:α→Prop} {vs:List Value} {w wb:World} {H0:List Ent} (hres:zAX P wb R H fn.results.toList vs) (z:α) (hp:p z) (hV:V z=resV vs) (hwb:Below wb.heap.size wb w)
  (ho:∀ w',Own wb.heap.size w' H→Own wb.heap.size w' (C z++[.oldx w wb.heap.size (feet H0)])):U wb n [] R H (zD5 P fn (zDb w H0 V C p) .ret):=fun a w' q=>by
 have hq:=q.own
 have hH:=ho _ hq
 obtain ⟨hc,hol,hap⟩:=Own.append.1 hH
 have hsz:w.heap.size≤w'.heap.size:=(hol.here (.oldx w wb.heap.size (feet H0)) (by simp)).1
 show LeavesInM Fence.wide 9 P fn a.tmps _ a.defers .returning w'
 rw [q.defers]
 refine ⟨resV vs,zEb q hres,z,hp,by rw [hV],⟨q.below.os.trans hwb.os.symm,q.below.tape.trans hwb.tape.symm,q.below.output.trans hwb.output.symm,hsz⟩,fun b hb hne=>?_,⟨hc.here,fun e he b hS=>⟨Nat.zero_le _,(hc.foot e he b hS).2⟩,hc.apart⟩,fun b hb=>?_⟩
 ·rcases Nat.lt_or_ge b wb.heap.size with h|h
  ·exact (q.below.block b h).trans (hwb.block b h).symm
  ·exact (hol.here (.oldx w wb.heap.size (feet H0)) (by simp)).2 b ⟨⟨h,hb⟩,hne⟩
 ·rcases Nat.lt_or_ge b w.heap.size with h|h
  ·refine .inl (Classical.byContradiction fun hn=>?_)
   obtain ⟨e,he,hS⟩:=hb
   exact hap e he (.oldx w wb.heap.size (feet H0)) (by simp) b hS ⟨⟨(hc.foot e he b hS).1,h⟩,hn⟩
  ·exact .inr h
theorem zEz {α:Type} {fn:Func} {V:α→Value} {C:α→List Ent} {p:α→Prop} {w wb:World} {H0:List Ent} (h:U wb n d R H (zD5 P fn (zDb w H0 V C p) .ret)):U wb n d R H (zD5 P fn (zDb w H0 V C p) .normal):=h
theorem zDp {ι:Type} {C:ι→List Ent} {p:ι→Prop} {l:Nat} {go:Bool} {D L:List Ent} {fx:Operand} {xs:Array Operand} {ts:Array TypeId} {vs:List Value} (hop:o.op = .call ⟨.value fx,xs,ts⟩) (hrd:rdy R ops n o=some t) (hf:evR R fx=some (.func (.yield l) #[] #[])) (hx:evs R xs.toList=some vs) (H':List Ent) (hs:Out H (D ++ .all L::H'))
  (hc:∀ a w,Kn w0 n d R (D ++ .all L::H') a w→YieldF P l vs w (D++L) go (fun s=>D++C s) p) (h:∀ s,p s→U w0 n d ((t,.bool go)::R) (D ++ .all (C s)::H') (wpL ro P ops Q rest)):U w0 n d R H (wpL ro P ops Q (o::rest)):=fun a w k =>
 wpListIn_step fun K hK=>by
  rw [zBh k (rW hrd),if_pos rfl]
  have q:=k.sub (fun _ _ h=>h) hs
  obtain ⟨f,tmps,assign,body,hy,hR⟩:=hc a w q
  refine ⟨fun _ _=>trivial,?_⟩
  rw [Oper.semAt_plain (FW ro) _ _ (fun c hc=>by rw [hop] at hc;cases hc)]
  have e1:xs.map a.eval=vs.toArray:=by apply Array.ext';simpa using k.evs hx
  unfold execOp;rw [hop]
  simp only [resolve,k.ev hf,e1,Deferred.ofValue,Sem.run_bind,Sem.run_pure,Result.andThen_ok,invoke,Array.empty_append,Array.append_empty,hy,Oper.uponIn_round,(rD hrd)]
  refine ⟨fun h=>(by cases h),?_⟩
  refine RoundIn.mono (F:=FW ro) ⟨trivial,fun c cs hr=>hR.2 c cs (room_wide _)⟩ ?_
  rintro e w' ⟨z,hp,rfl,⟨h1,h2,h3,h4⟩,h5,h6,h7⟩
  have h8:=zFB (zA0.2 q.own) q.base h4 h5 h6 h7
  refine hK _ _ (h z hp _ _ ((q.heap (q.below.trans ⟨h1,h2,h3,h4,fun b hb=>h5 b (by have:=q.base;omega) ?_⟩) (zA0.1 h8)).put (rT hrd)))
  rintro ⟨e,he,hS⟩
  have:=((zA0.2 q.own).foot e (List.mem_append_left _ he) b hS).1
  omega
def rndB (P:Program) (l:Nat) (W:World) (H:List Ent) (go:Bool) {ι:Type} (C:ι→List Ent) (p:ι→Prop):Exit→Act→World→Prop:=roundPost P l (zDb W H (fun _:ι=>.bool go) C p)
def rndA (P:Program) (l:Nat) (body:Code) (Q:Exit→Act→World→Prop):Exit→Act→World→Prop:=Exit.then (fun a₁ w₁=>∃ w₂,(Instr.beginRound l).run P w₁ = .ok () w₂∧body.wpIn (FW (some l)) 8 P Q a₁ w₂) (fun _ _ _=>False)
theorem zFA {base l:Nat} {w:World} {r r':Loop} (h:Own base w (.lrec l r::H)) (hB:base≤w.heap.size):Own base (w.putObj l (.loop r')) (.lrec l r'::H):=by
 have hf:=h.foot (.lrec l r) (by simp) l rfl
 exact h.turn (by simp) (fun b _ hn=>World.putObj_heap_other (fun e=>hn e)) hB (World.putObj_heap_same hf.2) (fun b hb=>by cases hb;exact ⟨.inl rfl,by simpa using hf.2⟩)
theorem zCz {w:World} {l B:Nat} (ob:Obj) (hl:B≤l):Below B w (w.putObj l ob):=⟨rfl,rfl,rfl,by simp,fun b hb=>World.putObj_heap_other (by omega)⟩
theorem zDs {l:Nat} {r:Loop} {body:Code} (ht:Take H (.lrec l r) H') (hr:r.state = .ready) (h:U w0 n d R (.lrec l { r with state:=.busy } :: H') (body.wpI (some l) P Q)):U w0 n d R H (rndA P l body Q .normal):=fun a w q=>by
 have ho:=q.own.take ht
 have hl:w.heap[l]?=some (.loop r):=ho.here (.lrec l r) (by simp)
 exact ⟨_,run_beginRound hl hr,wpFW (h _ _ (q.heap (q.below.trans (zCz _ (ho.foot (.lrec l r) (by simp) l rfl).1)) (zFA ho q.base)))⟩
theorem zC5 {ι:Type} {C:ι→List Ent} {p:ι→Prop} {l:Nat} {r:Loop} {W:World} {H2:List Ent} (j:Option Code) {e:Exit} (he:(e = .normal∧j=none)∨(e = .ret∧j=some .ret)∨∃ id,e = .exit id∧j=some (.exit id)) {go:Bool} (hgo:go=j.isNone) (ht:Take H (.lrec l r) H') (s:ι) (hp:p s) (hW:Below w0.heap.size w0 W)
  (ho:∀ w',Own w0.heap.size w' (.lrec l { r with state:=if j.isNone then .ready else .done,pending:=j } :: H')→Own w0.heap.size w' (C s++[.oldx W w0.heap.size (feet H2)])):U w0 n d R H (rndB P l W H2 go C p e):=fun a w q=>by
 have ho1:=q.own.take ht
 have hl:w.heap[l]?=some (.loop r):=ho1.here (.lrec l r) (by simp)
 have hrun:=run_endRound (P:=P) j hl
 have hfl:=(ho1.foot (.lrec l r) (by simp) l rfl).1
 have hO:=ho _ (zFA (r':={ r with state:=if j.isNone then .ready else .done,pending:=j }) ho1 q.base)
 have hB:=q.below.trans (zCz (w:=w) (.loop { r with state:=if j.isNone then .ready else .done,pending:=j }) hfl)
 obtain ⟨hc,hol,hap⟩:=Own.append.1 hO
 have key:zDb W H2 (fun _:ι=>Value.bool go) C p (.returned (.bool j.isNone)) (w.putObj l (.loop { r with state:=if j.isNone then .ready else .done,pending:=j })):=by
  refine ⟨s,hp,by rw [hgo],⟨hB.os.trans hW.os.symm,hB.tape.trans hW.tape.symm,hB.output.trans hW.output.symm,(hol.here (.oldx W w0.heap.size (feet H2)) (by simp)).1⟩,fun b hb hne=>?_,⟨hc.here,fun e he b hS=>⟨Nat.zero_le _,(hc.foot e he b hS).2⟩,hc.apart⟩,fun b hb=>?_⟩
  ·rcases Nat.lt_or_ge b w0.heap.size with h|h
   ·exact (hB.block b h).trans (hW.block b h).symm
   ·exact (hol.here (.oldx W w0.heap.size (feet H2)) (by simp)).2 b ⟨⟨h,hb⟩,hne⟩
  ·rcases Nat.lt_or_ge b W.heap.size with h|h
   ·refine .inl (Classical.byContradiction fun hn=>?_)
    obtain ⟨e,he,hS⟩:=hb
    exact hap e he (.oldx W w0.heap.size (feet H2)) (by simp) b hS ⟨⟨(hc.foot e he b hS).1,h⟩,hn⟩
   ·exact .inr h
 unfold rndB
 rcases he with ⟨rfl,rfl⟩ | ⟨rfl,rfl⟩ | ⟨id,rfl,rfl⟩
 ·exact ⟨_,_,hrun,key⟩
 ·exact ⟨_,_,hrun,key⟩
 ·exact ⟨_,_,hrun,key⟩
def zEo : List Tmp→List Value→List (Nat × Value)
 | p::ps,v::vs=>zEo ps vs++[(p,v)]
 | _,_=>[]
theorem zIh {A B:List (Nat × Value)} {t:Nat}:lk (A++B) t=(lk A t).or (lk B t):=by
 induction A with
 | nil=>simp [lk]
 | cons p A ih =>
  obtain ⟨u,v⟩:=p
  simp only [List.cons_append,lk]
  cases Nat.beq u t<;>simp [ih]
theorem zFv {R:List (Nat × Value)}:∀ (ps:List Tmp) (vs:List Value) (tm:Array Value),(∀ p∈ps,p<tm.size)→(∀ t v,lk R t=some v→tm.getD t undef=v)→∀ t v,lk (zEo ps vs++R) t=some v→((ps.zip vs).foldl (fun t (p,v)=>t.setIfInBounds p v) tm).getD t undef=v
 | [],vs,tm,_,h,t,v,hl=>h t v (by simpa [zEo] using hl)
 | p::ps,[],tm,_,h,t,v,hl=>h t v (by simpa [zEo] using hl)
 | p::ps,x::vs,tm,hp,h,t,v,hl=>by
  simp only [List.zip_cons_cons,List.foldl_cons]
  refine zFv (R:=(p,x)::R) ps vs (tm.setIfInBounds p x) (fun q hq=>by simpa using hp q (List.mem_cons_of_mem _ hq)) (fun t v hl=>?_) t v (by simpa [zEo] using hl)
  have hlt:=hp p (by simp)
  by_cases e:p=t
  ·subst e;rw [zBR] at hl;cases hl;simp [hlt]
  ·rw [zBQ e] at hl
   have:=h t v hl
   simp only [Array.getD_eq_getD_getElem?] at this ⊢
   rw [Array.getElem?_setIfInBounds_ne e];exact this
theorem zG7 : ∀ (l:List (Tmp × Value)) (tm:Array Value),(l.foldl (fun t (p,v)=>t.setIfInBounds p v) tm).size=tm.size
 | [],_=>rfl
 | (p,v)::l,tm=>by rw [List.foldl_cons,zG7 l];simp
theorem zGP {X:Act→World→Prop} (h:U w0 n (dL []) R (.dfr []::H) X):U w0 n [] R H X:=fun a w q=>h a w (q.heap q.below ⟨fun e he=>by
 rcases List.mem_cons.1 he with rfl|he
 ·exact ⟨List.nodup_nil,fun b hb=>by cases hb⟩
 ·exact q.own.here e he,fun e he b hb=>by
 rcases List.mem_cons.1 he with rfl|he
 ·cases hb
 ·exact q.own.foot e he b hb,List.pairwise_cons.2 ⟨(fun f _ b hb=>by cases hb),q.own.apart⟩⟩)
theorem zDz {fn:Func} {tmps:Array Value} {RR:Ending→World→Prop}:∀ (bs:List Nat) (w:World),bs.Nodup→(∀ b,b∈bs→w.heap[b]?=some (.deferred (some [])))→(∀ w',w'.heap.size=w.heap.size→w'.os=w.os→w'.tape=w.tape→w'.output=w.output→(∀ b,b ∉ bs→w'.heap[b]?=w.heap[b]?)→LeavesInM Fence.wide 9 P fn tmps RR [] .returning w')→LeavesInM Fence.wide 9 P fn tmps RR (dL bs) .returning w
 | [],w,_,_,h=>h w rfl rfl rfl rfl (fun _ _=>rfl)
 | b::bs,w,hn,hb,h=>by
  obtain ⟨h1,h2⟩:=List.nodup_cons.1 hn
  have hlt:b<w.heap.size:=(Array.getElem?_eq_some_iff.1 (hb b (by simp))).1
  refine ⟨by simp,.inl ⟨b,_,rfl,run_takeDeferred (hb b (by simp)),?_⟩⟩
  refine zDz bs _ h2 (fun c hc=>?_) (fun w' e1 e2 e3 e4 e5=>h w' (by rw [e1];simp) e2 e3 e4 (fun c hc=>?_))
  ·have e:(w.putObj b (.deferred none)).heap[c]?=w.heap[c]?:=World.putObj_heap_other (by rintro rfl;exact h1 hc)
   rw [e]
   exact hb c (List.mem_cons_of_mem _ hc)
  ·simp only [List.mem_cons,not_or] at hc
   have e:(w.putObj b (.deferred none)).heap[c]?=w.heap[c]?:=World.putObj_heap_other (fun e=>hc.1 (by first|exact e|exact e.symm))
   rw [e5 c hc.2,e]
theorem Kn.unmark {a:Act} {w w':World} {bs:List Nat} (q:Kn w0 n d R H a w) (ht:Take H (.dfr bs) H') (e1:w'.heap.size=w.heap.size) (e2:w'.os=w.os) (e3:w'.tape=w.tape) (e4:w'.output=w.output) (e5:∀ b,b ∉ bs→w'.heap[b]?=w.heap[b]?):Kn w0 n d R H' a w':=by
 have ho:=q.own.take ht
 have hf:=ho.foot (.dfr bs) (by simp)
 obtain ⟨a1,a2⟩:=List.pairwise_cons.1 ho.apart
 exact q.heap (q.below.trans ⟨e2,e3,e4,by omega,fun b hb=>e5 b (fun hm=>by have:=(hf b hm).1;omega)⟩) (ho.tail.past (by omega) (fun e he b hb=>e5 b (fun hm=>a1 e he b hm hb)))
theorem zEq {bs:List Nat} {α:Type} {fn:Func} {V:α→Value} {E:α→List Ent} {p:α→Prop} {vs:List Value} (ht:Take H (.dfr bs) H') (hres:zAX P w0 R H' fn.results.toList vs) (z:α) (hp:p z) (hV:V z=resV vs) (hO:∀ w,Own w0.heap.size w H'→Own w0.heap.size w (E z)):U w0 n (dL bs) R H (zD5 P fn (zFU w0 V E p) .ret):=fun a w q=>by
 show LeavesInM Fence.wide 9 P fn a.tmps (zFU w0 V E p) a.defers .returning w
 rw [q.defers]
 have hd:=(q.own.take ht).here (.dfr bs) (by simp)
 exact zDz bs w hd.1 hd.2 (fun w' e1 e2 e3 e4 e5=>zEg (q.unmark ht e1 e2 e3 e4 e5) hres z hp hV hO)
end
end Go.Proofs.YtcpdjamlhhfbhaaGreat
namespace Go.Proofs.YtcpdjamlhhfbhaaGreat
variable {ro : Option Nat}
open Go.RowKit
theorem zBC {base b:Nat} {cs cs':List Value} {H H':List Ent} {w W:World} (ho:Own base w H) [i:zD9 H b cs H'] (hW:Below w.heap.size w W) (e:cs=cs'):InC W b 0 cs':=e ▸ cells_of ho hW
def zHC (R:List (Nat × Value)):List Nat→Option (List Value)
 | []=>some []
 | t::K=>match lk R t,zHC R K with|some v,some vs=>some (v::vs) | _,_=>none
def zAm : List Nat→List Value→List (Nat × Value)
 | t::K,v::vs=>(t,v)::zAm K vs
 | _,_=>[]
theorem lk_zip {R:List (Nat × Value)}:∀ {K:List Nat} {vs:List Value},zHC R K=some vs→∀ t v,lk (zAm K vs) t=some v→lk R t=some v
 | [],vs,h,t,v,hl=>by simp [zAm,lk] at hl
 | k::K,vs,h,t,v,hl=>by
  simp only [zHC] at h
  cases h1:lk R k with
  | none=>rw [h1] at h;simp at h
  | some x =>
   cases h2:zHC R K with
   | none=>rw [h1,h2] at h;simp at h
   | some ys =>
    rw [h1,h2] at h
    simp only [Option.some.injEq] at h
    subst h
    simp only [zAm] at hl
    by_cases e:k=t
    ·subst e;rw [zBR] at hl;cases hl;exact h1
    ·rw [zBQ e] at hl;exact lk_zip h2 t v hl
section
variable {P : Program} {w0:World} {n:Nat} {d:List Deferred} {R:List (Nat × Value)} {H H':List Ent} {Q:Exit→Act→World→Prop}
theorem zAC {ι:Type} {c:Code} (K:List Nat) {vs:List Value} (hK:zHC R K=some vs) (I:ι→Prop) (ex:ι→List (Nat × Value)) (Hf:ι→List Ent) (μ:ι→Nat) (i0:ι) (h0:I i0) (hR:∀ t v,lk (ex i0) t=some v→lk R t=some v) (hH:Out H (Hf i0))
  (body:∀ i,I i→U w0 n d (ex i++zAm K vs) (Hf i) (c.wpI ro P (Exit.then (fun a w=>∃ j,I j∧μ j<μ i∧Kn w0 n d (ex j++zAm K vs) (Hf j) a w) Q))):U w0 n d R H ((Code.loop c).wpI ro P Q) :=
 u_loop I (fun i=>ex i++zAm K vs) Hf μ i0 h0 (fun t v h=>by
  rw [zIh] at h
  cases h1:lk (ex i0) t with
  | none=>rw [h1] at h;exact lk_zip hK t v (by simpa using h)
  | some x=>rw [h1] at h;simp at h;subst h;exact hR t _ h1) hH body
end
end Go.Proofs.YtcpdjamlhhfbhaaGreat
namespace Go.Proofs.YtcpdjamlhhfbhaaGreat
variable {ro : Option Nat}
open Go.RowKit
section
variable {S : Pend} {P:Program} {w0:World} {n:Nat} {d:List Deferred} {R R0:List (Nat × Value)} {H H' H0:List Ent} {Q:Exit→Act→World→Prop} {ops:Array Oper} {bs:List (List Bool)} {b:List Bool} {k:Nat} {o:Oper} {rest:List Oper} {T:List Rw} {t:Tmp} {x y:Operand} {v:Value} {X:Act→World→Prop}
theorem zBx (hs:∀ w,Own w0.heap.size w H→Own w0.heap.size w H') (h:U w0 n d R H' X):U w0 n d R H X:=fun a w q=>h a w (q.heap q.below (hs w q.own))
theorem zFj {T1:TypeId} {td:TypeDesc} {s bm off:Nat} {g:Bool} {cs cs':List Value} {L:List Ent} {F:List Ent} {a:Act} {w:World} (hop:o.op = .store T1 x y) [i1:TyI P T1 td s g] (hw:want R ops o=some true) (hd:o.dst=none) (hx:evR R x=some (.pointer (some ⟨bm,off,none⟩))) (hy:evR R y=some v)
  (hv:Nat.beq v.cells.toList.length s=true) (hv1:v.cells.toList.all Value.oneCell'=true) (hl:Nat.ble (off+s) cs.length=true) (hc:put1 cs off v.cells.toList=cs') (q:Kn w0 n d R F a w) (ho:Own w0.heap.size w (.blk bm cs::L)) {K:Act→World→Prop}
  (hK:∀ w',Below w0.heap.size w0 w'→Own w0.heap.size w' (.blk bm cs'::L)→K a w'):if Region.wanted o (yielded ops a.tmps)=true then o.wp P a w K (fun _ _ _=>False) else K (a.put o.dst undef) w:=by
 rw [zBh q hw,if_pos rfl]
 have hb:Blk w bm cs.toArray:=ho.here (.blk bm cs) (by simp)
 have hs:v.cells.toList.length=s:=Nat.eq_of_beq_eq_true hv
 have hlen:=Nat.le_of_ble_eq_true hl
 have e1:=i1.siz w
 obtain ⟨g1,g2,g3,g4,g5,g6⟩:=zB6 bm v.cells.toList off w cs hb
 have hfoot:w0.heap.size≤bm:=(ho.foot (.blk bm cs) (by simp) bm rfl).1
 have hrun:(Instr.storeAt T1 (.pointer (some ⟨bm,off,none⟩)) v).run P w = .ok () (w.setCells bm off v.cells.toList):=by
  have:=run_storeCells_cells (P:=P) bm off v.cells.toList 0 w (fun j hj=>by have h9:off+j<cs.length:=(by omega);rw [hb.cell];simp [h9]) (fun j hj=>hb.frozen _) (fun u hu=>List.all_eq_true.1 hv1 u hu)
  simp only [Nat.add_zero] at this
  have hsz:¬ v.cells.size≠s:=by simpa using hs
  unfold Instr.storeAt storeVar
  simp only [Sem.run_bind,Instr.sureAddr,Sem.run_pure,Result.andThen_ok,e1,Sem.run_ite,hsz,if_false,this]
 unfold Oper.wp execOp;rw [hop]
 simp only [Sem.run_bind,q.ev hx,q.ev hy,hrun,Result.andThen_ok,Sem.run_pure,Oper.upon_skip,hd]
 refine hK _ ?_ ?_
 ·exact q.below.trans ⟨g2,g3,g4,by omega,fun k hk=>g6 k (by omega)⟩
 ·exact ho.turn (by omega) (fun k hk hn=>g6 k hn) q.base (hc ▸ g1) (fun k hk=>by
   cases hk
   exact ⟨.inl rfl,by rw [g5];exact (ho.foot (.blk bm cs) (by simp) bm rfl).2⟩)
end
end Go.Proofs.YtcpdjamlhhfbhaaGreat
namespace Go.Proofs.YtcpdjamlhhfbhaaGreat
variable {ro : Option Nat}
open Go.RowKit
def ClsH (w0:World) (H:List Ent) (w:World):Prop:=Below w0.heap.size w0 w∧Own w0.heap.size w H
def UQ (P:Program) (w0:World) (n:Nat) (d:List Deferred) (R:List (Nat × Value)) (H:List Ent) (ops:Array Oper) (K:Act→Prop) (rest:List Oper):Prop :=
 ∀ a:Act,a.tmps.size=n→a.defers=d→(∀ t v,lk R t=some v→a.tmps.getD t undef=v)→wpQuiet P ops (ClsH w0 H) K rest a
section
variable {P : Program} {w0:World} {n:Nat} {d:List Deferred} {R:List (Nat × Value)} {H H':List Ent} {Q:Exit→Act→World→Prop} {K:Act→Prop} {ops:Array Oper} {rest:List Oper} {o:Oper} {t:Tmp} {x y:Operand} {v:Value} {C:World→Prop}
theorem zFX {i:Nat} {a:Act} {K:Act→Prop} {K':Act→World→Prop} {Q':Exit→Act→World→Prop} {w:World} (hdf:∀ o∈ops.toList,zDa o=false) (hC:C w) (h:∀ a w',C w'→K a→K' a w') (hh:qOp P ops C i K a):wpOpIn (FW ro) 9 P ops Q' i K' a w:=by
 unfold qOp at hh
 unfold wpOpIn
 split
 ·rename_i ho;simp only [ho] at hh;exact h _ _ hC hh
 ·rename_i o ho
  simp only [ho] at hh
  split
  ·rename_i hw;simp only [hw,if_true] at hh;exact opIn (hdf o (by have:=Array.mem_of_getElem? ho;simpa using this)) (Oper.wp_of_quiet hC h hh)
  ·rename_i hw;simp only [hw] at hh;exact ⟨fun _ _=>trivial,h _ _ hC hh⟩
theorem zCg {Q:Act→Prop} {Q':Exit→Act→World→Prop} (hdf:∀ o∈ops.toList,zDa o=false) (hQ:∀ a w,C w→Q a→Q' .normal a w):∀ (fuel:Nat) (listed:Array Bool) (a:Act) (w:World),C w →
  wpAnyQ P .any ops C Q fuel listed a→wpAnyIn (FW ro) 9 P .any ops Q' fuel listed a w
 | 0,_,_,_,hw,h=>⟨h.1,hQ _ _ hw h.2⟩
 | fuel+1,_,_,_,hw,h=>⟨fun h0=>hQ _ _ hw (h.1 h0),fun i hi=>zFX hdf hw (fun a' w' hw'=>zCg hdf hQ fuel _ a' w' hw') (h.2 i hi)⟩
theorem zAY {id:Nat} {l:List Oper} (hm:P.follows .mixedOrders=true) (hB:Region.lexB .any l.toArray=true) (hDf:(l.all fun o=>!zDa o)=true) (h:UQ P w0 n d R H l.toArray (fun a'=>∀ w',ClsH w0 H w'→Q .normal a' w') l):U w0 n d R H ((Code.region id l.toArray true).wpI ro P Q):=fun a w q=>by
 have h1:=h a q.size q.defers q.regs
 simp only [Region.lexB,Bool.and_eq_true] at hB
 have hC:ClsH w0 H { w with drawn:=w.drawn+1 }:=⟨⟨q.below.os,q.below.tape,q.below.output,q.below.size,q.below.block⟩,q.own.past (Nat.le_refl _) (fun _ _ _ _=>rfl)⟩
 refine wpIn_region_any hm (zCg (C:=ClsH w0 H) (Q:=fun a'=>∀ w',ClsH w0 H w'→Q .normal a' w') (fun o ho=>by have:=List.all_eq_true.1 hDf o (by simpa using ho);simpa using this) (fun _ w' hw' h=>h w' hw') _ _ _ _ hC ?_)
 have:=wpAnyQ_lex (C:=ClsH w0 H) (md:=.any) hB.1 l 0 (Array.replicate l.toArray.size false) a (by simp) (by simpa using hB.2) h1
 simpa using this
theorem zBI (h:U w0 n d R H (Q .normal)):UQ P w0 n d R H ops (fun a'=>∀ w',ClsH w0 H w'→Q .normal a' w') []:=fun a h1 h2 h3=>wpQuiet_nil (fun w' hw=>h a w' ⟨h1,h2,h3,hw.1,hw.2⟩)
theorem zE8 {a:Act} (h1:a.tmps.size=n) (h3:∀ t v,lk R t=some v→a.tmps.getD t undef=v) (ht:Nat.blt t n=true):∀ u x,lk ((t,v)::R) u=some x→(a.put (some t) v).tmps.getD u undef=x:=fun u x hx=>by
 have hlt:t<a.tmps.size:=by rw [h1];exact Nat.le_of_ble_eq_true ht
 by_cases hu:t=u
 ·subst hu
  rw [zBR] at hx
  cases hx
  simp [Act.put,hlt]
 ·rw [zBQ hu] at hx
  have:=h3 u x hx
  simp only [Act.put,Array.getD_eq_getD_getElem?] at this ⊢
  rw [Array.getElem?_setIfInBounds_ne hu]
  exact this
theorem zEw {a:Act} {b:Bool} (h3:∀ t v,lk R t=some v→a.tmps.getD t undef=v) (hw:want R ops o=some b):Region.wanted o (yielded ops a.tmps)=b :=
 zBh (R:=R) (H:=[]) (n:=a.tmps.size) (d:=a.defers) (w0:=(default:World)) (w:=default) ⟨rfl,rfl,h3,Below.refl _ _,Own.nil _ _⟩ hw
theorem zA (he:Ev P w0 n d R H o v) (hrd:rdy R ops n o=some t) (h:UQ P w0 n d ((t,v)::R) H ops K rest):UQ P w0 n d R H ops K (o::rest):=fun a h1 h2 h3 =>
 wpQuiet_step fun K' hK=>by
  rw [zEw h3 (rW hrd),if_pos rfl]
  refine ⟨v,fun w hC=>?_,?_⟩
  ·unfold Oper.quietAt
   rw [he a w ⟨h1,h2,h3,hC.1,hC.2⟩]
   exact ⟨rfl,rfl⟩
  ·rw [(rD hrd)]
   exact hK _ (h _ (by simp [Act.put,h1]) h2 (zE8 h1 h3 (rT hrd)))
theorem zAA (hw:want R ops o=some false) (hd:o.dst=some t) (ht:Nat.blt t n=true) (h:UQ P w0 n d ((t,undef)::R) H ops K rest):UQ P w0 n d R H ops K (o::rest):=fun a h1 h2 h3 =>
 wpQuiet_step fun K' hK=>by
  rw [zEw h3 hw,hd]
  simp only [Bool.false_eq_true,if_false]
  exact hK _ (h _ (by simp [Act.put,h1]) h2 (zE8 h1 h3 ht))
theorem zBP {T1 T2:TypeId} {c:BinOp} {k:IntKind} {i j:Int} (hop:o.op = .binOp c T1 x y T2) (hc:zF4 c=true) (hrd:rdy R ops n o=some t) (hx:evR R x=some (.int k i)) (hy:evR R y=some (.int k j))
  (h1:cmpP c i j→UQ P w0 n d ((t,.bool true)::R) H ops K rest) (h2:¬ cmpP c i j→UQ P w0 n d ((t,.bool false)::R) H ops K rest):UQ P w0 n d R H ops K (o::rest):=by
 by_cases hp:cmpP c i j
 ·exact zA (fun a w q=>zFq hc hop (q.ev hx) (q.ev hy) hp) hrd (h1 hp)
 ·exact zA (fun a w q=>zFr hc hop (q.ev hx) (q.ev hy) hp) hrd (h2 hp)
theorem zAk {f:FuncId} {fx:Operand} {xs:Array Operand} {ts:Array TypeId} {vs:List Value} {cap:Array Value} (hop:o.op = .call ⟨.value fx,xs,ts⟩) (hrd:rdy R ops n o=some t) (hf:evR R fx=some (.func (.func f) #[] cap)) (hx:evs R xs.toList=some vs) [ci:zi P f]
  (hc:∀ a w,Kn w0 n d R H a w→Gv P f (vs++cap.toList) w v) (h:UQ P w0 n d ((t,v)::R) H ops K rest):UQ P w0 n d R H ops K (o::rest):=fun a h1 h2 h3 =>
 wpQuiet_step fun K' hK=>by
  rw [zEw h3 (rW hrd),if_pos rfl]
  refine ⟨v,fun w hC=>?_,?_⟩
  ·have q:Kn w0 n d R H a w:=⟨h1,h2,h3,hC.1,hC.2⟩
   unfold Oper.quietAt execOp;rw [hop]
   have e1:xs.map a.eval=vs.toArray:=by apply Array.ext';simpa using q.evs hx
   have e2:vs.toArray++cap=(vs++cap.toList).toArray:=by apply Array.ext';simp
   simp only [resolve,q.ev hf,e1,Deferred.ofValue,Sem.run_bind,Sem.run_pure,Result.andThen_ok,invoke,Array.empty_append,e2,ci.ent]
   refine ⟨rfl,Calls.mono (hc a w q).ret.calls ?_⟩
   rintro e w' ⟨_,_,rfl,hb,_⟩
   exact ⟨rfl,q.below.trans (hb.mono q.base),q.own.below hb⟩
  ·rw [(rD hrd)]
   exact hK _ (h _ (by simp [Act.put,h1]) h2 (zE8 h1 h3 (rT hrd)))
theorem zAq (h:UQ P w0 n d R H ops K (o::rest)):UQ P w0 n d R H ops K (o::rest):=h
end
end Go.Proofs.YtcpdjamlhhfbhaaGreat
namespace Go.Proofs.YtcpdjamlhhfbhaaGreat
open Go.RowKit
set_option maxRecDepth 20000
attribute [local go_sem] Oper.semAt_some
end Go.Proofs.YtcpdjamlhhfbhaaGreat
namespace Go.Proofs.YtcpdjamlhhfbhaaGreat
open Go.RowKit
set_option maxRecDepth 20000
attribute [local go_sem] Oper.semAt_some
def Gets {α:Type} (base:Nat) (enc:α→List Value) (k:Nat) (w:World) (v:Value) (xs:List α):Prop:=∃ A c,v = .slice A xs.length c∧zAB enc k w A xs∧∀ b o,A=some ⟨b,o,none⟩→base≤b∧b<w.heap.size
theorem Gets.nil {α:Type} {base:Nat} {enc:α→List Value} {k:Nat} {w:World}:Gets base enc k w (.slice none 0 0) ([]:List α):=⟨none,0,rfl,zAB.nil,by simp⟩
end Go.Proofs.YtcpdjamlhhfbhaaGreat
namespace Go.Proofs.YtcpdjamlhhfbhaaGreat
open Go.RowKit
set_option linter.unnecessarySimpa false
set_option maxRecDepth 20000
attribute [local go_sem] Oper.semAt_some
end Go.Proofs.YtcpdjamlhhfbhaaGreat
namespace Go.Proofs.YtcpdjamlhhfbhaaGreat
open Go.RowKit
theorem zGV {α:Type} {a b:List α} {i:Nat} (h:a.take i=b.take i) (hl:a.length=b.length) (hi:a.length≤i):a=b:=by
 rwa [List.take_of_length_le hi,List.take_of_length_le (by omega)] at h
theorem zGU {α:Type} {a b:List α} {i:Nat} (h:a.take i=b.take i) (ha:i<a.length) (hb:i<b.length) (he:a[i]=b[i]):a.take (i+1)=b.take (i+1):=by
 rw [List.take_succ_eq_append_getElem ha,List.take_succ_eq_append_getElem hb,h,he]
theorem zFb {α:Type} {a b:List α} {i:Nat} (ha:i<a.length) (hb:i<b.length) (he:a[i]≠b[i]):a≠b:=by
 rintro rfl;exact he rfl
set_option maxHeartbeats 1000000 in
theorem zHi (a b:List Sp) (A B:Option Addr) (c d:Nat) (w:World) (ha:zAB zo 2 w A a) (hb:zAB zo 2 w B b) (hla:a.length≤1000000) (hlb:b.length≤1000000) :
  zAs 35 #[.slice A a.length c,.slice B b.length d] w (.bool (decide (a=b))):=by
 unfold zAs
 have HA:=Lib.hid ha
 have HB:=Lib.hid hb
 clear ha hb
 by_cases hl:a.length=b.length
 ·have hL:=Lib.hid hl
  have hlt0:b.length≤a.length:=by omega
  have hlt1:a.length≤b.length:=by omega
  clear hl
  go_enter Tryz.func35,Tryz.ntmps35
  go_wp2
  go_loopw [5] (fun v wr=>∃ i:Nat,i≤a.length∧v = .int .i64 i∧Below w.heap.size w wr∧Hid (a.take i=b.take i)) (fun v _=>a.length - (intOf v).toNat)
  case atStart=>exact ⟨0,Nat.zero_le _,rfl,Below.refl _ _,by unfold Hid;simp⟩
  case round =>
   obtain ⟨i,hi,rfl,hBw,hF⟩:=hrel
   by_cases hlt:i<a.length
   ·have hltb:i<b.length:=by omega
    obtain ⟨b1,o1,rfl,hb1,hc1⟩:=(HA.out.below hBw).at_ hlt
    obtain ⟨b2,o2,rfl,hb2,hc2⟩:=(HB.out.below hBw).at_ hltb
    have c1:=hc1 0 _ rfl
    have c2:=hc1 1 _ rfl
    have c3:=hc2 0 _ rfl
    have c4:=hc2 1 _ rfl
    simp only [Nat.add_zero] at c1 c3
    clear hc1 hc2
    have hi0:(0:Int)≤i:=by omega
    have hi1:(i:Int)<a.length:=by omega
    have hi2:(i:Int)<b.length:=by omega
    by_cases he:a[i]=b[i]
    ·have hq:zCo ⟨a[i].lo,a[i].hi⟩ ⟨b[i].lo,b[i].hi⟩=true:=by unfold zCo;exact decide_eq_true he
     have HE:=Lib.hid he
     clear he
     go_wp2_with fail
     go_quiet (fail)
     go_wp2
     go_roundw
     case rel=>exact ⟨i+1,by omega,by go_num,below_drewN hBw _,zGU hF.out hlt hltb HE.out⟩
     case measure=>simp [intOf];omega
    ·have hq:zCo ⟨a[i].lo,a[i].hi⟩ ⟨b[i].lo,b[i].hi⟩=false:=by unfold zCo;exact decide_eq_false he
     have HE:=Lib.hid he
     clear he
     go_wp2_with fail
     go_quiet (fail)
     go_wp2
     go_ret
     exact ⟨zBA (by simp [zFb hlt hltb HE.out]),below_drewN hBw _⟩
   ·go_wp2
    go_ret
    exact ⟨zBA (by rw [zGV hF.out hL.out (by omega)];simp),hBw⟩
 ·go_enter Tryz.func35,Tryz.ntmps35
  go_wp2
  go_ret
  exact ⟨zBA (by simp;rintro rfl;exact hl rfl),Below.refl _ _⟩
end Go.Proofs.YtcpdjamlhhfbhaaGreat
namespace Go.Proofs.YtcpdjamlhhfbhaaGreat
open Go.RowKit
set_option maxRecDepth 20000
theorem great_n (A:Option Addr) (n c:Nat) (w:World):Gv Tryz.prog 6 [.agg #[.slice A n c]] w (.bool (decide (20<n))):=(zIs A n c w).gv
end Go.Proofs.YtcpdjamlhhfbhaaGreat
namespace Go.Proofs.YtcpdjamlhhfbhaaGreat
variable {ro : Option Nat}
open Go.RowKit
set_option maxRecDepth 20000
def Wit.off (x:Wit):Nat:=match x.A with|some a=>a.off|none=>0
end Go.Proofs.YtcpdjamlhhfbhaaGreat
namespace Go.Proofs.YtcpdjamlhhfbhaaGreat
variable {ro : Option Nat}
open Go.RowKit
set_option maxRecDepth 20000
def zGg (s:Spot):List Value:=[.int .i64 s.st,.int .i64 s.off.lo,.int .i64 s.off.hi]
theorem one_spot (x:Spot):∀ u∈zGg x,u.oneCell'=true:=by simp [zGg,Value.oneCell']
instance : zBX zGg 3:=⟨fun _=>rfl,one_spot⟩
end Go.Proofs.YtcpdjamlhhfbhaaGreat
namespace Go.Proofs.YtcpdjamlhhfbhaaGreat
open Go.ChangeShapes Go.WideShapes Go.ChangeAt Go.RowKit
section
variable {H : Type} {enc:TypeId × Value→H} {w:World} {sp:Nat→Bool} {held:Bool} {n:Nat} {cs:List Value} {x:DataW H × List MemPlace}
theorem fitT_of {t:List St} (h:∀ s∈t,FitSt s):FitT t:=fun s hs=>(h s hs).2.2.2.2.1
end
end Go.Proofs.YtcpdjamlhhfbhaaGreat
