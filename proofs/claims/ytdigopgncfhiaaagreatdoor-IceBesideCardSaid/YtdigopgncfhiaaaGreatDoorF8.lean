/- F8 -/
import Derived.Test.YtdigopgncfhiaaaGreatDoorF7
import Derived.Test.YtdigopgncfhiaaaGreatDoorF1
import Derived.Test.YtdigopgncfhiaaaGreatDoorF2
import Derived.Test.YtdigopgncfhiaaaGreatDoorF6
set_option linter.unusedSimpArgs false
set_option linter.unusedVariables false
namespace Go.Proofs.YtdigopgncfhiaaaGreatDoor
open Go.RowKit
set_option maxRecDepth 20000
theorem in1 (lo hi a:Int) (c:Nat) (A:Option Addr) (w:World) (hk:zq encI 1 w A [a]):Gv Tryz.prog 84 [.int .i64 lo,.int .i64 hi,.slice A 1 c] w (.bool (inB lo hi a)) :=
 ((zMD lo hi [a] c A w (by simp) hk).of (by simp)).gv
instance : zBw encI 1:=⟨fun _=>rfl,fun _=>one_i⟩
end Go.Proofs.YtdigopgncfhiaaaGreatDoor
namespace Go.Proofs.YtdigopgncfhiaaaGreatDoor
open Go.RowKit
set_option maxRecDepth 20000
instance : zBw zAS 9:=⟨fun _=>rfl,one_st⟩
instance : zBw encMe 5:=⟨fun _=>rfl,one_me⟩
instance : ElI Tryz.prog 38 3 1 8:=⟨⟨_,elem_i⟩⟩
instance : ElI Tryz.prog 139 28 2 16:=⟨⟨_,zM3⟩⟩
instance : zBw zAz 2:=⟨fun _=>rfl,fun _=>one_sp⟩
end Go.Proofs.YtdigopgncfhiaaaGreatDoor
namespace Go.Proofs.YtdigopgncfhiaaaGreatDoor
open Go.RowKit
set_option maxRecDepth 20000
set_option maxHeartbeats 2000000 in
theorem pickSp (l:List Sp) (A:Option Addr) (cap:Nat) (kf:FuncId) [zU Tryz.prog kf] (cs:Array Value) (p:Nat→Sp→Bool) (w:World) (hk:zq zAz 2 w A l) (hl:l.length≤100000)
  (hp:∀ (i:Nat) x W,l[i]?=some x→Below w.heap.size w W→Gv Tryz.prog kf ([.int .i64 (i:Int),vSp x]++cs.toList) W (.bool (p i x))) :
  zCB encI 1 (picks p l) (fun v=>v) Tryz.prog 85 [.slice A l.length cap,.func (.func kf) #[] cs] w:=by
 unfold zCB
 (refine zJ (n:=25) Tryz.func85 rfl rfl rfl ?_)
 (repeat' (first|((with_reducible refine zF ?_);first|refine zE rfl rfl rfl ?_|refine zC rfl rfl rfl ?_|refine zo rfl rfl rfl ?_)|(with_reducible first|refine zH ?_|refine zB ?_|refine zD ?_|refine zA ?_|refine zP ?_)))
 refine zDr encI 1 3 ?_
 refine zJn (ι:=Nat × Value) (fun i=>i.1≤l.length) (fun i=>[(1,.func (.func kf) #[] cs),(5,i.2),(8,.slice A l.length cap),(9,.int .i64 (l.length:Int)),(10,.int .i64 (i.1:Int))]) (fun i=>[.row encI 1 3 i.2 (zCU p l i.1)]) (fun i=>l.length - i.1) (0,.slice none 0 0) (Nat.zero_le _) (by (repeat first|exact lK1|refine zL rfl ?_)) (by (repeat constructor)) ?_
 rintro ⟨i,v⟩ hi
 simp only at hi ⊢
 have hpl:=zKo p l i
 by_cases hlt:i<l.length
 ·have hx:l[i]?=some l[i]:=by simp [hlt]
  obtain ⟨b,o,rfl,hblt,hc⟩:=hk.at_ hlt
  have:InS w b o zAz 2 l:=⟨hk⟩
  have:zAT l i l[i]:=⟨hx⟩
  have hso:soAt p l i=p i l[i]:=by simp [soAt,hlt]
  (repeat' (first|((with_reducible refine zF ?_);first|refine zE rfl rfl rfl ?_|refine zC rfl rfl rfl ?_|(refine zK rfl rfl rfl ?_;refine ⟨_,rfl,?_⟩)|(refine zQ rfl rfl rfl rfl rfl (fun h=>?_) (fun h=>?_)<;>(dsimp only [cmpP] at h;(try (exfalso;omega))))|(refine zAI rfl rfl rfl rfl (fun _ _ q=>hp i _ _ hx q.below) (fun h=>?_) (fun h=>?_)<;>(try (exfalso;omega)))|(refine zAn (enc:=encI) [_] rfl rfl rfl (by (repeat constructor)) rfl rfl (zAY (by exact rfl)) (by refine ⟨?_,by decide⟩;(try simp only [List.length_append,List.length_cons,List.length_nil]);omega) (fun A' c'=>?_))|refine zh rfl rfl rfl rfl (by omega) ?_|refine zl rfl rfl rfl rfl rfl (by omega) ?_|(refine zb rfl rfl rfl rfl rfl ?_;refine ⟨rfl,by first|decide|exact Nat.le_of_ble_eq_true rfl|(simp;omega),_,rfl,?_⟩)|(refine zj rfl rfl (fun b=>?_))|(refine zY rfl rfl rfl ?_;refine ⟨rfl,_,rfl,fun b=>?_⟩))|(with_reducible first|refine zH ?_|refine zB ?_|refine zD ?_|refine zA ?_|refine zT ?_|refine zP ?_|refine zg ?_)|((with_reducible refine zI ?_ ?_);(· exact rfl))|((with_reducible refine zG ?_ ?_);(· exact rfl))))
  ·refine zf (i+1,.slice A' (zCU p l i++[(i:Int)]).length c') (by simp only;omega) (by simp only;omega) (by (repeat first|exact lK1|refine zL rfl ?_)) ?_
   rw [zKn (hso.trans h)]
   (repeat constructor)
  ·refine zf (i+1,v) (by simp only;omega) (by simp only;omega) (by (repeat first|exact lK1|refine zL rfl ?_)) ?_
   rw [zLw (hso.trans h)]
   (repeat constructor)
 ·obtain rfl:i=l.length:=by omega
  (repeat' (first|((with_reducible refine zF ?_);first|refine zE rfl rfl rfl ?_|refine zC rfl rfl rfl ?_|(refine zQ rfl rfl rfl rfl rfl (fun h=>?_) (fun h=>?_)<;>(dsimp only [cmpP] at h;(try (exfalso;omega)))))|(with_reducible first|refine zH ?_|refine zB ?_|refine zD ?_|refine zA ?_|refine zX ?_|refine zk ?_|refine zR ?_|refine zW ?_)|((with_reducible refine zG ?_ ?_);(· exact rfl))))
  refine zEL (enc:=encI) (by (repeat constructor)) ?_
  rintro A' c' rfl
  exact zS (by exact rTm rfl) (A',c') trivial rfl (fun _ h=>(h.zER (by (repeat constructor))).sub (by (repeat constructor)))
end Go.Proofs.YtdigopgncfhiaaaGreatDoor
namespace Go.Proofs.YtdigopgncfhiaaaGreatDoor
open Go.RowKit
set_option maxHeartbeats 8000000 in
theorem zNN (t : List St) (A : Option Addr) (cap : Nat) (w : World) (ht : zq zAS 9 w A t) (hf : zEe t) (hl : t.length ≤ 1000000) :
    zAb 90 #[vT A t.length cap] w (.bool (valid t)):=by
  unfold zAb vT
  have HT:=Lib.hid ht
  clear ht
  cases h1:inB 1 12 t.length
  · have H1:=Lib.hid h1
    clear h1
    go_enter Tryz.func90,Tryz.ntmps90
    go_wp2_with fail
    refine (zC9 _ _ _ _).mono ?_
    rintro e w1 ⟨rfl,hb1⟩
    rw [H1.out]
    go_wp2
    go_ret
    exact ⟨zBT (by simp [valid,H1.out]),zAV (zy w _) hb1⟩
  · have H1:=Lib.hid h1
    clear h1
    go_enter Tryz.func90,Tryz.ntmps90
    go_wp2_with fail
    refine (zC9 _ _ _ _).mono ?_
    rintro e w1 ⟨rfl,hb1⟩
    rw [H1.out]
    have hB1:Below w.heap.size w w1:=zAV (zy w _) hb1
    have kt:=(Blk.new w _ _).past hb1
    clear hb1
    go_wp2
    go_loopw [3] (fun v3 wr=>∃ (i:Nat) (last:Int),i≤t.length∧-1≤last∧last≤9999∧v3 = .int .i64 i∧Blk wr w.heap.size #[.slice A t.length cap]∧Below w.heap.size w wr∧Hid (okFrom (-1) t=okFrom last (t.drop i))∧Hid (last=if i=0 then -1 else (t.getD (i - 1) default).id)) (fun v _=>t.length - (intOf v).toNat)
    case atStart=>exact ⟨0,-1,Nat.zero_le _,by omega,by omega,rfl,kt,hB1,by unfold Hid;simp,by unfold Hid;simp⟩
    case round =>
      obtain ⟨i,last,hi,hl0,hl1,rfl,hK,hB,hF,hL⟩:=hrel
      clear kt hB1
      obtain ⟨tc,tf,tl⟩:=hK.facts
      by_cases hlt:i<t.length
      · obtain ⟨b,o,rfl,hblt,hc⟩:=(HT.out.below hB).at_ hlt
        have hF':okFrom (-1) t=(zHo last t[i] && okFrom t[i].id (t.drop (i+1))):=by
          rw [hF.out,List.drop_eq_getElem_cons hlt];rfl
        have HF:=Lib.hid hF'
        clear hF' hF
        obtain ⟨hs0,hs1⟩:=hf t[i] (List.getElem_mem hlt)
        have hLn:t[i].id=(t.getD (i+1 - 1) default).id:=by simp [List.getElem?_eq_getElem hlt]
        have HLn:=Lib.hid hLn
        clear hLn
        have hp:0<i→wr.cell? ⟨b,o+(i - 1) * 9,none⟩=some (.int .i64 last):=by
          intro h0
          obtain ⟨b',o',hA,hb',hc'⟩:=(HT.out.below hB).at_ (i:=i - 1) (by omega)
          cases hA
          have:=hc' 0 _ rfl
          rw [hL.out,if_neg (by omega)]
          simpa [List.getElem?_eq_getElem (show i - 1<t.length by omega)] using this
        generalize t[i]=s at hc HF hs0 hs1 HLn
        obtain ⟨id,⟨la,lb⟩,⟨fa,fb⟩,⟨ra,rb⟩,sd,wl⟩:=s
        simp only at hs0 hs1
        have c0:=hc 0 _ rfl
        have c1:=hc 1 _ rfl
        have c2:=hc 2 _ rfl
        have c3:=hc 3 _ rfl
        have c4:=hc 4 _ rfl
        have c5:=hc 5 _ rfl
        have c6:=hc 6 _ rfl
        have c7:=hc 7 _ rfl
        have c8:=hc 8 _ rfl
        simp only [Nat.add_zero] at c0
        clear hc
        have hi0:(0:Int)≤i:=by omega
        have hi1:(i:Int)<t.length:=by omega
        have hgt:(0<i→(i:Int) > 0)∧(¬ 0<i→¬ (i:Int) > 0):=by omega
        have hl3:¬ 0<i→last = -1:=by intro h;rw [hL.out,if_pos (by omega)]
        by_cases hz:0<i
        all_goals
          have hc9:=hp
          simp only [hz,forall_const,not_true,not_false_iff,false_implies,true_implies] at hc9 hgt hl3
          go_wp2_with fail
          refine zHY (by kernel_rfl) (by kernel_rfl) ?_
          repeat (any_goals (first
            | go_big_quiet_step ((first|(go_at_call 119;exact zFH (zC9 _ _ _ _))|(go_at_call 120;exact zFH (zHp ⟨_,_⟩ _ _ _))))
            | quiet_step ((first|(go_at_call 119;exact zFH (zC9 _ _ _ _))|(go_at_call 120;exact zFH (zHp ⟨_,_⟩ _ _ _))))
            | (refine wpQuiet_step (fun K hK=>?_);go_simp;split<;>(refine hK _ ?_;clear hK K))))
          all_goals
            refine grow_nil (fun w2 hg=>?_)
            have hB2:=zAV (zAO hB _) hg
            have kb:=(Blk.new _ _ _).past hg
            obtain ⟨kc,kf,kl⟩:=kb.facts
            have hK2:=(hK.alloc (.cells #[.int .i64 id,.int .i64 la,.int .i64 lb,.int .i64 fa,.int .i64 fb,.int .i64 ra,.int .i64 rb,.int .u8 sd,.int .i64 wl] 86)).past hg
            obtain ⟨qc,qf,ql⟩:=hK2.facts
            clear hg
            go_wp2_with (go_at_call 120;refine (zHp ⟨_,_⟩ _ _ _).mono ?_;rintro e wn ⟨rfl,hbn⟩;replace hB2:=zAV hB2 hbn;replace kb:=kb.past hbn;replace hK2:=hK2.past hbn;obtain ⟨kc,kf,kl⟩:=kb.facts;obtain ⟨qc,qf,ql⟩:=hK2.facts;clear hbn)
        all_goals
          have hOk:=HF.out
          have hId:=HLn.out
          clear HF HLn
          first
          | (go_ret
             refine ⟨zBT ?_,hB2⟩
             go_light
             have e:zHo last ⟨id,⟨la,lb⟩,⟨fa,fb⟩,⟨ra,rb⟩,sd,wl⟩=false:=by
               rw [Bool.eq_false_iff]
               intro hst
               simp only [zHo,Bool.and_eq_true,Bool.or_eq_true,zAC,zJ7,zBD,zJM,zGJ,decide_eq_true_eq,Bool.not_eq_true',Bool.not_eq_false',Bool.not_eq_true,beq_iff_eq,beq_eq_false_iff_ne,bne_iff_ne,bne_eq_false_iff_eq,ne_eq] at *
               omega
             simp [valid,hOk,e])
          | (go_light
             have e:zHo last ⟨id,⟨la,lb⟩,⟨fa,fb⟩,⟨ra,rb⟩,sd,wl⟩=true∧id≤9999∧-1≤id:=by
               simp only [zHo,Bool.and_eq_true,Bool.or_eq_true,zAC,zJ7,zBD,zJM,zGJ,decide_eq_true_eq,Bool.not_eq_true',Bool.not_eq_false',Bool.not_eq_true,beq_iff_eq,beq_eq_false_iff_ne,bne_iff_ne,bne_eq_false_iff_eq,ne_eq] at *
               omega
             refine ⟨⟨i+1,id,by omega,by omega,by omega,by go_num,hK2,hB2,?_,?_⟩,by simp [intOf];omega⟩
             · unfold Hid;simp [hOk,e.1]
             · unfold Hid;simpa using hId)
      · go_wp2
        go_ret
        refine ⟨zBT ?_,hB⟩
        simp [valid,H1.out,hF.out,List.drop_eq_nil_of_le (Nat.le_of_not_lt hlt),okFrom]
theorem zLt (t:List St) (A:Option Addr) (cap:Nat) (w:World) (ht:zq zAS 9 w A t) (hf:zEe t) (hl:t.length≤1000000) :
  zAb 49 #[vT A t.length cap] w (.int .i64 (if valid t then 0 else 10)):=by
 unfold zAb vT
 have H:=Lib.hid (zNN t A cap (w.alloc (.cells #[.slice A t.length cap] 24)) (ht.alloc _) hf hl)
 clear ht
 cases h:valid t
 all_goals
  have hv:=Lib.hid h
  clear h
  go_enter Tryz.func49,Tryz.ntmps49
  go_wp2_with fail
  refine H.out.mono ?_
  rintro e w1 ⟨rfl,hb1⟩
  rw [hv.out]
  go_wp2
  go_ret
  exact ⟨zBT (by simp),zAV (zy w _) hb1⟩
end Go.Proofs.YtdigopgncfhiaaaGreatDoor
namespace Go.Proofs.YtdigopgncfhiaaaGreatDoor
open Go.RowKit
set_option maxHeartbeats 4000000 in
theorem zJc (t : List St) (A : Option Addr) (cap : Nat) (w : World) (ht : zq zAS 9 w A t) (hf : zEe t) (hl : t.length ≤ 1000000) :
    zAb 91 #[vT A t.length cap] w (.int .i64 (if valid t then 0 else 10)):=by
  unfold zAb vT
  have HT:=Lib.hid ht
  clear ht
  cases h1:inB 1 12 t.length
  · have H1:=Lib.hid h1
    clear h1
    go_enter Tryz.func91,Tryz.ntmps91
    go_wp2
    go_step3
    go_wp2_with fail
    refine (zMC 1 12 t.length _ _ _ _ (by simp)).mono ?_
    rintro e w1 ⟨rfl,hb1⟩
    rw [H1.out]
    go_wp2
    rw [Exit.noGoto_ret]
    go_ret
    refine ⟨zBT (by simp [valid,H1.out]),?_⟩
    exact (zy w _).trans (((zy _ _).trans (hb1.mono (by simp<;>omega))).mono (by simp))
  · have H1:=Lib.hid h1
    clear h1
    go_enter Tryz.func91,Tryz.ntmps91
    go_wp2
    go_step3
    go_wp2_with fail
    refine (zMC 1 12 t.length _ _ _ _ (by simp)).mono ?_
    rintro e w1 ⟨rfl,hb1⟩
    rw [H1.out]
    have hB1:Below w.heap.size w w1:=(zy w _).trans (((zy _ _).trans (hb1.mono (by simp<;>omega))).mono (by simp))
    have hcell:w1.cell? ⟨w.heap.size,0,none⟩=some (.slice A t.length cap):=by rw [hb1.cell (by simp<;>omega)];simp
    clear hb1
    go_wp2
    go_step3
    go_wp2
    go_loopw [3,4,18] (fun v3 v4 v18 wr=>∃ (i:Nat) (last:Int),i≤t.length∧-1≤last∧last≤9999∧v18 = .int .i64 i∧v3 = .int .i64 last∧v4 = .int .i64 0∧Below w.heap.size w wr∧Hid (okFrom (-1) t=okFrom last (t.drop i))) (fun _ _ v _=>t.length - (intOf v).toNat)
    case atStart=>exact ⟨0,-1,Nat.zero_le _,by omega,by omega,rfl,rfl,rfl,hB1,by unfold Hid;simp⟩
    case round =>
      obtain ⟨i,last,hi,hl0,hl1,rfl,rfl,rfl,hB,hF⟩:=hrel
      clear hcell hB1
      by_cases hlt:i<t.length
      · obtain ⟨b,o,rfl,hblt,hc⟩:=(HT.out.below hB).at_ hlt
        have hF':okFrom (-1) t=(zHo last t[i] && okFrom t[i].id (t.drop (i+1))):=by
          rw [hF.out,List.drop_eq_getElem_cons hlt];rfl
        have HF:=Lib.hid hF'
        clear hF' hF
        obtain ⟨hs0,hs1⟩:=hf t[i] (List.getElem_mem hlt)
        generalize t[i]=s at hc HF hs0 hs1
        obtain ⟨id,⟨la,lb⟩,⟨fa,fb⟩,⟨ra,rb⟩,sd,wl⟩:=s
        simp only at hs0 hs1
        have c0:=hc 0 _ rfl
        have c1:=hc 1 _ rfl
        have c2:=hc 2 _ rfl
        have c3:=hc 3 _ rfl
        have c4:=hc 4 _ rfl
        have c5:=hc 5 _ rfl
        have c6:=hc 6 _ rfl
        have c7:=hc 7 _ rfl
        have c8:=hc 8 _ rfl
        simp only [Nat.add_zero] at c0
        clear hc
        have hi0:(0:Int)≤i:=by omega
        have hi1:(i:Int)<t.length:=by omega
        go_wp2_with (first
          | (go_at_call 84;refine (zMC _ _ _ _ _ _ _ (by simp)).mono ?_;rintro e wn ⟨rfl,hbn⟩;(first|(replace hB:=zAV (zAO hB _) hbn;replace kb:=(kb.alloc _).past hbn)|(replace hB:=zAV (zAO (zAO hB _) _) hbn;have kb:=((Blk.new _ _ _).alloc _).past hbn));obtain ⟨kc,kf,kl⟩:=kb.facts;clear hbn)
          | (go_at_call 121;refine (zNn ⟨_,_⟩ _ _ _).mono ?_;rintro e wn ⟨rfl,hbn⟩;replace hB:=zAV hB hbn;replace kb:=kb.past hbn;obtain ⟨kc,kf,kl⟩:=kb.facts;clear hbn))
        all_goals first
          | (rw [Exit.noGoto_ret]
             go_ret
             refine ⟨zBT ?_,hB⟩
             go_light
             try simp only [Bool.not_eq_true',Bool.not_eq_false'] at *
             have e:okFrom (-1) t=false:=by rw [HF.out];simp [zHo, *]
             simp [valid,e])
          | (go_light
             try simp only [Bool.not_eq_true',Bool.not_eq_false'] at *
             have h:=‹inB (last+1) 9999 id=true›
             rw [zAC] at h
             refine ⟨⟨i+1,id,by omega,by omega,by omega,by go_num,by first|rfl|trivial,by first|rfl|trivial,hB,?_⟩,by simp [intOf];omega⟩
             unfold Hid
             rw [HF.out]
             simp [zHo, *])
      · go_wp2
        rw [Exit.noGoto_ret]
        go_ret
        refine ⟨zBT ?_,hB⟩
        simp [valid,H1.out,hF.out,List.drop_eq_nil_of_le (Nat.le_of_not_lt hlt),okFrom]
end Go.Proofs.YtdigopgncfhiaaaGreatDoor
namespace Go.Proofs.YtdigopgncfhiaaaGreatDoor
open Go.RowKit
set_option maxRecDepth 20000
theorem load_v {w:World} {g:Nat} {x:Value} (hk:Blk w g #[x]):(loadVar 149 ⟨g,0,none⟩).run Tryz.prog w = .ok (.agg #[x]) w:=by
 have h0:=hk.cell 0
 simp at h0
 simp [go_sem,h0]
theorem zLr {fn:Func} {t s:Tmp} {tmps:Array Value} {w:World} {g:Nat} {x:Value} (hr:fn.results=#[.cell t 149,.tmp s]) (hp:tmps.getD t undef = .pointer (some ⟨g,0,none⟩)) (hk:Blk w g #[x]) :
  (results fn tmps).run Tryz.prog w = .ok (.tuple #[.agg #[x],tmps.getD s undef]) w:=by
 simp [results,hr,-Array.getD_eq_getD_getElem?,hp,asAddr,load_v hk]
def zDL (t:List St):Int:=if valid t then 0 else 10
set_option maxHeartbeats 2000000 in
theorem zKw (t:List St) (A:Option Addr) (cap:Nat) (w:World) (ht:zq zAS 9 w A t) (hf:zEe t) (hl:t.length≤1000000) :
  zAb 93 #[vT A t.length cap] w (.tuple #[vT A t.length cap,.int .i64 (zDL t)]):=by
 unfold zAb vT
 have HT:=Lib.hid ht
 clear ht
 go_enter Tryz.func93,Tryz.ntmps93
 go_wp2
 have hc:∀ W:World,Below w.heap.size w W→zAb 91 #[.agg #[.slice A t.length cap]] W (.int .i64 (zDL t)):=by
  intro W hW
  exact zJc t A cap W (HT.out.below hW) hf hl
 have HC:=Lib.hid hc
 clear hc
 generalize hW0:(w.alloc (.cells #[.slice A t.length cap] 24)).alloc (.cells #[.slice none 0 0] 149)=W0
 have b1:Blk W0 w.heap.size #[.slice A t.length cap]:=by rw [← hW0];(refine zBN ?_;repeat (first|(with_reducible refine zN.zBL (by first|(simp;done)|(simp;omega)|omega) ?_;(first|rfl|(simp;done)))|(with_reducible refine zN.alloc ?_ _)|(with_reducible refine zN.far ?_ _ (by first|(simp;done)|(simp;omega)|omega))|(with_reducible refine zN.zA7 ?_ (by first|(simp;done)|(simp;omega)|omega))|(with_reducible refine zN.drew ?_)|(with_reducible refine zN.drewN ?_ _)|(refine zN.leaf (by assumption) ?_;(first|rfl|(simp;done)))))
 have b2:Blk W0 (w.heap.size+1) #[.slice none 0 0]:=by rw [← hW0];(refine zBN ?_;repeat (first|(with_reducible refine zN.zBL (by first|(simp;done)|(simp;omega)|omega) ?_;(first|rfl|(simp;done)))|(with_reducible refine zN.alloc ?_ _)|(with_reducible refine zN.far ?_ _ (by first|(simp;done)|(simp;omega)|omega))|(with_reducible refine zN.zA7 ?_ (by first|(simp;done)|(simp;omega)|omega))|(with_reducible refine zN.drew ?_)|(with_reducible refine zN.drewN ?_ _)|(refine zN.leaf (by assumption) ?_;(first|rfl|(simp;done)))))
 have hB:Below w.heap.size w W0:=by rw [← hW0];(repeat (first|(with_reducible refine zAO ?_ _)|(with_reducible refine zAa ?_ (by first|(simp;done)|(simp;omega)|omega))|(with_reducible refine zA8 ?_)|(with_reducible refine below_drewN ?_ _)|(with_reducible assumption)|(with_reducible exact Below.refl _ _)))
 have hs:W0.heap.size=w.heap.size+2:=by rw [← hW0];simp
 clear hW0
 obtain ⟨c1,f1,l1⟩:=b1.facts
 refine zFO (fun b=>b=w.heap.size+1) (fun r=>[oA (w.heap.size+1) #[.slice none 0 0],vA 4 (.agg #[.slice A t.length cap]),vA 5 (.agg #[.slice A t.length cap]),vA 6 (.agg #[.slice A t.length cap]),vA 7 (.int .i64 (zDL t)),oA (w.heap.size+1) #[.slice A t.length cap],vA 3 (.int .i64 (zDL t))].getD r nA) [(4,[0])] 1 (fun _=>[w.heap.size+1]) 7 (by rfl) (by kernel_rfl) (by kernel_rfl) ?_ ?_ ?_ ?_ ?_ ?_
 ·intro r hr
  obtain rfl:r=0:=by omega
  exact zJF rfl b2
 ·intro r hr b hb
  simp at hb
  subst hb
  exact ⟨by omega,rfl⟩
 ·intros;omega
 ·(repeat (first|exact zBv.nil|(refine zBv.cons (zM9 (by rintro _ ⟨⟩<;>exact ⟨by decide,by kernel_rfl⟩)) ?_)))
 ·(refine (zAu.cons ?_ (zAu.cons ?_ (zAu.cons ?_ (zAu.cons ?_ (zAu.cons ?_ (zAu.cons ?_ zAu.nil)))))))
  all_goals (refine OpOk.of (fun a v S hs hC hr hav K hK=>?_);have cC:=hC.cells.1;have fC:=hC.cells.2;have HS:=Lib.hid hs;have HK:=Lib.hid hC)
  ·(have q1:=(hr 1 (by kernel_rfl));clear hr hav hs hC;simp [Array.getD_eq_getD_getElem?,vSp] at q1;go_simp);(refine hK _ _ (zA4 (zCR (zAX (by rw [HS.out];exact Nat.lt_of_sub_ne_zero (by simp))))))
  ·(have u1:=(hav 1 (by kernel_rfl));(try dsimp only at u1);replace u1:=zAc u1;clear hr hav hs hC;simp [Array.getD_eq_getD_getElem?,vSp] at u1;go_simp);(refine hK _ _ (zA4 (zCR (zAX (by rw [HS.out];exact Nat.lt_of_sub_ne_zero (by simp))))))
  ·(have q1:=(hr 1 (by kernel_rfl));clear hr hav hs hC;simp [Array.getD_eq_getD_getElem?,vSp] at q1;go_simp);(refine hK _ _ (zA4 (zCR (zAX (by rw [HS.out];exact Nat.lt_of_sub_ne_zero (by simp))))))
  ·have hb:=hB.trans (HK.out.below (n:=w.heap.size) (by intros;omega) (by omega))
   (have u3:=(hav 3 (by kernel_rfl));(try dsimp only at u3);replace u3:=zAc u3;clear hr hav hs hC;simp [Array.getD_eq_getD_getElem?,vSp] at u3;go_simp)
   go_at_call 91
   refine (HC.out _ hb).mono ?_
   rintro e w1 ⟨rfl,hb1⟩
   (refine hK _ _ (zNY (by assumption) (zCR (zAX (by rw [HS.out];exact Nat.lt_of_sub_ne_zero (by simp))))))
  ·(have h0:=hav 0 (by kernel_rfl);(try dsimp only at h0))
   obtain ⟨hS,hbl⟩:=zGl h0
   obtain ⟨k1,k2,k3⟩:=hbl.facts
   (have q2:=(hr 2 (by kernel_rfl));have u2:=(hav 2 (by kernel_rfl));(try dsimp only at u2);replace u2:=zAc u2;clear hr hav hs hC;simp [Array.getD_eq_getD_getElem?,vSp] at q2;simp [Array.getD_eq_getD_getElem?,vSp] at u2;go_simp)
   refine hK undef _ (zH3 0 (by kernel_rfl) rfl rfl rfl (by simp) ?_ (zJF hS ?_))
   ·intro b hb;rw [hS] at hb;exact Below.heap_setCell _ _ _ _ (by simpa using hb)
   ·(refine zBN ?_;repeat (first|(with_reducible refine zN.zBL (by first|(simp;done)|(simp;omega)|omega) ?_;(first|rfl|(simp;done)))|(with_reducible refine zN.alloc ?_ _)|(with_reducible refine zN.far ?_ _ (by first|(simp;done)|(simp;omega)|omega))|(with_reducible refine zN.zA7 ?_ (by first|(simp;done)|(simp;omega)|omega))|(with_reducible refine zN.drew ?_)|(with_reducible refine zN.drewN ?_ _)|(refine zN.leaf (by assumption) ?_;(first|rfl|(simp;done)))))
  ·(have u4:=(hav 4 (by kernel_rfl));(try dsimp only at u4);replace u4:=zAc u4;clear hr hav hs hC;simp [Array.getD_eq_getD_getElem?,vSp] at u4;go_simp);(refine hK _ _ (zA4 (zCR (zAX (by rw [HS.out];exact Nat.lt_of_sub_ne_zero (by simp))))))
 ·intro a v S hs hd hrest hC hav
  (have h5:=hav 5 (by kernel_rfl);(try dsimp only at h5))
  have hbl:=(zGl h5).2
  have hb:=hB.trans (hC.below (n:=w.heap.size) (by intros;omega) (by omega))
  (have u6:=hav 6 (by kernel_rfl);(try dsimp only at u6);replace u6:=zAc u6;have u4:=hav 4 (by kernel_rfl);(try dsimp only at u4);replace u4:=zAc u4;have u3:=hav 3 (by kernel_rfl);(try dsimp only at u3);replace u3:=zAc u3;have u2:=hav 2 (by kernel_rfl);(try dsimp only at u2);replace u2:=zAc u2;have u1:=hav 1 (by kernel_rfl);(try dsimp only at u1);replace u1:=zAc u1;have hfr:=zNB hs hd hrest _ (by kernel_rfl) (by simp) (zAp u1 (zAp u2 (zAp u3 (zAp u4 (zAp u6 wr_nil)))));simp only [List.foldl_cons,List.foldl_nil] at hfr;subst hfr)
  go_wp2
  refine bodyPost_ret (zLr (x:=.slice A t.length cap) rfl rfl ?_) rfl ⟨rfl,hb⟩
  exact hbl
end Go.Proofs.YtdigopgncfhiaaaGreatDoor
namespace Go.Proofs.YtdigopgncfhiaaaGreatDoor
variable {ro : Option Nat}
open Go.RowKit
set_option maxRecDepth 20000
theorem elem_st : zIe Tryz.prog 22 86 9 72 (.agg #[.int .i64 0,.int .i64 0,.int .i64 0,.int .i64 0,.int .i64 0,.int .i64 0,.int .i64 0,.int .u8 0,.int .i64 0]) :=
 ⟨by simp [go_sem],info_parts (by kernel_rfl),by rfl,by decide⟩
instance : ElI Tryz.prog 22 86 9 72:=⟨⟨_,elem_st⟩⟩
set_option maxHeartbeats 1000000 in
theorem twin_any (t:List St) (A:Option Addr) (cap:Nat) (w:World) (ht:zq zAS 9 w A t) (hl:t.length≤1000) :
  zCB zAS 9 t (fun v=>.agg #[v]) Tryz.prog 75 [vT A t.length cap] w:=by
 unfold zCB vT
 (refine zJ (n:=8) Tryz.func75 rfl rfl rfl ?_)
 (repeat' (first|((with_reducible refine zF ?_);first|(refine zK rfl rfl rfl ?_;refine ⟨_,rfl,?_⟩)|refine za rfl rfl rfl ?_|(refine zCe zAS rfl rfl (fun b=>?_))|(refine zAn (enc:=zAS) t rfl rfl rfl (by (repeat constructor)) rfl rfl (zEP ht) (by refine ⟨?_,by decide⟩;(try simp only [List.length_append,List.length_cons,List.length_nil]);omega) (fun A' c'=>?_))|(refine zb rfl rfl rfl rfl rfl ?_;refine ⟨rfl,by first|decide|exact Nat.le_of_ble_eq_true rfl|(simp;omega),_,rfl,?_⟩)|(refine zj rfl rfl (fun b=>?_))|(refine zu rfl rfl rfl rfl (fun b=>?_))|(refine zAl rfl rfl rfl ?_;refine ⟨_,rfl,?_⟩))|(with_reducible first|refine zH ?_|refine zB ?_|refine zD ?_|refine zA ?_|refine zX ?_)))
 refine zS (by (exact zi.cons (by exact res1c rfl (by exact rfl)) zi.nil)) (A',c') trivial rfl (fun _ h=>(h.zER (by (repeat constructor))).sub (by (repeat constructor)))
theorem zHW (t:List St) (A:Option Addr) (cap:Nat) (w:World) (ht:zq zAS 9 w A t) (hf:zEe t) (hl:t.length≤1000000):Gv Tryz.prog 91 [.agg #[.slice A t.length cap]] w (.int .i64 (zDL t)):=(zJc t A cap w ht hf hl).gv
theorem zKh (t:List St) (A:Option Addr) (cap:Nat) (w:World) (ht:zq zAS 9 w A t) (hf:zEe t) (hl:t.length≤1000000):Gv Tryz.prog 49 [.agg #[.slice A t.length cap]] w (.int .i64 (zDL t)):=(zLt t A cap w ht hf hl).gv
end Go.Proofs.YtdigopgncfhiaaaGreatDoor
namespace Go.Proofs.YtdigopgncfhiaaaGreatDoor
variable {ro : Option Nat}
open Go.RowKit
set_option maxRecDepth 20000
theorem zDK {t:List St} (h:valid t=true):zDL t=0:=by simp [zDL,h]
theorem zGI {t:List St} (h:valid t=false):zDL t=10:=by simp [zDL,h]
theorem zDi {α:Type} {enc:α→List Value} {k:Nat} {base:Nat} {w:World} {H:List Ent} (_:Own base w H):Own base w [.sl enc k none ([]:List α)]:=by
 refine ⟨fun e he=>?_,fun e he b hb=>?_,by simp⟩
 ·simp only [List.mem_singleton] at he
  subst he
  exact zq.nil
 ·simp only [List.mem_singleton] at he
  subst he
  obtain ⟨o,ho⟩:=hb
  cases ho
end Go.Proofs.YtdigopgncfhiaaaGreatDoor
namespace Go.Proofs.YtdigopgncfhiaaaGreatDoor
open Go.RowKit
set_option maxRecDepth 20000
structure Bed where
 thick:Sp
 sun:Int
deriving DecidableEq
structure Hour where
 melt:Sp
 runs:Int
 crew:Int
 cold:Bool
deriving DecidableEq
structure Cov where
 t:List St
 beds:List Bed
 hours:List Hour
 wear:Sp
 layer:Sp
 rate:Int
 limit:Int
 base:Int
instance : Inhabited Bed:=⟨⟨⟨0,0⟩,0⟩⟩
instance : Inhabited Hour:=⟨⟨⟨0,0⟩,0,0,false⟩⟩
def zAK (b:Bed):List Value:=[.int .i64 b.thick.lo,.int .i64 b.thick.hi,.int .i64 b.sun]
def zHc (b:Bed):Value:=.agg #[.int .i64 b.thick.lo,.int .i64 b.thick.hi,.int .i64 b.sun]
def zr (h:Hour):List Value:=[.int .i64 h.melt.lo,.int .i64 h.melt.hi,.int .i64 h.runs,.int .i64 h.crew,.bool h.cold]
def zDq (h:Hour):Value:=.agg #[.int .i64 h.melt.lo,.int .i64 h.melt.hi,.int .i64 h.runs,.int .i64 h.crew,.bool h.cold]
theorem one_bed (b:Bed):∀ v∈zAK b,v.oneCell'=true:=by intro v hv;simp [zAK] at hv;rcases hv with rfl|rfl|rfl<;>rfl
theorem one_hour (h:Hour):∀ v∈zr h,v.oneCell'=true:=by intro v hv;simp [zr] at hv;rcases hv with rfl|rfl|rfl|rfl|rfl<;>rfl
instance : zBw zAK 3:=⟨fun _=>rfl,one_bed⟩
instance : zBw zr 5:=⟨fun _=>rfl,one_hour⟩
theorem zD3 {α:Type} {p:α→Bool} {l:List α} {i:Nat} (h:i<l.length) (hp:p l[i]=true) (hb:∀ j y,j<i→l[j]?=some y→p y=false):zCa p l=i:=by
 have:l.findIdx? p=some i:=List.findIdx?_eq_some_iff_getElem.2 ⟨h,hp,fun j hj=>by
  have:=hb j l[j] hj (List.getElem?_eq_getElem (by omega))
  simp [this]⟩
 unfold zCa;rw [this]
theorem zDJ {α:Type} {p:α→Bool} {l:List α} (h:∀ y∈l,p y=false):zCa p l = -1:=by
 have:l.findIdx? p=none:=by rw [List.findIdx?_eq_none_iff];intro x hx;simp [h x hx]
 unfold zCa;rw [this]
set_option maxHeartbeats 1000000 in
theorem zIS (l:List Int) (A:Option Addr) (cap:Nat) (kf:FuncId) [zU Tryz.prog kf] (cs:Array Value) (p:Int→Bool) (w:World) (hk:zq encI 1 w A l) (hl:l.length≤1000000)
  (hp:∀ x W,x∈l→Below w.heap.size w W→Gv Tryz.prog kf ([.int .i64 x]++cs.toList) W (.bool (p x))) :
  Gv Tryz.prog 108 [.slice A l.length cap,.func (.func kf) #[] cs] w (.int .i64 (zCa p l)):=by
 unfold Gv
 (refine zJ (n:=19) Tryz.func108 rfl rfl rfl ?_)
 (repeat' (first|((with_reducible refine zF ?_);first|refine zE rfl rfl rfl ?_|refine zC rfl rfl rfl ?_|refine zo rfl rfl rfl ?_)|(with_reducible first|refine zH ?_|refine zB ?_|refine zD ?_|refine zA ?_|refine zP ?_)))
 refine zw (ι:=Nat) [0,1,7] rfl (fun i=>i≤l.length∧∀ j y,j<i→l[j]?=some y→p y=false) (fun i=>[(8,.int .i64 (i:Int))]) (fun _=>[]) (fun i=>l.length - i) 0 ⟨Nat.zero_le _,fun j y h=>by omega⟩ (by (repeat first|exact lK1|refine zL rfl ?_)) (by (repeat constructor)) ?_
 rintro i ⟨hi,hb⟩
 simp only [zAt,List.cons_append,List.nil_append]
 by_cases hlt:i<l.length
 ·have hx:l[i]?=some l[i]:=by simp [hlt]
  obtain ⟨b,o,rfl,hblt,hc⟩:=hk.at_ hlt
  have:InS w b o encI 1 l:=⟨hk⟩
  have:zAT l i l[i]:=⟨hx⟩
  (repeat' (first|((with_reducible refine zF ?_);first|refine zE rfl rfl rfl ?_|refine zC rfl rfl rfl ?_|(refine zK rfl rfl rfl ?_;refine ⟨_,rfl,?_⟩)|(refine zQ rfl rfl rfl rfl rfl (fun h=>?_) (fun h=>?_)<;>(dsimp only [cmpP] at h;(try (exfalso;omega))))|(refine zAI rfl rfl rfl rfl (fun _ _ q=>hp _ _ (List.getElem_mem hlt) q.below) (fun h=>?_) (fun h=>?_)<;>(try (exfalso;omega)))|refine zh rfl rfl rfl rfl (by omega) ?_|refine zl rfl rfl rfl rfl rfl (by omega) ?_)|(with_reducible first|refine zH ?_|refine zB ?_|refine zD ?_|refine zA ?_|refine zX ?_|refine zT ?_|refine zZ ?_|refine zP ?_|refine zg ?_|refine zAP ?_)|((with_reducible refine zI ?_ ?_);(· exact rfl))|((with_reducible refine zG ?_ ?_);(· exact rfl))))
  ·have e1:=zD3 hlt h hb
   exact zS (by exact rTm rfl) () trivial (by rw [e1];rfl) (fun _ h=>h.sub (by (repeat constructor)))
  ·refine zf (i+1) ⟨by omega,fun j y hj hy=>?_⟩ (by omega) (by (repeat first|exact lK1|refine zL rfl ?_)) (by (repeat constructor))
   by_cases e:j=i
   ·subst e;rw [hx] at hy;cases hy;exact h
   ·exact hb j y (by omega) hy
 ·obtain rfl:i=l.length:=by omega
  have e1:=zDJ (p:=p) (l:=l) (fun y hy=>by
   obtain ⟨j,hj⟩:=List.mem_iff_getElem?.1 hy
   exact hb j y (List.getElem?_eq_some_iff.1 hj).1 hj)
  (repeat' (first|((with_reducible refine zF ?_);first|refine zC rfl rfl rfl ?_|(refine zQ rfl rfl rfl rfl rfl (fun h=>?_) (fun h=>?_)<;>(dsimp only [cmpP] at h;(try (exfalso;omega)))))|(with_reducible first|refine zH ?_|refine zB ?_|refine zD ?_|refine zA ?_|refine zX ?_|refine zk ?_|refine zR ?_|refine zW ?_)|((with_reducible refine zG ?_ ?_);(· exact rfl))))
  exact zS (by exact rTm rfl) () trivial (by rw [e1];rfl) (fun _ h=>h.sub (by (repeat constructor)))
theorem ci_con (l:List Int) (A:Option Addr) (cap:Nat) (kf:FuncId) [zU Tryz.prog kf] (cs:Array Value) (p:Int→Bool) (w:World) (hk:zq encI 1 w A l) (hl:l.length≤1000000)
  (hp:∀ x W,x∈l→Below w.heap.size w W→Gv Tryz.prog kf ([.int .i64 x]++cs.toList) W (.bool (p x))) :
  Gv Tryz.prog 102 [.slice A l.length cap,.func (.func kf) #[] cs] w (.bool (l.any p)):=by
 unfold Gv
 have hf:=zD2 p l
 (refine zJ (n:=9) Tryz.func102 rfl rfl rfl ?_)
 (repeat' (first|((with_reducible refine zF ?_);first|refine zE rfl rfl rfl ?_|refine zC rfl rfl rfl ?_|(refine zQ rfl rfl rfl rfl rfl (fun h=>?_) (fun h=>?_)<;>(dsimp only [cmpP] at h;(try (exfalso;omega))))|refine zV rfl rfl rfl rfl (fun _ _ q=>zIS l A cap kf cs p _ (hk.below q.below) hl (fun x W hx hW=>hp x W hx (q.below.trans (hW.mono q.base)))) ?_)|(with_reducible first|refine zH ?_|refine zB ?_|refine zD ?_|refine zA ?_|refine zX ?_)))
 all_goals exact zS (by exact rTm rfl) () trivial (by simp only [resV];rw [← hf];simp;omega) (fun _ h=>h.sub (by (repeat constructor)))
set_option maxHeartbeats 1000000 in
theorem zMd (l:List Bed) (A:Option Addr) (cap:Nat) (kf:FuncId) [zU Tryz.prog kf] (cs:Array Value) (p:Bed→Bool) (w:World) (hk:zq zAK 3 w A l) (hl:l.length≤1000000)
  (hp:∀ x W,x∈l→Below w.heap.size w W→Gv Tryz.prog kf ([zHc x]++cs.toList) W (.bool (p x))) :
  Gv Tryz.prog 155 [.slice A l.length cap,.func (.func kf) #[] cs] w (.int .i64 (zCa p l)):=by
 unfold Gv
 (refine zJ (n:=19) Tryz.func155 rfl rfl rfl ?_)
 (repeat' (first|((with_reducible refine zF ?_);first|refine zE rfl rfl rfl ?_|refine zC rfl rfl rfl ?_|refine zo rfl rfl rfl ?_)|(with_reducible first|refine zH ?_|refine zB ?_|refine zD ?_|refine zA ?_|refine zP ?_)))
 refine zw (ι:=Nat) [0,1,7] rfl (fun i=>i≤l.length∧∀ j y,j<i→l[j]?=some y→p y=false) (fun i=>[(8,.int .i64 (i:Int))]) (fun _=>[]) (fun i=>l.length - i) 0 ⟨Nat.zero_le _,fun j y h=>by omega⟩ (by (repeat first|exact lK1|refine zL rfl ?_)) (by (repeat constructor)) ?_
 rintro i ⟨hi,hb⟩
 simp only [zAt,List.cons_append,List.nil_append]
 by_cases hlt:i<l.length
 ·have hx:l[i]?=some l[i]:=by simp [hlt]
  obtain ⟨b,o,rfl,hblt,hc⟩:=hk.at_ hlt
  have:InS w b o zAK 3 l:=⟨hk⟩
  have:zAT l i l[i]:=⟨hx⟩
  (repeat' (first|((with_reducible refine zF ?_);first|refine zE rfl rfl rfl ?_|refine zC rfl rfl rfl ?_|(refine zK rfl rfl rfl ?_;refine ⟨_,rfl,?_⟩)|(refine zQ rfl rfl rfl rfl rfl (fun h=>?_) (fun h=>?_)<;>(dsimp only [cmpP] at h;(try (exfalso;omega))))|(refine zAI rfl rfl rfl rfl (fun _ _ q=>hp _ _ (List.getElem_mem hlt) q.below) (fun h=>?_) (fun h=>?_)<;>(try (exfalso;omega)))|refine zh rfl rfl rfl rfl (by omega) ?_|refine zl rfl rfl rfl rfl rfl (by omega) ?_)|(with_reducible first|refine zH ?_|refine zB ?_|refine zD ?_|refine zA ?_|refine zX ?_|refine zT ?_|refine zZ ?_|refine zP ?_|refine zg ?_|refine zAP ?_)|((with_reducible refine zI ?_ ?_);(· exact rfl))|((with_reducible refine zG ?_ ?_);(· exact rfl))))
  ·have e1:=zD3 hlt h hb
   exact zS (by exact rTm rfl) () trivial (by rw [e1];rfl) (fun _ h=>h.sub (by (repeat constructor)))
  ·refine zf (i+1) ⟨by omega,fun j y hj hy=>?_⟩ (by omega) (by (repeat first|exact lK1|refine zL rfl ?_)) (by (repeat constructor))
   by_cases e:j=i
   ·subst e;rw [hx] at hy;cases hy;exact h
   ·exact hb j y (by omega) hy
 ·obtain rfl:i=l.length:=by omega
  have e1:=zDJ (p:=p) (l:=l) (fun y hy=>by
   obtain ⟨j,hj⟩:=List.mem_iff_getElem?.1 hy
   exact hb j y (List.getElem?_eq_some_iff.1 hj).1 hj)
  (repeat' (first|((with_reducible refine zF ?_);first|refine zC rfl rfl rfl ?_|(refine zQ rfl rfl rfl rfl rfl (fun h=>?_) (fun h=>?_)<;>(dsimp only [cmpP] at h;(try (exfalso;omega)))))|(with_reducible first|refine zH ?_|refine zB ?_|refine zD ?_|refine zA ?_|refine zX ?_|refine zk ?_|refine zR ?_|refine zW ?_)|((with_reducible refine zG ?_ ?_);(· exact rfl))))
  exact zS (by exact rTm rfl) () trivial (by rw [e1];rfl) (fun _ h=>h.sub (by (repeat constructor)))
theorem cb_con (l:List Bed) (A:Option Addr) (cap:Nat) (kf:FuncId) [zU Tryz.prog kf] (cs:Array Value) (p:Bed→Bool) (w:World) (hk:zq zAK 3 w A l) (hl:l.length≤1000000)
  (hp:∀ x W,x∈l→Below w.heap.size w W→Gv Tryz.prog kf ([zHc x]++cs.toList) W (.bool (p x))) :
  Gv Tryz.prog 136 [.slice A l.length cap,.func (.func kf) #[] cs] w (.bool (l.any p)):=by
 unfold Gv
 have hf:=zD2 p l
 (refine zJ (n:=9) Tryz.func136 rfl rfl rfl ?_)
 (repeat' (first|((with_reducible refine zF ?_);first|refine zE rfl rfl rfl ?_|refine zC rfl rfl rfl ?_|(refine zQ rfl rfl rfl rfl rfl (fun h=>?_) (fun h=>?_)<;>(dsimp only [cmpP] at h;(try (exfalso;omega))))|refine zV rfl rfl rfl rfl (fun _ _ q=>zMd l A cap kf cs p _ (hk.below q.below) hl (fun x W hx hW=>hp x W hx (q.below.trans (hW.mono q.base)))) ?_)|(with_reducible first|refine zH ?_|refine zB ?_|refine zD ?_|refine zA ?_|refine zX ?_)))
 all_goals exact zS (by exact rTm rfl) () trivial (by simp only [resV];rw [← hf];simp;omega) (fun _ h=>h.sub (by (repeat constructor)))
set_option maxHeartbeats 1000000 in
theorem zMc (l:List Hour) (A:Option Addr) (cap:Nat) (kf:FuncId) [zU Tryz.prog kf] (cs:Array Value) (p:Hour→Bool) (w:World) (hk:zq zr 5 w A l) (hl:l.length≤1000000)
  (hp:∀ x W,x∈l→Below w.heap.size w W→Gv Tryz.prog kf ([zDq x]++cs.toList) W (.bool (p x))) :
  Gv Tryz.prog 156 [.slice A l.length cap,.func (.func kf) #[] cs] w (.int .i64 (zCa p l)):=by
 unfold Gv
 (refine zJ (n:=19) Tryz.func156 rfl rfl rfl ?_)
 (repeat' (first|((with_reducible refine zF ?_);first|refine zE rfl rfl rfl ?_|refine zC rfl rfl rfl ?_|refine zo rfl rfl rfl ?_)|(with_reducible first|refine zH ?_|refine zB ?_|refine zD ?_|refine zA ?_|refine zP ?_)))
 refine zw (ι:=Nat) [0,1,7] rfl (fun i=>i≤l.length∧∀ j y,j<i→l[j]?=some y→p y=false) (fun i=>[(8,.int .i64 (i:Int))]) (fun _=>[]) (fun i=>l.length - i) 0 ⟨Nat.zero_le _,fun j y h=>by omega⟩ (by (repeat first|exact lK1|refine zL rfl ?_)) (by (repeat constructor)) ?_
 rintro i ⟨hi,hb⟩
 simp only [zAt,List.cons_append,List.nil_append]
 by_cases hlt:i<l.length
 ·have hx:l[i]?=some l[i]:=by simp [hlt]
  obtain ⟨b,o,rfl,hblt,hc⟩:=hk.at_ hlt
  have:InS w b o zr 5 l:=⟨hk⟩
  have:zAT l i l[i]:=⟨hx⟩
  (repeat' (first|((with_reducible refine zF ?_);first|refine zE rfl rfl rfl ?_|refine zC rfl rfl rfl ?_|(refine zK rfl rfl rfl ?_;refine ⟨_,rfl,?_⟩)|(refine zQ rfl rfl rfl rfl rfl (fun h=>?_) (fun h=>?_)<;>(dsimp only [cmpP] at h;(try (exfalso;omega))))|(refine zAI rfl rfl rfl rfl (fun _ _ q=>hp _ _ (List.getElem_mem hlt) q.below) (fun h=>?_) (fun h=>?_)<;>(try (exfalso;omega)))|refine zh rfl rfl rfl rfl (by omega) ?_|refine zl rfl rfl rfl rfl rfl (by omega) ?_)|(with_reducible first|refine zH ?_|refine zB ?_|refine zD ?_|refine zA ?_|refine zX ?_|refine zT ?_|refine zZ ?_|refine zP ?_|refine zg ?_|refine zAP ?_)|((with_reducible refine zI ?_ ?_);(· exact rfl))|((with_reducible refine zG ?_ ?_);(· exact rfl))))
  ·have e1:=zD3 hlt h hb
   exact zS (by exact rTm rfl) () trivial (by rw [e1];rfl) (fun _ h=>h.sub (by (repeat constructor)))
  ·refine zf (i+1) ⟨by omega,fun j y hj hy=>?_⟩ (by omega) (by (repeat first|exact lK1|refine zL rfl ?_)) (by (repeat constructor))
   by_cases e:j=i
   ·subst e;rw [hx] at hy;cases hy;exact h
   ·exact hb j y (by omega) hy
 ·obtain rfl:i=l.length:=by omega
  have e1:=zDJ (p:=p) (l:=l) (fun y hy=>by
   obtain ⟨j,hj⟩:=List.mem_iff_getElem?.1 hy
   exact hb j y (List.getElem?_eq_some_iff.1 hj).1 hj)
  (repeat' (first|((with_reducible refine zF ?_);first|refine zC rfl rfl rfl ?_|(refine zQ rfl rfl rfl rfl rfl (fun h=>?_) (fun h=>?_)<;>(dsimp only [cmpP] at h;(try (exfalso;omega)))))|(with_reducible first|refine zH ?_|refine zB ?_|refine zD ?_|refine zA ?_|refine zX ?_|refine zk ?_|refine zR ?_|refine zW ?_)|((with_reducible refine zG ?_ ?_);(· exact rfl))))
  exact zS (by exact rTm rfl) () trivial (by rw [e1];rfl) (fun _ h=>h.sub (by (repeat constructor)))
theorem ch_con (l:List Hour) (A:Option Addr) (cap:Nat) (kf:FuncId) [zU Tryz.prog kf] (cs:Array Value) (p:Hour→Bool) (w:World) (hk:zq zr 5 w A l) (hl:l.length≤1000000)
  (hp:∀ x W,x∈l→Below w.heap.size w W→Gv Tryz.prog kf ([zDq x]++cs.toList) W (.bool (p x))) :
  Gv Tryz.prog 137 [.slice A l.length cap,.func (.func kf) #[] cs] w (.bool (l.any p)):=by
 unfold Gv
 have hf:=zD2 p l
 (refine zJ (n:=9) Tryz.func137 rfl rfl rfl ?_)
 (repeat' (first|((with_reducible refine zF ?_);first|refine zE rfl rfl rfl ?_|refine zC rfl rfl rfl ?_|(refine zQ rfl rfl rfl rfl rfl (fun h=>?_) (fun h=>?_)<;>(dsimp only [cmpP] at h;(try (exfalso;omega))))|refine zV rfl rfl rfl rfl (fun _ _ q=>zMc l A cap kf cs p _ (hk.below q.below) hl (fun x W hx hW=>hp x W hx (q.below.trans (hW.mono q.base)))) ?_)|(with_reducible first|refine zH ?_|refine zB ?_|refine zD ?_|refine zA ?_|refine zX ?_)))
 all_goals exact zS (by exact rTm rfl) () trivial (by simp only [resV];rw [← hf];simp;omega) (fun _ h=>h.sub (by (repeat constructor)))
theorem iin_fn (x lo hi:Int) (b c:Nat) (w:World) (h1:InC w b 0 [.int .i64 lo]) (h2:InC w c 0 [.int .i64 hi]):Gv Tryz.prog 103 [.int .i64 x,.pointer (some ⟨b,0,none⟩),.pointer (some ⟨c,0,none⟩)] w (.bool (!inB lo hi x)):=by
 unfold Gv
 (refine zJ (n:=13) Tryz.func103 rfl rfl rfl ?_)
 (repeat' (first|((with_reducible refine zF ?_);first|refine zE rfl rfl rfl ?_|refine zC rfl rfl rfl ?_|(refine zK rfl rfl rfl ?_;refine ⟨_,rfl,?_⟩)|refine zAB rfl rfl rfl rfl ?_|refine zd rfl rfl rfl ?_|(refine zQ rfl rfl rfl rfl rfl (fun h=>?_) (fun h=>?_)<;>(dsimp only [cmpP] at h;(try (exfalso;omega)))))|(with_reducible first|refine zH ?_|refine zB ?_|refine zD ?_|refine zA ?_|refine zX ?_)))
 all_goals exact zS (by exact rTm rfl) () trivial (by simp [resV,inB];omega) (fun _ h=>h.sub (by (repeat constructor)))
theorem zJ8 (lo hi:Int) (l:List Int) (A:Option Addr) (cap:Nat) (w:World) (hk:zq encI 1 w A l) (hl:l.length≤1000000):Gv Tryz.prog 60 [.int .i64 lo,.int .i64 hi,.slice A l.length cap] w (.bool (l.all (inB lo hi))):=by
 unfold Gv
 rw [← zNA]
 (refine zJ (n:=11) Tryz.func60 rfl rfl rfl ?_)
 (repeat' (first|((with_reducible refine zF ?_);first|refine zE rfl rfl rfl ?_|refine zC rfl rfl rfl ?_|refine zV rfl rfl rfl rfl (fun _ _ q=>ci_con l A cap _ _ (fun n=>!inB lo hi n) _ (hk.below q.below) hl (fun x W' _ hW'=>iin_fn x lo hi _ _ W' (zA5 q.own hW' rfl) (zA5 q.own hW' rfl))) ?_|refine zAN rfl rfl rfl ?_|(refine zu rfl rfl rfl rfl (fun b=>?_))|refine zBx rfl rfl rfl rfl ?_)|(with_reducible first|refine zH ?_|refine zB ?_|refine zD ?_|refine zA ?_|refine zX ?_)))
 all_goals exact zS (by exact rTm rfl) () trivial rfl (fun _ h=>h.sub (by (repeat constructor)))
theorem iin1 (lo hi a:Int) (c:Nat) (A:Option Addr) (w:World) (hk:zq encI 1 w A [a]):Gv Tryz.prog 60 [.int .i64 lo,.int .i64 hi,.slice A 1 c] w (.bool (inB lo hi a)):=by
 have:=zJ8 lo hi [a] A c w hk (by simp)
 simpa using this
theorem iin2 (lo hi a b:Int) (c:Nat) (A:Option Addr) (w:World) (hk:zq encI 1 w A [a,b]):Gv Tryz.prog 60 [.int .i64 lo,.int .i64 hi,.slice A 2 c] w (.bool (inB lo hi a && inB lo hi b)):=by
 have:=zJ8 lo hi [a,b] A c w hk (by simp)
 simpa using this
theorem zBm (s:Sp) (lo hi:Int) (w:World):Gv Tryz.prog 80 [vSp s,.int .i64 lo,.int .i64 hi] w (.bool (zBE s lo hi)):=by
 unfold Gv vSp
 (refine zJ (n:=22) Tryz.func80 rfl rfl rfl ?_)
 (repeat' (first|((with_reducible refine zF ?_);first|refine zE rfl rfl rfl ?_|refine zC rfl rfl rfl ?_|(refine zK rfl rfl rfl ?_;refine ⟨_,rfl,?_⟩)|refine za rfl rfl rfl ?_|refine zAB rfl rfl rfl rfl ?_|refine zd rfl rfl rfl ?_|(refine zQ rfl rfl rfl rfl rfl (fun h=>?_) (fun h=>?_)<;>(dsimp only [cmpP] at h;(try (exfalso;omega))))|(refine zAI rfl rfl rfl rfl (fun _ _ q=>iin2 _ _ _ _ _ _ _ (zF2 (enc:=encI) [_,_] (by exact rfl) _ q.below q.own)) (fun h=>?_) (fun h=>?_)<;>skip)|(refine zu rfl rfl rfl rfl (fun b=>?_))|(refine zY rfl rfl rfl ?_;refine ⟨rfl,_,rfl,fun b=>?_⟩))|(with_reducible first|refine zH ?_|refine zB ?_|refine zD ?_|refine zA ?_|refine zX ?_)))
 all_goals exact zS (by exact rTm rfl) () trivial (by first|(simp_all [resV,zBE];done)|(simp_all [resV,zBE];omega)) (fun _ h=>h.sub (by (repeat constructor)))
theorem zEQ (n lo hi:Int) (w:World):Gv Tryz.prog 67 [.int .i64 n,.int .i64 lo,.int .i64 hi] w (.bool (inB lo hi n)):=by
 unfold Gv
 (refine zJ (n:=15) Tryz.func67 rfl rfl rfl ?_)
 (repeat' (first|((with_reducible refine zF ?_);first|refine zE rfl rfl rfl ?_|refine zC rfl rfl rfl ?_|refine zAB rfl rfl rfl rfl ?_|refine zd rfl rfl rfl ?_|(refine zQ rfl rfl rfl rfl rfl (fun h=>?_) (fun h=>?_)<;>(dsimp only [cmpP] at h;(try (exfalso;omega)))))|(with_reducible first|refine zH ?_|refine zB ?_|refine zD ?_|refine zA ?_|refine zX ?_)))
 all_goals exact zS (by exact rTm rfl) () trivial (by simp [resV,inB];omega) (fun _ h=>h.sub (by (repeat constructor)))
theorem zCp (s:Sp) (lo hi:Int) (w:World):Gv Tryz.prog 129 [vSp s,.int .i64 lo,.int .i64 hi] w (.bool (zBE s lo hi)):=by
 unfold Gv vSp
 (refine zJ (n:=24) Tryz.func129 rfl rfl rfl ?_)
 (repeat' (first|((with_reducible refine zF ?_);first|refine zE rfl rfl rfl ?_|refine zC rfl rfl rfl ?_|(refine zK rfl rfl rfl ?_;refine ⟨_,rfl,?_⟩)|refine za rfl rfl rfl ?_|refine zAB rfl rfl rfl rfl ?_|refine zd rfl rfl rfl ?_|(refine zQ rfl rfl rfl rfl rfl (fun h=>?_) (fun h=>?_)<;>(dsimp only [cmpP] at h;(try (exfalso;omega))))|(refine zu rfl rfl rfl rfl (fun b=>?_)))|(with_reducible first|refine zH ?_|refine zB ?_|refine zD ?_|refine zA ?_|refine zX ?_)))
 all_goals exact zS (by exact rTm rfl) () trivial (by simp [resV,zBE,inB];omega) (fun _ h=>h.sub (by (repeat constructor)))
def zEG (b:Bed):Bool:=zBE b.thick 0 2000 && inB 0 9 b.sun
def zCH (h:Hour):Bool:=zBE h.melt 0 50 && inB 0 60 h.runs && inB 0 12 h.crew
def zDe (c:Cov):Bool:=decide (c.beds.length=c.t.length) && (inB 1 8 c.hours.length && (c.beds.all zEG && (c.hours.all zCH && (zBE c.wear 0 20 && (zBE c.layer 1 100 && (inB 0 100 c.rate && (inB 0 2000 c.limit && inB 0 c.limit c.base)))))))
def zAm (c:Cov):Int:=if valid c.t then (if zDe c then 0 else 20) else 10
theorem ibed_fn (z:Bed) (w:World):Gv Tryz.prog 134 [zHc z] w (.bool (!zEG z)):=by
 unfold Gv zHc
 (refine zJ (n:=14) Tryz.func134 rfl rfl rfl ?_)
 (repeat' (first|((with_reducible refine zF ?_);first|refine zE rfl rfl rfl ?_|refine zC rfl rfl rfl ?_|(refine zK rfl rfl rfl ?_;refine ⟨_,rfl,?_⟩)|refine za rfl rfl rfl ?_|refine zAB rfl rfl rfl rfl ?_|refine zd rfl rfl rfl ?_|(refine zAI rfl rfl rfl rfl (fun _ _ q=>zBm z.thick 0 2000 _) (fun h=>?_) (fun h=>?_)<;>(try (exfalso;omega)))|(refine zAI rfl rfl rfl rfl (fun _ _ q=>iin1 _ _ _ _ _ _ (zAY (enc:=encI) (by exact rfl) _ q.below q.own)) (fun h=>?_) (fun h=>?_)<;>(try (exfalso;omega)))|refine zAN rfl rfl rfl ?_|(refine zu rfl rfl rfl rfl (fun b=>?_))|(refine zY rfl rfl rfl ?_;refine ⟨rfl,_,rfl,fun b=>?_⟩))|(with_reducible first|refine zH ?_|refine zB ?_|refine zD ?_|refine zA ?_|refine zX ?_)))
 all_goals exact zS (by exact rTm rfl) () trivial (by simp_all [resV,zEG]) (fun _ h=>h.sub (by (repeat constructor)))
theorem ihour_fn (z:Hour) (w:World):Gv Tryz.prog 135 [zDq z] w (.bool (!zCH z)):=by
 unfold Gv zDq
 (refine zJ (n:=21) Tryz.func135 rfl rfl rfl ?_)
 (repeat' (first|((with_reducible refine zF ?_);first|refine zE rfl rfl rfl ?_|refine zC rfl rfl rfl ?_|(refine zK rfl rfl rfl ?_;refine ⟨_,rfl,?_⟩)|refine za rfl rfl rfl ?_|refine zAB rfl rfl rfl rfl ?_|refine zd rfl rfl rfl ?_|(refine zAI rfl rfl rfl rfl (fun _ _ q=>zBm z.melt 0 50 _) (fun h=>?_) (fun h=>?_)<;>(try (exfalso;omega)))|(refine zAI rfl rfl rfl rfl (fun _ _ q=>iin1 _ _ _ _ _ _ (zAY (enc:=encI) (by exact rfl) _ q.below q.own)) (fun h=>?_) (fun h=>?_)<;>(try (exfalso;omega)))|refine zAN rfl rfl rfl ?_|(refine zu rfl rfl rfl rfl (fun b=>?_))|(refine zY rfl rfl rfl ?_;refine ⟨rfl,_,rfl,fun b=>?_⟩))|(with_reducible first|refine zH ?_|refine zB ?_|refine zD ?_|refine zA ?_|refine zX ?_)))
 all_goals exact zS (by exact rTm rfl) () trivial (by simp_all [resV,zCH]) (fun _ h=>h.sub (by (repeat constructor)))
def zM (c:Cov) (A:Option Addr) (ca:Nat) (B:Option Addr) (cb:Nat) (C:Option Addr) (cc:Nat):List Value :=
 [.slice A c.t.length ca,.slice B c.beds.length cb,.slice C c.hours.length cc,.int .i64 c.wear.lo,.int .i64 c.wear.hi,.int .i64 c.layer.lo,.int .i64 c.layer.hi,.int .i64 c.rate,.int .i64 c.limit,.int .i64 c.base]
def zAH (c:Cov) (A:Option Addr) (ca:Nat) (B:Option Addr) (cb:Nat) (C:Option Addr) (cc:Nat):Value:=.agg (zM c A ca B cb C cc).toArray
structure zAe (w:World) (c:Cov) (A B C:Option Addr):Prop where
 t:zq zAS 9 w A c.t
 b:zq zAK 3 w B c.beds
 h:zq zr 5 w C c.hours
theorem zAe.below {w W:World} {c:Cov} {A B C:Option Addr} (h:zAe w c A B C) (hb:Below w.heap.size w W):zAe W c A B C:=⟨h.t.below hb,h.b.below hb,h.h.below hb⟩
structure Small (c:Cov):Prop where
 fit:zEe c.t
 t:c.t.length≤20
 b:c.beds.length≤20
 h:c.hours.length≤12
theorem zCO {c:Cov}:zDe c=true↔c.beds.length=c.t.length∧inB 1 8 c.hours.length=true∧c.beds.all zEG=true∧c.hours.all zCH=true∧zBE c.wear 0 20=true∧zBE c.layer 1 100=true∧inB 0 100 c.rate=true∧inB 0 2000 c.limit=true∧inB 0 c.limit c.base=true:=by
 unfold zDe;simp only [Bool.and_eq_true,decide_eq_true_eq]
theorem zLc {α:Type} {p:α→Bool} {l:List α}:(l.any fun x=>!p x) = !l.all p:=by
 induction l with
 | nil=>rfl
 | cons a l ih=>simp [ih]
set_option maxHeartbeats 2000000 in
theorem zIJ (c:Cov) (A:Option Addr) (ca:Nat) (B:Option Addr) (cb:Nat) (C:Option Addr) (cc:Nat) (w:World) (h:zAe w c A B C) (hs:Small c):Gv Tryz.prog 106 [zAH c A ca B cb C cc] w (.int .i64 (zAm c)):=by
 have hT:=fun W (hb:Below w.heap.size w W)=>(zHW c.t A ca W (h.t.below hb) hs.fit (by have:=hs.t;omega))
 have h3:=hs.t;have h4:=hs.b;have h5:=hs.h
 have hB:=fun W (hb:Below w.heap.size w W)=>cb_con c.beds B cb 134 #[] (fun b=>!zEG b) W (h.b.below hb) (by omega) (fun x W _ _=>ibed_fn x W)
 have hH:=fun W (hb:Below w.heap.size w W)=>ch_con c.hours C cc 135 #[] (fun b=>!zCH b) W (h.h.below hb) (by omega) (fun x W _ _=>ihour_fn x W)
 rw [zLc] at hB hH
 unfold vT at hT
 unfold Gv zAH zM
 cases hv:valid c.t
 ·have e:zAm c=10:=by simp [zAm,hv]
  rw [show zDL c.t=10 by simp [zDL,hv]] at hT
  rw [e]
  (refine zJ (n:=73) Tryz.func106 rfl rfl rfl ?_)
  (repeat' (first|((with_reducible refine zF ?_);first|refine zE rfl rfl rfl ?_|refine zC rfl rfl rfl ?_|(refine zK rfl rfl rfl ?_;refine ⟨_,rfl,?_⟩)|refine za rfl rfl rfl ?_|(refine zQ rfl rfl rfl rfl rfl (fun h=>?_) (fun h=>?_)<;>(dsimp only [cmpP] at h;(try (exfalso;omega))))|refine zV rfl rfl rfl rfl (fun _ _ q=>hT _ q.below) ?_|(refine zu rfl rfl rfl rfl (fun b=>?_)))|(with_reducible first|refine zH ?_|refine zB ?_|refine zD ?_|refine zA ?_|refine zX ?_|refine zZ ?_)|((with_reducible refine zI ?_ ?_);(· exact rfl))))
  all_goals exact zS (by exact rTm rfl) () trivial rfl (fun _ h=>h.sub (by (repeat constructor)))
 ·rw [zDK hv] at hT
  cases hi:zDe c
  ·have e:zAm c=20:=by simp [zAm,hv,hi]
   rw [e]
   (refine zJ (n:=73) Tryz.func106 rfl rfl rfl ?_)
   (repeat' (first|((with_reducible refine zF ?_);first|refine zE rfl rfl rfl ?_|refine zC rfl rfl rfl ?_|(refine zK rfl rfl rfl ?_;refine ⟨_,rfl,?_⟩)|refine za rfl rfl rfl ?_|refine zAB rfl rfl rfl rfl ?_|refine zd rfl rfl rfl ?_|(refine zQ rfl rfl rfl rfl rfl (fun h=>?_) (fun h=>?_)<;>(dsimp only [cmpP] at h;(try (exfalso;omega))))|refine zV rfl rfl rfl rfl (fun _ _ q=>hT _ q.below) ?_|(refine zAI rfl rfl rfl rfl (fun _ _ q=>hB _ q.below) (fun h=>?_) (fun h=>?_)<;>(try (exfalso;omega)))|(refine zAI rfl rfl rfl rfl (fun _ _ q=>hH _ q.below) (fun h=>?_) (fun h=>?_)<;>(try (exfalso;omega)))|(refine zAI rfl rfl rfl rfl (fun _ _ q=>zBm c.wear 0 20 _) (fun h=>?_) (fun h=>?_)<;>(try (exfalso;omega)))|(refine zAI rfl rfl rfl rfl (fun _ _ q=>zBm c.layer 1 100 _) (fun h=>?_) (fun h=>?_)<;>(try (exfalso;omega)))|(refine zAI rfl rfl rfl rfl (fun _ _ q=>iin1 _ _ _ _ _ _ (zAY (enc:=encI) (by exact rfl) _ q.below q.own)) (fun h=>?_) (fun h=>?_)<;>(try (exfalso;omega)))|refine zAN rfl rfl rfl ?_|refine zo rfl rfl rfl ?_|(refine zu rfl rfl rfl rfl (fun b=>?_))|(refine zY rfl rfl rfl ?_;refine ⟨rfl,_,rfl,fun b=>?_⟩))|(with_reducible first|refine zH ?_|refine zB ?_|refine zD ?_|refine zA ?_|refine zX ?_|refine zT ?_|refine zZ ?_)|((with_reducible refine zI ?_ ?_);(· exact rfl))|((with_reducible refine zG ?_ ?_);(· exact rfl))))
   all_goals first|exact zS (by exact rTm rfl) () trivial rfl (fun _ h=>h.sub (by (repeat constructor)))|(exfalso;have:=mt zCO.2 (by rw [hi];simp);simp_all;done)|(exfalso;have:=mt zCO.2 (by rw [hi];simp);simp_all;omega)
  ·have e:zAm c=0:=by simp [zAm,hv,hi]
   rw [e]
   obtain ⟨i1,i2,i3,i4,i5,i6,i7,i8,i9⟩:=zCO.1 hi
   rw [i3] at hB
   rw [i4] at hH
   (refine zJ (n:=73) Tryz.func106 rfl rfl rfl ?_)
   (repeat' (first|((with_reducible refine zF ?_);first|refine zE rfl rfl rfl ?_|refine zC rfl rfl rfl ?_|(refine zK rfl rfl rfl ?_;refine ⟨_,rfl,?_⟩)|refine za rfl rfl rfl ?_|refine zAB rfl rfl rfl rfl ?_|(refine zQ rfl rfl rfl rfl rfl (fun h=>?_) (fun h=>?_)<;>(dsimp only [cmpP] at h;(try (exfalso;omega))))|refine zV rfl rfl rfl rfl (fun _ _ q=>hT _ q.below) ?_|refine zV rfl rfl rfl rfl (fun _ _ q=>hB _ q.below) ?_|refine zV rfl rfl rfl rfl (fun _ _ q=>hH _ q.below) ?_|(refine zV rfl rfl rfl rfl (fun _ _ q=>i5 ▸ zBm c.wear 0 20 _) ?_)|(refine zV rfl rfl rfl rfl (fun _ _ q=>i6 ▸ zBm c.layer 1 100 _) ?_)|(refine zAI rfl rfl rfl rfl (fun _ _ q=>iin1 _ _ _ _ _ _ (zAY (enc:=encI) (by exact rfl) _ q.below q.own)) (fun h=>?_) (fun h=>?_)<;>(try (exfalso;simp_all;done)))|refine zAN rfl rfl rfl ?_|refine zo rfl rfl rfl ?_|(refine zu rfl rfl rfl rfl (fun b=>?_))|(refine zY rfl rfl rfl ?_;refine ⟨rfl,_,rfl,fun b=>?_⟩))|(with_reducible first|refine zH ?_|refine zB ?_|refine zD ?_|refine zA ?_|refine zX ?_|refine zT ?_)|((with_reducible refine zG ?_ ?_);(· exact rfl))))
   all_goals exact zS (by exact rTm rfl) () trivial rfl (fun _ h=>h.sub (by (repeat constructor)))
end Go.Proofs.YtdigopgncfhiaaaGreatDoor
