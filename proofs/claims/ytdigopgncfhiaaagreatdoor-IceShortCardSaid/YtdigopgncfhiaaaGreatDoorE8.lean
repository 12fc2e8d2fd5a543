/- E8 -/
import Derived.Test.YtdigopgncfhiaaaGreatDoorE7
import Derived.Test.YtdigopgncfhiaaaGreatDoorE1
import Derived.Test.YtdigopgncfhiaaaGreatDoorE2
set_option linter.unusedSimpArgs false
set_option linter.unusedVariables false
namespace Go.Proofs.YtdigopgncfhiaaaGreatDoor
open Go.RowKit
set_option maxRecDepth 20000
theorem in1 (lo hi a:Int) (c:Nat) (A:Option Addr) (w:World) (hk:zx encI 1 w A [a]):Gv Tryz.prog 84 [.int .i64 lo,.int .i64 hi,.slice A 1 c] w (.bool (inB lo hi a)) :=
 ((zNW lo hi [a] c A w (by simp) hk).of (by simp)).gv
instance : zCM encI 1:=⟨fun _=>rfl,fun _=>one_i⟩
end Go.Proofs.YtdigopgncfhiaaaGreatDoor
namespace Go.Proofs.YtdigopgncfhiaaaGreatDoor
open Go.RowKit
set_option maxRecDepth 20000
instance : zCM zA5 9:=⟨fun _=>rfl,one_st⟩
instance : zCM encMe 5:=⟨fun _=>rfl,one_me⟩
instance : ElI Tryz.prog 38 3 1 8:=⟨⟨_,elem_i⟩⟩
instance : ElI Tryz.prog 139 28 2 16:=⟨⟨_,zOT⟩⟩
instance : zCM zBD 2:=⟨fun _=>rfl,fun _=>one_sp⟩
end Go.Proofs.YtdigopgncfhiaaaGreatDoor
namespace Go.Proofs.YtdigopgncfhiaaaGreatDoor
open Go.RowKit
set_option maxRecDepth 20000
set_option maxHeartbeats 2000000 in
theorem pickSp (l:List Sp) (A:Option Addr) (cap:Nat) (kf:FuncId) [zZ Tryz.prog kf] (cs:Array Value) (p:Nat→Sp→Bool) (w:World) (hk:zx zBD 2 w A l) (hl:l.length≤100000)
  (hp:∀ (i:Nat) x W,l[i]?=some x→Below w.heap.size w W→Gv Tryz.prog kf ([.int .i64 (i:Int),vSp x]++cs.toList) W (.bool (p i x))) :
  zC4 encI 1 (picks p l) (fun v=>v) Tryz.prog 85 [.slice A l.length cap,.func (.func kf) #[] cs] w:=by
 unfold zC4
 (refine zL (n:=25) Tryz.func85 rfl rfl rfl ?_)
 (repeat' (first|((with_reducible refine zG ?_);first|refine zE rfl rfl rfl rfl rfl ?_|refine zC rfl rfl rfl rfl rfl ?_|refine zp rfl rfl rfl rfl rfl ?_)|(with_reducible first|refine zH ?_|refine zB ?_|refine zD ?_|refine zA ?_|refine zQ ?_)))
 refine zEN encI 1 3 ?_
 refine u_loop (ι:=Nat × Value) (fun i=>i.1≤l.length) (fun i=>[(1,.func (.func kf) #[] cs),(5,i.2),(8,.slice A l.length cap),(9,.int .i64 (l.length:Int)),(10,.int .i64 (i.1:Int))]) (fun i=>[.row encI 1 3 i.2 (zCw p l i.1)]) (fun i=>l.length - i.1) (0,.slice none 0 0) (Nat.zero_le _) (by (first|exact lK1|(repeat (first|exact lK1|(refine zM rfl ?_))))) (by (repeat (first|exact oK1 _|(refine oK2 (by (repeat (first|exact tK1 _ _|apply tK2))) ?_)))) ?_
 rintro ⟨i,v⟩ hi
 simp only at hi ⊢
 have hpl:=zL5 p l i
 by_cases hlt:i<l.length
 ·have hx:l[i]?=some l[i]:=by simp [hlt]
  obtain ⟨b,o,rfl,hblt,hc⟩:=hk.at_ hlt
  have:InS w b o zBD 2 l:=⟨hk⟩
  have:zAU l i l[i]:=⟨hx⟩
  have hso:soAt p l i=p i l[i]:=by simp [soAt,hlt]
  (repeat' (first|((with_reducible refine zG ?_);first|refine zE rfl rfl rfl rfl rfl ?_|refine zC rfl rfl rfl rfl rfl ?_|(refine zK rfl rfl rfl rfl rfl ?_;refine ⟨_,rfl,?_⟩)|(refine zU rfl rfl rfl rfl rfl rfl rfl (fun h=>?_) (fun h=>?_)<;>(dsimp only [cmpP] at h;(try (exfalso;omega))))|(refine zAY rfl rfl rfl rfl rfl rfl (fun _ _ q=>hp i _ _ hx q.below) (fun h=>?_) (fun h=>?_)<;>(try (exfalso;omega)))|(refine zBT (enc:=encI) [_] rfl rfl rfl rfl rfl (by (repeat (first|exact tK1 _ _|apply tK2))) rfl rfl (zAt (by exact rfl)) (by refine ⟨?_,by decide⟩;(try simp only [List.length_append,List.length_cons,List.length_nil]);omega) (fun A' c'=>?_))|refine zf rfl rfl rfl rfl rfl rfl (by omega) ?_|refine zb rfl rfl rfl rfl rfl rfl rfl (by omega) ?_|(refine ze rfl rfl rfl rfl rfl ?_;refine And.intro rfl (And.intro (by first|decide|exact Nat.le_of_ble_eq_true rfl|(simp;omega)) ⟨_,rfl,?_⟩))|(refine zm rfl rfl rfl rfl (fun b=>?_))|(refine zAD rfl rfl rfl rfl rfl ?_;refine ⟨rfl,_,rfl,fun b=>?_⟩))|(with_reducible first|refine zH ?_|refine zB ?_|refine zD ?_|refine zA ?_|refine zS ?_|refine zQ ?_|refine zh ?_)|((with_reducible refine zI ?_ ?_);(· exact rfl))|((with_reducible refine zF ?_ ?_);(· exact rfl))))
  ·refine zi (i+1,.slice A' (zCw p l i++[(i:Int)]).length c') (by simp only;omega) (by simp only;omega) (by (first|exact lK1|(repeat (first|exact lK1|(refine zM rfl ?_))))) ?_
   rw [zL4 (hso.trans h)]
   (repeat (first|exact oK1 _|(refine oK2 (by (repeat (first|exact tK1 _ _|apply tK2))) ?_)))
  ·refine zi (i+1,v) (by simp only;omega) (by simp only;omega) (by (first|exact lK1|(repeat (first|exact lK1|(refine zM rfl ?_))))) ?_
   rw [zNE (hso.trans h)]
   (repeat (first|exact oK1 _|(refine oK2 (by (repeat (first|exact tK1 _ _|apply tK2))) ?_)))
 ·obtain rfl:i=l.length:=by omega
  (repeat' (first|((with_reducible refine zG ?_);first|refine zE rfl rfl rfl rfl rfl ?_|refine zC rfl rfl rfl rfl rfl ?_|(refine zU rfl rfl rfl rfl rfl rfl rfl (fun h=>?_) (fun h=>?_)<;>(dsimp only [cmpP] at h;(try (exfalso;omega)))))|(with_reducible first|refine zH ?_|refine zB ?_|refine zD ?_|refine zA ?_|refine zc ?_|refine zj ?_|refine zR ?_|refine zW ?_)|((with_reducible refine zF ?_ ?_);(· exact rfl))))
  refine zIX (enc:=encI) (by (repeat (first|exact tK1 _ _|apply tK2))) ?_
  rintro A' c' rfl
  exact zV (by (exact zO.cons (by exact zn.tmp rfl) zO.nil)) (A',c') trivial rfl (fun _ h=>(h.zFJ (by (repeat (first|exact tK1 _ _|apply tK2)))).sub (by (repeat (first|exact oK1 _|(refine oK2 (by (repeat (first|exact tK1 _ _|apply tK2))) ?_)))))
end Go.Proofs.YtdigopgncfhiaaaGreatDoor
namespace Go.Proofs.YtdigopgncfhiaaaGreatDoor
open Go.RowKit
set_option maxHeartbeats 8000000 in
theorem zOo (t : List St) (A : Option Addr) (cap : Nat) (w : World) (ht : zx zA5 9 w A t) (hf : zFb t) (hl : t.length ≤ 1000000) :
    zAp 90 #[vT A t.length cap] w (.bool (valid t)):=by
  unfold zAp vT
  have HT:=Lib.hid ht
  clear ht
  cases h1:inB 1 12 t.length
  · have H1:=Lib.hid h1
    clear h1
    go_enter Tryz.func90,Tryz.ntmps90
    go_wp2_with fail
    refine (zDj _ _ _ _).mono ?_
    rintro e w1 ⟨rfl,hb1⟩
    rw [H1.out]
    go_wp2
    go_ret
    exact ⟨zBY (by simp [valid,H1.out]),zAo (zAB w _) hb1⟩
  · have H1:=Lib.hid h1
    clear h1
    go_enter Tryz.func90,Tryz.ntmps90
    go_wp2_with fail
    refine (zDj _ _ _ _).mono ?_
    rintro e w1 ⟨rfl,hb1⟩
    rw [H1.out]
    have hB1:Below w.heap.size w w1:=zAo (zAB w _) hb1
    have kt:=(Blk.new w _ _).past hb1
    clear hb1
    go_wp2
    go_loopw [3] (fun v3 wr=>∃ (i:Nat) (last:Int),i≤t.length∧-1≤last∧last≤9999∧v3 = .int .i64 i∧Blk wr w.heap.size #[.slice A t.length cap]∧Below w.heap.size w wr∧Hid (okFrom (-1) t=okFrom last (t.drop i))∧Hid (last=if i=0 then -1 else (t.getD (i - 1) default).id)) (fun v _=>t.length - (intOf v).toNat)
    case atStart=>exact ⟨0,-1,Nat.zero_le _,by omega,by omega,rfl,kt,hB1,by unfold Hid;simp,by unfold Hid;simp⟩
    case round =>
      obtain ⟨i,last,hi,hl0,hl1,rfl,hK,hB,hF,hL⟩:=hrel
      clear kt hB1
      obtain ⟨tc,tf,tl⟩:=hK.facts
      by_cases hlt:i<t.length
      · obtain ⟨b,o,rfl,hblt,hc⟩:=(HT.out.below hB).at_ hlt
        have hF':okFrom (-1) t=(zIg last t[i] && okFrom t[i].id (t.drop (i+1))):=by
          rw [hF.out,List.drop_eq_getElem_cons hlt];rfl
        have HF:=Lib.hid hF'
        clear hF' hF
        obtain ⟨hs0,hs1⟩:=hf t[i] (List.getElem_mem hlt)
        have hLn:t[i].id=(t.getD (i+1 - 1) default).id:=by simp [List.getElem?_eq_getElem hlt]
        have HLn:=Lib.hid hLn
        clear hLn
        have hp:0<i→wr.cell? ⟨b,o+(i - 1) * 9,none⟩=some (.int .i64 last):=by
          intro h0
          obtain ⟨b',o',hA,hb',hc'⟩:=(HT.out.below hB).at_ (i:=i - 1) (by omega)
          cases hA
          have:=hc' 0 _ rfl
          rw [hL.out,if_neg (by omega)]
          simpa [List.getElem?_eq_getElem (show i - 1<t.length by omega)] using this
        generalize t[i]=s at hc HF hs0 hs1 HLn
        obtain ⟨id,⟨la,lb⟩,⟨fa,fb⟩,⟨ra,rb⟩,sd,wl⟩:=s
        simp only at hs0 hs1
        have c0:=hc 0 _ rfl
        have c1:=hc 1 _ rfl
        have c2:=hc 2 _ rfl
        have c3:=hc 3 _ rfl
        have c4:=hc 4 _ rfl
        have c5:=hc 5 _ rfl
        have c6:=hc 6 _ rfl
        have c7:=hc 7 _ rfl
        have c8:=hc 8 _ rfl
        simp only [Nat.add_zero] at c0
        clear hc
        have hi0:(0:Int)≤i:=by omega
        have hi1:(i:Int)<t.length:=by omega
        have hgt:(0<i→(i:Int) > 0)∧(¬ 0<i→¬ (i:Int) > 0):=by omega
        have hl3:¬ 0<i→last = -1:=by intro h;rw [hL.out,if_pos (by omega)]
        by_cases hz:0<i
        all_goals
          have hc9:=hp
          simp only [hz,forall_const,not_true,not_false_iff,false_implies,true_implies] at hc9 hgt hl3
          go_wp2_with fail
          refine zIS (by kernel_rfl) (by kernel_rfl) ?_
          repeat (any_goals (first
            | go_big_quiet_step ((first|(go_at_call 119;exact zFu (zDj _ _ _ _))|(go_at_call 120;exact zFu (zIh ⟨_,_⟩ _ _ _))))
            | quiet_step ((first|(go_at_call 119;exact zFu (zDj _ _ _ _))|(go_at_call 120;exact zFu (zIh ⟨_,_⟩ _ _ _))))
            | (refine wpQuiet_step (fun K hK=>?_);go_simp;split<;>(refine hK _ ?_;clear hK K))))
          all_goals
            refine grow_nil (fun w2 hg=>?_)
            have hB2:=zAo (zAZ hB _) hg
            have kb:=(Blk.new _ _ _).past hg
            obtain ⟨kc,kf,kl⟩:=kb.facts
            have hK2:=(hK.alloc (.cells #[.int .i64 id,.int .i64 la,.int .i64 lb,.int .i64 fa,.int .i64 fb,.int .i64 ra,.int .i64 rb,.int .u8 sd,.int .i64 wl] 86)).past hg
            obtain ⟨qc,qf,ql⟩:=hK2.facts
            clear hg
            go_wp2_with (go_at_call 120;refine (zIh ⟨_,_⟩ _ _ _).mono ?_;rintro e wn ⟨rfl,hbn⟩;replace hB2:=zAo hB2 hbn;replace kb:=kb.past hbn;replace hK2:=hK2.past hbn;obtain ⟨kc,kf,kl⟩:=kb.facts;obtain ⟨qc,qf,ql⟩:=hK2.facts;clear hbn)
        all_goals
          have hOk:=HF.out
          have hId:=HLn.out
          clear HF HLn
          first
          | (go_ret
             refine ⟨zBY ?_,hB2⟩
             go_light
             have e:zIg last ⟨id,⟨la,lb⟩,⟨fa,fb⟩,⟨ra,rb⟩,sd,wl⟩=false:=by
               rw [Bool.eq_false_iff]
               intro hst
               simp only [zIg,Bool.and_eq_true,Bool.or_eq_true,zAL,zLK,zAn,zKV,zDP,decide_eq_true_eq,Bool.not_eq_true',Bool.not_eq_false',Bool.not_eq_true,beq_iff_eq,beq_eq_false_iff_ne,bne_iff_ne,bne_eq_false_iff_eq,ne_eq] at *
               omega
             simp [valid,hOk,e])
          | (go_light
             have e:zIg last ⟨id,⟨la,lb⟩,⟨fa,fb⟩,⟨ra,rb⟩,sd,wl⟩=true∧id≤9999∧-1≤id:=by
               simp only [zIg,Bool.and_eq_true,Bool.or_eq_true,zAL,zLK,zAn,zKV,zDP,decide_eq_true_eq,Bool.not_eq_true',Bool.not_eq_false',Bool.not_eq_true,beq_iff_eq,beq_eq_false_iff_ne,bne_iff_ne,bne_eq_false_iff_eq,ne_eq] at *
               omega
             refine ⟨⟨i+1,id,by omega,by omega,by omega,by go_num,hK2,hB2,?_,?_⟩,by simp [intOf];omega⟩
             · unfold Hid;simp [hOk,e.1]
             · unfold Hid;simpa using hId)
      · go_wp2
        go_ret
        refine ⟨zBY ?_,hB⟩
        simp [valid,H1.out,hF.out,List.drop_eq_nil_of_le (Nat.le_of_not_lt hlt),okFrom]
theorem zNC (t:List St) (A:Option Addr) (cap:Nat) (w:World) (ht:zx zA5 9 w A t) (hf:zFb t) (hl:t.length≤1000000) :
  zAp 49 #[vT A t.length cap] w (.int .i64 (if valid t then 0 else 10)):=by
 unfold zAp vT
 have H:=Lib.hid (zOo t A cap (w.alloc (.cells #[.slice A t.length cap] 24)) (ht.alloc _) hf hl)
 clear ht
 cases h:valid t
 all_goals
  have hv:=Lib.hid h
  clear h
  go_enter Tryz.func49,Tryz.ntmps49
  go_wp2_with fail
  refine H.out.mono ?_
  rintro e w1 ⟨rfl,hb1⟩
  rw [hv.out]
  go_wp2
  go_ret
  exact ⟨zBY (by simp),zAo (zAB w _) hb1⟩
end Go.Proofs.YtdigopgncfhiaaaGreatDoor
namespace Go.Proofs.YtdigopgncfhiaaaGreatDoor
open Go.RowKit
set_option maxHeartbeats 4000000 in
theorem zKm (t : List St) (A : Option Addr) (cap : Nat) (w : World) (ht : zx zA5 9 w A t) (hf : zFb t) (hl : t.length ≤ 1000000) :
    zAp 91 #[vT A t.length cap] w (.int .i64 (if valid t then 0 else 10)):=by
  unfold zAp vT
  have HT:=Lib.hid ht
  clear ht
  cases h1:inB 1 12 t.length
  · have H1:=Lib.hid h1
    clear h1
    go_enter Tryz.func91,Tryz.ntmps91
    go_wp2
    go_step3
    go_wp2_with fail
    refine (zNV 1 12 t.length _ _ _ _ (by simp)).mono ?_
    rintro e w1 ⟨rfl,hb1⟩
    rw [H1.out]
    go_wp2
    rw [Exit.noGoto_ret]
    go_ret
    refine ⟨zBY (by simp [valid,H1.out]),?_⟩
    exact (zAB w _).trans (((zAB _ _).trans (hb1.mono (by simp<;>omega))).mono (by simp))
  · have H1:=Lib.hid h1
    clear h1
    go_enter Tryz.func91,Tryz.ntmps91
    go_wp2
    go_step3
    go_wp2_with fail
    refine (zNV 1 12 t.length _ _ _ _ (by simp)).mono ?_
    rintro e w1 ⟨rfl,hb1⟩
    rw [H1.out]
    have hB1:Below w.heap.size w w1:=(zAB w _).trans (((zAB _ _).trans (hb1.mono (by simp<;>omega))).mono (by simp))
    have hcell:w1.cell? ⟨w.heap.size,0,none⟩=some (.slice A t.length cap):=by rw [hb1.cell (by simp<;>omega)];simp
    clear hb1
    go_wp2
    go_step3
    go_wp2
    go_loopw [3,4,18] (fun v3 v4 v18 wr=>∃ (i:Nat) (last:Int),i≤t.length∧-1≤last∧last≤9999∧v18 = .int .i64 i∧v3 = .int .i64 last∧v4 = .int .i64 0∧Below w.heap.size w wr∧Hid (okFrom (-1) t=okFrom last (t.drop i))) (fun _ _ v _=>t.length - (intOf v).toNat)
    case atStart=>exact ⟨0,-1,Nat.zero_le _,by omega,by omega,rfl,rfl,rfl,hB1,by unfold Hid;simp⟩
    case round =>
      obtain ⟨i,last,hi,hl0,hl1,rfl,rfl,rfl,hB,hF⟩:=hrel
      clear hcell hB1
      by_cases hlt:i<t.length
      · obtain ⟨b,o,rfl,hblt,hc⟩:=(HT.out.below hB).at_ hlt
        have hF':okFrom (-1) t=(zIg last t[i] && okFrom t[i].id (t.drop (i+1))):=by
          rw [hF.out,List.drop_eq_getElem_cons hlt];rfl
        have HF:=Lib.hid hF'
        clear hF' hF
        obtain ⟨hs0,hs1⟩:=hf t[i] (List.getElem_mem hlt)
        generalize t[i]=s at hc HF hs0 hs1
        obtain ⟨id,⟨la,lb⟩,⟨fa,fb⟩,⟨ra,rb⟩,sd,wl⟩:=s
        simp only at hs0 hs1
        have c0:=hc 0 _ rfl
        have c1:=hc 1 _ rfl
        have c2:=hc 2 _ rfl
        have c3:=hc 3 _ rfl
        have c4:=hc 4 _ rfl
        have c5:=hc 5 _ rfl
        have c6:=hc 6 _ rfl
        have c7:=hc 7 _ rfl
        have c8:=hc 8 _ rfl
        simp only [Nat.add_zero] at c0
        clear hc
        have hi0:(0:Int)≤i:=by omega
        have hi1:(i:Int)<t.length:=by omega
        go_wp2_with (first
          | (go_at_call 84;refine (zNV _ _ _ _ _ _ _ (by simp)).mono ?_;rintro e wn ⟨rfl,hbn⟩;(first|(replace hB:=zAo (zAZ hB _) hbn;replace kb:=(kb.alloc _).past hbn)|(replace hB:=zAo (zAZ (zAZ hB _) _) hbn;have kb:=((Blk.new _ _ _).alloc _).past hbn));obtain ⟨kc,kf,kl⟩:=kb.facts;clear hbn)
          | (go_at_call 121;refine (zPK ⟨_,_⟩ _ _ _).mono ?_;rintro e wn ⟨rfl,hbn⟩;replace hB:=zAo hB hbn;replace kb:=kb.past hbn;obtain ⟨kc,kf,kl⟩:=kb.facts;clear hbn))
        all_goals first
          | (rw [Exit.noGoto_ret]
             go_ret
             refine ⟨zBY ?_,hB⟩
             go_light
             try simp only [Bool.not_eq_true',Bool.not_eq_false'] at *
             have e:okFrom (-1) t=false:=by rw [HF.out];simp [zIg, *]
             simp [valid,e])
          | (go_light
             try simp only [Bool.not_eq_true',Bool.not_eq_false'] at *
             have h:=‹inB (last+1) 9999 id=true›
             rw [zAL] at h
             refine ⟨⟨i+1,id,by omega,by omega,by omega,by go_num,by first|rfl|trivial,by first|rfl|trivial,hB,?_⟩,by simp [intOf];omega⟩
             unfold Hid
             rw [HF.out]
             simp [zIg, *])
      · go_wp2
        rw [Exit.noGoto_ret]
        go_ret
        refine ⟨zBY ?_,hB⟩
        simp [valid,H1.out,hF.out,List.drop_eq_nil_of_le (Nat.le_of_not_lt hlt),okFrom]
end Go.Proofs.YtdigopgncfhiaaaGreatDoor
namespace Go.Proofs.YtdigopgncfhiaaaGreatDoor
open Go.RowKit
set_option maxRecDepth 20000
theorem load_v {w:World} {g:Nat} {x:Value} (hk:Blk w g #[x]):(loadVar 149 ⟨g,0,none⟩).run Tryz.prog w = .ok (.agg #[x]) w:=by
 have h0:=hk.cell 0
 simp at h0
 simp [go_sem,h0]
theorem zNA {fn:Func} {t s:Tmp} {tmps:Array Value} {w:World} {g:Nat} {x:Value} (hr:fn.results=#[.cell t 149,.tmp s]) (hp:tmps.getD t undef = .pointer (some ⟨g,0,none⟩)) (hk:Blk w g #[x]) :
  (results fn tmps).run Tryz.prog w = .ok (.tuple #[.agg #[x],tmps.getD s undef]) w:=by
 simp [results,hr,-Array.getD_eq_getD_getElem?,hp,asAddr,load_v hk]
def zDv (t:List St):Int:=if valid t then 0 else 10
set_option maxHeartbeats 2000000 in
theorem zME (t:List St) (A:Option Addr) (cap:Nat) (w:World) (ht:zx zA5 9 w A t) (hf:zFb t) (hl:t.length≤1000000) :
  zAp 93 #[vT A t.length cap] w (.tuple #[vT A t.length cap,.int .i64 (zDv t)]):=by
 unfold zAp vT
 have HT:=Lib.hid ht
 clear ht
 go_enter Tryz.func93,Tryz.ntmps93
 go_wp2
 have hc:∀ W:World,Below w.heap.size w W→zAp 91 #[.agg #[.slice A t.length cap]] W (.int .i64 (zDv t)):=by
  intro W hW
  exact zKm t A cap W (HT.out.below hW) hf hl
 have HC:=Lib.hid hc
 clear hc
 generalize hW0:(w.alloc (.cells #[.slice A t.length cap] 24)).alloc (.cells #[.slice none 0 0] 149)=W0
 have b1:Blk W0 w.heap.size #[.slice A t.length cap]:=by rw [← hW0];(refine zBb ?_;repeat (first|(with_reducible refine zP.zBZ (by first|(simp;done)|(simp;omega)|omega) ?_;(first|rfl|(simp;done)))|(with_reducible refine zP.alloc ?_ _)|(with_reducible refine zP.far ?_ _ (by first|(simp;done)|(simp;omega)|omega))|(with_reducible refine zP.zBA ?_ (by first|(simp;done)|(simp;omega)|omega))|(with_reducible refine zP.drew ?_)|(with_reducible refine zP.drewN ?_ _)|(refine zP.leaf (by assumption) ?_;(first|rfl|(simp;done)))))
 have b2:Blk W0 (w.heap.size+1) #[.slice none 0 0]:=by rw [← hW0];(refine zBb ?_;repeat (first|(with_reducible refine zP.zBZ (by first|(simp;done)|(simp;omega)|omega) ?_;(first|rfl|(simp;done)))|(with_reducible refine zP.alloc ?_ _)|(with_reducible refine zP.far ?_ _ (by first|(simp;done)|(simp;omega)|omega))|(with_reducible refine zP.zBA ?_ (by first|(simp;done)|(simp;omega)|omega))|(with_reducible refine zP.drew ?_)|(with_reducible refine zP.drewN ?_ _)|(refine zP.leaf (by assumption) ?_;(first|rfl|(simp;done)))))
 have hB:Below w.heap.size w W0:=by rw [← hW0];(repeat (first|(with_reducible refine zAZ ?_ _)|(with_reducible refine zAf ?_ (by first|(simp;done)|(simp;omega)|omega))|(with_reducible refine zA4 ?_)|(with_reducible refine below_drewN ?_ _)|(with_reducible assumption)|(with_reducible exact Below.refl _ _)))
 have hs:W0.heap.size=w.heap.size+2:=by rw [← hW0];simp
 clear hW0
 obtain ⟨c1,f1,l1⟩:=b1.facts
 refine zF2 (fun b=>b=w.heap.size+1) (fun r=>[oA (w.heap.size+1) #[.slice none 0 0],vA 4 (.agg #[.slice A t.length cap]),vA 5 (.agg #[.slice A t.length cap]),vA 6 (.agg #[.slice A t.length cap]),vA 7 (.int .i64 (zDv t)),oA (w.heap.size+1) #[.slice A t.length cap],vA 3 (.int .i64 (zDv t))].getD r nA) [(4,[0])] 1 (fun _=>[w.heap.size+1]) 7 (by rfl) (by kernel_rfl) (by kernel_rfl) ?_ ?_ ?_ ?_ ?_ ?_
 ·intro r hr
  obtain rfl:r=0:=by omega
  exact zKP rfl b2
 ·intro r hr b hb
  simp at hb
  subst hb
  exact ⟨by omega,rfl⟩
 ·intros;omega
 ·(repeat (first|exact zCN.nil|(refine zCN.cons (zOZ (by rintro _ ⟨⟩<;>exact ⟨by decide,by kernel_rfl⟩)) ?_)))
 ·(refine (zA6.cons ?_ (zA6.cons ?_ (zA6.cons ?_ (zA6.cons ?_ (zA6.cons ?_ (zA6.cons ?_ zA6.nil)))))))
  all_goals (refine OpOk.of (fun a v S hs hC hr hav K hK=>?_);have cC:=hC.cells.1;have fC:=hC.cells.2;have HS:=Lib.hid hs;have HK:=Lib.hid hC)
  ·(have q1:=(hr 1 (by kernel_rfl));clear hr hav hs hC;simp [Array.getD_eq_getD_getElem?,vSp] at q1;go_simp);(refine hK _ _ (zBK (zCq (zAq (by rw [HS.out];exact Nat.lt_of_sub_ne_zero (by simp))))))
  ·(have u1:=(hav 1 (by kernel_rfl));(try dsimp only at u1);replace u1:=zAr u1;clear hr hav hs hC;simp [Array.getD_eq_getD_getElem?,vSp] at u1;go_simp);(refine hK _ _ (zBK (zCq (zAq (by rw [HS.out];exact Nat.lt_of_sub_ne_zero (by simp))))))
  ·(have q1:=(hr 1 (by kernel_rfl));clear hr hav hs hC;simp [Array.getD_eq_getD_getElem?,vSp] at q1;go_simp);(refine hK _ _ (zBK (zCq (zAq (by rw [HS.out];exact Nat.lt_of_sub_ne_zero (by simp))))))
  ·have hb:=hB.trans (HK.out.below (n:=w.heap.size) (by intros;omega) (by omega))
   (have u3:=(hav 3 (by kernel_rfl));(try dsimp only at u3);replace u3:=zAr u3;clear hr hav hs hC;simp [Array.getD_eq_getD_getElem?,vSp] at u3;go_simp)
   go_at_call 91
   refine (HC.out _ hb).mono ?_
   rintro e w1 ⟨rfl,hb1⟩
   (refine hK _ _ (zOz (by assumption) (zCq (zAq (by rw [HS.out];exact Nat.lt_of_sub_ne_zero (by simp))))))
  ·(have h0:=hav 0 (by kernel_rfl);(try dsimp only at h0))
   obtain ⟨hS,hbl⟩:=zHb h0
   obtain ⟨k1,k2,k3⟩:=hbl.facts
   (have q2:=(hr 2 (by kernel_rfl));have u2:=(hav 2 (by kernel_rfl));(try dsimp only at u2);replace u2:=zAr u2;clear hr hav hs hC;simp [Array.getD_eq_getD_getElem?,vSp] at q2;simp [Array.getD_eq_getD_getElem?,vSp] at u2;go_simp)
   refine hK undef _ (zIv 0 (by kernel_rfl) rfl rfl rfl (by simp) ?_ (zKP hS ?_))
   ·intro b hb;rw [hS] at hb;exact Below.heap_setCell _ _ _ _ (by simpa using hb)
   ·(refine zBb ?_;repeat (first|(with_reducible refine zP.zBZ (by first|(simp;done)|(simp;omega)|omega) ?_;(first|rfl|(simp;done)))|(with_reducible refine zP.alloc ?_ _)|(with_reducible refine zP.far ?_ _ (by first|(simp;done)|(simp;omega)|omega))|(with_reducible refine zP.zBA ?_ (by first|(simp;done)|(simp;omega)|omega))|(with_reducible refine zP.drew ?_)|(with_reducible refine zP.drewN ?_ _)|(refine zP.leaf (by assumption) ?_;(first|rfl|(simp;done)))))
  ·(have u4:=(hav 4 (by kernel_rfl));(try dsimp only at u4);replace u4:=zAr u4;clear hr hav hs hC;simp [Array.getD_eq_getD_getElem?,vSp] at u4;go_simp);(refine hK _ _ (zBK (zCq (zAq (by rw [HS.out];exact Nat.lt_of_sub_ne_zero (by simp))))))
 ·intro a v S hs hd hrest hC hav
  (have h5:=hav 5 (by kernel_rfl);(try dsimp only at h5))
  have hbl:=(zHb h5).2
  have hb:=hB.trans (hC.below (n:=w.heap.size) (by intros;omega) (by omega))
  (have u6:=hav 6 (by kernel_rfl);(try dsimp only at u6);replace u6:=zAr u6;have u4:=hav 4 (by kernel_rfl);(try dsimp only at u4);replace u4:=zAr u4;have u3:=hav 3 (by kernel_rfl);(try dsimp only at u3);replace u3:=zAr u3;have u2:=hav 2 (by kernel_rfl);(try dsimp only at u2);replace u2:=zAr u2;have u1:=hav 1 (by kernel_rfl);(try dsimp only at u1);replace u1:=zAr u1;have hfr:=zOb hs hd hrest _ (by kernel_rfl) (by simp) (zA1 u1 (zA1 u2 (zA1 u3 (zA1 u4 (zA1 u6 wr_nil)))));simp only [List.foldl_cons,List.foldl_nil] at hfr;subst hfr)
  go_wp2
  refine bodyPost_ret (zNA (x:=.slice A t.length cap) rfl rfl ?_) rfl ⟨rfl,hb⟩
  exact hbl
end Go.Proofs.YtdigopgncfhiaaaGreatDoor
namespace Go.Proofs.YtdigopgncfhiaaaGreatDoor
variable {ro : Option Nat}
open Go.RowKit
set_option maxRecDepth 20000
theorem elem_st : zJp Tryz.prog 22 86 9 72 (.agg #[.int .i64 0,.int .i64 0,.int .i64 0,.int .i64 0,.int .i64 0,.int .i64 0,.int .i64 0,.int .u8 0,.int .i64 0]) :=
 ⟨by simp [go_sem],info_parts (by kernel_rfl),by rfl,by decide⟩
instance : ElI Tryz.prog 22 86 9 72:=⟨⟨_,elem_st⟩⟩
set_option maxHeartbeats 1000000 in
theorem twin_any (t:List St) (A:Option Addr) (cap:Nat) (w:World) (ht:zx zA5 9 w A t) (hl:t.length≤1000) :
  zC4 zA5 9 t (fun v=>.agg #[v]) Tryz.prog 75 [vT A t.length cap] w:=by
 unfold zC4 vT
 (refine zL (n:=8) Tryz.func75 rfl rfl rfl ?_)
 (repeat' (first|((with_reducible refine zG ?_);first|(refine zK rfl rfl rfl rfl rfl ?_;refine ⟨_,rfl,?_⟩)|refine za rfl rfl rfl rfl rfl ?_|(refine zC7 zA5 rfl rfl rfl rfl (fun b=>?_))|(refine zBT (enc:=zA5) t rfl rfl rfl rfl rfl (by (repeat (first|exact tK1 _ _|apply tK2))) rfl rfl (zGM ht) (by refine ⟨?_,by decide⟩;(try simp only [List.length_append,List.length_cons,List.length_nil]);omega) (fun A' c'=>?_))|(refine ze rfl rfl rfl rfl rfl ?_;refine And.intro rfl (And.intro (by first|decide|exact Nat.le_of_ble_eq_true rfl|(simp;omega)) ⟨_,rfl,?_⟩))|(refine zm rfl rfl rfl rfl (fun b=>?_))|(refine zt rfl rfl rfl rfl rfl rfl (fun b=>?_))|(refine zA7 rfl rfl rfl rfl rfl ?_;refine ⟨_,rfl,?_⟩))|(with_reducible first|refine zH ?_|refine zB ?_|refine zD ?_|refine zA ?_|refine zc ?_)))
 refine zV (by (exact zO.cons (by exact res1c rfl (by exact rfl)) zO.nil)) (A',c') trivial rfl (fun _ h=>(h.zFJ (by (repeat (first|exact tK1 _ _|apply tK2)))).sub (by (repeat (first|exact oK1 _|(refine oK2 (by (repeat (first|exact tK1 _ _|apply tK2))) ?_)))))
theorem check_n (t:List St) (A:Option Addr) (cap:Nat) (w:World) (ht:zx zA5 9 w A t) (hf:zFb t) (hl:t.length≤1000000):Gv Tryz.prog 91 [.agg #[.slice A t.length cap]] w (.int .i64 (zDv t)):=(zKm t A cap w ht hf hl).gv
theorem rcheck_n (t:List St) (A:Option Addr) (cap:Nat) (w:World) (ht:zx zA5 9 w A t) (hf:zFb t) (hl:t.length≤1000000):Gv Tryz.prog 49 [.agg #[.slice A t.length cap]] w (.int .i64 (zDv t)):=(zNC t A cap w ht hf hl).gv
end Go.Proofs.YtdigopgncfhiaaaGreatDoor
namespace Go.Proofs.YtdigopgncfhiaaaGreatDoor
variable {ro : Option Nat}
open Go.RowKit
set_option maxRecDepth 20000
theorem zJU {t:List St} (h:valid t=true):zDv t=0:=by simp [zDv,h]
theorem errT_no {t:List St} (h:valid t=false):zDv t=10:=by simp [zDv,h]
theorem zHQ {α:Type} {enc:α→List Value} {k:Nat} {base:Nat} {w:World} {H:List Ent} (_:Own base w H):Own base w [.sl enc k none ([]:List α)]:=by
 refine ⟨fun e he=>?_,fun e he b hb=>?_,by simp⟩
 ·simp only [List.mem_singleton] at he
  subst he
  exact zx.nil
 ·simp only [List.mem_singleton] at he
  subst he
  obtain ⟨o,ho⟩:=hb
  cases ho
section
variable {w0 : World} {n:Nat} {d:List Deferred} {R:List (Nat × Value)} {H:List Ent} {Q:Exit→Act→World→Prop} {ops:Array Oper} {rest:List Oper} {o:Oper} {t:Tmp} {x y:Operand}
theorem u_nesp {a b c e:Int} {T':TypeId} (hop:o.op = .binOp .neq 28 x y T') (hw:want R ops o=some true) (hd:o.dst=some t) (ht:Nat.blt t n=true) (hx:evR R x=some (.agg #[.int .i64 a,.int .i64 b])) (hy:evR R y=some (.agg #[.int .i64 c,.int .i64 e]))
  (h1:a=c∧b=e→U w0 n d ((t,.bool false)::R) H (wpL ro Tryz.prog ops Q rest)) (h2:¬ (a=c∧b=e)→U w0 n d ((t,.bool true)::R) H (wpL ro Tryz.prog ops Q rest)):U w0 n d R H (wpL ro Tryz.prog ops Q (o::rest)) :=
 u_eql hop hw hd ht hx hy (fun w=>gd_sp _ _ _ _ _ w) (fun w=>zIm a b c e w) (fun h=>h2 (by simpa using eqSp_no.1 (by simpa using h))) (fun h=>h1 (by simpa using zDP.1 (by simpa using h)))
end
end Go.Proofs.YtdigopgncfhiaaaGreatDoor
