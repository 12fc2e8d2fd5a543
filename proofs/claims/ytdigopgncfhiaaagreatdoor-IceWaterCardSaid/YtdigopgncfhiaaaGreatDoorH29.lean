/- H29 -/
import Derived.Test.YtdigopgncfhiaaaGreatDoorH28
import Derived.Test.YtdigopgncfhiaaaGreatDoorH26
import Derived.Test.YtdigopgncfhiaaaGreatDoorH2
import Derived.Test.YtdigopgncfhiaaaGreatDoorH8
import Derived.Laws.MakeOwn
import Derived.Test.YtdigopgncfhiaaaGreatDoorH27
import Derived.Test.YtdigopgncfhiaaaGreatDoorH25
set_option linter.unusedSimpArgs false
set_option linter.unusedVariables false
namespace Go.Proofs.YtdigopgncfhiaaaGreatDoor
variable {ro : Option Nat}
open Go.RowKit
set_option maxRecDepth 20000
theorem all_any (l:List Me) (B:Option Addr) (c:Nat) (w:World):Ret Tryz.prog 126 [.slice B l.length c] w (fun g:Nat=>.func (.func 142) #[] #[.pointer (some ⟨g,0,none⟩)]) (fun g=>[.blk g [.slice B l.length c]]) (fun _=>True):=by
 (refine zJ (n:=4) Tryz.func126 rfl rfl rfl ?_)
 (repeat' (first|((with_reducible refine zF ?_);first|refine zC rfl rfl rfl ?_|(refine zy rfl rfl rfl rfl (fun b=>?_))|refine zBa rfl rfl rfl rfl ?_)|(with_reducible first|refine zH ?_|refine zB ?_|refine zD ?_|refine zA ?_|refine zW ?_)))
 exact zR (by exact rTm rfl) b trivial rfl (fun _ h=>h.sub (by (repeat constructor)))
open Go.RowKit
set_option maxRecDepth 20000
attribute [local go_sem] Oper.semAt_some
set_option maxHeartbeats 2000000 in
theorem zRB (l:List Me) (B:Option Addr) (c bx:Nat) (hll:l.length≤1000000) :
  Iter Tryz.prog 142 #[.pointer (some ⟨bx,0,none⟩)] 0 l.length (fun k=>#[.int .i64 (k:Int),vMe (l.getD k ⟨0,0,0,⟨0,0⟩⟩)])
   (fun W=>Blk W bx #[.slice B l.length c]∧zp zC3 5 W B l):=by
 intro q J Jx W hJ hJx hD hY h0
 obtain ⟨d1,d2⟩:=hD 0 W h0
 obtain ⟨c1,f1,l1⟩:=d1.facts
 have HS:=Lib.hid d2
 clear d2
 refine callsIn_of_wp Tryz.func142 rfl trivial ?_ rfl
 simp only [Tryz.ntmps142,List.size_toArray,List.length_cons,List.length_nil,Nat.reduceAdd,Nat.reduceSub,Array.replicate_succ,Array.replicate_zero,List.push_toArray,List.append_toArray,List.nil_append,List.cons_append]
 gi_wp2
 gi_loopw [7] (fun v wr=>∃ k:Nat,k≤l.length∧v = .int .i64 (k:Nat)∧J k wr∧W.heap.size≤wr.heap.size) (fun v _=>l.length - (intOf v).toNat)
 case atStart =>
  exact ⟨0,by omega,rfl,h0,by omega⟩
 case round =>
  obtain ⟨k,hk,rfl,hJk,hsz⟩:=hrel
  obtain ⟨x1,x2⟩:=hD k wr hJk
  obtain ⟨p1,q1,m1⟩:=x1.facts
  by_cases hlt:k<l.length
  ·have hi0:(0:Int)≤(k:Int):=by omega
   have hi1:(k:Int)<l.length:=by omega
   obtain ⟨b,o,rfl,hblt,hc⟩:=x2.at_ hlt
   have hg:l.getD k ⟨0,0,0,⟨0,0⟩⟩=l[k]:=by simp [List.getD_eq_getElem?_getD,hlt]
   generalize l[k]=m at hc hg
   have e0:=hc 0 _ rfl
   have e1:=hc 1 _ rfl
   have e2:=hc 2 _ rfl
   have e3:=hc 3 _ rfl
   have e4:=hc 4 _ rfl
   clear hc
   rw [Nat.add_zero] at e0
   have hJ2:=hJ k _ _ hJk (zEe W.heap.size (W.heap.size+0) wr (.cells #[.int .u8 m.kind,.int .i64 m.frm,.int .i64 m.to,.int .i64 m.value.lo,.int .i64 m.value.hi] 189))
   have hy:=hY k _ hlt hJ2 (by simp;omega)
   rw [hg] at hy
   unfold YieldAt vMe at hy
   obtain ⟨fn,tmps,assign,body,hy,hR⟩:=hy
   gi_wp2
   refine hR.mono ?_
   rintro e W3 (⟨rfl,hJ3,hon⟩ | ⟨rfl,hJx3,hon⟩)
   ·have hsz3:=hon.size
    gi_wp2
    go_roundw
    case rel=>exact ⟨k+1,by omega,by go_num,hJ3,by simp at hsz3;omega⟩
    case measure=>simp [intOf];omega
   ·gi_wp2
    (try simp only [Exit.inBlock,Exit.then]);refine bodyPost_ret (results_none rfl _ _ _) rfl ?_
    exact ⟨⟨_,rfl⟩,.inr ⟨k,by omega,hJx3⟩⟩
  ·obtain rfl:k=l.length:=by omega
   gi_wp2
   go_end0
   exact ⟨⟨_,rfl⟩,.inl hJk⟩
theorem zQx {l:List Me} {k:Nat} (h:k<l.length):(zAv (KB.id k) (l.take k)).push ⟨.int .i64 (k:Int),vMe (l.getD k ⟨0,0,0,⟨0,0⟩⟩),k⟩=zAv (KB.id (k+1)) (l.take (k+1)):=by
 apply Array.ext'
 have hg:l.getD k ⟨0,0,0,⟨0,0⟩⟩=l[k]:=by simp [List.getD_eq_getElem?_getD,h]
 have e:(KB.id (k+1))=(KB.id (k+1)):=rfl
 simp only [zAv,entsL,Array.toList_push,hg]
 rw [← List.take_append_getElem h,List.mapIdx_append]
 have h9:min k l.length=k:=by omega
 simp [zGd,KB.id,h9]
 rfl
theorem zKb {l:List Me} {m k:Nat} {W:World} (hk:k<l.length) (hm:W.heap[m]?=some (.map (zAv (KB.id k) (l.take k)) k)) :
  (Instr.mapUpdate 154 (.map (some m)) (.int .i64 (k:Int)) (vMe (l.getD k ⟨0,0,0,⟨0,0⟩⟩))).run Tryz.prog W = .ok () (Go.ChangeMaps.setBlock W m (.map (zAv (KB.id (k+1)) (l.take (k+1))) (k+1))):=by
 have hkt:Tryz.prog.underlying 3=some (.int .i64):=by rfl
 have i1:Tryz.prog.underlying 154=some (.map 3 189):=by rfl
 have e1:=run_underlying i1 W
 have e2:=zEc (P:=Tryz.prog) (w:=W) (e:=false) (N:=9999) (i:=(k:Int)) hkt
 have hn:∀ e∈(zAv (KB.id k) (l.take k)).toList,∃ j,e.key = .int .i64 j∧j≠(k:Int):=fun e he=>by
  obtain ⟨i,me,hi,rfl⟩:=zFq.1 he
  have:=(List.getElem?_eq_some_iff.1 hi).1
  simp only [List.length_take] at this
  exact ⟨(i:Int),rfl,by omega⟩
 have e3:(Instr.findKey 3 (.int .i64 (k:Int)) (zAv (KB.id k) (l.take k)).toList).run Tryz.prog W = .ok none W:=by
  have:=run_underlying hkt W
  simp [Instr.findKey,Sem.run_bind,this,zHS _ 0 hn]
 rw [← zQx hk]
 simp [Instr.mapUpdate,Sem.run_bind,e1,getObj,Sem.run,hm,e2,e3,setObj,Go.ChangeMaps.setBlock]
structure Sd (m:Nat) (w W:World):Prop where
 os:W.os=w.os
 tape:W.tape=w.tape
 output:W.output=w.output
 size:w.heap.size≤W.heap.size
 block:∀ b,b<w.heap.size→b≠m→W.heap[b]?=w.heap[b]?
set_option maxHeartbeats 2000000 in
theorem zOe (l:List Me) (B:Option Addr) (c bx m:Nat) (w:World) (hll:l.length≤1000000) (hm:w.heap[m]?=some (.map #[] 0)) (hbx:Blk w bx #[.slice B l.length c]) (hs:zp zC3 5 w B l) (h1:bx≠m) (h2:∀ b o,B=some ⟨b,o,none⟩→b≠m) :
  Calls Tryz.prog 141 #[.map (some m),.func (.func 142) #[] #[.pointer (some ⟨bx,0,none⟩)]] w fun e w'=>e = .returned (.tuple #[])∧Sd m w w'∧w'.heap[m]?=some (.map (zAv (KB.id l.length) l) l.length):=by
 have HS:=Lib.hid hs
 clear hs
 have hml:m<w.heap.size:=(Array.getElem?_eq_some_iff.1 hm).1
 refine (callsIn_wide (n:=10)).1 ?_
 refine callsIn_of_wp_marks Tryz.func141 rfl trivial ?_ rfl
 refine wpIn_wide.2 ?_
 simp only [Tryz.ntmps141,List.size_toArray,List.length_cons,List.length_nil,Nat.reduceAdd,Nat.reduceSub,Array.replicate_succ,Array.replicate_zero,List.push_toArray,List.append_toArray,List.nil_append,List.cons_append]
 go_wp2
 generalize hW:w.alloc (.cells #[.map (some m)] 154)=W
 have z1:Blk W w.heap.size #[.map (some m)]:=by rw [← hW];(refine zBV ?_;repeat (first|(with_reducible refine zM.zBU (by first|(simp;done)|(simp;omega)|omega) ?_;(first|rfl|(simp;done)))|(with_reducible refine zM.alloc ?_ _)|(with_reducible refine zM.far ?_ _ (by first|(simp;done)|(simp;omega)|omega))|(with_reducible refine zM.zBA ?_ (by first|(simp;done)|(simp;omega)|omega))|(with_reducible refine zM.drew ?_)|(with_reducible refine zM.drewN ?_ _)|(refine zM.leaf (by assumption) ?_;(first|rfl|(simp;done)))))
 have hSd:Sd m w W:=by rw [← hW];exact ⟨rfl,rfl,rfl,by simp,fun b hb _=>Below.heap_alloc _ _ _ hb⟩
 have hm1:W.heap[m]?=some (.map #[] 0):=by rw [← hW];exact (Below.heap_alloc _ _ _ hml).trans hm
 have hs1:W.heap.size=w.heap.size+1:=by rw [← hW];simp
 refine (wpIn_wide (n:=10)).1 ?_
 refine zHw (gf:=142) (lb:=#[.pointer (some ⟨bx,0,none⟩)]) rfl (enters Tryz.func142 rfl rfl) (zRB l B c bx hll) (fun _=>rfl)
   (fun k W'=>Blk W' w.heap.size #[.map (some m)]∧Sd m w W'∧W'.heap[m]?=some (.map (zAv (KB.id k) (l.take k)) k))
   (fun _ _ _=>False) ?_ ?_ ?_ ?_ ?_ ?_ ?_
 ·rintro k W1 W2 ⟨a1,a2,a3⟩ ho
  have h5:=a2.size
  exact ⟨a1.off ho (by omega),⟨ho.os.trans a2.os,ho.tape.trans a2.tape,ho.output.trans a2.output,by have:=ho.size;omega,fun b hb hn=>(ho.block b (by omega) (by omega)).trans (a2.block b hb hn)⟩,(ho.block m (by omega) (by omega)).trans a3⟩
 ·exact fun _ _ _ _ h _=>h
 ·rintro k W' ⟨a1,a2,a3⟩
  refine ⟨?_,fun i x hx=>?_⟩
  ·have hl:=hbx.lt
   unfold Blk at hbx ⊢
   obtain ⟨t,ht⟩:=hbx
   exact ⟨t,(a2.block bx hl h1).trans ht⟩
  ·obtain ⟨b,o,hb,hlt,hc⟩:=HS.out i x hx
   have e:=a2.block b hlt (h2 b o hb)
   refine ⟨b,o,hb,by have:=a2.size;omega,fun j v hv=>?_⟩
   have:=hc j v hv
   simpa [World.cell?,e] using this
 ·exact ⟨z1,hSd,hm1⟩
 ·intro q k W' hk ⟨a1,a2,a3⟩ hsz K hK
  clear hW z1 hSd hm1
  have hrun:=fun (W:World) (h:W.heap[m]?=some (Obj.map (zAv (KB.id k) (l.take k)) k))=>zKb hk h
  generalize l.getD k ⟨0,0,0,⟨0,0⟩⟩=me at *
  unfold vMe at *
  gi_wp2
  refine hK _ _ (zFh _ _ (by omega)) (fun W2 ho2=>?_)
  have hsz2:=ho2.size
  have hsz':W'.heap.size+1≤W2.heap.size:=by simpa using hsz2
  have y0:Blk W2 w.heap.size #[.map (some m)]:=Blk.off (by (refine zBV ?_;repeat (first|(with_reducible refine zM.zBU (by first|(simp;done)|(simp;omega)|omega) ?_;(first|rfl|(simp;done)))|(with_reducible refine zM.alloc ?_ _)|(with_reducible refine zM.far ?_ _ (by first|(simp;done)|(simp;omega)|omega))|(with_reducible refine zM.zBA ?_ (by first|(simp;done)|(simp;omega)|omega))|(with_reducible refine zM.drew ?_)|(with_reducible refine zM.drewN ?_ _)|(refine zM.leaf (by assumption) ?_;(first|rfl|(simp;done)))))) ho2 (by omega)
  have yM:Blk W2 W'.heap.size #[.int .u8 me.kind,.int .i64 me.frm,.int .i64 me.to,.int .i64 me.value.lo,.int .i64 me.value.hi]:=Blk.off' (by (refine zBV ?_;repeat (first|(with_reducible refine zM.zBU (by first|(simp;done)|(simp;omega)|omega) ?_;(first|rfl|(simp;done)))|(with_reducible refine zM.alloc ?_ _)|(with_reducible refine zM.far ?_ _ (by first|(simp;done)|(simp;omega)|omega))|(with_reducible refine zM.zBA ?_ (by first|(simp;done)|(simp;omega)|omega))|(with_reducible refine zM.drew ?_)|(with_reducible refine zM.drewN ?_ _)|(refine zM.leaf (by assumption) ?_;(first|rfl|(simp;done)))))) ho2 (by omega)
  have y3:W2.heap[m]?=some (.map (zAv (KB.id k) (l.take k)) k):=(ho2.block m (by simp;omega) (by omega)).trans ((Below.heap_alloc _ _ _ (by omega)).trans a3)
  have y2:Sd m w W2:=by
   have:=a2.size
   exact ⟨ho2.os.trans a2.os,ho2.tape.trans a2.tape,ho2.output.trans a2.output,by omega,fun b hb hn=>(ho2.block b (by simp;omega) (by omega)).trans ((Below.heap_alloc _ _ _ (by omega)).trans (a2.block b hb hn))⟩
  clear ho2 hsz2 a1 a2 a3 hK
  have hr:=hrun W2 y3
  obtain ⟨c0,f0,l0⟩:=y0.facts
  obtain ⟨cM,fM,lM⟩:=yM.facts
  gi_wp2
  refine ⟨⟨rfl,rfl,rfl,by simp [Go.ChangeMaps.setBlock],fun b h3 h4=>?_⟩,?_,⟨y2.os,y2.tape,y2.output,by simpa [Go.ChangeMaps.setBlock] using y2.size,fun b hb hn=>?_⟩,?_⟩
  ·simp only [Go.ChangeMaps.setBlock];rw [Array.getElem?_setIfInBounds_ne (by omega)]
  ·unfold Blk at y0 ⊢
   obtain ⟨t,ht⟩:=y0
   exact ⟨t,by simp only [Go.ChangeMaps.setBlock];rw [Array.getElem?_setIfInBounds_ne (by omega)];exact ht⟩
  ·simp only [Go.ChangeMaps.setBlock];rw [Array.getElem?_setIfInBounds_ne (fun e=>hn e.symm)];exact y2.block b hb hn
  ·have:m<W2.heap.size:=by omega
   simp [Go.ChangeMaps.setBlock,this]
 ·rintro W' ⟨a1,a2,a3⟩ hD hsz
  rw [List.take_length] at a3
  have hws:W.heap.size<W'.heap.size:=(Array.getElem?_eq_some_iff.1 hD).1
  have ho:=zBk W' (.deferred none) (lo:=W.heap.size) (hi:=W.heap.size+1) (Nat.le_refl _) (by omega)
  exact zFD hD (results_none rfl _ _ _) ⟨rfl,⟨ho.os.trans a2.os,ho.tape.trans a2.tape,ho.output.trans a2.output,by have:=ho.size;have:=a2.size;omega,fun b hb hn=>(ho.block b (by omega) (by omega)).trans (a2.block b hb hn)⟩,(ho.block m (by omega) (by omega)).trans a3⟩
 ·exact fun _ _ _ _ h=>h.elim
end Go.Proofs.YtdigopgncfhiaaaGreatDoor
namespace Go.Proofs.YtdigopgncfhiaaaGreatDoor
variable {ro : Option Nat}
open Go.RowKit
set_option maxRecDepth 20000
theorem zQK {α:Type} {p:Nat→α→Bool} {l:List α} {i:Nat} {x:α} (h:l[i]?=some x) (hp:p i x=true):0<(picks p l).length:=by
 unfold picks zBw
 rw [List.length_map,List.length_pos_iff_exists_mem]
 exact ⟨i,List.mem_filter.2 ⟨List.mem_range.2 (List.getElem?_eq_some_iff.1 h).1,by simp [soAt,h,hp]⟩⟩
theorem zOO {α:Type} {p:Nat→α→Bool} {l:List α} (h:∀ i x,l[i]?=some x→p i x=false):picks p l=[]:=by
 unfold picks zBw
 rw [List.map_eq_nil_iff,List.filter_eq_nil_iff]
 intro i hi
 cases hx:l[i]? with
 | none=>simp [soAt,hx]
 | some x=>simp [soAt,hx,h i x hx]
theorem insert_F (l:List Me) (B:Option Addr) (c bx m:Nat) (w:World) (hll:l.length≤1000000) (hm:w.heap[m]?=some (.map #[] 0)) (hbx:Blk w bx #[.slice B l.length c]) (hs:zp zC3 5 w B l) (h1:bx≠m) (h2:∀ b o,B=some ⟨b,o,none⟩→b≠m) :
  zFU Tryz.prog 141 [.map (some m),.func (.func 142) #[] #[.pointer (some ⟨bx,0,none⟩)]] w [.map m #[] 0] (fun _:Unit=>.tuple #[]) (fun _=>[.map m (zAv (KB.id l.length) l) l.length]) (fun _=>True):=by
 have hml:m<w.heap.size:=(Array.getElem?_eq_some_iff.1 hm).1
 refine zFU.of (Calls.mono (zOe l B c bx m w hll hm hbx hs h1 h2) ?_)
 rintro e w' ⟨rfl,a,b⟩
 refine ⟨(),trivial,rfl,⟨a.os,a.tape,a.output,a.size⟩,fun k hk hn=>a.block k hk (fun e=>hn (by subst e;exact ⟨_,List.mem_singleton.2 rfl,rfl⟩)),⟨fun e he=>?_,fun e he k hk=>?_,by simp⟩,fun k hk=>.inl ?_⟩
 ·simp only [List.mem_singleton] at he;subst he;exact b
 ·simp only [List.mem_singleton] at he;subst he;cases hk;have:=a.size;exact ⟨Nat.zero_le _,by omega⟩
 ·obtain ⟨e,he,hS⟩:=hk
  simp only [List.mem_singleton] at he;subst he
  exact ⟨_,List.mem_singleton.2 rfl,hS⟩
theorem zNs (l:List Me) (B:Option Addr) (c bx:Nat) (w:World) (hll:l.length≤1000000) (hbx:Blk w bx #[.slice B l.length c]) (hs:zp zC3 5 w B l) (hB:∀ b o,B=some ⟨b,o,none⟩→b<w.heap.size) :
  Ret Tryz.prog 125 [.func (.func 142) #[] #[.pointer (some ⟨bx,0,none⟩)]] w (fun m:Nat=>.map (some m)) (fun m=>[.map m (zAv (KB.id l.length) l) l.length]) (fun _=>True):=by
 have hbl:=hbx.lt
 (refine zJ (n:=9) Tryz.func125 rfl rfl rfl ?_)
 (repeat' (first|((with_reducible refine zF ?_);first|refine zE rfl rfl rfl ?_|refine zC rfl rfl rfl ?_|(refine zP0 rfl rfl (fun m=>?_)))|(with_reducible first|refine zH ?_|refine zB ?_|refine zD ?_|refine zA ?_)))
 refine zEA [.map m #[] 0] [] rfl rfl rfl rfl (by (repeat constructor)) (fun a W q=>insert_F l B c bx m W hll (q.own.here (.map m #[] 0) (by simp)) (hbx.past q.below) (hs.below q.below) (by have:=(q.own.foot (.map m #[] 0) (by simp) m rfl).1;omega) (fun b o e=>by have:=hB b o e;have:=(q.own.foot (.map m #[] 0) (by simp) m rfl).1;omega)) (fun _ _=>?_)
 (repeat' (first|((with_reducible refine zF ?_);first|refine zE rfl rfl rfl ?_|refine zC rfl rfl rfl ?_)|(with_reducible first|refine zH ?_|refine zB ?_|refine zD ?_|refine zA ?_|refine zW ?_)))
 exact zR (by exact rTm rfl) m trivial rfl (fun _ h=>h.sub (by (repeat constructor)))
theorem zNI (t:List St) (A:Option Addr) (cap:Nat) (l:List Me) (B:Option Addr) (c:Nat) (w:World) (ht:zp zAK 9 w A t) (hs:zp zC3 5 w B l) (hf:zEY t) (hfm:zN3 l) (hl:t.length≤1000) (hll:l.length≤1000) (h:valid t=false) :
  Gv Tryz.prog 95 [.agg #[.slice A t.length cap],.slice B l.length c] w (.tuple #[.agg #[.slice A t.length cap],.map none,.int .i64 10]):=by
 unfold Gv
 have h1:=fun W (hB:Below w.heap.size w W)=>zOQ t A cap W (ht.below hB) hf (by omega)
 simp only [zPZ h] at h1
 (refine zJ (n:=35) Tryz.func95 rfl rfl rfl ?_)
 (repeat' (first|((with_reducible refine zF ?_);first|refine zE rfl rfl rfl ?_|refine zC rfl rfl rfl ?_|(refine zL rfl rfl rfl ?_;refine ⟨_,rfl,?_⟩)|(refine zQ rfl rfl rfl rfl rfl (fun h=>?_) (fun h=>?_)<;>(dsimp only [cmpP] at h;(try (exfalso;omega))))|refine zY rfl rfl rfl rfl (fun _ _ q=>h1 _ q.below) ?_|refine zc rfl rfl rfl rfl ?_|(refine za rfl rfl rfl rfl rfl ?_;refine ⟨rfl,by first|decide|exact Nat.le_of_ble_eq_true rfl|(simp;omega),_,rfl,?_⟩)|(refine zh rfl rfl (fun b=>?_))|(refine zy rfl rfl rfl rfl (fun b=>?_)))|(with_reducible first|refine zH ?_|refine zB ?_|refine zD ?_|refine zA ?_|refine zW ?_|refine ze ?_)|((with_reducible refine zK ?_ ?_);(· exact rfl))))
 exact zR (by (exact zf.cons (by exact res1c rfl (by exact rfl)) (zf.cons (by exact zAL.tmp rfl) (zf.cons (by exact zAL.tmp rfl) zf.nil)))) () trivial rfl (fun _ h=>h.sub (by (repeat constructor)))
set_option maxHeartbeats 1000000 in
theorem zL4 (t:List St) (A:Option Addr) (cap:Nat) (l:List Me) (B:Option Addr) (c:Nat) (w:World) (ht:zp zAK 9 w A t) (hs:zp zC3 5 w B l) (hf:zEY t) (hfm:zN3 l) (hl:t.length≤1000) (hll:l.length≤1000) (h:valid t=true) (hm:zD6 t.length l=false) :
  Gv Tryz.prog 95 [.agg #[.slice A t.length cap],.slice B l.length c] w (.tuple #[.agg #[.slice A t.length cap],.map none,.int .i64 11]):=by
 unfold Gv
 have h1:=fun W (hB:Below w.heap.size w W)=>zOQ t A cap W (ht.below hB) hf (by omega)
 simp only [zFn h] at h1
 have hp:¬ 12<l.length→0<(picks (fun _ m=>!zHK t.length m) l).length:=fun h12=>by
  simp only [zD6,Bool.and_eq_false_iff,decide_eq_false_iff_not,Nat.not_le,h12,false_or] at hm
  obtain ⟨x,hx,hx2⟩:=List.all_eq_false.1 hm
  obtain ⟨i,hi,rfl⟩:=List.getElem_of_mem hx
  exact zQK (i:=i) (x:=l[i]) (by simp [hi]) (by simpa using hx2)
 (refine zJ (n:=35) Tryz.func95 rfl rfl rfl ?_)
 (repeat' (first|((with_reducible refine zF ?_);first|refine zE rfl rfl rfl ?_|refine zC rfl rfl rfl ?_|(refine zL rfl rfl rfl ?_;refine ⟨_,rfl,?_⟩)|refine zAY rfl rfl rfl rfl ?_|refine zx rfl rfl rfl ?_|(refine zQ rfl rfl rfl rfl rfl (fun h=>?_) (fun h=>?_)<;>(dsimp only [cmpP] at h;(try (exfalso;omega))))|refine zY rfl rfl rfl rfl (fun _ _ q=>h1 _ q.below) ?_|refine zBt rfl rfl rfl rfl (fun _ _ q=>pickMe l B c _ _ (fun _ m=>!zHK t.length m) _ (hs.below q.below) (by omega) (fun i x W hi hB=>zGa t A cap i x _ W (by omega) (hfm x (List.mem_of_getElem? hi)) (zKF q.own hB))) (fun A' c'=>?_)|refine zc rfl rfl rfl rfl ?_|refine zq rfl rfl rfl ?_|(refine za rfl rfl rfl rfl rfl ?_;refine ⟨rfl,by first|decide|exact Nat.le_of_ble_eq_true rfl|(simp;omega),_,rfl,?_⟩)|(refine zh rfl rfl (fun b=>?_))|(refine zy rfl rfl rfl rfl (fun b=>?_))|refine zBa rfl rfl rfl rfl ?_)|(with_reducible first|refine zH ?_|refine zB ?_|refine zD ?_|refine zA ?_|refine zW ?_|refine zS ?_|refine ze ?_)|((with_reducible refine zK ?_ ?_);(· exact rfl))|((with_reducible refine zG ?_ ?_);(· exact rfl))))
 all_goals exact zR (by (exact zf.cons (by exact res1c rfl (by exact rfl)) (zf.cons (by exact zAL.tmp rfl) (zf.cons (by exact zAL.tmp rfl) zf.nil)))) () trivial rfl (fun _ h=>h.sub (by (repeat constructor)))
theorem blk_of {base b:Nat} {cs:List Value} {H H':List Ent} {w:World} (ho:Own base w H) [i:zE1 H b cs H']:Blk w b cs.toArray:=ho.here _ i.tk.mem
set_option maxHeartbeats 1000000 in
theorem zHJ (t:List St) (A:Option Addr) (cap:Nat) (l:List Me) (B:Option Addr) (c:Nat) (w:World) (ht:zp zAK 9 w A t) (hs:zp zC3 5 w B l) (hB:∀ b o,B=some ⟨b,o,none⟩→b<w.heap.size) (hf:zEY t) (hfm:zN3 l) (hl:t.length≤1000) (hll:l.length≤1000) (h:valid t=true) (hm:zD6 t.length l=true) :
  Ret Tryz.prog 95 [.agg #[.slice A t.length cap],.slice B l.length c] w (fun m:Nat=>.tuple #[.agg #[.slice A t.length cap],.map (some m),.int .i64 0]) (fun m=>[.map m (zAv (KB.id l.length) l) l.length]) (fun _=>True):=by
 have h1:=fun W (hB:Below w.heap.size w W)=>zOQ t A cap W (ht.below hB) hf (by omega)
 simp only [zFn h] at h1
 simp only [zD6,Bool.and_eq_true,decide_eq_true_eq] at hm
 obtain ⟨hm1,hm2⟩:=hm
 have hp:picks (fun _ m=>!zHK t.length m) l=[]:=zOO fun i x hx=>by
  have:=List.all_eq_true.1 hm2 x (List.mem_of_getElem? hx)
  simp [this]
 have hp0:(picks (fun _ m=>!zHK t.length m) l).length=0:=by rw [hp];rfl
 (refine zJ (n:=35) Tryz.func95 rfl rfl rfl ?_)
 (repeat' (first|((with_reducible refine zF ?_);first|refine zE rfl rfl rfl ?_|refine zC rfl rfl rfl ?_|(refine zL rfl rfl rfl ?_;refine ⟨_,rfl,?_⟩)|refine zAY rfl rfl rfl rfl ?_|(refine zQ rfl rfl rfl rfl rfl (fun h=>?_) (fun h=>?_)<;>(dsimp only [cmpP] at h;(try (exfalso;omega))))|refine zY rfl rfl rfl rfl (fun _ _ q=>h1 _ q.below) ?_|refine zBt rfl rfl rfl rfl (fun _ _ q=>pickMe l B c _ _ (fun _ m=>!zHK t.length m) _ (hs.below q.below) (by omega) (fun i x W hi hB=>zGa t A cap i x _ W (by omega) (hfm x (List.mem_of_getElem? hi)) (zKF q.own hB))) (fun A' c'=>?_)|refine zc rfl rfl rfl rfl ?_|refine zq rfl rfl rfl ?_|(refine za rfl rfl rfl rfl rfl ?_;refine ⟨rfl,by first|decide|exact Nat.le_of_ble_eq_true rfl|(simp;omega),_,rfl,?_⟩)|(refine zh rfl rfl (fun b=>?_))|(refine zy rfl rfl rfl rfl (fun b=>?_))|refine zBa rfl rfl rfl rfl ?_)|(with_reducible first|refine zH ?_|refine zB ?_|refine zD ?_|refine zA ?_|refine zS ?_)|((with_reducible refine zG ?_ ?_);(· exact rfl))))
 (refine Two.zAV [] [] [] rfl (show ([]:List Nat).Nodup by decide) (fun _ h=>h) (by kernel_rfl) [[],[Y],[Z,Y],[Z,Z,Y],[Z,Z,Z,Z],[Z,Z,Z,Z,Z],[Z,Z,Z,Z,Z,Z]] (by kernel_rfl) (by kernel_rfl) (by kernel_rfl) (by kernel_rfl) (by kernel_rfl) ?_)
 (repeat' (first|(((with_reducible refine Two.zCC ?_ ?_);(· exact rfl);refine ⟨_,fun G=>(by (try simp (decide:=true) only [Two.vis,Two.see,fltT,zm,Nat.reduceAdd,Nat.reduceSub,if_true,if_false,List.set_cons_zero,List.set_cons_succ,List.set_nil,List.nil_append,List.cons_append]);rfl),?_⟩);first|refine Two.zU _ (fun _=>zAO rfl rfl) (fun _=>rfl) rfl (by intro G G' h;simp (decide:=true) only [h]) ?_|refine Two.zU _ (fun _=>zu rfl rfl (by exact rfl)) (fun _=>rfl) rfl (by intro G G' h;simp (decide:=true) only [h]) ?_|refine Two.c_retC (α:=Nat) rfl (fun _=>rfl) rfl (fun _=>rfl) (fun _=>rfl) (fun _ _ _ _=>all_any l B c _) ?_|refine Two.c_retC (α:=Nat) rfl (fun _=>rfl) rfl (fun _=>rfl) (fun _=>rfl) (fun G a W q=>zNs l B c _ W (by omega) (blk_of q.own) (hs.below q.below) (fun b o e=>Nat.lt_of_lt_of_le (hB b o e) q.below.size)) ?_)|((with_reducible refine Two.zA8 ?_ ?_);(· exact rfl))))
 (intro G;simp only [regsT,zm,Two.zAq,Two.ini,List.nil_append,List.cons_append])
 (repeat' (first|((with_reducible refine zF ?_);first|refine zC rfl rfl rfl ?_|(refine za rfl rfl rfl rfl rfl ?_;refine ⟨rfl,by first|decide|exact Nat.le_of_ble_eq_true rfl|(simp;omega),_,rfl,?_⟩))|(with_reducible first|refine zD ?_|refine zA ?_|refine zW ?_)))
 exact zR (by (exact zf.cons (by exact res1c rfl (by exact rfl)) (zf.cons (by exact zAL.tmp rfl) (zf.cons (by exact zAL.tmp rfl) zf.nil)))) (deC Nat (G 3).g) trivial rfl (fun _ h=>h.sub (by (repeat constructor)))
end Go.Proofs.YtdigopgncfhiaaaGreatDoor
namespace Go.Proofs.YtdigopgncfhiaaaGreatDoor
variable {ro : Option Nat}
open Go.RowKit
set_option maxRecDepth 20000
def rowC (n:Nat) (M:Mat) (i:Nat):List Value:=(List.range n).map fun j=>.int .i64 (M i j)
def tabC (n k:Nat) (gs:Nat→Nat):List Value:=(List.range n).map fun i=>if i<k then .slice (some ⟨gs i,0,none⟩) n n else .slice none 0 0
structure Grid (ab:Nat) (gs:Nat→Nat) (n k:Nat) (M:Mat) (w:World):Prop where
 tab:Blk w ab (tabC n k gs).toArray
 row:∀ i,i<k→Blk w (gs i) (rowC n M i).toArray
 inj:∀ i j,i<k→j<k→gs i=gs j→i=j
 ne:∀ i,i<k→gs i≠ab
 le:k≤n
def Ent.grid (ab:Nat) (gs:Nat→Nat) (n k:Nat) (M:Mat):Ent :=
 ⟨fun b=>b=ab∨∃ i,i<k∧gs i=b,Grid ab gs n k M,fun _ _ _ h hp=>⟨hp.tab.same (h ab (.inl rfl)),fun i hi=>(hp.row i hi).same (h _ (.inr ⟨i,hi,rfl⟩)),hp.inj,hp.ne,hp.le⟩⟩
class TakeG (H:List Ent) (ab:Nat) (gs:outParam (Nat→Nat)) (n k:outParam Nat) (M:outParam Mat) (H':outParam (List Ent)):Prop where tk:Take H (.grid ab gs n k M) H'
instance (priority := high) takeG_here {H:List Ent} {ab:Nat} {gs:Nat→Nat} {n k:Nat} {M:Mat}:TakeG (.grid ab gs n k M::H) ab gs n k M H:=⟨Take.here _ _⟩
instance takeG_there {H H':List Ent} {e:Ent} {ab:Nat} {gs:Nat→Nat} {n k:Nat} {M:Mat} [i:TakeG H ab gs n k M H']:TakeG (e::H) ab gs n k M (e::H'):=⟨Take.there _ i.tk⟩
class TakeR (H:List Ent) (gs:Nat→Nat) (ab:outParam Nat) (n k:outParam Nat) (M:outParam Mat) (H':outParam (List Ent)):Prop where tk:Take H (.grid ab gs n k M) H'
instance (priority := high) takeR_here {H:List Ent} {ab:Nat} {gs:Nat→Nat} {n k:Nat} {M:Mat}:TakeR (.grid ab gs n k M::H) gs ab n k M H:=⟨Take.here _ _⟩
instance takeR_there {H H':List Ent} {e:Ent} {ab:Nat} {gs:Nat→Nat} {n k:Nat} {M:Mat} [i:TakeR H gs ab n k M H']:TakeR (e::H) gs ab n k M (e::H'):=⟨Take.there _ i.tk⟩
class RowI (I k:Nat):Prop where lt:I<k
theorem rowC_get {n:Nat} {M:Mat} {i j:Nat} (h:j<n):(rowC n M i)[j]?=some (.int .i64 (M i j)):=by
 unfold rowC;rw [List.getElem?_map,List.getElem?_range h];rfl
theorem tabC_get {n k:Nat} {gs:Nat→Nat} {i:Nat} (h:i<n):(tabC n k gs)[i]?=some (if i<k then .slice (some ⟨gs i,0,none⟩) n n else .slice none 0 0):=by
 unfold tabC;rw [List.getElem?_map,List.getElem?_range h];rfl
section
variable {P : Program} {w0:World} {n:Nat} {d:List Deferred} {R:List (Nat × Value)} {H H':List Ent} {Q:Exit→Act→World→Prop} {ops:Array Oper} {rest:List Oper} {o:Oper} {t:Tmp} {x y:Operand} {v:Value} {X:Act→World→Prop}
instance (priority := high) srcI_tab {ab I n k:Nat} {gs:Nat→Nat} {M:Mat} [i:TakeG H ab gs n k M H'] [r:RowI I k]:zFT w0 H ab (0+I * 1) [.slice (some ⟨gs I,0,none⟩) n n]:=⟨fun w hb ho j v hv=>by
 have hg:Grid ab gs n k M w:=ho.here _ i.tk.mem
 match j,hv with
 | 0,hv =>
  simp only [List.getElem?_cons_zero,Option.some.injEq] at hv
  subst hv
  have hlt:=r.lt
  have hle:=hg.le
  rw [hg.tab.cell]
  have:=tabC_get (k:=k) (gs:=gs) (show I<n by omega)
  rw [if_pos hlt] at this
  simpa using this⟩
instance (priority := high) srcI_row {I K n k ab:Nat} {gs:Nat→Nat} {M:Mat} [i:TakeR H gs ab n k M H'] [r:RowI I k] [r2:RowI K n]:zFT w0 H (gs I) (0+K * 1) [.int .i64 (M I K)]:=⟨fun w hb ho j v hv=>by
 have hg:Grid ab gs n k M w:=ho.here _ i.tk.mem
 match j,hv with
 | 0,hv =>
  simp only [List.getElem?_cons_zero,Option.some.injEq] at hv
  subst hv
  rw [(hg.row I r.lt).cell]
  have:=rowC_get (M:=M) (i:=I) r2.lt
  simpa using this⟩
end
end Go.Proofs.YtdigopgncfhiaaaGreatDoor
namespace Go.Proofs.YtdigopgncfhiaaaGreatDoor
open Go.RowKit
set_option maxRecDepth 20000
def hullD (kind:Int) (s:List Sp) (ms:List Me):Mat:=meas kind (R0 s) ms
open Classical in
noncomputable def zLM (kind:Int) (s:List Sp) (ms:List Me):Bool:=decide (fine (s.length+1) (hullD kind s ms) (s.length+1))
end Go.Proofs.YtdigopgncfhiaaaGreatDoor
namespace Go.Proofs.YtdigopgncfhiaaaGreatDoor
variable {ro : Option Nat}
open Go.RowKit
set_option maxRecDepth 20000
def zPJ (D E:Mat) (j:Nat) (s:St):St:={ s with long:=zDV D j,fall:=zDV E j }
noncomputable def rnB (t:List St) (ms:List Me):Bool:=zLM 1 (longs t) ms && zLM 2 (falls t) ms
noncomputable def hullE (kind:Int) (s:List Sp) (ms:List Me):Mat:=zAZ (hullD kind s ms) (s.length+1)
noncomputable def rnL (t:List St) (ms:List Me):List St:=zCY (zPJ (hullE 1 (longs t) ms) (hullE 2 (falls t) ms)) t t.length
noncomputable def rnT (t:List St) (ms:List Me):List St:=if rnB t ms then rnL t ms else []
theorem zLA {t:List St}:(longs t).length=t.length:=by simp [longs]
theorem zLW {t:List St}:(falls t).length=t.length:=by simp [falls]
theorem zM8 {t:List St} {f:St→Sp} (h:∀ s∈t,0≤(f s).lo∧(f s).lo≤(f s).hi∧(f s).hi≤30000):zFi (t.map f):=fun i=>by
 unfold zCA
 rw [List.getD_eq_getElem?_getD,List.getElem?_map]
 cases hi:t[i]? with
 | none=>simp
 | some z=>simpa using h z (List.mem_of_getElem? hi)
theorem zM9 {t:List St} (h:∀ s∈t,Okay s):zFi (longs t):=zM8 fun s hs=>by have:=(h s hs).l0;have:=(h s hs).l1;have:=(h s hs).l2;omega
theorem zNA {t:List St} (h:∀ s∈t,Okay s):zFi (falls t):=zM8 fun s hs=>by have:=(h s hs).f0;have:=(h s hs).f1;have:=(h s hs).f2;omega
end Go.Proofs.YtdigopgncfhiaaaGreatDoor
namespace Go.Proofs.YtdigopgncfhiaaaGreatDoor
open Go.RowKit
set_option maxRecDepth 20000
noncomputable def zDv (t:List St) (ms:List Me):Int:=if valid t then (if zD6 t.length ms then (if rnB t ms then 0 else 8) else 11) else 10
noncomputable def nT (t:List St) (ms:List Me):List St:=if valid t && zD6 t.length ms then rnT t ms else []
theorem zJn {n:Nat} {l:List Me} (h:zD6 n l=true):(∀ m∈l,zHK n m=true)∧l.length≤12:=by
 simp only [zD6,Bool.and_eq_true,decide_eq_true_eq] at h
 exact ⟨fun m hm=>List.all_eq_true.1 h.2 m hm,h.1⟩
theorem zLL {kind:Int} {s:List Sp} {ms:List Me}:zLM kind s ms=true↔fine (s.length+1) (hullD kind s ms) (s.length+1):=by simp [zLM]
theorem zDM {t:List St} {ms:List Me}:falls (stage1 t ms)=falls t:=by
 unfold falls stage1
 apply List.ext_getElem?
 intro j
 rw [List.getElem?_map,List.getElem?_map,zBP]
 cases t[j]? with
 | none=>rfl
 | some z=>by_cases h:j<t.length<;>simp [h,zCc]
theorem zGI {t:List St} {ms:List Me} (hv:valid t=true) (hm:zD6 t.length ms=true):zDX t ms=rnB t ms∧zEM t ms=rnT t ms:=by
 have ho:=zCE hv
 have hlen:=zCN hv
 have hokm:∀ m∈ms,zCn (t.length+1) m:=fun m h=>zDi ((zJn hm).1 m h)
 have a1:=zIU (zM9 ho) (show t.length+1≤13 by omega) hokm (fun _=>Iff.rfl) 1
 have a2:=zIU (zNA ho) (show t.length+1≤13 by omega) hokm (fun _=>Iff.rfl) 2
 have b1:fine1 t ms↔zLM 1 (longs t) ms=true:=by rw [zLL,zLA];exact a1.1
 have b2:fine2 t ms↔zLM 2 (falls t) ms=true:=by
  rw [zLL,zLW]
  unfold fine2 zBS
  rw [zDM];exact a2.1
 have e:zDX t ms=rnB t ms:=by
  rw [Bool.eq_iff_iff]
  simp only [zDX,rnB,decide_eq_true_eq,Bool.and_eq_true,b1,b2]
 refine ⟨e,?_⟩
 unfold zEM rnT
 rw [e]
 cases hB:rnB t ms with
 | false=>rfl
 | true =>
  simp only [if_true]
  simp only [rnB,Bool.and_eq_true] at hB
  have f1:=a1.2 (b1.2 hB.1)
  have f2:=a2.2 (by have:=b2.2 hB.2;unfold fine2 zBS at this;rw [zDM] at this;exact this)
  unfold stage2 rnL
  rw [zDM]
  apply List.ext_getElem?
  intro j
  rw [zBP,zBP]
  unfold stage1
  rw [zBP]
  cases hj:t[j]? with
  | none=>rfl
  | some z =>
   have hlt:=(List.getElem?_eq_some_iff.1 hj).1
   simp only [Option.map_some,hlt,if_true,zCw,zCc,zPJ,zDV,hullE,hullD,dist,zLA,zLW]
   rw [f1 (j+1) j (by omega) (by omega),f1 j (j+1) (by omega) (by omega),f2 (j+1) j (by omega) (by omega),f2 j (j+1) (by omega) (by omega)]
theorem nT_yes {t:List St} {ms:List Me} (h1:valid t=true) (h2:zD6 t.length ms=true):nT t ms=rnT t ms:=by simp [nT,h1,h2]
theorem zNE {t:List St} {ms:List Me} (h:zDv t ms≠0):nT t ms=[]:=by
 unfold nT rnT
 unfold zDv at h
 cases h1:valid t<;>cases h2:zD6 t.length ms<;>simp [h1,h2] at h ⊢
 simp [h]
theorem nT_len {t:List St} {ms:List Me}:(nT t ms).length≤t.length:=by
 unfold nT rnT rnL
 split
 ·split
  ·rw [zFz];exact Nat.le_refl _
  ·simp
 ·simp
end Go.Proofs.YtdigopgncfhiaaaGreatDoor
namespace Go.Proofs.YtdigopgncfhiaaaGreatDoor
theorem dist_tri {kind:Int} {s:List Sp} {ms:List Me} {n:Nat} (hm:∀ m∈ms,zCn n m) (hf:zBS kind s ms n):Tri n (dist kind s ms n)∧zDe n (dist kind s ms n):=by
 have h0:=zB6 (kind:=kind) ms _ hm (zEQ n s)
 exact ⟨fw_tri h0 hf,zEm h0 hf⟩
theorem zPb {kind:Int} {s:List Sp} {ms:List Me} {n:Nat}:Le n (dist kind s ms n) (meas kind (T0 s) ms):=fun i k _ _=>zIy _ n i k
theorem zPS {kind:Int} {ms:List Me} {n:Nat} {M:Mat} (hm:∀ m∈ms,zCn n m):Le n (meas kind M ms) M:=((zCS ms M hm).1 (fun i k _ _=>Int.le_refl _)).1
def zC0 (kind:Int) (s:List Sp) (ms:List Me):List Sp:=(List.range s.length).map (zDV (dist kind s ms (s.length+1)))
theorem zEg {kind:Int} {s:List Sp} {ms:List Me} {i:Nat} (h:i<s.length):zCA (zC0 kind s ms) i=zDV (dist kind s ms (s.length+1)) i:=by
 unfold zCA zC0
 rw [List.getD_eq_getElem?_getD,List.getElem?_map,List.getElem?_range h];rfl
theorem T0_up {s:List Sp} {i:Nat}:T0 s i (i+1)=(zCA s i).hi:=by unfold T0;rw [if_neg (by omega),if_pos rfl]
theorem zI1 {s:List Sp} {i:Nat}:T0 s (i+1) i = -(zCA s i).lo:=by unfold T0;rw [if_neg (by omega),if_neg (by omega),if_pos rfl]
section
variable {kind : Int} {s:List Sp} {ms ms2:List Me}
theorem zIw (hm:∀ m∈ms,zCn (s.length+1) m) (hf:zBS kind s ms (s.length+1)) {i:Nat} (hi:i<s.length) :
  (zCA s i).lo≤(zCA (zC0 kind s ms) i).lo∧(zCA (zC0 kind s ms) i).lo≤(zCA (zC0 kind s ms) i).hi∧(zCA (zC0 kind s ms) i).hi≤(zCA s i).hi:=by
 rw [zEg hi]
 obtain ⟨h1,h2⟩:=dist_tri hm hf
 have a1:=h1 i i (i+1) (by omega) (by omega) (by omega)
 rw [h2 i (by omega)] at a1
 have b1:=Int.le_trans (zPb (kind:=kind) (s:=s) (ms:=ms) (n:=s.length+1) (i+1) i (by omega) (by omega)) (zPS hm (i+1) i (by omega) (by omega))
 have b2:=Int.le_trans (zPb (kind:=kind) (s:=s) (ms:=ms) (n:=s.length+1) i (i+1) (by omega) (by omega)) (zPS hm i (i+1) (by omega) (by omega))
 rw [zI1] at b1
 rw [T0_up] at b2
 simp only [zDV]
 omega
theorem zLE (hm:∀ m∈ms,zCn (s.length+1) m) (hm2:∀ m∈ms2,zCn (s.length+1) m) (hsub:∀ m∈ms,m∈ms2) (hf:zBS kind s ms (s.length+1)) {E:Mat} (hE:Tri (s.length+1) E) :
  Le (s.length+1) E (meas kind (T0 (zC0 kind s ms)) ms2)↔Le (s.length+1) E (meas kind (T0 s) ms2):=by
 rw [zCS ms2 _ hm2,zCS ms2 _ hm2]
 constructor
 ·rintro ⟨h1,h2⟩
  refine ⟨fun a b ha hb=>Int.le_trans (h1 a b ha hb) ?_,h2⟩
  by_cases e:a=b
  ·subst e;simp [T0]
  by_cases e1:b=a+1
  ·subst e1;rw [T0_up,T0_up];exact (zIw hm hf (by omega)).2.2
  by_cases e2:a=b+1
  ·subst e2;rw [zI1,zI1];have:=(zIw (kind:=kind) hm hf (show b<s.length by omega)).1;omega
  ·unfold T0;rw [if_neg e,if_neg e,if_neg e1,if_neg e1,if_neg e2,if_neg e2];exact Int.le_refl _
 ·rintro ⟨h1,h2⟩
  refine ⟨fun a b ha hb=>?_,h2⟩
  have h3:Le (s.length+1) E (meas kind (T0 s) ms):=(zCS ms _ hm).2 ⟨h1,fun m h=>h2 m (hsub m h)⟩
  have h4:=zJ4 hE h3 (s.length+1) (Nat.le_refl _)
  by_cases e:a=b
  ·subst e;have:=h1 a a ha ha;simpa [T0] using this
  by_cases e1:b=a+1
  ·subst e1;rw [T0_up,zEg (by omega)];exact h4 a (a+1) ha hb
  by_cases e2:a=b+1
  ·subst e2;rw [zI1,zEg (by omega)];have:=h4 (b+1) b ha hb;simp only [zDV];unfold dist;omega
  ·have:=h1 a b ha hb
   unfold T0 at this ⊢;rw [if_neg e,if_neg e1,if_neg e2] at *;exact this
theorem zJr (hm:∀ m∈ms,zCn (s.length+1) m) (hm2:∀ m∈ms2,zCn (s.length+1) m) (hsub:∀ m∈ms,m∈ms2) (hf:zBS kind s ms (s.length+1)) :
  (zBS kind (zC0 kind s ms) ms2 (s.length+1)↔zBS kind s ms2 (s.length+1))∧(zBS kind (zC0 kind s ms) ms2 (s.length+1)→zD8 (s.length+1) (dist kind (zC0 kind s ms) ms2 (s.length+1)) (dist kind s ms2 (s.length+1))) :=
 zMF (zB6 ms2 _ hm2 (zEQ _ _)) (zB6 ms2 _ hm2 (zEQ _ _)) (fun E hE _ h=>(zLE hm hm2 hsub hf hE).1 h) (fun E hE _ h=>(zLE hm hm2 hsub hf hE).2 h)
end
end Go.Proofs.YtdigopgncfhiaaaGreatDoor
namespace Go.Proofs.YtdigopgncfhiaaaGreatDoor
structure Nar (s' s:St):Prop where
 id:s'.id=s.id
 radius:s'.radius=s.radius
 side:s'.side=s.side
 wall:s'.wall=s.wall
 l0:s.long.lo≤s'.long.lo
 l1:s'.long.lo≤s'.long.hi
 l2:s'.long.hi≤s.long.hi
 f0:s.fall.lo≤s'.fall.lo
 f1:s'.fall.lo≤s'.fall.hi
 f2:s'.fall.hi≤s.fall.hi
theorem stOk_nar {last:Int} {s' s:St} (h:Nar s' s) (hs:zGj last s=true):zGj last s'=true:=by
 simp only [zGj,Bool.and_eq_true,zAB,zA5] at hs ⊢
 obtain ⟨⟨⟨⟨h1,h2⟩,h3⟩,h4⟩,h5⟩:=hs
 have:=h.l0;have:=h.l1;have:=h.l2;have:=h.f0;have:=h.f1;have:=h.f2
 rw [h.id,h.wall,h.side,h.radius]
 exact ⟨⟨⟨⟨h1,by omega⟩,by omega⟩,h4⟩,h5⟩
theorem zJf : ∀ (t t':List St) (last:Int),t'.length=t.length→(∀ (i:Nat) z z',t[i]?=some z→t'[i]?=some z'→Nar z' z)→okFrom last t=true→okFrom last t'=true
 | [],[],_,_,_,_=>rfl
 | s::r,s'::r',last,hl,h,ho=>by
  simp only [okFrom,Bool.and_eq_true] at ho ⊢
  have h0:=h 0 s s' rfl rfl
  refine ⟨stOk_nar h0 ho.1,?_⟩
  rw [h0.id]
  exact zJf r r' s.id (by simpa using hl) (fun i z z' hz hz'=>h (i+1) z z' (by simpa using hz) (by simpa using hz')) ho.2
 | [],_::_,_,hl,_,_=>by simp at hl
 | _::_,[],_,hl,_,_=>by simp at hl
theorem zPt {t t':List St} (hl:t'.length=t.length) (h:∀ (i:Nat) z z',t[i]?=some z→t'[i]?=some z'→Nar z' z) (hv:valid t=true):valid t'=true:=by
 simp only [valid,Bool.and_eq_true] at hv ⊢
 rw [hl]
 exact ⟨hv.1,zJf t t' _ hl h hv.2⟩
section
variable {t : List St} {ms ms2:List Me}
def lefts (t:List St) (ms:List Me):List St:=t.mapIdx fun i s=>{ s with long:=zDV (dist 1 (longs t) ms (t.length+1)) i,fall:=zDV (dist 2 (falls t) ms (t.length+1)) i }
theorem zDA {i:Nat}:(lefts t ms)[i]?=t[i]?.map fun s=>{ s with long:=zDV (dist 1 (longs t) ms (t.length+1)) i,fall:=zDV (dist 2 (falls t) ms (t.length+1)) i }:=by
 unfold lefts;rw [List.getElem?_mapIdx]
theorem zGH : (lefts t ms).length=t.length:=by unfold lefts;simp
theorem zLr : stage2 t ms=lefts t ms:=by
 apply List.ext_getElem?
 intro i
 rw [zDA]
 unfold stage2
 rw [zDM,zBP]
 unfold stage1
 rw [zBP]
 cases h:t[i]? with
 | none=>rfl
 | some z =>
  have hlt:=(List.getElem?_eq_some_iff.1 h).1
  simp [zCc,zCw,hlt]
theorem longs_at {i:Nat} {z:St} (h:t[i]?=some z):zCA (longs t) i=z.long:=by
 unfold zCA longs;rw [List.getD_eq_getElem?_getD,List.getElem?_map,h];rfl
theorem falls_at {i:Nat} {z:St} (h:t[i]?=some z):zCA (falls t) i=z.fall:=by
 unfold zCA falls;rw [List.getD_eq_getElem?_getD,List.getElem?_map,h];rfl
theorem zIW : longs (lefts t ms)=zC0 1 (longs t) ms:=by
 apply List.ext_getElem?
 intro i
 unfold longs zC0
 rw [List.getElem?_map,zDA,List.getElem?_map]
 by_cases hi:i<t.length
 ·rw [List.getElem?_range (by simpa using hi),List.getElem?_eq_getElem hi]
  simp [longs]
 ·rw [List.getElem?_eq_none (by omega),List.getElem?_eq_none (by simpa using hi)];rfl
theorem zIb : falls (lefts t ms)=zC0 2 (falls t) ms:=by
 apply List.ext_getElem?
 intro i
 unfold falls zC0
 rw [List.getElem?_map,zDA,List.getElem?_map]
 by_cases hi:i<t.length
 ·rw [List.getElem?_range (by simpa using hi),List.getElem?_eq_getElem hi]
  simp [falls]
 ·rw [List.getElem?_eq_none (by omega),List.getElem?_eq_none (by simpa using hi)];rfl
theorem zLD (hv:valid t=true) (hm:∀ m∈ms,zCn (t.length+1) m) (h1:zBS 1 (longs t) ms (t.length+1)) (h2:zBS 2 (falls t) ms (t.length+1)):∀ (i:Nat) z z',t[i]?=some z→(lefts t ms)[i]?=some z'→Nar z' z:=fun i z z' hz hz'=>by
 have hi:=(List.getElem?_eq_some_iff.1 hz).1
 rw [zDA,hz] at hz'
 simp only [Option.map_some,Option.some.injEq] at hz'
 subst hz'
 have l1:(longs t).length=t.length:=by simp [longs]
 have l2:(falls t).length=t.length:=by simp [falls]
 have a1:=zIw (kind:=1) (s:=longs t) (ms:=ms) (by rw [l1];exact hm) (by rw [l1];exact h1) (i:=i) (by omega)
 have a2:=zIw (kind:=2) (s:=falls t) (ms:=ms) (by rw [l2];exact hm) (by rw [l2];exact h2) (i:=i) (by omega)
 rw [zEg (by omega),longs_at hz,l1] at a1
 rw [zEg (by omega),falls_at hz,l2] at a2
 exact ⟨rfl,rfl,rfl,rfl,a1.1,a1.2.1,a1.2.2,a2.1,a2.2.1,a2.2.2⟩
theorem zNQ (hv:valid t=true) (hm:∀ m∈ms,zCn (t.length+1) m) (h1:zBS 1 (longs t) ms (t.length+1)) (h2:zBS 2 (falls t) ms (t.length+1)):valid (lefts t ms)=true :=
 zPt zGH (zLD hv hm h1 h2) hv
theorem zNR (hm:∀ m∈ms,zCn (t.length+1) m) (hm2:∀ m∈ms2,zCn (t.length+1) m) (hsub:∀ m∈ms,m∈ms2) (h1:zBS 1 (longs t) ms (t.length+1)) (h2:zBS 2 (falls t) ms (t.length+1)) :
  (zBS 1 (longs (lefts t ms)) ms2 (t.length+1)↔zBS 1 (longs t) ms2 (t.length+1))∧(zBS 2 (falls (lefts t ms)) ms2 (t.length+1)↔zBS 2 (falls t) ms2 (t.length+1)) ∧
  (zBS 1 (longs t) ms2 (t.length+1)→zBS 2 (falls t) ms2 (t.length+1)→lefts (lefts t ms) ms2=lefts t ms2):=by
 have l1:(longs t).length=t.length:=by simp [longs]
 have l2:(falls t).length=t.length:=by simp [falls]
 have a1:=zJr (kind:=1) (s:=longs t) (ms:=ms) (ms2:=ms2) (by rw [l1];exact hm) (by rw [l1];exact hm2) hsub (by rw [l1];exact h1)
 have a2:=zJr (kind:=2) (s:=falls t) (ms:=ms) (ms2:=ms2) (by rw [l2];exact hm) (by rw [l2];exact hm2) hsub (by rw [l2];exact h2)
 rw [l1] at a1
 rw [l2] at a2
 rw [zIW,zIb]
 refine ⟨a1.1,a2.1,fun g1 g2=>?_⟩
 have b1:=a1.2 (a1.1.2 g1)
 have b2:=a2.2 (a2.1.2 g2)
 apply List.ext_getElem?
 intro i
 rw [zDA,zDA,zDA,zIW,zIb,zGH]
 cases h:t[i]? with
 | none=>rfl
 | some z =>
  have hlt:=(List.getElem?_eq_some_iff.1 h).1
  simp only [Option.map_some]
  rw [zGB b1 (by omega),zGB b2 (by omega)]
end
end Go.Proofs.YtdigopgncfhiaaaGreatDoor
namespace Go.Proofs.YtdigopgncfhiaaaGreatDoor
def NarT (a b:List St):Prop:=a.length=b.length∧∀ (i:Nat) x y,a[i]?=some x→b[i]?=some y→y.long.lo≤x.long.lo∧x.long.hi≤y.long.hi∧y.fall.lo≤x.fall.lo∧x.fall.hi≤y.fall.hi
section
variable {t : List St} {ms ms2:List Me}
theorem zIt (hv:valid t=true) (hm:zD6 t.length ms=true):rnB t ms=true↔zBS 1 (longs t) ms (t.length+1)∧zBS 2 (falls t) ms (t.length+1):=by
 rw [← (zGI hv hm).1]
 simp only [zDX,decide_eq_true_eq]
 unfold fine1 fine2
 rw [zDM]
theorem zJm (hv:valid t=true) (hm:zD6 t.length ms=true) (hb:rnB t ms=true):nT t ms=lefts t ms:=by
 rw [nT_yes hv hm,← (zGI hv hm).2]
 unfold zEM
 rw [(zGI hv hm).1,hb,if_pos rfl,zLr]
theorem zFo (hv:valid t=true) (hm:zD6 t.length ms=true):zDv t ms=if rnB t ms then 0 else 8:=by simp [zDv,hv,hm]
theorem ok_me (hm:zD6 t.length ms=true):∀ m∈ms,zCn (t.length+1) m:=fun m h=>zDi ((zJn hm).1 m h)
theorem zQw (hv:valid t=true) (hm:zD6 t.length ms=true) (he:zDv t ms=0):rnB t ms=true:=by
 rw [zFo hv hm] at he
 cases h:rnB t ms with
 | true=>rfl
 | false=>rw [h] at he;simp at he
theorem zL1 (hv:valid t=true) (hm:zD6 t.length ms=true) (he:zDv t ms=0) :
  valid (nT t ms)=true∧NarT (nT t ms) t∧∀ ms2,zD6 t.length ms2=true→(∀ m∈ms,m∈ms2)→zDv (nT t ms) ms2=zDv t ms2∧nT (nT t ms) ms2=nT t ms2:=by
 have hb:=zQw hv hm he
 obtain ⟨h1,h2⟩:=(zIt hv hm).1 hb
 have hN:=zJm hv hm hb
 have hvl:valid (lefts t ms)=true:=zNQ hv (ok_me hm) h1 h2
 rw [hN]
 refine ⟨hvl,⟨zGH,fun i x y hx hy=>?_⟩,fun ms2 hm2 hsub=>?_⟩
 ·have:=zLD hv (ok_me hm) h1 h2 i y x hy hx
  exact ⟨this.l0,this.l2,this.f0,this.f2⟩
 ·have hl:=zGH (t:=t) (ms:=ms)
  have hm2':zD6 (lefts t ms).length ms2=true:=by rw [hl];exact hm2
  obtain ⟨c1,c2,c3⟩:=zNR (ok_me hm) (ok_me hm2) hsub h1 h2
  have e:rnB (lefts t ms) ms2=rnB t ms2:=by
   rw [Bool.eq_iff_iff,zIt hvl hm2',zIt hv hm2,hl,c1,c2]
  refine ⟨by rw [zFo hvl hm2',zFo hv hm2,e],?_⟩
  cases hb2:rnB t ms2 with
  | false =>
   rw [zNE (by rw [zFo hvl hm2',e,hb2];decide),zNE (by rw [zFo hv hm2,hb2];decide)]
  | true =>
   rw [zJm hvl hm2' (e.trans hb2),zJm hv hm2 hb2]
   obtain ⟨g1,g2⟩:=(zIt hv hm2).1 hb2
   exact c3 g1 g2
end
end Go.Proofs.YtdigopgncfhiaaaGreatDoor
namespace Go.Proofs.YtdigopgncfhiaaaGreatDoor
def pre (l:List Int) (i:Nat):Int:=sumI (l.take i)
def diffM (l:List Int):Mat:=fun a b=>pre l b - pre l a
def zHY (ch:List Int) (i:Nat):Int:=ch.getD (i % ch.length) 0
def zIq (L ch:List Int) (i:Nat):Int:=zHY ch (7 * i) % L.length
def tellTo (L ch:List Int) (i:Nat):Int:=zIq L ch i+1+zHY ch (7 * i+1) % (L.length - zIq L ch i)
def zPH (ch:List Int) (i:Nat):Bool:=decide (zHY ch (7 * i+2) % 2=1)
def zPG (L F ch:List Int) (i:Nat):Int:=diffM (cond (zPH ch i) F L) (zIq L ch i).toNat (tellTo L ch i).toNat
def tellI (L F ch:List Int) (i:Nat):Me :=
 ⟨cond (zPH ch i) 2 1,zIq L ch i,tellTo L ch i,⟨max 0 (zPG L F ch i - zHY ch (7 * i+3) % 50),min 360000 (zPG L F ch i+zHY ch (7 * i+4) % 50)⟩⟩
def tells (L F ch:List Int) (many:Nat):List Me:=(List.range many).map (tellI L F ch)
end Go.Proofs.YtdigopgncfhiaaaGreatDoor
namespace Go.Proofs.YtdigopgncfhiaaaGreatDoor
open Go.RowKit
open Flow (sumL)
theorem zNn {t:List St} {i:Nat} (hv:valid t=true) (hi:i<t.length):zDy t (i:Int) ((i:Int)+1)=(t.getD i default).long∧errD t (i:Int) ((i:Int)+1)=0:=by
 have h1:zDx t (i:Int) ((i:Int)+1)=true:=by unfold zDx;simp only [Bool.and_eq_true,zAB];omega
 have h2:=zC9 (t:=t) (Nat.le_refl i) hi
 rw [zCR] at h2
 refine ⟨?_,?_⟩
 ·unfold zDy
  rw [hv,h1]
  simp only [Bool.and_self,if_true,Int.toNat_natCast]
  rw [show ((i:Int)+1).toNat=i+1 by omega,h2]
  have:t.getD i default=t[i]:=by simp [List.getD_eq_getElem?_getD,hi]
  rw [this]
  simp [zBj]
 ·unfold errD;rw [hv,h1];rfl
theorem zJg : ∀ {t:List St} {last:Int},okFrom last t=true→zEY t
 | [],_,_=>by intro s hs;cases hs
 | x::r,last,h=>by
  simp only [okFrom,Bool.and_eq_true] at h
  obtain ⟨h1,h2⟩:=h
  intro s hs
  rcases List.mem_cons.1 hs with rfl|hm
  ·simp only [zGj,Bool.and_eq_true,Bool.or_eq_true,decide_eq_true_eq,zAB] at h1
   obtain ⟨_,h3|h3⟩:=h1<;>omega
  ·exact zJg h2 s hm
theorem zPu {t:List St} (h:valid t=true):zEY t:=by
 simp only [valid,Bool.and_eq_true] at h
 exact zJg h.2
def zG1 (c:Cov) (xss:List (List Int)) (f:Nat→Int) (i:Nat):Int:=sumL (List.range i) fun j=>zGT xss j c.hours.length * (c.rate * f j)
section
variable {c : Cov} {xss:List (List Int)} {f g:Nat→Int}
theorem zPr : zG1 c xss f 0=0:=rfl
theorem zFy (i:Nat):zG1 c xss f (i+1)=zG1 c xss f i+zGT xss i c.hours.length * c.rate * f i:=by
 unfold zG1;rw [Flow.zAI,Int.mul_assoc]
theorem zIn (hr:0≤c.rate∧c.rate≤100) {n:Nat} (hn:∀ j,j<n→0≤zGT xss j c.hours.length∧zGT xss j c.hours.length≤1000) (hf:∀ j,j<n→0≤f j∧f j≤30000):∀ i,i≤n→0≤zG1 c xss f i∧zG1 c xss f i≤3000000000 * (i:Int)
 | 0,_=>by simp [zPr]
 | i+1,hi=>by
  have h1:=zIn hr hn hf i (by omega)
  have h2:=zCy (hn i (by omega)).1 (hn i (by omega)).2 hr.1 hr.2
  have h3:=zCy h2.1 h2.2 (hf i (by omega)).1 (hf i (by omega)).2
  rw [zFy]
  omega
theorem zIm (hr:0≤c.rate) {n:Nat} (hn:∀ j,j<n→0≤zGT xss j c.hours.length) (hf:∀ j,j<n→f j≤g j):zG1 c xss f n≤zG1 c xss g n:=by
 unfold zG1
 refine Flow.zBX fun j hj=>?_
 rw [List.mem_range] at hj
 exact Int.mul_le_mul_of_nonneg_left (Int.mul_le_mul_of_nonneg_left (hf j hj) hr) (hn j hj)
end
theorem zJ9 {c:Cov} {t:List St} (h0:zAs c=0) (hv:valid t=true) (hl:t.length=c.t.length):zAs { c with t:=t } = 0:=by
 have hf:=zBm h0
 unfold zAs
 rw [if_pos hv,if_pos (zCT.2 ?_)]
 exact ⟨hf.beds.trans hl.symm,hf.hours,List.all_eq_true.2 hf.bed,List.all_eq_true.2 hf.hour,hf.wear,hf.layer,hf.rate,hf.limit,hf.base⟩
theorem zLe {c:Cov} {t:List St} {xss:List (List Int)} (h0:zAs c=0) (hok:zBd c (zBH xss)=true) (hn:∀ j,j<c.beds.length→0≤zGT xss j c.hours.length) (hv:valid t=true) (ht:NarT t c.t) :
  (zCD c (zBH xss)).lo≤(zCD { c with t:=t } (zBH xss)).lo∧(zCD { c with t:=t } (zBH xss)).hi≤(zCD c (zBH xss)).hi:=by
 have hf:=zBm h0
 have hr:=zAB.1 hf.rate
 have hb:=hf.beds
 rw [zHh h0 hok,zHh (c:={ c with t:=t }) (zJ9 h0 hv ht.1) hok]
 have key:∀ j,j<c.beds.length→(zAe c (j:Int)).lo≤(zAe { c with t:=t } (j:Int)).lo∧(zAe { c with t:=t } (j:Int)).hi≤(zAe c (j:Int)).hi:=fun j hj=>by
  have h1:j<t.length:=by have:=ht.1;omega
  have h2:j<c.t.length:=by omega
  have h3:=ht.2 j _ _ (List.getElem?_eq_getElem h1) (List.getElem?_eq_getElem h2)
  unfold zAe
  simp only [Int.toNat_natCast,List.getD_eq_getElem?_getD,List.getElem?_eq_getElem h1,List.getElem?_eq_getElem h2,Option.getD_some]
  exact ⟨h3.1,h3.2.1⟩
 exact ⟨zIm (f:=fun j=>(zAe c (j:Int)).lo) (g:=fun j=>(zAe { c with t:=t } (j:Int)).lo) hr.1 hn fun j hj=>(key j hj).1,zIm (f:=fun j=>(zAe { c with t:=t } (j:Int)).hi) (g:=fun j=>(zAe c (j:Int)).hi) hr.1 hn fun j hj=>(key j hj).2⟩
end Go.Proofs.YtdigopgncfhiaaaGreatDoor
