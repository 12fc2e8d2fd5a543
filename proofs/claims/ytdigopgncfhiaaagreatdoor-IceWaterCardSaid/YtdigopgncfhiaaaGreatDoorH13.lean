/- H13 -/
import Derived.Test.YtdigopgncfhiaaaGreatDoorH6
import Derived.Laws.MakeOwn
import Derived.Laws.OwnMore
set_option linter.unusedSimpArgs false
set_option linter.unusedVariables false
namespace Go.Proofs.YtdigopgncfhiaaaGreatDoor
variable {ro : Option Nat}
open Go.RowKit
set_option linter.unusedSectionVars false
structure zz (α:Type) where
 A:Option Addr
 xs:List α
 c:Nat
structure SlB (α:Type) where
 b:Nat
 xs:List α
 c:Nat
def zz.v {α:Type} (s:zz α):Value:=.slice s.A s.xs.length s.c
def zn {α:Type} (s:zz α):List Value:=[.slice s.A s.xs.length s.c]
def encSb {α:Type} (s:SlB α):List Value:=[.slice (some ⟨s.b,0,none⟩) s.xs.length s.c]
instance encI_of {α:Type}:zB8 (zn (α:=α)) 1:=⟨fun _=>rfl,fun s v hv=>by simp [zn] at hv;subst hv;rfl⟩
instance encI_sb {α:Type}:zB8 (encSb (α:=α)) 1:=⟨fun _=>rfl,fun s v hv=>by simp [encSb] at hv;subst hv;rfl⟩
def zAr {α:Type}:zz α:=⟨none,[],0⟩
structure zC1 {α:Type} (enc:α→List Value) (k:Nat) (w:World) (P:Option Addr) (L:List (zz α)):Prop where
 p:zp zn 1 w P L
 rows:∀ s∈L,zp enc k w s.A s.xs
theorem zC1.below {α:Type} {enc:α→List Value} {k:Nat} {w W:World} {P:Option Addr} {L:List (zz α)} (h:zC1 enc k w P L) (hb:Below w.heap.size w W):zC1 enc k W P L:=⟨h.p.below hb,fun s hs=>(h.rows s hs).below hb⟩
structure TabB {α:Type} (enc:α→List Value) (k:Nat) (w:World) (P:Option Addr) (L:List (SlB α)):Prop where
 p:zp encSb 1 w P L
 rows:∀ s∈L,zp enc k w (some ⟨s.b,0,none⟩) s.xs
def Ent.zA2 {β:Type} (hd:β→List Value) (re:β→Ent) (g:Nat) (L:List β):Ent:=.all (.arr hd 1 g L::L.map re)
def rowOf {α:Type} (enc:α→List Value) (k e:Nat) (s:zz α):Ent:=.row enc k e (.slice s.A s.xs.length s.c) s.xs
theorem zFH {α:Type} {x:α}:∀ {l:List α} {i:Nat},l[i]?=some x→l.Perm (x::l.eraseIdx i)
 | [],_,h=>by simp at h
 | y::r,0,h=>by simp at h;subst h;exact List.Perm.refl _
 | y::r,i+1,h=>by
  have h':r[i]?=some x:=by simpa using h
  exact (List.Perm.cons y (zFH h')).trans (List.Perm.swap _ _ _)
theorem Own.perm {base:Nat} {w:World} {H H':List Ent} (hp:H.Perm H') (h:Own base w H):Own base w H' :=
 ⟨fun e he=>h.here e (hp.mem_iff.2 he),fun e he=>h.foot e (hp.mem_iff.2 he),(hp.pairwise_iff (fun {e f} h b hb hb'=>h b hb' hb)).1 h.apart⟩
section
variable {α β:Type} {hd:β→List Value} {re:β→Ent} {base g:Nat} {w:World} {H H' H1 H2 H3:List Ent} {L:List β}
theorem zM2 {i:Nat} {s:β} (hi:L[i]?=some s) (h:Own base w (.zA2 hd re g L::H)):Own base w (.arr hd 1 g L::re s :: .all ((L.eraseIdx i).map re)::H):=by
 have h1:Own base w ((.arr hd 1 g L::L.map re)++H):=zBR.2 h
 have hp:(L.map re).Perm (re s::(L.eraseIdx i).map re):=by
  have:=(zFH hi).map re
  simpa using this
 have h2:Own base w ((.arr hd 1 g L::re s::(L.eraseIdx i).map re)++H):=h1.perm (List.Perm.append_right H (List.Perm.cons _ hp))
 exact (zBK (D:=[.arr hd 1 g L,re s]) (L:=(L.eraseIdx i).map re) (B:=H)).1 h2
theorem zIR {i:Nat} {s s':β} (hi:L[i]?=some s) (h:Own base w (.arr hd 1 g (L.set i s')::re s' :: .all ((L.eraseIdx i).map re)::H)):Own base w (.zA2 hd re g (L.set i s')::H):=by
 have h2:Own base w ((.arr hd 1 g (L.set i s')::re s'::(L.eraseIdx i).map re)++H):=(zBK (D:=[.arr hd 1 g (L.set i s'),re s']) (L:=(L.eraseIdx i).map re) (B:=H)).2 h
 obtain ⟨hlt,e⟩:=List.getElem?_eq_some_iff.1 hi
 have hlt':i<(L.set i s').length:=by simpa using hlt
 have hp:(re s'::(L.eraseIdx i).map re).Perm ((L.set i s').map re):=by
  have h9:=(zFH (l:=L.set i s') (i:=i) (x:=s') (by simp [List.getElem?_set,hlt])).symm.map re
  have e9:(L.set i s').eraseIdx i=L.eraseIdx i:=by rw [List.eraseIdx_set_eq]
  rw [e9] at h9
  simpa using h9
 exact zBR.1 (h2.perm (List.Perm.append_right H (List.Perm.cons _ hp)))
theorem zK1 (h:Own base w H) (ht:Take H (.zA2 hd re g L) H') [ei:zB8 hd 1]:zp hd 1 w (some ⟨g,0,none⟩) L∧∀ s∈L,(re s).p w:=by
 have h1:Own base w ((.arr hd 1 g L::L.map re)++H'):=zBR.2 (h.take ht)
 refine ⟨?_,fun s hs=>h1.here (re s) (by simp;exact .inr (.inl ⟨s,hs,rfl⟩))⟩
 have:=Own.zMS (enc:=hd) (k:=1) (g:=g) (xs:=L) (Take.here _ _) h1
 exact this.here (.sl hd 1 (some ⟨g,0,none⟩) L) (by simp)
end
theorem zCu {α:Type} {enc:α→List Value} {k e g base:Nat} [ei:zB8 enc k] {L:List (zz α)} {w:World} {H H':List Ent} (h:Own base w H) (ht:Take H (.zA2 zn (rowOf enc k e) g L) H'):zC1 enc k w (some ⟨g,0,none⟩) L:=by
 obtain ⟨h1,h2⟩:=zK1 h ht
 exact ⟨h1,fun s hs=>(zDm ei.len (h2 s hs)).2⟩
def SlB.of {α:Type} (s:SlB α):zz α:=⟨some ⟨s.b,0,none⟩,s.xs,s.c⟩
theorem TabB.tab {α:Type} {enc:α→List Value} {k:Nat} {w:World} {P:Option Addr} {L:List (SlB α)} (h:TabB enc k w P L):zC1 enc k w P (L.map SlB.of):=by
 refine ⟨fun i x hx=>?_,fun s hs=>?_⟩
 ·rw [List.getElem?_map] at hx
  cases hl:L[i]? with
  | none=>rw [hl] at hx;cases hx
  | some y =>
   rw [hl] at hx
   simp at hx
   subst hx
   exact h.p i y hl
 ·obtain ⟨y,hy,rfl⟩:=List.mem_map.1 hs
  exact h.rows y hy
section
variable {P : Program} {w0:World} {n:Nat} {d:List Deferred} {R:List (Nat × Value)} {H H' H1 H2 H3:List Ent} {Q:Exit→Act→World→Prop} {ops:Array Oper} {rest:List Oper} {o:Oper} {t:Tmp} {x y:Operand} {v:Value} {X:Act→World→Prop}
theorem zCh {β:Type} {hd:β→List Value} {re:β→Ent} {g:Nat} {L:List β} (i:Nat) {s:β} (hi:L[i]?=some s) (ht:Take H (.zA2 hd re g L) H') (h:U w0 n d R (.arr hd 1 g (L.set i s)::re s :: .all ((L.eraseIdx i).map re)::H') X):U w0 n d R H X:=fun a w q=>by
 have e:L.set i s=L:=by
  obtain ⟨hlt,e⟩:=List.getElem?_eq_some_iff.1 hi
  subst e
  exact List.set_getElem_self hlt
 rw [e] at h
 exact h a w (q.heap q.below (zM2 hi (q.own.take ht)))
theorem zCg {β:Type} {hd:β→List Value} {re:β→Ent} {g:Nat} {L:List β} (i:Nat) {s:β} (s':β) (hi:L[i]?=some s) (ht:Take H (.arr hd 1 g (L.set i s')) H1) (ht1:Take H1 (re s') H2) (ht2:Take H2 (.all ((L.eraseIdx i).map re)) H3) (h:U w0 n d R (.zA2 hd re g (L.set i s')::H3) X):U w0 n d R H X:=fun a w q=>by
 refine h a w (q.heap q.below (zIR hi ?_))
 have h1:=q.own.take ht
 have h2:=h1.take (Take.there _ ht1)
 have h3:=h2.take (Take.there _ (Take.there _ ht2))
 refine h3.perm ?_
 exact (List.Perm.swap _ _ _).trans ((List.Perm.cons _ (List.Perm.swap _ _ _)).trans ((List.Perm.swap _ _ _).trans (List.Perm.refl _)))
theorem zMX {α:Type} {enc:α→List Value} {k e:Nat} (h:U w0 n d R (.row enc k e (.slice none 0 0) ([]:List α)::H) X):U w0 n d R H X:=fun a w q=>by
 refine h a w (q.heap q.below ⟨fun f hf=>?_,fun f hf b hb=>?_,List.pairwise_cons.2 ⟨fun f hf b hb=>?_,q.own.apart⟩⟩)
 ·rcases List.mem_cons.1 hf with rfl|hf
  ·exact Row.nil
  ·exact q.own.here f hf
 ·rcases List.mem_cons.1 hf with rfl|hf
  ·cases hb
  ·exact q.own.foot f hf b hb
 ·cases hb
theorem zEI {α:Type} {enc:α→List Value} {k e g base:Nat} {w:World}:∀ (m:Nat) {H:List Ent},Own base w H→Own base w (((List.replicate m (zAr:zz α)).map (rowOf enc k e))++H)
 | 0,H,h=>h
 | m+1,H,h=>by
  have ih:=zEI (α:=α) (enc:=enc) (k:=k) (e:=e) (g:=g) m h
  rw [List.replicate_succ,List.map_cons,List.cons_append]
  refine ⟨fun f hf=>?_,fun f hf b hb=>?_,List.pairwise_cons.2 ⟨fun f hf b hb=>?_,ih.apart⟩⟩
  ·rcases List.mem_cons.1 hf with rfl|hf
   ·exact Row.nil
   ·exact ih.here f hf
  ·rcases List.mem_cons.1 hf with rfl|hf
   ·cases hb
   ·exact ih.foot f hf b hb
  ·cases hb
theorem zI8 {α:Type} {enc:α→List Value} {k e g m:Nat} (ht:Take H (.blk g (List.replicate m (.slice none 0 0))) H') (h:U w0 n d R (.zA2 zn (rowOf enc k e) g (List.replicate m (zAr:zz α))::H') X):U w0 n d R H X:=fun a w q=>by
 refine h a w (q.heap q.below (zBR.1 ?_))
 have h1:Own w0.heap.size w (.arr zn 1 g (List.replicate m (zAr:zz α))::H'):=(q.own.take ht).recast (fun hp=>⟨[],by
  have:(List.replicate m (zAr:zz α)).flatMap zn++[]=List.replicate m (.slice none 0 0):=by
   rw [List.append_nil]
   clear ht h q hp
   induction m with
   | zero=>rfl
   | succ m ih=>rw [List.replicate_succ,List.flatMap_cons,ih,List.replicate_succ];rfl
  rw [this];exact hp⟩) (fun b hb=>hb)
 have h2:=zEI (α:=α) (enc:=enc) (k:=k) (e:=e) (g:=g) m h1
 refine h2.perm ?_
 exact List.perm_middle
theorem zLj {T1 e:TypeId} {i:TypeInfo} {z v:Value} {n0 s:Nat} {g:Bool} (hop:o.op = .makeSlice T1 x y) [i1:TyI P T1 (.slice e) s g] (hi:P.info? e=some i) (hz:i.zero=some z) (h1:i.size=1) (hcz:z.cells=#[v]) (hb:Nat.ble (i.bytes * 1000) 281474976710656=true) (hrd:rdy R ops n o=some t) (hx:evR R x=some (.int .i64 (n0:Int))) (hy:evR R y=some (.int .i64 (n0:Int))) (hn:n0≤1000)
  (h:∀ b,U w0 n d ((t,.slice (some ⟨b,0,none⟩) n0 n0)::R) (.blk b (List.replicate n0 v)::H) (wpL ro P ops Q rest)):U w0 n d R H (wpL ro P ops Q (o::rest)) :=
 zDH (rW hrd) fun a w q K hK=>by
  have hb':(i.bytes:Int) * (n0:Int)≤281474976710656:=by
   have h9:=Nat.le_of_ble_eq_true hb
   have h8:i.bytes * n0≤i.bytes * 1000:=Nat.mul_le_mul_left _ hn
   have h7:((i.bytes * n0:Nat):Int)≤281474976710656:=by omega
   rwa [Int.natCast_mul] at h7
  have hr:=run_make (P:=P) w T1 e i z i1.und hi hz .i64 .i64 n0 n0 (by omega) (Int.le_refl _) hb' (by omega)
  have hm:madeCells z.cells (n0 * i.size)=(List.replicate n0 v).toArray:=by
   apply Array.ext'
   simp [madeCells,h1,hcz]
   apply List.ext_getElem?
   intro j
   rw [List.getElem?_map,List.getElem?_replicate]
   by_cases hj:j<n0
   ·rw [List.getElem?_range hj,if_pos hj];simp [Nat.mod_one]
   ·rw [List.getElem?_eq_none (by simpa using hj),if_neg hj];rfl
  simp only [Int.toNat_natCast,hm] at hr
  unfold Oper.wp execOp;rw [hop]
  simp only [Sem.run_bind,q.ev hx,q.ev hy,hr,Result.andThen_ok,Sem.run_pure,Oper.upon_value,(rD hrd)]
  exact hK _ _ (h w.heap.size _ _ ((q.alloc _ e).put (rT hrd)))
theorem zCs {β:Type} {hd:β→List Value} [ei:zB8 hd 1] {g i:Nat} {gg:Bool} {T1:TypeId} {td:TypeDesc} {L:List β} {s:β} (s':β) (hop:o.op = .store T1 x y) [i1:TyI P T1 td 1 gg] (hw:want R ops o=some true) (hdt:o.dst=none) (hx:evR R x=some (.pointer (some ⟨g,0+i * 1,none⟩))) (hy:evR R y=some v) (hv:v.cells.toList=hd s') (ht:Take H (.arr hd 1 g (L.set i s)) H') (hi:i<L.length)
  (h:U w0 n d R (.arr hd 1 g (L.set i s')::H') (wpL ro P ops Q rest)):U w0 n d R H (wpL ro P ops Q (o::rest)):=by
 have i2:zLd H g hd 1 (L.set i s) H':=⟨ht⟩
 have i3:zAQ (L.set i s) i s:=⟨by simp [hi]⟩
 refine zFV (j:=0) (z:=s) s' hop hw hdt hx hy ?_ ?_ ?_ (by omega) ?_
 ·rw [hv]
  have h1:=ei.len s
  have h2:=ei.len s'
  match h3:hd s,h4:hd s' with
  | [a],[b]=>rfl
  | [],_=>rw [h3] at h1;cases h1
  | _::_::_,_=>rw [h3] at h1;cases h1
  | [_],[]=>rw [h4] at h2;cases h2
  | [_],_::_::_=>rw [h4] at h2;cases h2
 ·rw [hv,ei.len];rfl
 ·rw [hv];exact List.all_eq_true.2 (ei.one s')
 ·rw [List.set_set];exact h
theorem zGh {β:Type} {hd:β→List Value} {re:β→Ent} {g:Nat} {L:List β} (i:Nat) {s:β} (hi:L[i]?=some s) (ht:Take H (.arr hd 1 g (L.set i s)) H1) (ht1:Take H1 (re s) H2) (ht2:Take H2 (.all ((L.eraseIdx i).map re)) H3) (h:U w0 n d R (.zA2 hd re g L::H3) X):U w0 n d R H X:=by
 refine zCg i s hi ht ht1 ht2 ?_
 have e:L.set i s=L:=by
  obtain ⟨hlt,e⟩:=List.getElem?_eq_some_iff.1 hi
  subst e
  exact List.set_getElem_self hlt
 rw [e];exact h
class zMT (H:List Ent) (g:Nat) {β:outParam Type} (hd:outParam (β→List Value)) (re:outParam (β→Ent)) (L:outParam (List β)) (H':outParam (List Ent)):Prop where tk:Take H (.zA2 hd re g L) H'
instance (priority := high) takeTb_here {H:List Ent} {g:Nat} {β:Type} {hd:β→List Value} {re:β→Ent} {L:List β}:zMT (.zA2 hd re g L::H) g hd re L H:=⟨Take.here _ _⟩
instance takeTb_there {H H':List Ent} {f:Ent} {g:Nat} {β:Type} {hd:β→List Value} {re:β→Ent} {L:List β} [i:zMT H g hd re L H']:zMT (f::H) g hd re L (f::H'):=⟨Take.there _ i.tk⟩
instance srcI_tb {g i:Nat} {β:Type} {hd:β→List Value} {re:β→Ent} {L:List β} {s:β} [ei:zB8 hd 1] [i1:zMT H g hd re L H'] [i2:zAQ L i s]:zFT w0 H g (0+i * 1) (hd s):=⟨fun w hb ho j v hv=>by
 have h1:=(zK1 ho i1.tk).1
 obtain ⟨b,o,hA,hlt,hc⟩:=h1 i s i2.get
 cases hA
 exact hc j v hv⟩
theorem zE4 {α:Type} {enc:α→List Value} {k e g:Nat} {L:List (zz α)} (i:Nat) {s:zz α} (xs':List α) (hl:xs'.length=s.xs.length) (hi:L[i]?=some s) (ht:Take H (.arr zn 1 g (L.set i s)) H1) (ht1:Take H1 (.row enc k e (.slice s.A s.xs.length s.c) xs') H2) (ht2:Take H2 (.all ((L.eraseIdx i).map (rowOf enc k e))) H3) (h:U w0 n d R (.zA2 zn (rowOf enc k e) g (L.set i ⟨s.A,xs',s.c⟩)::H3) X):U w0 n d R H X:=fun a w q=>by
 have h1:=q.own.take ht
 have h1':Own w0.heap.size w (.arr zn 1 g (L.set i ⟨s.A,xs',s.c⟩)::H1):=h1.recast (fun hp=>by
  obtain ⟨tl,hB⟩:=hp
  have e1:∀ (L:List (zz α)) (i:Nat),(L.set i s).flatMap zn=(L.set i ⟨s.A,xs',s.c⟩).flatMap zn:=by
   intro L
   induction L with
   | nil=>intro i;rfl
   | cons y r ih =>
    intro i
    cases i with
    | zero=>simp [zn,hl]
    | succ i=>simp only [List.set_cons_succ,List.flatMap_cons];rw [ih i]
  refine ⟨tl,?_⟩
  rw [← e1];exact hB) (fun b hb=>hb)
 have ht1':Take H1 (rowOf enc k e ⟨s.A,xs',s.c⟩) H2:=by
  unfold rowOf;simp only;rw [hl];exact ht1
 have h2:=h1'.take (Take.there _ ht1')
 have h3:=h2.take (Take.there _ (Take.there _ ht2))
 refine h a w (q.heap q.below (zIR hi (h3.perm ?_)))
 exact (List.Perm.swap _ _ _).trans ((List.Perm.cons _ (List.Perm.swap _ _ _)).trans ((List.Perm.swap _ _ _).trans (List.Perm.refl _)))
theorem zHl {α:Type} {enc:α→List Value} {k e:Nat} {A:Option Addr} {m c:Nat} {xs:List α} (ht:Take H (.row enc k e (.slice A m c) xs) H') (h0:0<xs.length) (h:∀ g,A=some ⟨g,0,none⟩→U w0 n d R H X):U w0 n d R H X:=fun a w q=>by
 have hr:Row enc k e 0 w (.slice A m c) xs:=q.own.here _ ht.mem
 rcases hr.2 with ⟨_,h4⟩ | ⟨b,cap,cur,hv,_⟩
 ·omega
 ·cases hv
  exact h b rfl a w q
class zKN (H:List Ent) (g:Nat) {α:outParam Type} (enc:outParam (α→List Value)) (k e m c:outParam Nat) (xs:outParam (List α)) (H':outParam (List Ent)):Prop where tk:Take H (.row enc k e (.slice (some ⟨g,0,none⟩) m c) xs) H'
instance (priority := high) takeRw_here {H:List Ent} {g:Nat} {α:Type} {enc:α→List Value} {k e m c:Nat} {xs:List α}:zKN (.row enc k e (.slice (some ⟨g,0,none⟩) m c) xs::H) g enc k e m c xs H:=⟨Take.here _ _⟩
instance takeRw_there {H H':List Ent} {f:Ent} {g:Nat} {α:Type} {enc:α→List Value} {k e m c:Nat} {xs:List α} [i:zKN H g enc k e m c xs H']:zKN (f::H) g enc k e m c xs (f::H'):=⟨Take.there _ i.tk⟩
instance srcI_rw {g i k e m c:Nat} {α:Type} {enc:α→List Value} {xs:List α} {z:α} [ei:zB8 enc k] [i1:zKN H g enc k e m c xs H'] [i2:zAQ xs i z]:zFT w0 H g (0+i * k) (enc z):=⟨fun w hb ho j v hv=>by
 have h1:=(zDm ei.len (ho.here _ i1.tk.mem:Row enc k e 0 w (.slice (some ⟨g,0,none⟩) m c) xs)).2
 obtain ⟨b,o,hA,hlt,hc⟩:=h1 i z i2.get
 cases hA
 exact hc j v hv⟩
theorem zNe {α:Type} {enc:α→List Value} (henc:∀ x,(enc x).length=1) {z':α} {v:Value} (hv:enc z'=[v]):∀ (xs:List α) (i:Nat),(xs.set i z').flatMap enc=(xs.flatMap enc).set i v
 | [],i=>by simp
 | x::r,0=>by
  have h:=henc x
  match hx:enc x with
  | [a]=>simp [hx,hv]
  | []=>rw [hx] at h;cases h
  | _::_::_=>rw [hx] at h;cases h
 | x::r,i+1=>by
  have h:=henc x
  have ih:=zNe henc hv r i
  match hx:enc x with
  | [a]=>simp [hx,ih]
  | []=>rw [hx] at h;cases h
  | _::_::_=>rw [hx] at h;cases h
theorem zCq {α:Type} {enc:α→List Value} [ei:zB8 enc 1] {g i e m c:Nat} {gg:Bool} {T1:TypeId} {td:TypeDesc} {xs:List α} (z':α) (hop:o.op = .store T1 x y) [i1:TyI P T1 td 1 gg] (hw:want R ops o=some true) (hd:o.dst=none) (hx:evR R x=some (.pointer (some ⟨g,0+i * 1,none⟩))) (hy:evR R y=some v) (hv:enc z'=[v]) (hc1:v.cells=#[v]) (hv1:v.oneCell'=true) [i2:zKN H g enc 1 e m c xs H'] (hi:i<xs.length)
  (h:U w0 n d R (.row enc 1 e (.slice (some ⟨g,0,none⟩) m c) (xs.set i z')::H') (wpL ro P ops Q rest)):U w0 n d R H (wpL ro P ops Q (o::rest)) :=
 zDH hw fun a w q K1 hK=>by
  have ho:=q.own.take i2.tk
  have hr:Row enc 1 e 0 w (.slice (some ⟨g,0,none⟩) m c) xs:=ho.here (.row enc 1 e (.slice (some ⟨g,0,none⟩) m c) xs) (by simp)
  have hm:m=xs.length:=(zDm ei.len hr).1
  subst hm
  unfold Row at hr
  have hlen:(xs.flatMap enc).length=xs.length:=by simpa using hr.1
  have e1:=i1.siz w
  have hfoot:=ho.foot (.row enc 1 e (.slice (some ⟨g,0,none⟩) xs.length c) xs) (by simp) g rfl
  have hrun:(Instr.storeAt T1 (.pointer (some ⟨g,0+i * 1,none⟩)) v).run P w = .ok () (w.setCells g (0+i * 1) [v]):=by
   have:=run_storeCells_cells (P:=P) g (0+i * 1) [v] 0 w (fun j hj=>by
    have h9:j=0:=by simp at hj;omega
    subst h9
    rw [show 0+i * 1+0+0=i by omega,hr.cellAt i (by omega)]
    rw [List.getElem?_eq_getElem (by omega)];rfl) (fun j hj=>hr.frozenAt _) (fun u hu=>by simp at hu;subst hu;exact hv1)
   simp only [Nat.add_zero] at this
   have hsz:¬ v.cells.size≠1:=by rw [hc1];simp
   unfold Instr.storeAt storeVar
   simp only [Sem.run_bind,Instr.sureAddr,Sem.run_pure,Result.andThen_ok,e1,Sem.run_ite,hsz,if_false]
   rw [hc1]
   exact this
  have hst:=hr.stored i v
  have e2:w.setCells g (0+i * 1) [v]=w.setCell ⟨g,i,none⟩ v:=by simp [World.setCells]
  rw [e2] at hrun
  unfold Oper.wp execOp;rw [hop]
  simp only [Sem.run_bind,q.ev hx,q.ev hy,hrun,Result.andThen_ok,Sem.run_pure,Oper.upon_skip,hd]
  have hother:∀ b,b≠g→(w.setCell ⟨g,i,none⟩ v).heap[b]?=w.heap[b]?:=fun b hb=>Below.heap_setCell _ _ _ _ hb
  have hsize:(w.setCell ⟨g,i,none⟩ v).heap.size=w.heap.size:=by simp
  refine hK _ _ (h _ _ (q.heap ?_ ?_))
  ·exact q.below.trans ⟨rfl,rfl,rfl,by omega,fun k hk=>hother k (by omega)⟩
  ·refine ho.turn (by omega) (fun b hb hn=>hother b (fun e=>hn (by subst e;rfl))) q.base ?_ (fun b hb=>⟨.inl hb,?_⟩)
   ·show Row enc 1 e 0 _ _ (xs.set i z')
    unfold Row
    rw [zNe ei.len hv,List.length_set]
    exact hst.1
   ·rw [hsize];cases hb;exact hfoot.2
theorem u_makeR {α:Type} {enc:α→List Value} [ei:zB8 enc 1] (z0:α) {T1 e:TypeId} {i:TypeInfo} {z:Value} {n0 s:Nat} {g:Bool} (hop:o.op = .makeSlice T1 x y) [i1:TyI P T1 (.slice e) s g] (hi:P.info? e=some i) (hz:i.zero=some z) (h1:i.size=1) (hcz:z.cells=#[z]) (hez:enc z0=[z]) (hb:Nat.ble (i.bytes * 1000) 281474976710656=true) (hrd:rdy R ops n o=some t) (hx:evR R x=some (.int .i64 (n0:Int))) (hy:evR R y=some (.int .i64 (n0:Int))) (hn:n0≤1000)
  (h:∀ b,U w0 n d ((t,.slice (some ⟨b,0,none⟩) n0 n0)::R) (.row enc 1 e (.slice (some ⟨b,0,none⟩) n0 n0) (List.replicate n0 z0)::H) (wpL ro P ops Q rest)):U w0 n d R H (wpL ro P ops Q (o::rest)) :=
 zDH (rW hrd) fun a w q K hK=>by
  have hb':(i.bytes:Int) * (n0:Int)≤281474976710656:=by
   have h9:=Nat.le_of_ble_eq_true hb
   have h8:i.bytes * n0≤i.bytes * 1000:=Nat.mul_le_mul_left _ hn
   have h7:((i.bytes * n0:Nat):Int)≤281474976710656:=by omega
   rwa [Int.natCast_mul] at h7
  have hr:=run_make (P:=P) w T1 e i z i1.und hi hz .i64 .i64 n0 n0 (by omega) (Int.le_refl _) hb' (by omega)
  simp only [Int.toNat_natCast,h1,Nat.mul_one,hcz] at hr
  unfold Oper.wp execOp;rw [hop]
  simp only [Sem.run_bind,q.ev hx,q.ev hy,hr,Result.andThen_ok,Sem.run_pure,Oper.upon_value,(rD hrd)]
  have hfl:(List.replicate n0 z0).flatMap enc=List.replicate n0 z:=by
   clear hn hx hy hr hb' h
   induction n0 with
   | zero=>rfl
   | succ m ih=>rw [List.replicate_succ,List.flatMap_cons,ih,hez,List.replicate_succ];rfl
  refine hK _ _ (h w.heap.size _ _ ((q.call (E:=[.row enc 1 e (.slice (some ⟨w.heap.size,0,none⟩) n0 n0) (List.replicate n0 z0)]) (zo w _) ⟨fun f hf=>?_,fun f hf b hb=>?_,by simp⟩).put (rT hrd)))
  ·simp only [List.mem_singleton] at hf
   subst hf
   show Row enc 1 e 0 _ _ _
   unfold Row
   rw [hfl]
   refine ⟨by simp,.inr ⟨w.heap.size,n0,madeCells #[z] n0,by simp,Nat.zero_le _,heap_alloc_new w _,by simp,by simp [maxLen];omega,by simp [madeCells],?_⟩⟩
   have:=toList_madeCells_one z n0
   rw [this];simp
  ·simp only [List.mem_singleton] at hf;subst hf;cases hb;simp
end
end Go.Proofs.YtdigopgncfhiaaaGreatDoor
