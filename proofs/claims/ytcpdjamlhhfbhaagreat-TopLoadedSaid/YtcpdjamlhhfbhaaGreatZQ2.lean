/- ZQ2 -/
import Derived.Test.YtcpdjamlhhfbhaaGreatZQ1
import Derived.Laws.Tables
import Derived.Laws.IdiomCopy
import Derived.IntWalk
import Derived.OwnWalkIn
import Derived.RangeFuncLeaves
import Derived.Sort.LoopGhostIn
set_option linter.unusedSimpArgs false
set_option linter.unusedVariables false
namespace Go.Proofs.YtcpdjamlhhfbhaaGreat
variable {ro : Option Nat}
open Go.RowKit
abbrev zD5 (P:Program) (fn:Func) (R:Ending→World→Prop):Exit→Act→World→Prop:=bodyPostM Fence.wide 9 P fn R
abbrev FW (ro:Option Nat):Fence:={ fn:=fun _=>True,depth:=Option.none,alive:=false,round:=ro }
abbrev _root_.Go.Code.wpI (c:Code) (ro:Option Nat) (P:Program) (Q:Exit→Act→World→Prop):Act→World→Prop:=c.wpIn (FW ro) 9 P Q
abbrev wpL (ro:Option Nat) (P:Program) (ops:Array Oper) (Q:Exit→Act→World→Prop) (l:List Oper):Act→World→Prop:=wpListIn (FW ro) 9 P ops Q l
def zDa (o:Oper):Bool:=match o.op with | .defer _=>true | _=>false
theorem roomFW (n:Nat):(FW ro).room n:=fun d h=>by cases h
theorem wpFW {n m:Nat} {P:Program} {c:Code} {Q:Exit→Act→World→Prop} {a:Act} {w:World} (h:c.wpIn (FW ro) n P Q a w):c.wpIn (FW ro) m P Q a w:=fun b k cs h1 h2 _=>h b k cs h1 h2 (roomFW _)
theorem zIQ {n:Nat} {P:Program} {f:FuncId} {args:Array Value} {w:World} {R:Ending→World→Prop} (h:Calls P f args w R):CallsIn (FW ro) n P f args w R :=
 ⟨trivial,fun cs _=>let ⟨e,w',fr,r,s,x⟩:=h cs;⟨e,w',fr,r,comesIn_wide.2 s,x⟩⟩
theorem opIn {P:Program} {o:Oper} {a:Act} {w:World} {K:Act→World→Prop} {Q:Exit→Act→World→Prop} (hd:zDa o=false) (h:o.wp P a w K Q):o.wpIn (FW ro) 9 P a w K Q:=by
 refine ⟨fun _ _=>trivial,?_⟩
 rw [Oper.semAt_plain (FW ro) _ _ (fun c hc=>by unfold zDa at hd;rw [hc] at hd;cases hd)]
 unfold Oper.wp at h
 generalize (execOp a.eval o).run P w=r at *
 cases r with
 | ok nx w' =>
  cases nx with
  | enter f args=>exact ⟨fun h=>(by cases h),zIQ h⟩
  | row r args=>exact ⟨fun h=>(by cases h),fun c cs _=>let ⟨v,w'',r,s⟩:=h c cs;⟨v,w'',r,stepsIn_wide.2 s⟩⟩
  | value v=>exact h
  | skip=>exact h
  | defer d=>exact h
  | _=>exact h.elim
 | halt hh w'=>cases hh<;>first|exact h|exact h.elim
structure Ent where
 S:Nat→Prop
 p:World→Prop
 loc:∀ w w':World,w.heap.size≤w'.heap.size→(∀ b,S b→w'.heap[b]?=w.heap[b]?)→p w→p w'
theorem Blk.same {w w':World} {g:Nat} {cs:Array Value} (h:Blk w g cs) (hb:w'.heap[g]?=w.heap[g]?):Blk w' g cs:=by
 unfold Blk at h ⊢
 obtain ⟨t,h⟩:=h
 exact ⟨t,hb.trans h⟩
def Ent.blk (g:Nat) (cs:List Value):Ent:=⟨(· = g),fun w=>Blk w g cs.toArray,fun _ _ _ h hp=>hp.same (h g rfl)⟩
def Ent.row {α:Type} (enc:α→List Value) (k:Nat) (e:TypeId) (v:Value) (xs:List α):Ent :=
 ⟨fun b=>v.ownBlock=some b,fun w=>Row enc k e 0 w v xs,fun _ _ _ h hp=>hp.same h⟩
def Ent.sl {α:Type} (enc:α→List Value) (k:Nat) (A:Option Addr) (xs:List α):Ent :=
 ⟨fun b=>∃ o,A=some ⟨b,o,none⟩,fun w=>zAB enc k w A xs,fun w w' _ h hp i x hx=>by
  obtain ⟨b,o,hA,hlt,hc⟩:=hp i x hx
  refine ⟨b,o,hA,?_,fun j v hv=>?_⟩
  ·have h1:=h b ⟨o,hA⟩
   have h2:w.heap[b]?=some w.heap[b]:=by simp [hlt]
   rw [h2] at h1
   exact (Array.getElem?_eq_some_iff.1 h1).1
  ·have:=hc j v hv
   simpa [World.cell?,h b ⟨o,hA⟩] using this⟩
structure Own (base:Nat) (w:World) (H:List Ent):Prop where
 here:∀ e∈H,e.p w
 foot:∀ e∈H,∀ b,e.S b→base≤b∧b<w.heap.size
 apart:H.Pairwise fun e f=>∀ b,e.S b→¬ f.S b
theorem Own.nil (base:Nat) (w:World):Own base w []:=⟨by simp,by simp,List.Pairwise.nil⟩
inductive Take : List Ent→Ent→List Ent→Prop
 | here (e:Ent) (H:List Ent):Take (e::H) e H
 | there (f:Ent) {H H':List Ent} {e:Ent}:Take H e H'→Take (f::H) e (f::H')
theorem tK1 (e:Ent) (H:List Ent):Take (e::H) e H:=Take.here e H
theorem tK2 {f:Ent} {H H':List Ent} {e:Ent} (h:Take H e H'):Take (f::H) e (f::H'):=Take.there f h
abbrev Z := true
abbrev Y := false
inductive Out : List Ent→List Ent→Prop
 | nil (H:List Ent):Out H []
 | cons {H H1 H':List Ent} {e:Ent}:Take H e H1→Out H1 H'→Out H (e::H')
theorem oK1 (H:List Ent):Out H []:=Out.nil H
theorem oK2 {H H1 H':List Ent} {e:Ent} (h:Take H e H1) (h1:Out H1 H'):Out H (e::H'):=Out.cons h h1
theorem Take.mem {H H':List Ent} {e:Ent} (h:Take H e H'):e∈H:=by
 induction h with
 | here=>simp
 | there f _ ih=>exact List.mem_cons_of_mem _ ih
theorem Take.rest {H H':List Ent} {e:Ent} (h:Take H e H'):∀ f∈H',f∈H:=by
 induction h with
 | here=>intro f hf;exact List.mem_cons_of_mem _ hf
 | there g _ ih =>
  intro f hf
  rcases List.mem_cons.1 hf with rfl|hf
  ·simp
  ·exact List.mem_cons_of_mem _ (ih f hf)
theorem Take.apart {H H':List Ent} {e:Ent} (h:Take H e H') (ha:H.Pairwise fun e f=>∀ b,e.S b→¬ f.S b):(e::H').Pairwise fun e f=>∀ b,e.S b→¬ f.S b:=by
 induction h with
 | here=>exact ha
 | @there f H H' e ht ih =>
  rw [List.pairwise_cons] at ha
  have:=ih ha.2
  rw [List.pairwise_cons] at this
  rw [List.pairwise_cons,List.pairwise_cons]
  refine ⟨fun g hg=>?_,fun g hg=>ha.1 g (ht.rest g hg),this.2⟩
  rcases List.mem_cons.1 hg with rfl|hg
  ·exact fun b h1 h2=>ha.1 e ht.mem b h2 h1
  ·exact this.1 g hg
theorem Own.take {base:Nat} {w:World} {H H':List Ent} {e:Ent} (h:Own base w H) (ht:Take H e H'):Own base w (e::H'):=by
 refine ⟨fun f hf=>?_,fun f hf=>?_,ht.apart h.apart⟩
 ·rcases List.mem_cons.1 hf with rfl|hf
  ·exact h.here _ ht.mem
  ·exact h.here _ (ht.rest _ hf)
 ·rcases List.mem_cons.1 hf with rfl|hf
  ·exact h.foot _ ht.mem
  ·exact h.foot _ (ht.rest _ hf)
theorem Own.tail {base:Nat} {w:World} {H:List Ent} {e:Ent} (h:Own base w (e::H)):Own base w H :=
 ⟨fun f hf=>h.here f (List.mem_cons_of_mem _ hf),fun f hf=>h.foot f (List.mem_cons_of_mem _ hf),(List.pairwise_cons.1 h.apart).2⟩
theorem Out.mem {H H':List Ent} (h:Out H H'):∀ e∈H',e∈H:=by
 induction h with
 | nil=>intro e he;cases he
 | cons ht _ ih =>
  intro e he
  rcases List.mem_cons.1 he with rfl|he
  ·exact ht.mem
  ·exact ht.rest e (ih e he)
theorem Own.sub {base:Nat} {w:World} {H H':List Ent} (hs:Out H H') (h:Own base w H):Own base w H':=by
 induction hs with
 | nil=>exact Own.nil _ _
 | @cons H H1 H' e ht hr ih =>
  have h1:=h.take ht
  have h2:=ih h1.tail
  refine ⟨fun f hf=>?_,fun f hf=>?_,List.pairwise_cons.2 ⟨fun f hf=>(List.pairwise_cons.1 h1.apart).1 f (hr.mem f hf),h2.apart⟩⟩
  ·rcases List.mem_cons.1 hf with rfl|hf
   ·exact h1.here _ (by simp)
   ·exact h2.here _ hf
  ·rcases List.mem_cons.1 hf with rfl|hf
   ·exact h1.foot _ (by simp)
   ·exact h2.foot _ hf
theorem Own.recast {base:Nat} {w:World} {H:List Ent} {e e':Ent} (h:Own base w (e::H)) (hp:e.p w→e'.p w) (hS:∀ b,e'.S b→e.S b):Own base w (e'::H):=by
 refine ⟨fun f hf=>?_,fun f hf=>?_,List.pairwise_cons.2 ⟨fun f hf b hb=>(List.pairwise_cons.1 h.apart).1 f hf b (hS b hb),(List.pairwise_cons.1 h.apart).2⟩⟩
 ·rcases List.mem_cons.1 hf with rfl|hf
  ·exact hp (h.here _ (by simp))
  ·exact h.here _ (List.mem_cons_of_mem _ hf)
 ·rcases List.mem_cons.1 hf with rfl|hf
  ·exact fun b hb=>h.foot _ (by simp) b (hS b hb)
  ·exact h.foot _ (List.mem_cons_of_mem _ hf)
theorem Own.past {base:Nat} {w w':World} {H:List Ent} (h:Own base w H) (hs:w.heap.size≤w'.heap.size) (hb:∀ e∈H,∀ b,e.S b→w'.heap[b]?=w.heap[b]?):Own base w' H :=
 ⟨fun e he=>e.loc _ _ hs (hb e he) (h.here e he),fun e he b hS=>⟨(h.foot e he b hS).1,Nat.lt_of_lt_of_le (h.foot e he b hS).2 hs⟩,h.apart⟩
theorem Own.below {base:Nat} {w w':World} {H:List Ent} (h:Own base w H) (hb:Below w.heap.size w w'):Own base w' H :=
 h.past hb.size fun e he b hS=>hb.block b (h.foot e he b hS).2
theorem Own.join {base:Nat} {w w':World} {H E:List Ent} (h:Own base w H) (hb:Below w.heap.size w w') (hB:base≤w.heap.size) (hE:Own w.heap.size w' E):Own base w' (E++H):=by
 have h1:=h.below hb
 refine ⟨fun e he=>?_,fun e he b hS=>?_,List.pairwise_append.2 ⟨hE.apart,h1.apart,fun e he f hf b hS hS'=>?_⟩⟩
 ·rcases List.mem_append.1 he with he|he
  ·exact hE.here e he
  ·exact h1.here e he
 ·rcases List.mem_append.1 he with he|he
  ·have:=hE.foot e he b hS;exact ⟨by omega,this.2⟩
  ·exact h1.foot e he b hS
 ·have:=(hE.foot e he b hS).1;have:=(h.foot f hf b hS').2;omega
theorem Own.turn {base:Nat} {w w':World} {H:List Ent} {e e':Ent} (h:Own base w (e::H)) (hs:w.heap.size≤w'.heap.size) (hb:∀ b,b<w.heap.size→¬ e.S b→w'.heap[b]?=w.heap[b]?) (hB:base≤w.heap.size)
  (hp:e'.p w') (hS:∀ b,e'.S b→(e.S b∨w.heap.size≤b)∧b<w'.heap.size):Own base w' (e'::H):=by
 have ha:=List.pairwise_cons.1 h.apart
 have hH:=h.tail.past hs (fun f hf b hS'=>hb b (h.foot f (List.mem_cons_of_mem _ hf) b hS').2 (fun hS=>ha.1 f hf b hS hS'))
 refine ⟨fun f hf=>?_,fun f hf b hS'=>?_,List.pairwise_cons.2 ⟨fun f hf b h1 h2=>?_,hH.apart⟩⟩
 ·rcases List.mem_cons.1 hf with rfl|hf
  ·exact hp
  ·exact hH.here f hf
 ·rcases List.mem_cons.1 hf with rfl|hf
  ·refine ⟨?_,(hS b hS').2⟩
   rcases (hS b hS').1 with h1|h1
   ·exact (h.foot e (by simp) b h1).1
   ·omega
  ·exact hH.foot f hf b hS'
 ·rcases (hS b h1).1 with h3|h3
  ·exact ha.1 f hf b h3 h2
  ·have:=(h.foot f (List.mem_cons_of_mem _ hf) b h2).2;omega
def lk : List (Nat × Value)→Nat→Option Value
 | [],_=>none
 | (t,v)::r,x=>cond (Nat.beq t x) (some v) (lk r x)
def evR (R:List (Nat × Value)):Operand→Option Value
 | .tmp t=>lk R t
 | .const v=>some v
 | .global g=>some (.pointer (some ⟨g,0,none⟩))
 | .func f=>some (.func (.func f) #[] #[])
def evs (R:List (Nat × Value)):List Operand→Option (List Value)
 | []=>some []
 | x::r=>match evR R x,evs R r with|some v,some vs=>some (v::vs) | _,_=>none
structure Kn (w0:World) (n:Nat) (d:List Deferred) (R:List (Nat × Value)) (H:List Ent) (a:Act) (w:World):Prop where
 size:a.tmps.size=n
 defers:a.defers=d
 regs:∀ t v,lk R t=some v→a.tmps.getD t undef=v
 below:Below w0.heap.size w0 w
 own:Own w0.heap.size w H
def U (w0:World) (n:Nat) (d:List Deferred) (R:List (Nat × Value)) (H:List Ent) (X:Act→World→Prop):Prop:=∀ a w,Kn w0 n d R H a w→X a w
section
variable {w0 : World} {n:Nat} {d:List Deferred} {R R':List (Nat × Value)} {H H' E:List Ent} {a:Act} {w w':World} {X:Act→World→Prop}
theorem Kn.ev {x:Operand} {v:Value} (h:Kn w0 n d R H a w) (hx:evR R x=some v):a.eval x=v:=by
 cases x with
 | tmp t=>exact h.regs t v hx
 | const u=>simp only [evR,Option.some.injEq] at hx;exact hx
 | global g=>simp only [evR,Option.some.injEq] at hx;exact hx
 | func f=>simp only [evR,Option.some.injEq] at hx;exact hx
theorem Kn.evs : ∀ {xs:List Operand} {vs:List Value} (_:Kn w0 n d R H a w) (_:evs R xs=some vs),xs.map a.eval=vs
 | [],vs,_,hx=>by simp only [Proofs.YtcpdjamlhhfbhaaGreat.evs,Option.some.injEq] at hx;subst hx;rfl
 | x::r,vs,h,hx=>by
  simp only [Proofs.YtcpdjamlhhfbhaaGreat.evs] at hx
  cases h1:evR R x with
  | none=>rw [h1] at hx;simp at hx
  | some v =>
   cases h2:Proofs.YtcpdjamlhhfbhaaGreat.evs R r with
   | none=>rw [h1,h2] at hx;simp at hx
   | some us =>
    rw [h1,h2] at hx
    simp only [Option.some.injEq] at hx
    subst hx
    rw [List.map_cons,h.ev h1,Kn.evs h h2]
theorem Kn.base (h:Kn w0 n d R H a w):w0.heap.size≤w.heap.size:=h.below.size
theorem zBQ {t u:Nat} {v:Value} (h:t≠u):lk ((t,v)::R) u=lk R u:=by
 simp only [lk]
 have:Nat.beq t u=false:=by
  cases hb:Nat.beq t u with
  | false=>rfl
  | true=>exact absurd (Nat.eq_of_beq_eq_true hb) h
 rw [this];rfl
theorem zBR {t:Nat} {v:Value}:lk ((t,v)::R) t=some v:=by
 simp [lk,Nat.beq_refl]
theorem Kn.put {t:Nat} {v:Value} (h:Kn w0 n d R H a w) (ht:Nat.blt t n=true):Kn w0 n d ((t,v)::R) H (a.put (some t) v) w:=by
 have hlt:t<a.tmps.size:=by rw [h.size];exact Nat.le_of_ble_eq_true ht
 refine ⟨by simp [Act.put,h.size],h.defers,fun u x hx=>?_,h.below,h.own⟩
 by_cases hu:t=u
 ·subst hu
  rw [zBR] at hx
  cases hx
  simp [Act.put,hlt]
 ·rw [zBQ hu] at hx
  have:=h.regs u x hx
  simp only [Act.put,Array.getD_eq_getD_getElem?] at this ⊢
  rw [Array.getElem?_setIfInBounds_ne hu]
  exact this
theorem Kn.sub (h:Kn w0 n d R H a w) (hR:∀ t v,lk R' t=some v→lk R t=some v) (hs:Out H H'):Kn w0 n d R' H' a w :=
 ⟨h.size,h.defers,fun t v hv=>h.regs t v (hR t v hv),h.below,h.own.sub hs⟩
theorem Kn.heap (h:Kn w0 n d R H a w) (hb:Below w0.heap.size w0 w') (ho:Own w0.heap.size w' H'):Kn w0 n d R H' a w':=⟨h.size,h.defers,h.regs,hb,ho⟩
theorem Kn.call (h:Kn w0 n d R H a w) (hb:Below w.heap.size w w') (hE:Own w.heap.size w' E):Kn w0 n d R (E++H) a w' :=
 h.heap (h.below.trans (hb.mono h.base)) (h.own.join hb h.base hE)
theorem Kn.alloc (h:Kn w0 n d R H a w) (cs:List Value) (t:TypeId):Kn w0 n d R (.blk w.heap.size cs::H) a (w.alloc (.cells cs.toArray t)):=by
 refine h.call (E:=[.blk w.heap.size cs]) (zAK _ _) ⟨?_,?_,by simp⟩
 ·intro e he
  simp only [List.mem_singleton] at he
  subst he
  exact Blk.new _ _ _
 ·intro e he b hb
  simp only [List.mem_singleton] at he
  subst he
  cases hb
  simp
theorem lk_nil {t:Nat} {v:Value} (h:lk [] t=some v):lk R t=some v:=by cases h
theorem lK1 {R:List (Nat × Value)} (t:Nat) (v:Value) (h:lk [] t=some v):lk R t=some v:=lk_nil h
theorem zp {t0:Nat} {v0:Value} (h0:lk R t0=some v0) (hr:∀ t v,lk R' t=some v→lk R t=some v):∀ t v,lk ((t0,v0)::R') t=some v→lk R t=some v:=by
 intro t v h
 by_cases ht:t0=t
 ·subst ht;rw [zBR] at h;cases h;exact h0
 ·rw [zBQ ht] at h;exact hr t v h
theorem U.sub (hR:∀ t v,lk R' t=some v→lk R t=some v) (hs:Out H H') (h:U w0 n d R' H' X):U w0 n d R H X:=fun a w k=>h a w (k.sub hR hs)
end
end Go.Proofs.YtcpdjamlhhfbhaaGreat
namespace Go.Proofs.YtcpdjamlhhfbhaaGreat
variable {ro : Option Nat}
open Go.RowKit
class TyI (P:Program) (T:TypeId) (d:outParam TypeDesc) (s:outParam Nat) (g:outParam Bool):Prop where
 und:P.underlying T=some d
 siz:∀ w,(Go.sizeOf T).run P w = .ok s w
 agg:∀ w,(Go.isAgg T).run P w = .ok g w
class TyZ (P:Program) (T:TypeId) (z:outParam (List Value)):Prop where
 zero:∀ w,∃ v,(zeroValue T).run P w = .ok v w∧v.cells=z.toArray
class TyB (P:Program) (T:TypeId) (ps:outParam (List (Nat × Nat))) (z:outParam (List Value)):Prop where
 bui:∀ parts:List (Nat × Value),P.built T parts=Instr.fill (ps.toArray[·]?) z.toArray parts
class FoI (P:Program) (T:TypeId) (m:Nat) (off:outParam Nat):Prop where
 at_:∀ (b o:Nat) (w:World),(Instr.fieldAt T (.pointer (some ⟨b,o,none⟩)) m).run P w = .ok (.pointer (some ⟨b,o+off,none⟩)) w
class zi (P:Program) (f:FuncId):Prop where
 ent:∀ (args:Array Value) (w:World),(callFunc f args).run P w = .ok (.enter f args) w
section
variable {P : Program} {w0:World} {n:Nat} {d:List Deferred} {R:List (Nat × Value)} {H H':List Ent} {Q:Exit→Act→World→Prop} {ops:Array Oper} {rest:List Oper} {o:Oper} {t:Tmp} {x y:Operand} {v u:Value}
theorem zW {x y:Code} (h:U w0 n d R H (x.wpI ro P (Exit.then (y.wpI ro P Q) Q))):U w0 n d R H ((Code.seq x y).wpI ro P Q):=fun a w k=>wpIn_seq (h a w k)
theorem zI {x y:Code} {c:Operand} (hc:evR R c=some (.bool true)) (h:U w0 n d R H (x.wpI ro P Q)):U w0 n d R H ((Code.cond c x y).wpI ro P Q):=fun a w k=>wpIn_cond_true (k.ev hc) (h a w k)
theorem zH {x y:Code} {c:Operand} (hc:evR R c=some (.bool false)) (h:U w0 n d R H (y.wpI ro P Q)):U w0 n d R H ((Code.cond c x y).wpI ro P Q):=fun a w k=>wpIn_cond_false (k.ev hc) (h a w k)
theorem zP {id:Nat} {c:Code} (h:U w0 n d R H (c.wpI ro P (Exit.inBlock id Q))):U w0 n d R H ((Code.block id c).wpI ro P Q):=fun a w k=>wpIn_block (h a w k)
theorem zZ {id:Nat} (h:U w0 n d R H (Q (.exit id))):U w0 n d R H ((Code.exit id).wpI ro P Q):=fun a w k=>wpIn_exit (h a w k)
theorem zX (h:U w0 n d R H (Q .ret)):U w0 n d R H (Code.ret.wpI ro P Q):=fun a w k=>wpIn_ret (h a w k)
theorem zT (h:U w0 n d R H (Q .normal)):U w0 n d R H (Code.skip.wpI ro P Q):=fun a w k=>wpIn_skip (h a w k)
theorem zBH {l:Nat} (h:U w0 n d R H (Q .normal)):U w0 n d R H ((Code.label l).wpI ro P Q):=fun a w k=>wpIn_label (h a w k)
theorem zB {K:Act→World→Prop} (h:U w0 n d R H K):U w0 n d R H (Exit.then K Q .normal):=h
theorem zJ {K:Act→World→Prop} {id:Nat} (h:U w0 n d R H (Q (.exit id))):U w0 n d R H (Exit.then K Q (.exit id)):=h
theorem zF {K:Act→World→Prop} (h:U w0 n d R H (Q .ret)):U w0 n d R H (Exit.then K Q .ret):=h
theorem zY {id:Nat} (h:U w0 n d R H (Q .normal)):U w0 n d R H (Exit.inBlock id Q .normal):=h
theorem za {id:Nat} (h:U w0 n d R H (Q .ret)):U w0 n d R H (Exit.inBlock id Q .ret):=h
theorem zG {id:Nat} (h:U w0 n d R H (Q .normal)):U w0 n d R H (Exit.inBlock id Q (.exit id)):=fun a w k=>by simp only [Exit.inBlock,if_true];exact h a w k
theorem zE {id id':Nat} (hne:Nat.beq id' id=false) (h:U w0 n d R H (Q (.exit id'))):U w0 n d R H (Exit.inBlock id Q (.exit id')):=fun a w k=>by
 have:id'≠id:=by rintro rfl;rw [Nat.beq_refl] at hne;cases hne
 simp only [Exit.inBlock,this,if_false];exact h a w k
theorem zC {id:Nat} {l:List Oper} (h:U w0 n d R H (wpL ro P l.toArray Q l)):U w0 n d R H ((Code.region id l.toArray false).wpI ro P Q):=fun a w k=>wpIn_region_lit (h a w k)
theorem zU (h:U w0 n d R H (Q .normal)):U w0 n d R H (wpL ro P ops Q []):=fun a w k=>wpListIn_nil (h a w k)
theorem zV (h:U w0 n d R H (wpL ro P ops Q (o::rest))):U w0 n d R H (wpL ro P ops Q (o::rest)):=h
def want (R:List (Nat × Value)) (ops:Array Oper) (o:Oper):Option Bool :=
 cond (zDa o) none <| match o.guard with
 | none=>some true
 | some (j,b)=>match (ops[j]?).bind (·.dst) with
  | some t=>match lk R t with|some v=>(match v with | .bool c=>some (c == b) | _=>some false)|none=>none
  | none=>none
def rdy (R:List (Nat × Value)) (ops:Array Oper) (n:Nat) (o:Oper):Option Tmp:=match want R ops o with
 | some true=>(match o.dst with|some t=>cond (Nat.blt t n) (some t) none|none=>none)
 | _=>none
theorem rA {R:List (Nat × Value)} {ops:Array Oper} {n:Nat} {o:Oper} {t:Tmp} (h:rdy R ops n o=some t):want R ops o=some true∧o.dst=some t∧Nat.blt t n=true:=by
 unfold rdy at h
 split at h
 ·next h1 =>
  split at h
  ·next u h2 =>
   cases hb:Nat.blt u n with
   | false=>rw [hb] at h;cases h
   | true=>rw [hb] at h;cases h;exact ⟨h1,h2,hb⟩
  ·cases h
 ·cases h
theorem rW {R:List (Nat × Value)} {ops:Array Oper} {n:Nat} {o:Oper} {t:Tmp} (h:rdy R ops n o=some t):want R ops o=some true:=(rA h).1
theorem rD {R:List (Nat × Value)} {ops:Array Oper} {n:Nat} {o:Oper} {t:Tmp} (h:rdy R ops n o=some t):o.dst=some t:=(rA h).2.1
theorem rT {R:List (Nat × Value)} {ops:Array Oper} {n:Nat} {o:Oper} {t:Tmp} (h:rdy R ops n o=some t):Nat.blt t n=true:=(rA h).2.2
theorem rM {R:List (Nat × Value)} {ops:Array Oper} {n:Nat} {o:Oper} {t:Tmp} (h1:want R ops o=some true) (h2:o.dst=some t) (h3:Nat.blt t n=true):rdy R ops n o=some t:=by
 unfold rdy;rw [h1,h2];simp only [h3,cond_true]
theorem zGq {b:Bool} (hw:want R ops o=some b):zDa o=false:=by
 unfold want at hw
 cases h:zDa o
 ·rfl
 ·rw [h] at hw;cases hw
theorem zBh {a:Act} {w:World} {b:Bool} (h:Kn w0 n d R H a w) (hw:want R ops o=some b):Region.wanted o (yielded ops a.tmps)=b:=by
 have hdf:=zGq hw
 unfold want at hw
 rw [hdf] at hw
 simp only [cond_false] at hw
 unfold Region.wanted
 cases hg:o.guard with
 | none=>rw [hg] at hw;simpa using hw
 | some jb =>
  obtain ⟨j,c⟩:=jb
  rw [hg] at hw
  simp only at hw ⊢
  cases hd:(ops[j]?).bind (·.dst) with
  | none=>rw [hd] at hw;simp at hw
  | some t =>
   rw [hd] at hw
   simp only at hw
   cases hl:lk R t with
   | none=>rw [hl] at hw;simp at hw
   | some x =>
    rw [hl] at hw
    simp only at hw
    have hr:=h.regs t _ hl
    unfold yielded
    rw [hd]
    simp only [Option.bind_some]
    rw [Array.getD_eq_getD_getElem?] at hr
    cases ht:a.tmps[t]? with
    | none =>
     rw [ht] at hr
     simp only [Option.getD_none,undef] at hr
     subst hr
     simpa using hw
    | some y =>
     rw [ht] at hr
     simp only [Option.getD_some] at hr
     subst hr
     cases y<;>simp at hw<;>simp [hw]
theorem zN (hw:want R ops o=some false) (hd:o.dst=some t) (ht:Nat.blt t n=true) (h:U w0 n d ((t,undef)::R) H (wpL ro P ops Q rest)):U w0 n d R H (wpL ro P ops Q (o::rest)):=fun a w k =>
 wpListIn_step fun K hK=>by
  rw [zBh k hw,hd]
  simp only [Bool.false_eq_true,if_false]
  refine ⟨fun _ _=>trivial,?_⟩
  exact hK _ _ (h _ _ (k.put ht))
theorem zM (hw:want R ops o=some false) (hd:o.dst=none) (h:U w0 n d R H (wpL ro P ops Q rest)):U w0 n d R H (wpL ro P ops Q (o::rest)):=fun a w k =>
 wpListIn_step fun K hK=>by
  rw [zBh k hw,hd]
  simp only [Bool.false_eq_true,if_false]
  refine ⟨fun _ _=>trivial,?_⟩
  exact hK _ _ (h _ _ k)
theorem zCh (hw:want R ops o=some true) (h:∀ a w,Kn w0 n d R H a w→∀ K:Act→World→Prop,(∀ a w,wpL ro P ops Q rest a w→K a w)→o.wp P a w K Q):U w0 n d R H (wpL ro P ops Q (o::rest)):=fun a w k =>
 wpListIn_step fun K hK=>by
  rw [zBh k hw,if_pos rfl]
  exact opIn (zGq hw) (h a w k K hK)
theorem zAg (hrd:rdy R ops n o=some t) (he:∀ a w,Kn w0 n d R H a w→(execOp a.eval o).run P w = .ok (.value v) w)
  (h:U w0 n d ((t,v)::R) H (wpL ro P ops Q rest)):U w0 n d R H (wpL ro P ops Q (o::rest)) :=
 zCh (rW hrd) fun a w k K hK=>by
  unfold Oper.wp
  rw [he a w k,Oper.upon_value,(rD hrd)]
  exact hK _ _ (h _ _ (k.put (rT hrd)))
theorem zO (hop:o.op = .move x) (hrd:rdy R ops n o=some t) (hx:evR R x=some v) (h:U w0 n d ((t,v)::R) H (wpL ro P ops Q rest)):U w0 n d R H (wpL ro P ops Q (o::rest)) :=
 zAg hrd (fun a w k=>by unfold execOp;rw [hop];simp only [Sem.run_pure,k.ev hx]) h
theorem zD (hop:o.op = .assign x) (hrd:rdy R ops n o=some t) (hx:evR R x=some v) (h:U w0 n d ((t,v)::R) H (wpL ro P ops Q rest)):U w0 n d R H (wpL ro P ops Q (o::rest)) :=
 zAg hrd (fun a w k=>by unfold execOp;rw [hop];simp only [Sem.run_pure,k.ev hx]) h
theorem zr {c:Operand} {b:Bool} (hop:o.op = .pick c x y) (hrd:rdy R ops n o=some t) (hc:evR R c=some (.bool b)) (hx:evR R (cond b x y)=some v) (h:U w0 n d ((t,v)::R) H (wpL ro P ops Q rest)):U w0 n d R H (wpL ro P ops Q (o::rest)) :=
 zAg hrd (fun a w k=>by
  unfold execOp;rw [hop]
  simp only [Sem.run_bind,k.ev hc,asBool,Sem.run_pure,Result.andThen_ok]
  have:=k.ev hx
  cases b<;>simp_all) h
theorem zq {i:Nat} {vs:List Value} (hop:o.op = .extract x i) (hrd:rdy R ops n o=some t) (hx:evR R x=some (.tuple vs.toArray)) (hi:vs[i]?=some v) (h:U w0 n d ((t,v)::R) H (wpL ro P ops Q rest)):U w0 n d R H (wpL ro P ops Q (o::rest)) :=
 zAg hrd (fun a w k=>by unfold execOp;rw [hop];simp [k.ev hx,Instr.extract,hi]) h
theorem zt {b:Bool} {T:TypeId} (hop:o.op = .unOp .not T x) (hrd:rdy R ops n o=some t) (hx:evR R x=some (.bool b)) (h:U w0 n d ((t,.bool (not b))::R) H (wpL ro P ops Q rest)):U w0 n d R H (wpL ro P ops Q (o::rest)) :=
 zAg hrd (fun a w k=>by unfold execOp;rw [hop];simp [k.ev hx,Op.unary]) h
theorem zDq {T:TypeId} {k:IntKind} {i:Int} (hop:o.op = .unOp .neg T x) (hrd:rdy R ops n o=some t) (hx:evR R x=some (.int k i)) (hr:k.wrap (0 - i) = -i) (h:U w0 n d ((t,.int k (-i))::R) H (wpL ro P ops Q rest)):U w0 n d R H (wpL ro P ops Q (o::rest)) :=
 zAg hrd (fun a w q=>by unfold execOp;rw [hop];simp only [Sem.run_bind,q.ev hx,Op.unary,Op.intArith,Sem.run_pure,Result.andThen_ok,hr]) h
section
variable {T T':TypeId} {k:IntKind} {i j:Int}
theorem zm (hop:o.op = .binOp .add T x y T') (hrd:rdy R ops n o=some t) (hx:evR R x=some (.int k i)) (hy:evR R y=some (.int k j)) (hr:k.wrap (i+j)=i+j) (h:U w0 n d ((t,.int k (i+j))::R) H (wpL ro P ops Q rest)):U w0 n d R H (wpL ro P ops Q (o::rest)) :=
 zAg hrd (fun a w q=>by unfold execOp;rw [hop];simp [q.ev hx,q.ev hy,eqGuard,binOp,Op.intArith,hr]) h
theorem zb {m:Nat} (hop:o.op = .binOp .add T x y T') (hrd:rdy R ops n o=some t) (hx:evR R x=some (.int .i64 (m:Int))) (hy:evR R y=some (.int .i64 1)) (hr:m<9223372036854775807) (h:U w0 n d ((t,.int .i64 ((m+1:Nat):Int))::R) H (wpL ro P ops Q rest)):U w0 n d R H (wpL ro P ops Q (o::rest)) :=
 zAg hrd (fun a w q=>by
  unfold execOp;rw [hop]
  have:=IntWalk.i64_in ((m:Int)+1) (by omega)
  simp [q.ev hx,q.ev hy,eqGuard,binOp,Op.intArith,this]) h
theorem z7 (hop:o.op = .binOp .sub T x y T') (hrd:rdy R ops n o=some t) (hx:evR R x=some (.int k i)) (hy:evR R y=some (.int k j)) (hr:k.wrap (i - j)=i - j) (h:U w0 n d ((t,.int k (i - j))::R) H (wpL ro P ops Q rest)):U w0 n d R H (wpL ro P ops Q (o::rest)) :=
 zAg hrd (fun a w q=>by unfold execOp;rw [hop];simp [q.ev hx,q.ev hy,eqGuard,binOp,Op.intArith,hr]) h
theorem zCO (hop:o.op = .binOp .mul T x y T') (hrd:rdy R ops n o=some t) (hx:evR R x=some (.int k i)) (hy:evR R y=some (.int k j)) (hr:k.wrap (i * j)=i * j) (h:U w0 n d ((t,.int k (i * j))::R) H (wpL ro P ops Q rest)):U w0 n d R H (wpL ro P ops Q (o::rest)) :=
 zAg hrd (fun a w q=>by unfold execOp;rw [hop];simp [q.ev hx,q.ev hy,eqGuard,binOp,Op.intArith,hr]) h
theorem zFe (hop:o.op = .binOp .quo T x y T') (hrd:rdy R ops n o=some t) (hx:evR R x=some (.int k i)) (hy:evR R y=some (.int k j)) (h0:0≤i) (h1:0<j) (hr:k.wrap (i / j)=i / j) (h:U w0 n d ((t,.int k (i / j))::R) H (wpL ro P ops Q rest)):U w0 n d R H (wpL ro P ops Q (o::rest)) :=
 zAg hrd (fun a w q=>by
  unfold execOp;rw [hop]
  have h2:¬ j=0:=by omega
  simp [q.ev hx,q.ev hy,eqGuard,binOp,Op.intDiv,h2,Int.tdiv_eq_ediv_of_nonneg h0,hr]) h
theorem zBZ (hop:o.op = .binOp .rem T x y T') (hrd:rdy R ops n o=some t) (hx:evR R x=some (.int k i)) (hy:evR R y=some (.int k j)) (h0:0≤i) (h1:0<j) (h:U w0 n d ((t,.int k (i % j))::R) H (wpL ro P ops Q rest)):U w0 n d R H (wpL ro P ops Q (o::rest)) :=
 zAg hrd (fun a w q=>by
  unfold execOp;rw [hop]
  have h2:¬ j=0:=by omega
  simp [q.ev hx,q.ev hy,eqGuard,binOp,Op.intDiv,h2,Int.tmod_eq_emod_of_nonneg h0]) h
def zF4 : BinOp→Bool
 | .lss | .leq | .gtr | .geq | .eql | .neq=>true
 | _=>false
def cmpP : BinOp→Int→Int→Prop
 | .lss,i,j=>i<j
 | .leq,i,j=>i≤j
 | .gtr,i,j=>j<i
 | .geq,i,j=>j≤i
 | .eql,i,j=>i=j
 | .neq,i,j=>¬ i=j
 | _,_,_=>False
theorem zFq {c:BinOp} (hc:zF4 c=true) {a:Act} {w:World} (hop:o.op = .binOp c T x y T') (hx:a.eval x = .int k i) (hy:a.eval y = .int k j) (hp:cmpP c i j):(execOp a.eval o).run P w = .ok (.value (.bool true)) w:=by
 unfold execOp;rw [hop]
 cases c<;>simp only [zF4,Bool.false_eq_true] at hc<;>simp only [cmpP] at hp<;>simp [hx,hy,eqGuard,binOp,Op.intCmp]<;>omega
theorem zFr {c:BinOp} (hc:zF4 c=true) {a:Act} {w:World} (hop:o.op = .binOp c T x y T') (hx:a.eval x = .int k i) (hy:a.eval y = .int k j) (hp:¬ cmpP c i j):(execOp a.eval o).run P w = .ok (.value (.bool false)) w:=by
 unfold execOp;rw [hop]
 cases c<;>simp only [zF4,Bool.false_eq_true] at hc<;>simp only [cmpP] at hp<;>simp [hx,hy,eqGuard,binOp,Op.intCmp]<;>omega
theorem zd {c:BinOp} (hop:o.op = .binOp c T x y T') (hc:zF4 c=true) (hrd:rdy R ops n o=some t) (hx:evR R x=some (.int k i)) (hy:evR R y=some (.int k j))
  (h1:cmpP c i j→U w0 n d ((t,.bool true)::R) H (wpL ro P ops Q rest)) (h2:¬ cmpP c i j→U w0 n d ((t,.bool false)::R) H (wpL ro P ops Q rest)):U w0 n d R H (wpL ro P ops Q (o::rest)):=by
 by_cases hp:cmpP c i j
 ·exact zAg hrd (fun a w q=>zFq hc hop (q.ev hx) (q.ev hy) hp) (h1 hp)
 ·exact zAg hrd (fun a w q=>zFr hc hop (q.ev hx) (q.ev hy) hp) (h2 hp)
theorem u_eql {b:Bool} {v':Value} {c:BinOp} (hop:o.op = .binOp c T x y T') (hrd:rdy R ops n o=some t) (hx:evR R x=some v) (hy:evR R y=some v')
  (hg:∀ w,(eqGuard c T x y v v').run P w = .ok () w) (hv:∀ w,(binOp c T v v').run P w = .ok (.bool b) w)
  (h1:b=true→U w0 n d ((t,.bool true)::R) H (wpL ro P ops Q rest)) (h2:b=false→U w0 n d ((t,.bool false)::R) H (wpL ro P ops Q rest)):U w0 n d R H (wpL ro P ops Q (o::rest)):=by
 have he:∀ a w,Kn w0 n d R H a w→(execOp a.eval o).run P w = .ok (.value (.bool b)) w:=fun a w q=>by
  unfold execOp;rw [hop]
  simp only [Sem.run_bind,q.ev hx,q.ev hy,hg,hv,Result.andThen_ok,Sem.run_pure]
 cases b
 ·exact zAg hrd he (h2 rfl)
 ·exact zAg hrd he (h1 rfl)
theorem zEF {T1 T2:TypeId} {d1:TypeDesc} {s1 s2:Nat} {g1 g2:Bool} {k':IntKind} (hop:o.op = .convert T1 T2 x) [i1:TyI P T1 d1 s1 g1] [i2:TyI P T2 (.int k') s2 g2] (hrd:rdy R ops n o=some t) (hx:evR R x=some (.int k i)) (hr:k'.wrap i=i) (h:U w0 n d ((t,.int k' i)::R) H (wpL ro P ops Q rest)):U w0 n d R H (wpL ro P ops Q (o::rest)) :=
 zAg hrd (fun a w q=>by
  unfold execOp;rw [hop]
  have e1:=run_underlying i1.und w
  have e2:=run_underlying i2.und w
  simp [q.ev hx,convert,e1,e2,Conv.intToInt,hr]) h
theorem zx {p:Addr} (hop:o.op = .nilCheck x) (hrd:rdy R ops n o=some t) (hx:evR R x=some (.pointer (some p))) (h:U w0 n d ((t,.pointer (some p))::R) H (wpL ro P ops Q rest)):U w0 n d R H (wpL ro P ops Q (o::rest)) :=
 zAg hrd (fun a w q=>by unfold execOp;rw [hop];simp [q.ev hx]) h
theorem zz {fn:Fn} {fs cs:Array Operand} {us vs:List Value} (hop:o.op = .makeFunc fn fs cs) (hrd:rdy R ops n o=some t) (hx:evs R fs.toList=some us) (hy:evs R cs.toList=some vs) (h:U w0 n d ((t,.func fn us.toArray vs.toArray)::R) H (wpL ro P ops Q rest)):U w0 n d R H (wpL ro P ops Q (o::rest)) :=
 zAg hrd (fun a w q=>by
  unfold execOp;rw [hop]
  have e1:fs.map a.eval=us.toArray:=by apply Array.ext';simpa using q.evs hx
  have e2:cs.map a.eval=vs.toArray:=by apply Array.ext';simpa using q.evs hy
  simp [e1,e2,Instr.makeFunc]) h
end
section
variable {T T':TypeId} {k:IntKind} {i j:Int}
theorem zj {e:TypeId} {s:Nat} {g:Bool} {A:Option Addr} {m c:Nat} (hop:o.op = .call ⟨.builtin .len,#[x],#[T]⟩) [i1:TyI P T (.slice e) s g] (hrd:rdy R ops n o=some t) (hx:evR R x=some (.slice A m c)) (h:U w0 n d ((t,.int .i64 (m:Int))::R) H (wpL ro P ops Q rest)):U w0 n d R H (wpL ro P ops Q (o::rest)) :=
 zAg hrd (fun a w q=>by
  unfold execOp;rw [hop]
  have e1:=run_underlying i1.und w
  simp [q.ev hx,resolve,invoke,builtin,Builtin.len_,e1,goInt]) h
theorem zA5 {ts:Array TypeId} (hop:o.op = .call ⟨.builtin .min,#[x,y],ts⟩) (hrd:rdy R ops n o=some t) (hx:evR R x=some (.int k i)) (hy:evR R y=some (.int k j)) (h:U w0 n d ((t,.int k (min i j))::R) H (wpL ro P ops Q rest)):U w0 n d R H (wpL ro P ops Q (o::rest)) :=
 zAg hrd (fun a w q=>by
  unfold execOp;rw [hop]
  have:(if j<i then j else i)=min i j:=by omega
  simp [q.ev hx,q.ev hy,resolve,invoke,builtin,Builtin.min_,Builtin.min2,this]) h
theorem zAd {ts:Array TypeId} (hop:o.op = .call ⟨.builtin .max,#[x,y],ts⟩) (hrd:rdy R ops n o=some t) (hx:evR R x=some (.int k i)) (hy:evR R y=some (.int k j)) (h:U w0 n d ((t,.int k (max i j))::R) H (wpL ro P ops Q rest)):U w0 n d R H (wpL ro P ops Q (o::rest)) :=
 zAg hrd (fun a w q=>by
  unfold execOp;rw [hop]
  have:(if i<j then j else i)=max i j:=by omega
  simp [q.ev hx,q.ev hy,resolve,invoke,builtin,Builtin.max_,Builtin.max2,this]) h
theorem zBg (b off m:Nat):(⟨b,off,none⟩:Addr).add m=⟨b,off+m,none⟩:=by unfold Addr.add;split<;>simp_all
theorem foI {P:Program} {T:TypeId} {fs:Array Field} {f:Field} {td:TypeDesc} {s s' m off:Nat} {g g':Bool} (i1:TyI P T (.struct fs) s g) (hf:fs[m]?=some f) (i2:TyI P f.type td s' g') (hs:Nat.beq s' 0=false) (ho:f.offset=off):FoI P T m off:=⟨fun b o w=>by
 have e1:=run_underlying i1.und w
 have e2:=i2.siz w
 have hs':¬ s'=0:=by rintro rfl;simp at hs
 subst ho
 simp [Instr.fieldAt,e1,hf,Instr.sureAddr,fieldPlace,e2,hs',zBg]⟩
theorem zS {m b off off':Nat} (hop:o.op = .fieldAddr T x m) [i1:FoI P T m off'] (hrd:rdy R ops n o=some t) (hx:evR R x=some (.pointer (some ⟨b,off,none⟩))) (h:U w0 n d ((t,.pointer (some ⟨b,off+off',none⟩))::R) H (wpL ro P ops Q rest)):U w0 n d R H (wpL ro P ops Q (o::rest)) :=
 zAg hrd (fun a w q=>by
  unfold execOp;rw [hop]
  simp only [q.ev hx,Sem.run_bind,i1.at_,Result.andThen_ok,Sem.run_pure]) h
theorem zK {e:TypeId} {s s' b off m c:Nat} {g g':Bool} {td:TypeDesc} {I:Nat} (hop:o.op = .indexAddr T x y) [i1:TyI P T (.slice e) s g] [i2:TyI P e td s' g'] (hrd:rdy R ops n o=some t) (hx:evR R x=some (.slice (some ⟨b,off,none⟩) m c)) (hy:evR R y=some (.int k i)) (hI:i=(I:Int)) (hi:I<m) (h:U w0 n d ((t,.pointer (some ⟨b,off+I * s',none⟩))::R) H (wpL ro P ops Q rest)):U w0 n d R H (wpL ro P ops Q (o::rest)) :=
 zAg hrd (fun a w q=>by
  subst hI
  unfold execOp;rw [hop]
  have e1:=run_underlying i1.und w
  have e2:=i2.siz w
  have h0:(0:Int)≤I:=by omega
  have h1:(I:Int)<m:=by omega
  simp [q.ev hx,q.ev hy,Instr.indexAt,asIntOf,e1,e2,hi,zBg]) h
theorem zL {e:TypeId} {s s' b off m:Nat} {g g':Bool} {td:TypeDesc} {I:Nat} (hop:o.op = .indexAddr T x y) [i1:TyI P T (.array m e) s g] [i2:TyI P e td s' g'] (hrd:rdy R ops n o=some t) (hx:evR R x=some (.pointer (some ⟨b,off,none⟩))) (hy:evR R y=some (.int k i)) (hI:i=(I:Int)) (hi:I<m) (h:U w0 n d ((t,.pointer (some ⟨b,off+I * s',none⟩))::R) H (wpL ro P ops Q rest)):U w0 n d R H (wpL ro P ops Q (o::rest)) :=
 zAg hrd (fun a w q=>by
  subst hI
  unfold execOp;rw [hop]
  have e1:=run_underlying i1.und w
  have e2:=i2.siz w
  have h0:(0:Int)≤I:=by omega
  have h1:(I:Int)<m:=by omega
  simp [q.ev hx,q.ev hy,Instr.indexAt,asIntOf,e1,e2,hi,zBg,Instr.sureAddr]) h
end
def Src (w0:World) (H:List Ent) (b off:Nat) (vs:List Value):Prop :=
 ∀ w,Below w0.heap.size w0 w→Own w0.heap.size w H→∀ j v,vs[j]?=some v→w.cell? ⟨b,off+j,none⟩=some v
theorem Src.blk {b:Nat} {cs:List Value} (h:Take H (.blk b cs) H'):Src w0 H b 0 cs:=fun w _ ho j v hv=>by
 have:=(ho.here _ h.mem:Blk w b cs.toArray).cell j
 simpa [hv] using this
theorem Src.add {b off j:Nat} {cs:List Value} (h:Src w0 H b off cs):Src w0 H b (off+j) (cs.drop j):=fun w hb ho i v hv=>by
 have:=h w hb ho (j+i) v (by simpa using hv)
 rwa [show off+j+i=off+(j+i) by omega]
theorem Src.in_ {α:Type} {enc:α→List Value} {k b off i:Nat} {xs:List α} {z:α} (h:zAB enc k w0 (some ⟨b,off,none⟩) xs) (hi:xs[i]?=some z):Src w0 H b (off+i * k) (enc z):=fun w hb _ j v hv=>by
 obtain ⟨b',o',hA,hlt,hc⟩:=h i z hi
 cases hA
 rw [hb.cell hlt]
 exact hc j v hv
theorem Src.sl {α:Type} {enc:α→List Value} {k b off i:Nat} {xs:List α} {z:α} (h:Take H (.sl enc k (some ⟨b,off,none⟩) xs) H') (hi:xs[i]?=some z):Src w0 H b (off+i * k) (enc z):=fun w _ ho j v hv=>by
 obtain ⟨b',o',hA,hlt,hc⟩:=(ho.here _ h.mem:zAB enc k w _ xs) i z hi
 cases hA
 exact hc j v hv
theorem Src.cell {b off:Nat} {v:Value} (h:w0.cell? ⟨b,off,none⟩=some v):Src w0 H b off [v]:=fun w hb _ j u hu=>by
 have hlt:=World.block_lt_of_cell? w0 _ h
 match j,hu with
 | 0,hu=>simp at hu;subst hu;rw [hb.cell (p:=⟨b,off+0,none⟩) hlt];exact h
def rdv (g:Bool) (vs:List Value) (s:Nat):Option Value :=
 match g with
 | true=>cond (Nat.ble s vs.length) (some (.agg (vs.take s).toArray)) none
 | false=>vs[0]?
theorem u_load {T:TypeId} {td:TypeDesc} {s b off:Nat} {g:Bool} {vs:List Value} (hop:o.op = .load T x) [i1:TyI P T td s g] (hrd:rdy R ops n o=some t) (hx:evR R x=some (.pointer (some ⟨b,off,none⟩))) (hs:Src w0 H b off vs) (hv:rdv g vs s=some v) (h:U w0 n d ((t,v)::R) H (wpL ro P ops Q rest)):U w0 n d R H (wpL ro P ops Q (o::rest)) :=
 zAg hrd (fun a w q=>by
  unfold execOp;rw [hop]
  have e1:=i1.agg w
  have e2:=i1.siz w
  have hc:=hs w q.below q.own
  cases g
  ·simp only [rdv] at hv
   have:=hc 0 v hv
   simp only [Nat.add_zero] at this
   simp [q.ev hx,Instr.loadAt,Instr.sureAddr,loadVar,e1,this]
  ·simp only [rdv] at hv
   cases hl:Nat.ble s vs.length with
   | false=>rw [hl] at hv;simp at hv
   | true =>
    rw [hl] at hv
    simp only [cond_true,Option.some.injEq] at hv
    subst hv
    have hlen:(vs.take s).length=s:=by have:=Nat.le_of_ble_eq_true hl;simp;omega
    have:=run_loadCells_list (P:=P) w ⟨b,off,none⟩ (vs.take s) (fun j u hu=>by
     rw [zBg]
     refine hc j u ?_
     rw [List.getElem?_take] at hu
     split at hu
     ·exact hu
     ·cases hu)
    rw [hlen] at this
    simp [q.ev hx,Instr.loadAt,Instr.sureAddr,loadVar,e1,e2,this]) h
theorem zh {T:TypeId} {z:List Value} (hop:o.op = .alloc T) [i1:TyZ P T z] (hrd:rdy R ops n o=some t)
  (h:∀ b,U w0 n d ((t,.pointer (some ⟨b,0,none⟩))::R) (.blk b z::H) (wpL ro P ops Q rest)):U w0 n d R H (wpL ro P ops Q (o::rest)) :=
 zCh (rW hrd) fun a w q K hK=>by
  obtain ⟨v,e1,e2⟩:=i1.zero w
  unfold Oper.wp execOp;rw [hop]
  simp only [Sem.run_bind,Instr.alloc,e1,Result.andThen_ok,newVar,newRow,run_newObj,Sem.run_pure,e2,Oper.upon_value,(rD hrd)]
  exact hK _ _ (h w.heap.size _ _ ((q.alloc z T).put (rT hrd)))
theorem zl {T:TypeId} (hop:o.op = .box T x) (hrd:rdy R ops n o=some t) (hx:evR R x=some v)
  {cs:List Value} (hc:v.cells.toList=cs) (h:∀ b,U w0 n d ((t,.pointer (some ⟨b,0,none⟩))::R) (.blk b cs::H) (wpL ro P ops Q rest)):U w0 n d R H (wpL ro P ops Q (o::rest)) :=
 zCh (rW hrd) fun a w q K hK=>by
  have e2:v.cells=cs.toArray:=by rw [← hc]
  unfold Oper.wp execOp;rw [hop]
  simp only [Sem.run_bind,q.ev hx,Instr.box,Result.andThen_ok,newVar,newRow,run_newObj,Sem.run_pure,e2,Oper.upon_value,(rD hrd)]
  exact hK _ _ (h w.heap.size _ _ ((q.alloc cs T).put (rT hrd)))
def evp (R:List (Nat × Value)):List (Nat × Operand)→Option (List (Nat × Value))
 | []=>some []
 | (i,x)::r=>match evR R x,evp R r with|some v,some vs=>some ((i,v)::vs) | _,_=>none
theorem Kn.evp {a:Act} {w:World}:∀ {xs:List (Nat × Operand)} {vs:List (Nat × Value)} (_:Kn w0 n d R H a w) (_:evp R xs=some vs),xs.map (fun p=>(p.1,a.eval p.2))=vs
 | [],vs,_,hx=>by simp only [Proofs.YtcpdjamlhhfbhaaGreat.evp,Option.some.injEq] at hx;subst hx;rfl
 | (i,x)::r,vs,h,hx=>by
  simp only [Proofs.YtcpdjamlhhfbhaaGreat.evp] at hx
  cases h1:evR R x with
  | none=>rw [h1] at hx;simp at hx
  | some v =>
   cases h2:Proofs.YtcpdjamlhhfbhaaGreat.evp R r with
   | none=>rw [h1,h2] at hx;simp at hx
   | some us =>
    rw [h1,h2] at hx
    simp only [Option.some.injEq] at hx
    subst hx
    rw [List.map_cons,h.ev h1,Kn.evp h h2]
def put1 : List Value→Nat→List Value→List Value
 | cs,_,[]=>cs
 | cs,off,v::r=>put1 (cs.set off v) (off+1) r
def fillL (place:Nat→Option (Nat × Nat)):List Value→List (Nat × Value)→Option (List Value)
 | cs,[]=>some cs
 | cs,(i,v)::r=>match place i with
  | none=>none
  | some (off,s)=>cond (Nat.beq v.cells.toList.length s && Nat.ble (off+s) cs.length) (fillL place (put1 cs off v.cells.toList) r) none
theorem zF7 : ∀ (vs:List Value) (cs:List Value) (off k:Nat),(vs.zipIdx k).foldl (fun (cs:Array Value) (p:Value × Nat)=>cs.setIfInBounds (off+p.2) p.1) cs.toArray=(put1 cs (off+k) vs).toArray
 | [],_,_,_=>rfl
 | v::r,cs,off,k=>by
  rw [List.zipIdx_cons,List.foldl_cons,put1]
  have:=zF7 r (cs.set (off+k) v) off (k+1)
  simp only [List.setIfInBounds_toArray] at this ⊢
  rw [this];rfl
theorem fill_eq (place:Nat→Option (Nat × Nat)):∀ (ps:List (Nat × Value)) (cs cs':List Value),fillL place cs ps=some cs'→Instr.fill place cs.toArray ps=some cs'.toArray
 | [],cs,cs',h=>by simp only [fillL,Option.some.injEq] at h;subst h;rfl
 | (i,v)::r,cs,cs',h=>by
  simp only [fillL] at h
  simp only [Instr.fill]
  cases hp:place i with
  | none=>rw [hp] at h;simp at h
  | some q =>
   obtain ⟨off,s⟩:=q
   rw [hp] at h
   simp only at h ⊢
   cases hb:(Nat.beq v.cells.toList.length s && Nat.ble (off+s) cs.length) with
   | false=>rw [hb] at h;simp at h
   | true =>
    rw [hb] at h
    simp only [cond_true] at h
    simp only [Bool.and_eq_true] at hb
    have h1:v.cells.size=s:=Nat.eq_of_beq_eq_true hb.1
    have h2:=Nat.le_of_ble_eq_true hb.2
    have e1:(decide (v.cells.size≠s) || decide (off+v.cells.size > cs.toArray.size))=false:=by
     simp [h1];omega
    rw [if_neg (by rw [e1];simp)]
    have e2:v.cells.zipIdx.foldl (fun (cs:Array Value) (p:Value × Nat)=>cs.setIfInBounds (off+p.2) p.1) cs.toArray=(put1 cs off v.cells.toList).toArray:=by
     have:=zF7 v.cells.toList cs off 0
     rw [← Array.foldl_toList,Array.toList_zipIdx];exact this
    have:=fill_eq place r _ _ h
    rw [← e2] at this
    exact this
theorem u_build {T:TypeId} {ps:Array (Nat × Operand)} {pl:List (Nat × Nat)} {z cs:List Value} {qs:List (Nat × Value)} (hop:o.op = .build T ps) [i1:TyB P T pl z] (hrd:rdy R ops n o=some t) (hp:evp R ps.toList=some qs)
  (hf:fillL (pl[·]?) z qs=some cs) (h:U w0 n d ((t,.agg cs.toArray)::R) H (wpL ro P ops Q rest)):U w0 n d R H (wpL ro P ops Q (o::rest)) :=
 zAg hrd (fun a w q=>by
  unfold execOp;rw [hop]
  have e1:(ps.map fun (i,x)=>(i,a.eval x)).toList=qs:=by rw [Array.toList_map];exact q.evp hp
  have e2:P.built T (ps.map fun (i,x)=>(i,a.eval x)).toList=some cs.toArray:=by
   rw [i1.bui,e1]
   have:=fill_eq (pl[·]?) qs z cs hf
   simpa using this
  simp only [Sem.run_bind,run_build w T _ _ e2,Result.andThen_ok,Sem.run_pure]) h
def zCM (z:List Value):Nat→List Value
 | 0=>[]
 | n+1=>z++zCM z n
theorem zIS (z:List Value) (hz:0<z.length):∀ n:Nat,((Array.range (n * z.length)).map (z.toArray[· % z.toArray.size]!))=(zCM z n).toArray:=by
 intro n
 apply Array.ext'
 induction n with
 | zero=>simp [zCM]
 | succ n ih =>
  simp only [zCM,Array.toList_map,Array.toList_range] at ih ⊢
  rw [show (n+1) * z.length=z.length+n * z.length by rw [Nat.succ_mul];omega,List.range_add,List.map_append,List.map_map]
  have e1:(List.range z.length).map (fun i=>z.toArray[i % z.toArray.size]!)=z:=by
   apply List.ext_getElem
   ·simp
   ·intro i h1 h2
    simp [Nat.mod_eq_of_lt h2,h2]
  have e2:((fun i=>z.toArray[i % z.toArray.size]!) ∘ fun x=>z.length+x)=fun i=>z.toArray[i % z.toArray.size]!:=by
   funext i;simp
  rw [e1,e2,ih]
theorem zBs {P:Program} {w:World} {o:Oper} {a:Act} {T e:TypeId} {len s s':Nat} {g g':Bool} {td:TypeDesc} {ps:Array (Nat × Operand)} {z cs:List Value} {qs:List (Nat × Value)} (hop:o.op = .buildSlice T len ps) (i1:TyI P T (.slice e) s g) (i2:TyI P e td s' g') (i3:TyZ P e z) (hp:ps.toList.map (fun p=>(p.1,a.eval p.2))=qs) (hz:Nat.beq z.length s'=true) (hs0:Nat.blt 0 s'=true) (hl:Nat.ble (len * s') 16777216=true)
  (hf:fillL (fun i=>some (i * s',s')) (zCM z len) qs=some cs):(Instr.buildSlice T len (ps.map fun (i,x)=>(i,a.eval x))).run P w = .ok (.slice (some ⟨w.heap.size,0,none⟩) len len) (w.alloc (.cells cs.toArray e)):=by
 obtain ⟨v,e1,e2⟩:=i3.zero w
 have e3:=run_underlying i1.und w
 have e4:=i2.siz w
 have e5:(ps.map fun (i,x)=>(i,a.eval x)).toList=qs:=by rw [Array.toList_map];exact hp
 have hz':z.length=s':=Nat.eq_of_beq_eq_true hz
 have hs0':0<s':=Nat.le_of_ble_eq_true hs0
 have hl':len * s'≤16777216:=Nat.le_of_ble_eq_true hl
 have e6:(Array.range (len * s')).map (z.toArray[· % z.toArray.size]!)=(zCM z len).toArray:=by rw [← hz'];exact zIS z (by omega) len
 have e7:=fill_eq (fun i=>some (i * s',s')) qs _ _ hf
 unfold Instr.buildSlice
 simp only [Sem.run_bind,e3,Result.andThen_ok,e4,Sem.run_ite,show ¬ len * s' > 2 ^ 24 by omega,if_false,Sem.run_pure,e5]
 by_cases hlen:len * s'=0
 ·simp only [hlen,if_true,Sem.run_pure,Result.andThen_ok]
  have hl0:len=0:=by
   rcases Nat.mul_eq_zero.1 hlen with h|h
   ·exact h
   ·omega
  subst hl0
  simp only [zCM] at e7
  have e8:∀ f:Nat→Value,(Array.range 0).map f=#[]:=fun f=>by simp
  simp only [e8,e7,newRow,Sem.run_bind,run_newObj,Result.andThen_ok,Sem.run_pure]
  rfl
 ·simp only [hlen,if_false,Sem.run_bind,e1,Result.andThen_ok,Sem.run_pure,e2,e6,e7,newRow,run_newObj]
  rfl
theorem zGQ {T e:TypeId} {len s s':Nat} {g g':Bool} {td:TypeDesc} {ps:Array (Nat × Operand)} {z cs:List Value} {qs:List (Nat × Value)} (hop:o.op = .buildSlice T len ps) [i1:TyI P T (.slice e) s g] [i2:TyI P e td s' g'] [i3:TyZ P e z] (hrd:rdy R ops n o=some t) (hp:evp R ps.toList=some qs) (hz:Nat.beq z.length s'=true) (hs0:Nat.blt 0 s'=true) (hl:Nat.ble (len * s') 16777216=true)
  (hf:fillL (fun i=>some (i * s',s')) (zCM z len) qs=some cs) (h:∀ b,U w0 n d ((t,.slice (some ⟨b,0,none⟩) len len)::R) (.blk b cs::H) (wpL ro P ops Q rest)):U w0 n d R H (wpL ro P ops Q (o::rest)) :=
 zCh (rW hrd) fun a w q K hK=>by
  have hrun:=zBs (P:=P) (w:=w) (o:=o) (a:=a) hop i1 i2 i3 (q.evp hp) hz hs0 hl hf
  unfold Oper.wp execOp;rw [hop]
  simp only [Sem.run_bind,hrun,Result.andThen_ok,Sem.run_pure,Oper.upon_value,(rD hrd)]
  exact hK _ _ (h w.heap.size _ _ ((q.alloc cs e).put (rT hrd)))
theorem zB6 (b:Nat):∀ (vs:List Value) (off:Nat) (w:World) (cs:List Value),Blk w b cs.toArray →
  Blk (w.setCells b off vs) b (put1 cs off vs).toArray∧(w.setCells b off vs).os=w.os∧(w.setCells b off vs).tape=w.tape∧(w.setCells b off vs).output=w.output∧(w.setCells b off vs).heap.size=w.heap.size∧∀ k,k≠b→(w.setCells b off vs).heap[k]?=w.heap[k]?
 | [],off,w,cs,h=>⟨h,rfl,rfl,rfl,rfl,fun _ _=>rfl⟩
 | v::r,off,w,cs,h=>by
  have h1:Blk (w.setCell ⟨b,off,none⟩ v) b (cs.set off v).toArray:=(h.set_ off v).cast (by simp)
  obtain ⟨g1,g2,g3,g4,g5,g6⟩:=zB6 b r (off+1) _ _ h1
  refine ⟨g1,g2,g3,g4,by rw [World.setCells,g5];simp,fun k hk=>?_⟩
  rw [World.setCells,g6 k hk]
  exact Below.heap_setCell _ _ _ _ hk
theorem zID {T:TypeId} {td:TypeDesc} {s b off:Nat} {g:Bool} {cs cs':List Value} (hop:o.op = .store T x y) [i1:TyI P T td s g] (hw:want R ops o=some true) (hd:o.dst=none) (hx:evR R x=some (.pointer (some ⟨b,off,none⟩))) (hy:evR R y=some v) (ht:Take H (.blk b cs) H')
  (hv:Nat.beq v.cells.toList.length s=true) (h1:v.cells.toList.all Value.oneCell'=true) (hl:Nat.ble (off+s) cs.length=true) (hc:put1 cs off v.cells.toList=cs')
  (h:U w0 n d R (.blk b cs'::H') (wpL ro P ops Q rest)):U w0 n d R H (wpL ro P ops Q (o::rest)) :=
 zCh hw fun a w q K hK=>by
  have ho:=q.own.take ht
  have hb:Blk w b cs.toArray:=ho.here (.blk b cs) (by simp)
  have hs:v.cells.toList.length=s:=Nat.eq_of_beq_eq_true hv
  have hlen:=Nat.le_of_ble_eq_true hl
  have e1:=i1.siz w
  obtain ⟨g1,g2,g3,g4,g5,g6⟩:=zB6 b v.cells.toList off w cs hb
  have hfoot:w0.heap.size≤b:=(ho.foot (.blk b cs) (by simp) b rfl).1
  have hrun:(Instr.storeAt T (.pointer (some ⟨b,off,none⟩)) v).run P w = .ok () (w.setCells b off v.cells.toList):=by
   have:=run_storeCells_cells (P:=P) b off v.cells.toList 0 w (fun j hj=>by have h9:off+j<cs.length:=(by omega);rw [hb.cell];simp [h9]) (fun j hj=>hb.frozen _) (fun u hu=>List.all_eq_true.1 h1 u hu)
   simp only [Nat.add_zero] at this
   have hsz:¬ v.cells.size≠s:=by simpa using hs
   unfold Instr.storeAt storeVar
   simp only [Sem.run_bind,Instr.sureAddr,Sem.run_pure,Result.andThen_ok,e1,Sem.run_ite,hsz,if_false,this]
  unfold Oper.wp execOp;rw [hop]
  simp only [Sem.run_bind,q.ev hx,q.ev hy,hrun,Result.andThen_ok,Sem.run_pure,Oper.upon_skip,hd]
  refine hK _ _ (h _ _ (q.heap ?_ ?_))
  ·exact q.below.trans ⟨g2,g3,g4,by omega,fun k hk=>g6 k (by omega)⟩
  ·exact ho.turn (by omega) (fun k hk hn=>g6 k hn) q.base (hc ▸ g1) (fun k hk=>by
    cases hk
    exact ⟨.inl rfl,by rw [g5];exact (ho.foot (.blk b cs) (by simp) b rfl).2⟩)
end
class zD9 (H:List Ent) (g:Nat) (cs:outParam (List Value)) (H':outParam (List Ent)):Prop where tk:Take H (.blk g cs) H'
instance (priority := high) takeB_here {H:List Ent} {g:Nat} {cs:List Value}:zD9 (.blk g cs::H) g cs H:=⟨Take.here _ _⟩
instance takeB_there {H H':List Ent} {e:Ent} {g:Nat} {cs:List Value} [i:zD9 H g cs H']:zD9 (e::H) g cs (e::H'):=⟨Take.there _ i.tk⟩
class zAZ {α:Type} (xs:List α) (i:Nat) (x:outParam α):Prop where get:xs[i]?=some x
class InS (w0:World) (b off:Nat) {α:outParam Type} (enc:outParam (α→List Value)) (k:outParam Nat) (xs:outParam (List α)):Prop where sl:zAB enc k w0 (some ⟨b,off,none⟩) xs
class InC (w0:World) (b off:Nat) (vs:outParam (List Value)):Prop where cells:∀ j v,vs[j]?=some v→w0.cell? ⟨b,off+j,none⟩=some v
class TakeS (H:List Ent) (b off:Nat) {α:outParam Type} (enc:outParam (α→List Value)) (k:outParam Nat) (xs:outParam (List α)) (H':outParam (List Ent)):Prop where tk:Take H (.sl enc k (some ⟨b,off,none⟩) xs) H'
instance (priority := high) takeS_here {H:List Ent} {b off:Nat} {α:Type} {enc:α→List Value} {k:Nat} {xs:List α}:TakeS (.sl enc k (some ⟨b,off,none⟩) xs::H) b off enc k xs H:=⟨Take.here _ _⟩
instance takeS_there {H H':List Ent} {e:Ent} {b off:Nat} {α:Type} {enc:α→List Value} {k:Nat} {xs:List α} [i:TakeS H b off enc k xs H']:TakeS (e::H) b off enc k xs (e::H'):=⟨Take.there _ i.tk⟩
class zET (w0:World) (H:List Ent) (b off:Nat) (vs:outParam (List Value)):Prop where src:Src w0 H b off vs
instance srcI_blk {w0:World} {H H':List Ent} {b:Nat} {cs:List Value} [i:zD9 H b cs H']:zET w0 H b 0 cs:=⟨Src.blk i.tk⟩
instance (priority := low) srcI_add {w0:World} {H:List Ent} {b off j:Nat} {cs:List Value} [i:zET w0 H b off cs]:zET w0 H b (off+j) (cs.drop j):=⟨i.src.add⟩
instance srcI_in {w0:World} {H:List Ent} {b off i k:Nat} {α:Type} {enc:α→List Value} {xs:List α} {x:α} [i1:InS w0 b off enc k xs] [i2:zAZ xs i x]:zET w0 H b (off+i * k) (enc x):=⟨Src.in_ i1.sl i2.get⟩
instance srcI_inc {w0:World} {H:List Ent} {b off:Nat} {vs:List Value} [i:InC w0 b off vs]:zET w0 H b off vs:=⟨fun w hb _ j v hv=>by
 have h:=i.cells j v hv
 have hlt:=World.block_lt_of_cell? w0 _ h
 rw [hb.cell (p:=⟨b,off+j,none⟩) hlt];exact h⟩
instance srcI_sl {w0:World} {H H':List Ent} {b off i k:Nat} {α:Type} {enc:α→List Value} {xs:List α} {x:α} [i1:TakeS H b off enc k xs H'] [i2:zAZ xs i x]:zET w0 H b (off+i * k) (enc x):=⟨Src.sl i1.tk i2.get⟩
section
variable {P : Program} {w0:World} {n:Nat} {d:List Deferred} {R:List (Nat × Value)} {H H':List Ent} {Q:Exit→Act→World→Prop} {ops:Array Oper} {rest:List Oper} {o:Oper} {t:Tmp} {x y:Operand} {v u:Value}
theorem zQ {T:TypeId} {td:TypeDesc} {s b off:Nat} {g:Bool} {vs:List Value} (hop:o.op = .load T x) [i1:TyI P T td s g] (hrd:rdy R ops n o=some t) (hx:evR R x=some (.pointer (some ⟨b,off,none⟩))) [i2:zET w0 H b off vs]
  (h:∃ v,rdv g vs s=some v∧U w0 n d ((t,v)::R) H (wpL ro P ops Q rest)):U w0 n d R H (wpL ro P ops Q (o::rest)):=by
 obtain ⟨v,h2,h3⟩:=h
 exact u_load hop hrd hx i2.src h2 h3
theorem zy {T:TypeId} {ps:Array (Nat × Operand)} {pl:List (Nat × Nat)} {z:List Value} {qs:List (Nat × Value)} (hop:o.op = .build T ps) [i1:TyB P T pl z] (hrd:rdy R ops n o=some t) (hp:evp R ps.toList=some qs)
  (h:∃ cs,fillL (pl[·]?) z qs=some cs∧U w0 n d ((t,.agg cs.toArray)::R) H (wpL ro P ops Q rest)):U w0 n d R H (wpL ro P ops Q (o::rest)):=by
 obtain ⟨cs,h1,h2⟩:=h
 exact u_build hop hrd hp h1 h2
theorem zR {T e:TypeId} {len s s':Nat} {g g':Bool} {td:TypeDesc} {ps:Array (Nat × Operand)} {z:List Value} {qs:List (Nat × Value)} (hop:o.op = .buildSlice T len ps) [i1:TyI P T (.slice e) s g] [i2:TyI P e td s' g'] [i3:TyZ P e z] (hrd:rdy R ops n o=some t) (hp:evp R ps.toList=some qs)
  (h:(Nat.beq z.length s' && Nat.blt 0 s' && Nat.ble (len * s') 16777216)=true∧∃ cs,fillL (fun i=>some (i * s',s')) (zCM z len) qs=some cs∧∀ b,U w0 n d ((t,.slice (some ⟨b,0,none⟩) len len)::R) (.blk b cs::H) (wpL ro P ops Q rest)):U w0 n d R H (wpL ro P ops Q (o::rest)):=by
 obtain ⟨h0,cs,h1,h2⟩:=h
 simp only [Bool.and_eq_true] at h0
 exact zGQ hop hrd hp h0.1.1 h0.1.2 h0.2 h1 h2
theorem zg {T:TypeId} {td:TypeDesc} {s b off:Nat} {g:Bool} {cs:List Value} (hop:o.op = .store T x y) [i1:TyI P T td s g] (hw:want R ops o=some true) (hd:o.dst=none) (hx:evR R x=some (.pointer (some ⟨b,off,none⟩))) [i2:zD9 H b cs H'] (hy:evR R y=some v)
  (h:(Nat.beq v.cells.toList.length s && v.cells.toList.all Value.oneCell')=true∧off+s≤cs.length∧∃ cs',put1 cs off v.cells.toList=cs'∧U w0 n d R (.blk b cs'::H') (wpL ro P ops Q rest)):U w0 n d R H (wpL ro P ops Q (o::rest)):=by
 obtain ⟨h2,h3,cs',h4,h5⟩:=h
 simp only [Bool.and_eq_true] at h2
 exact zID hop hw hd hx hy i2.tk h2.1 h2.2 (Nat.ble_eq_true_of_le h3) h4 h5
end
end Go.Proofs.YtcpdjamlhhfbhaaGreat
namespace Go.Proofs.YtcpdjamlhhfbhaaGreat
variable {ro : Option Nat}
open Go.RowKit
class zBX {α:Type} (enc:α→List Value) (k:outParam Nat):Prop where
 len:∀ x,(enc x).length=k
 one:∀ x,∀ u∈enc x,u.oneCell'=true
class ElI (P:Program) (T:TypeId) (e k b:outParam Nat):Prop where
 el:∃ z,Elem P T e k b z
def zFU {α:Type} (w:World) (V:α→Value) (E:α→List Ent) (p:α→Prop) (e:Ending) (w':World):Prop :=
 ∃ x,p x∧e = .returned (V x)∧Below w.heap.size w w'∧Own w.heap.size w' (E x)
def Ret (P:Program) (f:FuncId) (args:List Value) (w:World) {α:Type} (V:α→Value) (E:α→List Ent) (p:α→Prop):Prop :=
 Calls P f args.toArray w (zFU w V E p)
def Gv (P:Program) (f:FuncId) (args:List Value) (w:World) (v:Value):Prop:=Ret P f args w (fun _:Unit=>v) (fun _=>[]) (fun _=>True)
theorem zAs.gv {f:FuncId} {args:List Value} {w:World} {v:Value} (h:zAs f args.toArray w v):Gv Tryz.prog f args w v :=
 h.mono fun _ _ ⟨he,hb⟩=>⟨(),trivial,he,hb,Own.nil _ _⟩
theorem Gv.gives {f:FuncId} {args:List Value} {w:World} {v:Value} (h:Gv Tryz.prog f args w v):zAs f args.toArray w v :=
 Calls.mono h fun _ _ ⟨_,_,he,hb,_⟩=>⟨he,hb⟩
def zCV {α:Type} (enc:α→List Value) (k:Nat) (xs:List α) (V:Value→Value) (P:Program) (f:FuncId) (args:List Value) (w:World):Prop :=
 Ret P f args w (fun p:Option Addr × Nat=>V (.slice p.1 xs.length p.2)) (fun p=>[.sl enc k p.1 xs]) (fun _=>True)
theorem Ret.calls {P:Program} {f:FuncId} {args:List Value} {w:World} {α:Type} {V:α→Value} {E:α→List Ent} {p:α→Prop} (h:Ret P f args w V E p):Calls P f args.toArray w (zFU w V E p):=h
theorem Ret.of {P:Program} {f:FuncId} {args:List Value} {w:World} {α:Type} {V:α→Value} {E:α→List Ent} {p:α→Prop} (h:Calls P f args.toArray w (zFU w V E p)):Ret P f args w V E p:=h
theorem Gv.ret {P:Program} {f:FuncId} {args:List Value} {w:World} {v:Value} (h:Gv P f args w v):Ret P f args w (fun _:Unit=>v) (fun _=>[]) (fun _=>True):=h
theorem zCV.ret {α:Type} {enc:α→List Value} {k:Nat} {xs:List α} {V:Value→Value} {P:Program} {f:FuncId} {args:List Value} {w:World} (h:zCV enc k xs V P f args w):Ret P f args w (fun p:Option Addr × Nat=>V (.slice p.1 xs.length p.2)) (fun p=>[.sl enc k p.1 xs]) (fun _=>True):=h
attribute [irreducible] Gv zCV Ret
section
variable {P : Program} {w0:World} {n:Nat} {d:List Deferred} {R R':List (Nat × Value)} {H H' H1 H2:List Ent} {Q:Exit→Act→World→Prop} {ops:Array Oper} {rest:List Oper} {o:Oper} {t:Tmp} {x y:Operand} {v u:Value} {X:Act→World→Prop}
theorem zAU {f:FuncId} {fx:Operand} {xs:Array Operand} {ts:Array TypeId} {vs:List Value} {cap:Array Value} {α:Type} {V:α→Value} {E:α→List Ent} {p:α→Prop} (hop:o.op = .call ⟨.value fx,xs,ts⟩) (hrd:rdy R ops n o=some t) (hf:evR R fx=some (.func (.func f) #[] cap)) (hx:evs R xs.toList=some vs) [ci:zi P f]
  (hc:∀ a w,Kn w0 n d R H a w→Ret P f (vs++cap.toList) w V E p) (h:∀ x,p x→U w0 n d ((t,V x)::R) (E x++H) (wpL ro P ops Q rest)):U w0 n d R H (wpL ro P ops Q (o::rest)) :=
 zCh (rW hrd) fun a w q K hK=>by
  unfold Oper.wp execOp;rw [hop]
  have e1:xs.map a.eval=vs.toArray:=by apply Array.ext';simpa using q.evs hx
  have e2:vs.toArray++cap=(vs++cap.toList).toArray:=by apply Array.ext';simp
  simp only [resolve,q.ev hf,e1,Deferred.ofValue,Sem.run_bind,Sem.run_pure,Result.andThen_ok,invoke,Array.empty_append,e2,ci.ent,Oper.upon_enter,(rD hrd)]
  refine Calls.mono (hc a w q).calls ?_
  rintro e w' ⟨z,hp,rfl,hb,hE⟩
  exact hK _ _ (h z hp _ _ ((q.call hb hE).put (rT hrd)))
theorem zn {f:FuncId} {fx:Operand} {xs:Array Operand} {ts:Array TypeId} {vs:List Value} {cap:Array Value} (hop:o.op = .call ⟨.value fx,xs,ts⟩) (hrd:rdy R ops n o=some t) (hf:evR R fx=some (.func (.func f) #[] cap)) (hx:evs R xs.toList=some vs) [ci:zi P f]
  (hc:∀ a w,Kn w0 n d R H a w→Gv P f (vs++cap.toList) w v) (h:U w0 n d ((t,v)::R) H (wpL ro P ops Q rest)):U w0 n d R H (wpL ro P ops Q (o::rest)) :=
 zAU hop hrd hf hx (fun a w q=>(hc a w q).ret) (fun _ _=>h)
theorem zBN {b:Bool} {f:FuncId} {fx:Operand} {xs:Array Operand} {ts:Array TypeId} {vs:List Value} {cap:Array Value} (hop:o.op = .call ⟨.value fx,xs,ts⟩) (hrd:rdy R ops n o=some t) (hf:evR R fx=some (.func (.func f) #[] cap)) (hx:evs R xs.toList=some vs) [ci:zi P f]
  (hc:∀ a w,Kn w0 n d R H a w→Gv P f (vs++cap.toList) w (.bool b)) (h1:b=true→U w0 n d ((t,.bool true)::R) H (wpL ro P ops Q rest)) (h2:b=false→U w0 n d ((t,.bool false)::R) H (wpL ro P ops Q rest)):U w0 n d R H (wpL ro P ops Q (o::rest)):=by
 cases b
 ·exact zn hop hrd hf hx hc (h2 rfl)
 ·exact zn hop hrd hf hx hc (h1 rfl)
theorem zIT {ι:Type} {c:Code} {a:Act} {w:World} (I:ι→Prop) (Rf:ι→List (Nat × Value)) (Hf:ι→List Ent) (μ:ι→Nat) {m:Nat}
 (body:∀ i,I i→U w0 n d (Rf i) (Hf i) (c.wpI ro P (Exit.then (fun a w=>∃ j,I j∧μ j<μ i∧Kn w0 n d (Rf j) (Hf j) a w) Q))) (h:∃ i,I i∧μ i=m∧Kn w0 n d (Rf i) (Hf i) a w):(Code.loop c).wpI ro P Q a w:=by
 refine wpIn_loop_ghost (F:=FW ro) (rm:=9) (P:=P) (Q:=Q) (c:=c) (fun m a w=>∃ i,I i∧μ i=m∧Kn w0 n d (Rf i) (Hf i) a w) m h ?_
 rintro m a w ⟨i,hi,hm,hk⟩
 refine Code.wpIn_mono ?_ (body i hi a w hk)
 intro e a' w' q
 cases e<;>first|exact q|skip
 obtain ⟨j,hj,hlt,hk'⟩:=q
 exact ⟨μ j,by omega,j,hj,rfl,hk'⟩
theorem u_loop {ι:Type} {c:Code} (I:ι→Prop) (Rf:ι→List (Nat × Value)) (Hf:ι→List Ent) (μ:ι→Nat) (i0:ι) (h0:I i0) (hR:∀ t v,lk (Rf i0) t=some v→lk R t=some v) (hH:Out H (Hf i0))
  (body:∀ i,I i→U w0 n d (Rf i) (Hf i) (c.wpI ro P (Exit.then (fun a w=>∃ j,I j∧μ j<μ i∧Kn w0 n d (Rf j) (Hf j) a w) Q))):U w0 n d R H ((Code.loop c).wpI ro P Q):=fun a w k=>by
 exact zIT I Rf Hf μ (m:=μ i0) body ⟨i0,h0,rfl,k.sub hR hH⟩
theorem zDM {α:Type} {enc:α→List Value} {k:Nat} {zs:List α} {V:Value→Value} {f:FuncId} {fx:Operand} {xs:Array Operand} {ts:Array TypeId} {vs:List Value} {cap:Array Value} (hop:o.op = .call ⟨.value fx,xs,ts⟩) (hrd:rdy R ops n o=some t) (hf:evR R fx=some (.func (.func f) #[] cap)) (hx:evs R xs.toList=some vs) [ci:zi P f]
  (hc:∀ a w,Kn w0 n d R H a w→zCV enc k zs V P f (vs++cap.toList) w) (h:∀ A c,U w0 n d ((t,V (.slice A zs.length c))::R) (.sl enc k A zs::H) (wpL ro P ops Q rest)):U w0 n d R H (wpL ro P ops Q (o::rest)) :=
 zAU hop hrd hf hx (fun a w q=>(hc a w q).ret) (fun z _=>h z.1 z.2)
theorem z6 {ι:Type} {I:ι→Prop} {Rf:ι→List (Nat × Value)} {Hf:ι→List Ent} {μ:ι→Nat} {m:Nat} (j:ι) (hj:I j) (hm:μ j<m) (hR:∀ t v,lk (Rf j) t=some v→lk R t=some v) (hH:Out H (Hf j)) :
  U w0 n d R H (fun a w=>∃ j,I j∧μ j<m∧Kn w0 n d (Rf j) (Hf j) a w):=fun a w k=>⟨j,hj,hm,k.sub hR hH⟩
def zHV : Nat→List Value→List (Nat × Value)
 | _,[]=>[]
 | i,v::r=>(i,v)::zHV (i+1) r
theorem zES : ∀ (args:List Value) (i t:Nat) (v:Value),lk (zHV i args) t=some v→i≤t∧args[t - i]?=some v
 | [],i,t,v,h=>by cases h
 | u::r,i,t,v,h=>by
  simp only [zHV] at h
  by_cases hi:i=t
  ·subst hi;rw [zBR] at h;cases h;exact ⟨Nat.le_refl _,by simp⟩
  ·rw [zBQ hi] at h
   obtain ⟨h1,h2⟩:=zES r (i+1) t v h
   refine ⟨by omega,?_⟩
   rw [show t - i=(t - (i+1))+1 by omega,List.getElem?_cons_succ]
   exact h2
theorem ze {α:Type} {f:FuncId} {fn:Func} {c:Code} {args:List Value} {w:World} {V:α→Value} {E:α→List Ent} {p:α→Prop} {n:Nat} (hf:P.funcs[f]?=some fn) (hb:fn.body=some c) (hnn:fn.ntmps=n) (hn:Nat.ble args.length n=true)
  (h:U w n [] (zHV 0 args) [] (c.wpI none P (zD5 P fn (zFU w V E p)))):Ret P f args w V E p :=
 Ret.of <| (callsIn_wide (n:=9)).1 <| callsIn_of_wp_marks hf hb trivial (h _ _ ⟨by have:=Nat.le_of_ble_eq_true hn;simp;omega,rfl,fun t v ht=>by
  have:=zES args 0 t v ht
  obtain ⟨_,h2⟩:=this
  simp only [Nat.sub_zero] at h2
  have hlt:t<args.length:=by
   rcases Nat.lt_or_ge t args.length with h|h
   ·exact h
   ·rw [List.getElem?_eq_none h] at h2;cases h2
  rw [Array.getD_eq_getD_getElem?,Array.getElem?_append_left (by simpa using hlt)]
  simp [h2],Below.refl _ _,Own.nil _ _⟩)
inductive zBv (P:Program) (w0:World) (R:List (Nat × Value)) (H:List Ent):ResultVar→Value→Prop
 | tmp {t:Tmp} {v:Value}:lk R t=some v→zBv P w0 R H (.tmp t) v
 | cell {t:Tmp} {T:TypeId} {td:TypeDesc} {s b off:Nat} {g:Bool} {vs:List Value} {v:Value}:lk R t=some (.pointer (some ⟨b,off,none⟩))→TyI P T td s g→Src w0 H b off vs→rdv g vs s=some v→zBv P w0 R H (.cell t T) v
theorem res1c {P:Program} {w0:World} {R:List (Nat × Value)} {H:List Ent} {t:Tmp} {T:TypeId} {td:TypeDesc} {s b off:Nat} {g:Bool} {vs:List Value} {v:Value} (h:lk R t=some (.pointer (some ⟨b,off,none⟩))) [i1:TyI P T td s g] [i2:zET w0 H b off vs] (hv:rdv g vs s=some v):zBv P w0 R H (.cell t T) v:=zBv.cell h i1 i2.src hv
inductive zAX (P:Program) (w0:World) (R:List (Nat × Value)) (H:List Ent):List ResultVar→List Value→Prop
 | nil:zAX P w0 R H [] []
 | cons {r:ResultVar} {rs:List ResultVar} {v:Value} {vs:List Value}:zBv P w0 R H r v→zAX P w0 R H rs vs→zAX P w0 R H (r::rs) (v::vs)
theorem rTm {P:Program} {w0:World} {R:List (Nat × Value)} {H:List Ent} {t:Tmp} {v:Value} (h:lk R t=some v):zAX P w0 R H [.tmp t] [v]:=.cons (.tmp h) .nil
def resV : List Value→Value
 | [v]=>v
 | vs=>.tuple vs.toArray
theorem zGa {T:TypeId} {td:TypeDesc} {s b off:Nat} {g:Bool} {vs:List Value} {w:World} (i1:TyI P T td s g) (hc:∀ j v,vs[j]?=some v→w.cell? ⟨b,off+j,none⟩=some v) (hv:rdv g vs s=some v):(loadVar T ⟨b,off,none⟩).run P w = .ok v w:=by
 have e1:=i1.agg w
 have e2:=i1.siz w
 cases g
 ·simp only [rdv] at hv
  have:=hc 0 v hv
  simp only [Nat.add_zero] at this
  simp [loadVar,e1,this]
 ·simp only [rdv] at hv
  cases hl:Nat.ble s vs.length with
  | false=>rw [hl] at hv;simp at hv
  | true =>
   rw [hl] at hv
   simp only [cond_true,Option.some.injEq] at hv
   subst hv
   have hlen:(vs.take s).length=s:=by have:=Nat.le_of_ble_eq_true hl;simp;omega
   have:=run_loadCells_list (P:=P) w ⟨b,off,none⟩ (vs.take s) (fun j u hu=>by
    rw [zBg]
    refine hc j u ?_
    rw [List.getElem?_take] at hu
    split at hu
    ·exact hu
    ·cases hu)
   rw [hlen] at this
   simp [loadVar,e1,e2,this]
theorem zIJ {a:Act} {w:World} (q:Kn w0 n d R H a w) {f:ResultVar→Sem Value} (hf1:∀ t,f (.tmp t)=pure (a.tmps.getD t undef)) (hf2:∀ c t,f (.cell c t)=(do loadVar t (← asAddr (a.tmps.getD c undef)))):∀ {rs:List ResultVar} {vs:List Value},zAX P w0 R H rs vs→(rs.mapM f).run P w = .ok vs w
 | [],_,.nil=>by simp
 | r::rs,_,.cons (v:=v) (vs:=vs) h1 h2=>by
  have ih:=zIJ q hf1 hf2 h2
  cases h1 with
  | tmp h=>simp only [List.mapM_cons,hf1,Sem.run_bind,Sem.run_pure,q.regs _ _ h,Result.andThen_ok,ih]
  | cell h i1 hs hv =>
   have e:=zGa i1 (hs w q.below q.own) hv
   have e0:∀ A:Addr,(asAddr (.pointer (some A))).run P w = .ok A w:=fun _=>rfl
   simp only [List.mapM_cons,hf2,Sem.run_bind,Sem.run_pure,q.regs _ _ h,Result.andThen_ok,e0,e,ih]
theorem zEb {a:Act} {w:World} {fn:Func} {vs:List Value} (q:Kn w0 n d R H a w) (hres:zAX P w0 R H fn.results.toList vs):(results fn a.tmps).run P w = .ok (resV vs) w:=by
 have e:∀ f:ResultVar→Sem Value,(∀ t,f (.tmp t)=pure (a.tmps.getD t undef))→(∀ c t,f (.cell c t)=(do loadVar t (← asAddr (a.tmps.getD c undef))))→(fn.results.mapM f).run P w = .ok vs.toArray w:=fun f h1 h2=>by
  have:=zIJ q h1 h2 hres
  rw [Array.mapM_eq_mapM_toList,← bind_pure_comp,Sem.run_bind,this]
  rfl
 unfold results
 simp only [Sem.run_bind]
 rw [e _ (fun _=>rfl) (fun _ _=>rfl)]
 simp only [Result.andThen_ok,Sem.run_pure]
 match vs with
 | []=>rfl
 | [v]=>rfl
 | v::v'::r=>rfl
theorem zEg {a:Act} {w:World} {α:Type} {fn:Func} {V:α→Value} {E:α→List Ent} {p:α→Prop} {vs:List Value} (q:Kn w0 n d R H a w) (hres:zAX P w0 R H fn.results.toList vs) (z:α) (hp:p z) (hV:V z=resV vs) (hO:∀ w,Own w0.heap.size w H→Own w0.heap.size w (E z)):LeavesInM Fence.wide 9 P fn a.tmps (zFU w0 V E p) [] .returning w:=by
 refine ⟨resV vs,?_,z,hp,by rw [hV],q.below,hO w q.own⟩
 exact zEb q hres
theorem zk {α:Type} {fn:Func} {V:α→Value} {E:α→List Ent} {p:α→Prop} {vs:List Value} (hres:zAX P w0 R H fn.results.toList vs) (z:α) (hp:p z) (hV:V z=resV vs) (hO:∀ w,Own w0.heap.size w H→Own w0.heap.size w (E z)):U w0 n [] R H (zD5 P fn (zFU w0 V E p) .ret):=fun a w q=>by
 show LeavesInM Fence.wide 9 P fn a.tmps (zFU w0 V E p) a.defers .returning w
 rw [q.defers]
 exact zEg q hres z hp hV hO
theorem zf {α:Type} {fn:Func} {V:α→Value} {E:α→List Ent} {p:α→Prop} {w0:World} (h:U w0 n d R H (zD5 P fn (zFU w0 V E p) .ret)):U w0 n d R H (zD5 P fn (zFU w0 V E p) .normal):=h
theorem zG3 {α:Type} {enc:α→List Value} {k e:Nat} {w:World} {A:Option Addr} {m c:Nat} {xs:List α} (he:∀ x,(enc x).length=k) (h:Row enc k e 0 w (.slice A m c) xs):m=xs.length∧zAB enc k w A xs:=by
 obtain ⟨A',c',h1,h2⟩:=h.slAt he
 cases h1
 exact ⟨rfl,h2⟩
theorem zE5 {α:Type} {enc:α→List Value} {k b:Nat} {w:World} {xs:List α} (he:∀ x,(enc x).length=k) (h:Blk w b (xs.flatMap enc).toArray):zAB enc k w (some ⟨b,0,none⟩) xs:=by
 intro i x hx
 refine ⟨b,0,rfl,h.lt,fun j v hv=>?_⟩
 rw [h.cell]
 simpa using zCy he xs i x hx j v hv
theorem Own.zCe {α:Type} {enc:α→List Value} {k e base:Nat} [ei:zBX enc k] {w:World} {A:Option Addr} {m c:Nat} {xs:List α} (ht:Take H (.row enc k e (.slice A m c) xs) H') (h:Own base w H):Own base w (.sl enc k A xs::H'):=by
 refine (h.take ht).recast (fun hp=>(zG3 ei.len hp).2) ?_
 rintro b ⟨o,hA⟩
 subst hA
 rfl
theorem Own.blk_sl {α:Type} {enc:α→List Value} {k base b:Nat} [ei:zBX enc k] {w:World} {xs:List α} (ht:Take H (.blk b (xs.flatMap enc)) H') (h:Own base w H):Own base w (.sl enc k (some ⟨b,0,none⟩) xs::H'):=by
 refine (h.take ht).recast (fun hp=>zE5 ei.len hp) ?_
 rintro b ⟨o,hA⟩
 cases hA
 rfl
theorem zAw {α:Type} (enc:α→List Value) (k e:Nat) (h:U w0 n d R (.row enc k e (.slice none 0 0) ([]:List α)::H) X):U w0 n d R H X:=fun a w q =>
by
 refine h a w (q.heap q.below ⟨fun f hf=>?_,fun f hf b hb=>?_,List.pairwise_cons.2 ⟨fun f hf b hb=>?_,q.own.apart⟩⟩)
 ·rcases List.mem_cons.1 hf with rfl|hf
  ·exact Row.nil
  ·exact q.own.here f hf
 ·rcases List.mem_cons.1 hf with rfl|hf
  ·cases hb
  ·exact q.own.foot f hf b hb
 ·cases hb
theorem zAp {α:Type} {enc:α→List Value} {k e:Nat} {xs:List α} (ht:Take H (.row enc k e v xs) H') (h:∀ A c,v = .slice A xs.length c→U w0 n d R H X):U w0 n d R H X:=fun a w q=>by
 obtain ⟨A,c,hv⟩:=(q.own.here (.row enc k e v xs) ht.mem:Row enc k e 0 w v xs).form
 exact h A c hv a w q
theorem zAo {α:Type} {enc:α→List Value} {k:Nat} {A:Option Addr} {xs:List α} (ht:Take H (.sl enc k A xs) H') (hl:0<xs.length) (h:∀ b off,A=some ⟨b,off,none⟩→U w0 n d R H X):U w0 n d R H X:=fun a w q=>by
 obtain ⟨b,off,hA,_⟩:=(q.own.here (.sl enc k A xs) ht.mem:zAB enc k w A xs).at_ hl
 exact h b off hA a w q
theorem zBc {α:Type} {enc:α→List Value} {k e T bytes:Nat} [el:ElI P T e k bytes] [ei:zBX enc k] {xs:List α} (ys:List α) {A:Option Addr} {m c:Nat} (hop:o.op = .call { callee:=.builtin .append,args:=#[x,y],argTypes:=#[T,T] }) (hrd:rdy R ops n o=some t) (hx:evR R x=some v) (hr:Take H (.row enc k e v xs) H')
  (hy:evR R y=some (.slice A m c)) (hm:m=ys.length) (hs:∀ w,Below w0.heap.size w0 w→Own w0.heap.size w H→zAB enc k w A ys) (hl:xs.length+ys.length≤1000000∧bytes≤1000000)
  (h:∀ A' c',U w0 n d ((t,.slice A' (xs++ys).length c')::R) (.row enc k e (.slice A' (xs++ys).length c') (xs++ys)::H') (wpL ro P ops Q rest)):U w0 n d R H (wpL ro P ops Q (o::rest)) :=
 zCh (rW hrd) fun a w q K hK=>by
  subst hm
  obtain ⟨z,hE⟩:=el.el
  obtain ⟨i,i1,i2,i3,i4⟩:=hE.info
  have ho:=q.own.take hr
  have hrow:Row enc k e 0 w v xs:=ho.here (.row enc k e v xs) (by simp)
  have hsl:=hs w q.below q.own
  have hlen:(ys.flatMap enc).length=ys.length * k:=by
   simp [List.length_flatMap,ei.len,List.map_const',List.sum_replicate_nat]
  have hmul:(xs.length+ys.length) * bytes≤140737488355328:=by
   have:=Nat.mul_le_mul hl.1 hl.2;omega
  have key:∃ v' w',(Builtin.append_ #[T,T] o.type #[v,.slice A ys.length c]).run P w = .ok v' w'∧Row enc k e 0 w' v' (xs++ys)∧w.grownBy w' v.ownBlock∧(v'.ownBlock=v.ownBlock∨v'.ownBlock=some w.heap.size):=by
   cases hA:A with
   | none =>
    have hys:ys=[]:=by
     cases ys with
     | nil=>rfl
     | cons y r =>
      obtain ⟨b,o,hb,_⟩:=hsl 0 y (by simp)
      rw [hA] at hb;cases hb
    subst hys hA
    refine ⟨v,w,?_,by simpa using hrow,World.grownBy.refl w _,.inl rfl⟩
    rcases hrow.2 with ⟨rfl,_⟩ | ⟨g,cap,cur,rfl,_,_,hnc,_⟩
    ·simp [Builtin.append_,run_underlying hE.under,sizeOf,typeInfo,i1,Builtin.lenOf,Builtin.firstCells]
    ·simp [Builtin.append_,run_underlying hE.under,sizeOf,typeInfo,i1,Builtin.lenOf,Builtin.firstCells,hnc,storeCells]
   | some ad =>
    subst hA
    obtain ⟨v',w',r1,r2,r3,_,r5⟩:=run_append_own_at (P:=P) w 0 T o.type e i z k bytes hE.under i1 i2 i3 i4 hE.zs hE.pos v xs.length (xs.flatMap enc) hrow ad ys.length c (ys.flatMap enc) hlen
     (fun j u hu=>by
      obtain ⟨i,y,l,hi,hl,rfl⟩:=zFN ei.len ys j u hu
      obtain ⟨b,o,hb,hlt,hc⟩:=hsl i y hi
      cases hb
      have e1:(⟨b,o,none⟩:Addr).add (i * k+l)=⟨b,o+i * k+l,none⟩:=by rw [zBg];congr 1;omega
      rw [e1];exact hc l u hl)
     (fun u hu=>by
      obtain ⟨y,_,hy'⟩:=List.mem_flatMap.1 hu
      exact ei.one y u hy') (by unfold maxLen;omega) hmul (Nat.zero_le _)
    exact ⟨v',w',r1,by unfold Row;simpa using r2,r3,r5⟩
  obtain ⟨v',w',k1,k2,k3,k4⟩:=key
  obtain ⟨A',c',rfl⟩:=k2.form
  unfold Oper.wp execOp
  simp only [hop,resolve,invoke,builtin,Sem.run_bind,Sem.run_pure,Result.andThen_ok,List.map_toArray,List.map_cons,List.map_nil,q.ev hx,q.ev hy,k1,Oper.upon_value,(rD hrd)]
  have hfoot:∀ b,v.ownBlock=some b→w0.heap.size≤b∧b<w.heap.size:=fun b hb=>ho.foot (.row enc k e v xs) (by simp) b hb
  refine hK _ _ (h A' c' _ _ (Kn.put (q.heap ?_ ?_) (rT hrd)))
  ·exact q.below.trans ⟨k3.os,k3.tape,k3.output,k3.size,fun b hb=>k3.block b (by have:=q.base;omega) (fun e=>by have:=(hfoot b e.symm).1;omega)⟩
  ·refine ho.turn k3.size (fun b hb hn=>k3.block b hb (fun e=>hn e.symm)) q.base k2 (fun b hb=>?_)
   have hb':(Value.slice A' (xs++ys).length c').ownBlock=some b:=hb
   have hlt:=k2.lt b hb'
   rcases k4 with h4|h4
   ·exact ⟨.inl (h4.symm.trans hb'),hlt.2⟩
   ·rw [h4] at hb';cases hb';exact ⟨.inr (Nat.le_refl _),hlt.2⟩
end
class TyBA (P:Program) (T:TypeId) (s:outParam Nat) (z:outParam (List Value)):Prop where
 bui:∀ parts:List (Nat × Value),P.built T parts=Instr.fill (fun i=>some (i * s,s)) z.toArray parts
theorem zAL {P:Program} {T:TypeId} {fs:Array Field} {zv:Value} {z:List Value} {ps:List (Nat × Nat)} (h1:(P.info? T).bind (·.zero)=some zv) (h2:zv.cells=z.toArray) (h3:P.underlying T=some (.struct fs))
  (h4:fs.toList.mapM (fun f=>(P.info? f.type).map fun i=>(f.offset,i.size))=some ps):TyB P T ps z:=⟨fun parts=>by
 unfold Program.built
 cases hi:P.info? T with
 | none=>rw [hi] at h1;simp at h1
 | some it =>
  rw [hi] at h1
  simp only [Option.bind_some] at h1
  simp only [h3,h1,h4,h2]⟩
theorem zEG {P:Program} {T e:TypeId} {m s:Nat} {zv:Value} {z:List Value} (h1:(P.info? T).bind (·.zero)=some zv) (h2:zv.cells=z.toArray) (h3:P.underlying T=some (.array m e))
  (h4:(P.info? e).map (·.size)=some s):TyBA P T s z:=⟨fun parts=>by
 unfold Program.built
 cases hi:P.info? T with
 | none=>rw [hi] at h1;simp at h1
 | some it =>
  rw [hi] at h1
  simp only [Option.bind_some] at h1
  cases he:P.info? e with
  | none=>rw [he] at h4;simp at h4
  | some ie =>
   rw [he] at h4
   simp only [Option.map_some,Option.some.injEq] at h4
   simp only [h3,h1,he,h2,h4]⟩
theorem zAO {α:Type} {enc:α→List Value} {k b:Nat} {cs:List Value} {y:α} {w0:World} {H H':List Ent} [ei:zBX enc k] [i:zD9 H b cs H'] (hc:cs=enc y):∀ w,Below w0.heap.size w0 w→Own w0.heap.size w H→zAB enc k w (some ⟨b,0,none⟩) [y]:=fun w _ ho=>by
 subst hc
 have h:Blk w b (enc y).toArray:=ho.here _ i.tk.mem
 exact zE5 ei.len (by simpa using h)
theorem cells_of {base b:Nat} {cs:List Value} {H H':List Ent} {w W:World} (ho:Own base w H) [i:zD9 H b cs H'] (hW:Below w.heap.size w W):InC W b 0 cs:=⟨fun j v hv=>by
 have h:Blk w b cs.toArray:=ho.here _ i.tk.mem
 rw [hW.cell h.lt,h.cell]
 simpa using hv⟩
theorem sl_of {α:Type} {enc:α→List Value} {k base:Nat} {A:Option Addr} {xs:List α} {H H':List Ent} {w W:World} (ht:Take H (.sl enc k A xs) H') (ho:Own base w H) (hW:Below w.heap.size w W):zAB enc k W A xs:=zAB.below (ho.here (.sl enc k A xs) ht.mem) hW
class TakeL (H:List Ent) (A:Option Addr) {α:outParam Type} (enc:outParam (α→List Value)) (k:outParam Nat) (xs:outParam (List α)) (H':outParam (List Ent)):Prop where tk:Take H (.sl enc k A xs) H'
instance (priority := high) takeL_here {H:List Ent} {A:Option Addr} {α:Type} {enc:α→List Value} {k:Nat} {xs:List α}:TakeL (.sl enc k A xs::H) A enc k xs H:=⟨Take.here _ _⟩
instance takeL_there {H H':List Ent} {e:Ent} {A:Option Addr} {α:Type} {enc:α→List Value} {k:Nat} {xs:List α} [i:TakeL H A enc k xs H']:TakeL (e::H) A enc k xs (e::H'):=⟨Take.there _ i.tk⟩
theorem zDD {α:Type} {enc:α→List Value} {k base:Nat} {A:Option Addr} {xs:List α} {H H':List Ent} {w W:World} [i:TakeL H A enc k xs H'] (ho:Own base w H) (hW:Below w.heap.size w W):zAB enc k W A xs:=sl_of i.tk ho hW
theorem zGz {α:Type} {enc:α→List Value} {k b:Nat} {cs:List Value} (ys:List α) {w0:World} {H H':List Ent} [ei:zBX enc k] [i:zD9 H b cs H'] (hc:cs=ys.flatMap enc):∀ w,Below w0.heap.size w0 w→Own w0.heap.size w H→zAB enc k w (some ⟨b,0,none⟩) ys:=fun w _ ho=>by
 subst hc
 exact zE5 ei.len (ho.here _ i.tk.mem)
theorem src_in {α:Type} {enc:α→List Value} {k:Nat} {A:Option Addr} {xs:List α} {w0:World} {H:List Ent} (h:zAB enc k w0 A xs):∀ w,Below w0.heap.size w0 w→Own w0.heap.size w H→zAB enc k w A xs:=fun w hb _=>h.below hb
end Go.Proofs.YtcpdjamlhhfbhaaGreat
