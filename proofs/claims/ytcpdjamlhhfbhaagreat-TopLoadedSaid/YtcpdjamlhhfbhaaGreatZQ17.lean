/- ZQ17 -/
import Derived.Test.YtcpdjamlhhfbhaaGreatZQ8
import Derived.Test.YtcpdjamlhhfbhaaGreatZQ16
set_option linter.unusedSimpArgs false
set_option linter.unusedVariables false
namespace Go.Proofs.YtcpdjamlhhfbhaaGreat
open Go.RowKit Go.Lib Go.Sort Go.Shelf
set_option maxRecDepth 20000
structure BSp where
 val:Sp
 ok:-1000000000≤val.lo∧val.lo≤1000000000
instance : Inhabited BSp:=⟨⟨⟨0,0⟩,by decide⟩⟩
def zCA (x:BSp):List Value:=zo x.1
def cfB (x y:BSp):Int:=x.1.lo - y.1.lo
theorem ltB_iff (x y:BSp):ltOf cfB x y=true↔x.1.lo<y.1.lo:=by
 unfold ltOf cfB;simp only [decide_eq_true_eq];omega
theorem zHr (x y:BSp):ltOf cfB x y=false↔y.1.lo≤x.1.lo:=by
 unfold ltOf cfB;simp only [decide_eq_false_iff_not];omega
theorem swoB : SWO (ltOf cfB) where
 irrefl x:=by rw [zHr];omega
 trans x y z h1 h2:=by rw [ltB_iff] at *;omega
 ntrans x y z h1 h2:=by rw [zHr] at *;omega
theorem lift_B : ∀ (xs:List Sp),(∀ s∈xs,-1000000000≤s.lo∧s.lo≤1000000000)→∃ ys:List BSp,ys.map (fun z=>z.1)=xs
 | [],_=>⟨[],rfl⟩
 | s::r,h=>by
  obtain ⟨ys,hy⟩:=lift_B r (fun x hx=>h x (by simp [hx]))
  exact ⟨⟨s,h s (by simp)⟩::ys,by rw [List.map_cons,hy]⟩
theorem flat_B : ∀ ys:List BSp,ys.flatMap zCA=(ys.map fun z=>z.1).flatMap zo
 | []=>rfl
 | y::r=>by rw [List.flatMap_cons,List.map_cons,List.flatMap_cons,flat_B r];rfl
theorem zG2 {n g b:Nat} {d:Array BSp} {os:Array Obj} {w:World} (hb:b<w.heap.size) (hne:b≠g):(sortWorldK zCA 2 w g 0 n d os).heap[b]?=w.heap[b]?:=by
 unfold sortWorldK grow putRowK putRow mapBlock Sort.ahead
 simp only
 rw [Array.getElem?_append_left (by simpa using hb),Array.getElem?_modify,if_neg (fun h=>hne h.symm)]
theorem zHg {n g:Nat} {d:Array BSp} {os:Array Obj} {w:World}:w.heap.size≤(sortWorldK zCA 2 w g 0 n d os).heap.size:=by
 unfold sortWorldK grow putRowK putRow mapBlock Sort.ahead
 simp
theorem zIn {w:World} {g:Nat} {xs:List BSp} {tl:List Value} (hB:Blk w g (xs.flatMap zCA++tl).toArray):HoldsK zCA 2 w g 0 xs.toArray:=by
 intro j hj
 have hj2:j<xs.length * 2:=by simpa using hj
 have hq:j / 2<xs.length:=by omega
 obtain ⟨z,hz⟩:∃ z,xs[j / 2]?=some z:=⟨_,List.getElem?_eq_getElem hq⟩
 refine ⟨?_,hB.frozen _⟩
 rw [hB.cell,get_flatK _ _ _ _ (by simpa using hj2)]
 have e1:(xs.toArray[j / 2]!)=z:=by
  rw [getElem!_pos _ _ (by simpa using hq)]
  simpa [List.getElem?_eq_getElem hq] using hz
 rw [e1]
 have hm:j % 2<(zCA z).length:=by show j % 2<2;omega
 have h1:=zCy (k:=2) (enc:=zCA) (fun _=>rfl) xs (j / 2) z hz (j % 2) _ (List.getElem?_eq_getElem hm)
 rw [show j / 2 * 2+j % 2=j by omega] at h1
 rw [getElem!_pos (zCA z) (j % 2) hm]
 simp only [Nat.zero_add,List.getElem?_toArray]
 rw [List.getElem?_append_left (List.getElem?_eq_some_iff.1 h1).1]
 exact h1
theorem zGX {w:World} {g:Nat} {ys:List BSp} (hg:g<w.heap.size) (h:HoldsK zCA 2 w g 0 ys.toArray):zAB zo 2 w (some ⟨g,0,none⟩) (ys.map fun z=>z.1):=by
 intro i x hx
 rw [List.getElem?_map] at hx
 obtain ⟨z,hz,hzx⟩:=Option.map_eq_some_iff.1 hx
 clear hx
 subst hzx
 have hi:=(List.getElem?_eq_some_iff.1 hz).1
 refine ⟨g,0,rfl,hg,fun j v hv=>?_⟩
 have hj:j<2:=(List.getElem?_eq_some_iff.1 hv).1
 have h1:=(h (i * 2+j) (by simp;omega)).1
 rw [get_flatK _ _ _ _ (by simp;omega),show (i * 2+j) / 2=i by omega,show (i * 2+j) % 2=j by omega] at h1
 have e1:(ys.toArray[i]!)=z:=by
  rw [getElem!_pos _ _ (by simpa using hi)]
  simpa [List.getElem?_eq_getElem hi] using hz
 rw [e1,getElem!_pos (zCA z) j (show j<(zCA z).length from hj)] at h1
 have h2:(zo z.1)[j]?=some ((zCA z)[j]'(show j<(zCA z).length from hj)):=List.getElem?_eq_getElem (show j<(zCA z).length from hj)
 rw [show 0+i * 2+j=0+(i * 2+j) by omega,h1]
 rw [h2] at hv
 exact congrArg _ (Option.some.inj hv)
theorem zIZ {d:Array BSp} (h:SortedIn (ltOf cfB) 0 d.size d):zEU (d.toList.map fun z=>z.1):=by
 unfold zEU
 rw [List.pairwise_map,List.pairwise_iff_getElem]
 intro i j hi hj hij
 have hi':i<d.size:=by simpa using hi
 have hj':j<d.size:=by simpa using hj
 have:=h i j (Nat.zero_le _) hij hj'
 rw [zHr,getElem!_pos d i hi',getElem!_pos d j hj'] at this
 simpa using this
theorem zGp {a b:Int} (h1:-1000000000≤a∧a≤1000000000) (h2:-1000000000≤b∧b≤1000000000):IntKind.i64.wrap (a - b)=a - b:=IntWalk.i64_in _ (by omega)
theorem cmpB_sp (x y:BSp) (W:World):Calls Tryz.prog 120 #[.agg #[.int .i64 x.1.lo,.int .i64 x.1.hi],.agg #[.int .i64 y.1.lo,.int .i64 y.1.hi]] W fun e w'=>e = .returned (.int .i64 (cfB x y))∧∃ n os',w'=grow (W.drewN n) os':=by
 obtain ⟨⟨a1,a2⟩,ha⟩:=x
 obtain ⟨⟨b1,b2⟩,hb⟩:=y
 have hw:=zGp ha hb
 unfold cfB
 dsimp only at *
 generalize hd:a1 - b1=dd at *
 go_enter Tryz.func120,Tryz.ntmps120
 go_wp2
 go_ret
 exact ⟨by simp [hd,hw],0,_,by rw [alloc_eq_grow,alloc_eq_grow,grow_grow];rfl⟩
theorem cmpB_tr (x y:BSp) (W:World):Calls Tryz.prog 121 #[.agg #[.int .i64 x.1.lo,.int .i64 x.1.hi],.agg #[.int .i64 y.1.lo,.int .i64 y.1.hi]] W fun e w'=>e = .returned (.int .i64 (cfB x y))∧∃ n os',w'=grow (W.drewN n) os':=by
 obtain ⟨⟨a1,a2⟩,ha⟩:=x
 obtain ⟨⟨b1,b2⟩,hb⟩:=y
 have hw:=zGp ha hb
 unfold cfB
 dsimp only at *
 generalize hd:a1 - b1=dd at *
 go_enter Tryz.func121,Tryz.ntmps121
 go_wp2
 go_ret
 exact ⟨by simp [hd,hw],0,_,by rw [alloc_eq_grow,alloc_eq_grow,grow_grow];rfl⟩
set_option maxHeartbeats 1000000 in
theorem zFI (kf:FuncId) (hkf:∀ args w,(callFunc kf args).run Tryz.prog w = .ok (.enter kf args) w) (hcmp:∀ (x y:BSp) (W:World),Calls Tryz.prog kf #[.agg #[.int .i64 x.1.lo,.int .i64 x.1.hi],.agg #[.int .i64 y.1.lo,.int .i64 y.1.hi]] W fun e w'=>e = .returned (.int .i64 (cfB x y))∧∃ n os',w'=grow (W.drewN n) os')
  (xs:List Sp) (v:Value) (e:TypeId) (base:Nat) (w:World) (hbd:∀ s∈xs,-1000000000≤s.lo∧s.lo≤1000000000) (hl:xs.length≤100000000000) (ho:Own base w [.row zo 2 e v xs]) :
  zC2 Tryz.prog 119 [v,.func (.func kf) #[] #[]] w [.row zo 2 e v xs] (fun _:(Option Addr × Nat) × List Sp=>.tuple #[]) (fun p=>[.sl zo 2 p.1.1 p.2]) (fun p=>v = .slice p.1.1 xs.length p.1.2∧p.2.Perm xs∧zEU p.2):=by
 obtain ⟨h1,h2⟩:=(ho.here (.row zo 2 e v xs) (by simp):Row zo 2 e 0 w v xs)
 have hf:=ho.foot (.row zo 2 e v xs) (by simp)
 have hf:=fun b hb=>(hf b hb).2
 by_cases hx:xs.length=0
 ·obtain ⟨A,c,rfl,hA⟩:∃ A c,v = .slice A 0 c∧(∀ g,A=some ⟨g,0,none⟩→g<w.heap.size):=by
   rcases h2 with ⟨rfl,_⟩ | ⟨g,cap,cur,rfl,_,hg,_⟩
   ·exact ⟨none,0,rfl,fun g h=>by cases h⟩
   ·rw [hx];exact ⟨_,_,rfl,fun g' h=>by cases h;exact (Array.getElem?_eq_some_iff.1 hg).1⟩
  have hxs:xs=[]:=List.length_eq_zero_iff.1 hx
  subst hxs
  refine zC2.of ((AnyF.slices_SortFunc_none sortSp A c (.func (.func kf) #[] #[]) w).mono ?_)
  rintro e' w' ⟨rfl,rfl⟩
  refine ⟨((A,c),[]),⟨rfl,List.Perm.refl _,List.Pairwise.nil⟩,rfl,⟨rfl,rfl,rfl,Nat.le_refl _⟩,fun b _ _=>rfl,⟨fun f hf'=>?_,fun f hf' b hb=>?_,by simp⟩,fun b hb=>?_⟩
  ·simp only [List.mem_singleton] at hf';subst hf'
   intro i x hx';simp at hx'
  ·simp only [List.mem_singleton] at hf';subst hf'
   obtain ⟨o,hb⟩:=hb
   exact ⟨Nat.zero_le _,by
    rcases h2 with ⟨h,_⟩ | ⟨g,cap,cur,h,_,hg,_⟩
    ·cases h;cases hb
    ·cases h;cases hb;exact (Array.getElem?_eq_some_iff.1 hg).1⟩
  ·obtain ⟨f,hf',hb⟩:=hb
   simp only [List.mem_singleton] at hf';subst hf'
   obtain ⟨o,hb⟩:=hb
   refine .inl ⟨_,List.mem_singleton.2 rfl,?_⟩
   rcases h2 with ⟨h,_⟩ | ⟨g,cap,cur,h,_,hg,_⟩
   ·cases h;cases hb
   ·cases h;cases hb;rfl
 ·rcases h2 with ⟨_,h⟩ | ⟨g,cap,cur,rfl,_,hg,hle,hcap,hsz,htk⟩
  ·exact absurd h hx
  ·obtain ⟨ys,hys⟩:=lift_B xs hbd
   have hyl:ys.length=xs.length:=by rw [← hys,List.length_map]
   have hfl:ys.flatMap zCA=xs.flatMap zo:=by rw [flat_B,hys]
   have hB:Blk w g (ys.flatMap zCA++cur.toList.drop (xs.length * 2)).toArray:=by
    unfold Blk
    refine ⟨e,?_⟩
    rw [hg,hfl,← htk,List.take_append_drop]
   have hH:=zIn hB
   have hlt:=hB.lt
   have hcon:=AnyQ.slices_SortFunc sortSp 2 Tryz.isAgg26 Tryz.sizeOf26 zCA (fun _=>rfl) (fun x v hv=>by simp [zCA,zo] at hv;rcases hv with rfl|rfl<;>rfl) cfB swoB kf #[] g 0 cap ys.toArray w hkf (fun _ _ _ _ x y=>hcmp x y _) hH hlt (by simp;omega)
   rw [show ys.toArray.size=xs.length by simp [hyl]] at hcon
   refine zC2.of (Calls.mono hcon ?_)
   rintro e' w' ⟨rfl,d',n,os,hp,hso,rfl⟩
   obtain ⟨hp1,hp2,hp3⟩:=hp
   have hds:d'.size=xs.length:=by rw [hp1];simp [hyl]
   have hperm:d'.toList.Perm ys:=by
    have e1:d'.extract 0 xs.length=d':=by rw [← hds];simp
    have e2:ys.toArray.extract 0 xs.length=ys.toArray:=by rw [← hyl];simp
    rw [e1,e2] at hp3
    simpa using hp3
   have hk:HoldsK zCA 2 (sortWorldK zCA 2 w g 0 n d' os) g 0 d':=by
    unfold sortWorldK
    have h9:=holdsK_putRowK zCA 2 (Sort.ahead w n) g 0 ys.toArray d' (holdsK_ahead zCA 2 w n g 0 _ hH) (by rw [hp1])
    exact holdsK_grow zCA 2 _ os g 0 _ (by unfold putRowK putRow mapBlock Sort.ahead;simpa using hlt) h9
   have hsz2:=zHg (n:=n) (g:=g) (d:=d') (os:=os) (w:=w)
   have hk2:HoldsK zCA 2 (sortWorldK zCA 2 w g 0 n d' os) g 0 d'.toList.toArray:=by simpa using hk
   refine ⟨((some ⟨g,0,none⟩,cap),d'.toList.map fun z=>z.1),⟨rfl,?_,zIZ (by rw [hds];exact hso)⟩,rfl,⟨rfl,rfl,rfl,hsz2⟩,fun b hb hne=>zG2 hb (fun h=>hne ?_),⟨fun f hf'=>?_,fun f hf' b hb=>?_,by simp⟩,fun b hb=>?_⟩
   ·rw [← hys];exact hperm.map _
   ·exact ⟨_,List.mem_singleton.2 rfl,by subst h;rfl⟩
   ·simp only [List.mem_singleton] at hf';subst hf'
    exact zGX (by omega) hk2
   ·simp only [List.mem_singleton] at hf';subst hf'
    obtain ⟨o,hb⟩:=hb
    cases hb
    exact ⟨Nat.zero_le _,by omega⟩
   ·obtain ⟨f,hf',hb⟩:=hb
    simp only [List.mem_singleton] at hf';subst hf'
    obtain ⟨o,hb⟩:=hb
    cases hb
    exact .inl ⟨_,List.mem_singleton.2 rfl,rfl⟩
end Go.Proofs.YtcpdjamlhhfbhaaGreat
namespace Go.Proofs.YtcpdjamlhhfbhaaGreat
variable {ro : Option Nat}
open Go.RowKit
set_option maxRecDepth 20000
theorem zDW (b:Nat):∀ (vs:List Value) (off:Nat) (w:World) (cs:Array Value) (e:TypeId),w.heap[b]?=some (.cells cs e (0,0))→∃ cs',(w.setCells b off vs).heap[b]?=some (.cells cs' e (0,0))
 | [],off,w,cs,e,h=>⟨cs,h⟩
 | v::r,off,w,cs,e,h=>by
  have h1:(w.setCell ⟨b,off,none⟩ v).heap[b]?=some (.cells (cs.setIfInBounds off v) e (0,0)):=by
   simp [World.setCell,Array.getElem?_modify,h]
  exact zDW b r (off+1) _ _ e h1
class zHX (H:List Ent) (g:Nat) {α:outParam Type} (enc:outParam (α→List Value)) (k e n c:outParam Nat) (xs:outParam (List α)) (H':outParam (List Ent)):Prop where tk:Take H (.row enc k e (.slice (some ⟨g,0,none⟩) n c) xs) H'
instance (priority := high) takeR_here {H:List Ent} {g:Nat} {α:Type} {enc:α→List Value} {k e n c:Nat} {xs:List α}:zHX (.row enc k e (.slice (some ⟨g,0,none⟩) n c) xs::H) g enc k e n c xs H:=⟨Take.here _ _⟩
instance takeR_there {H H':List Ent} {f:Ent} {g:Nat} {α:Type} {enc:α→List Value} {k e n c:Nat} {xs:List α} [i:zHX H g enc k e n c xs H']:zHX (f::H) g enc k e n c xs (f::H'):=⟨Take.there _ i.tk⟩
section
variable {P : Program} {w0:World} {n:Nat} {d:List Deferred} {R:List (Nat × Value)} {H H':List Ent} {Q:Exit→Act→World→Prop} {ops:Array Oper} {rest:List Oper} {o:Oper} {t:Tmp} {x y:Operand} {X:Act→World→Prop}
theorem zFt {α:Type} {enc:α→List Value} {k e base g m c:Nat} {w:World} {xs:List α} (h:Row enc k e base w (.slice (some ⟨g,0,none⟩) m c) xs):∃ tl:List Value,w.heap[g]?=some (.cells (xs.flatMap enc++tl).toArray e (0,0))∧m=xs.length∧base≤g∧m≤c∧c≤maxLen∧(xs.flatMap enc++tl).length=c * k:=by
 obtain ⟨h1,h2⟩:=h
 rcases h2 with ⟨hv,_⟩ | ⟨g',cap,cur,hv,h3,hg,h4,h5,h6,h8⟩
 ·cases hv
 ·cases hv
  refine ⟨cur.toList.drop (xs.length * k),?_,rfl,h3,h4,h5,?_⟩
  ·rw [hg,← h8,List.take_append_drop]
  ·rw [← h8,List.take_append_drop];simpa using h6
instance srcI_row {g i k e m c:Nat} {α:Type} {enc:α→List Value} {xs:List α} {z:α} [ei:zBX enc k] [i1:zHX H g enc k e m c xs H'] [i2:zAZ xs i z]:zET w0 H g (0+i * k) (enc z):=⟨fun w hb ho j v hv=>by
 obtain ⟨tl,hB,_⟩:=zFt (ho.here _ i1.tk.mem:Row enc k e 0 w _ xs)
 have hB:Blk w g (xs.flatMap enc++tl).toArray:=by unfold Blk;exact ⟨e,hB⟩
 have h1:=zCy ei.len xs i z i2.get j v hv
 rw [hB.cell]
 have hlt:=(List.getElem?_eq_some_iff.1 h1).1
 rw [show 0+i * k+j=i * k+j by omega]
 simp only [List.getElem?_toArray]
 rw [List.getElem?_append_left hlt]
 exact h1⟩
theorem zDd {α:Type} {enc:α→List Value} {k e:Nat} {A:Option Addr} {m c:Nat} {xs:List α} (ht:Take H (.row enc k e (.slice A m c) xs) H') (h0:0<xs.length) (h:∀ g,A=some ⟨g,0,none⟩→U w0 n d R H X):U w0 n d R H X:=fun a w q=>by
 have hr:Row enc k e 0 w (.slice A m c) xs:=q.own.here _ ht.mem
 rcases hr.2 with ⟨_,h4⟩ | ⟨b,cap,cur,hv,_⟩
 ·omega
 ·cases hv
  exact h b rfl a w q
theorem zDc {α:Type} {enc:α→List Value} {k e g i j s m c:Nat} {T1:TypeId} {td:TypeDesc} {gg:Bool} {xs:List α} {z:α} {v:Value} (z':α) (hop:o.op = .store T1 x y) [i1:TyI P T1 td s gg] (hw:want R ops o=some true) (hd:o.dst=none) (hx:evR R x=some (.pointer (some ⟨g,0+i * k+j,none⟩))) (hy:evR R y=some v) [ei:zBX enc k] [i2:zHX H g enc k e m c xs H'] [i3:zAZ xs i z]
  (hc:put1 (enc z) j v.cells.toList=enc z') (hv:Nat.beq v.cells.toList.length s=true) (h1:v.cells.toList.all Value.oneCell'=true) (hj:j+s≤k)
  (h:U w0 n d R (.row enc k e (.slice (some ⟨g,0,none⟩) m c) (xs.set i z')::H') (wpL ro P ops Q rest)):U w0 n d R H (wpL ro P ops Q (o::rest)) :=
 zCh hw fun a w q K hK=>by
  have ho:=q.own.take i2.tk
  obtain ⟨tl,hg,hm,_,hmc,hcm,hln⟩:=zFt (ho.here (.row enc k e (.slice (some ⟨g,0,none⟩) m c) xs) (by simp):Row enc k e 0 w _ xs)
  have hb:Blk w g (xs.flatMap enc++tl).toArray:=by unfold Blk;exact ⟨e,hg⟩
  have hs:v.cells.toList.length=s:=Nat.eq_of_beq_eq_true hv
  have hlen:i * k+k≤(xs.flatMap enc).length:=by
   have:(xs.flatMap enc).length=xs.length * k:=by simp [List.length_flatMap,ei.len,List.map_const',List.sum_replicate_nat]
   have hi:=(List.getElem?_eq_some_iff.1 i3.get).1
   rw [this,← Nat.succ_mul]
   exact Nat.mul_le_mul_right k hi
  have e1:=i1.siz w
  have hput:put1 (xs.flatMap enc++tl) (0+i * k+j) v.cells.toList=(xs.set i z').flatMap enc++tl:=by
   rw [show 0+i * k+j=i * k+j by omega]
   exact zFM ei.len _ tl j z' xs i z i3.get hc (by rw [hs];exact hj)
  obtain ⟨g1,g2,g3,g4,g5,g6⟩:=zB6 g v.cells.toList (0+i * k+j) w (xs.flatMap enc++tl) hb
  unfold Blk at g1
  obtain ⟨t9,g1⟩:=g1
  obtain ⟨cs',g7⟩:=zDW g v.cells.toList (0+i * k+j) w _ e hg
  have g8:(w.setCells g (0+i * k+j) v.cells.toList).heap[g]?=some (.cells ((xs.set i z').flatMap enc++tl).toArray e (0,0)):=by
   rw [g7] at g1
   rw [g7,← hput]
   cases g1
   rfl
  have hflat9:=hlen
  have hft:=ho.foot (.row enc k e (.slice (some ⟨g,0,none⟩) m c) xs) (by simp) g rfl
  have hrun:(Instr.storeAt T1 (.pointer (some ⟨g,0+i * k+j,none⟩)) v).run P w = .ok () (w.setCells g (0+i * k+j) v.cells.toList):=by
   have:=run_storeCells_cells (P:=P) g (0+i * k+j) v.cells.toList 0 w (fun l hl=>by
    have h9:0+i * k+j+l<(xs.flatMap enc++tl).length:=by rw [List.length_append];omega
    clear hput hln hlen hflat9 g8
    generalize xs.flatMap enc++tl=cs at *
    have h10:i * k+j+l<cs.length:=by omega
    rw [hb.cell];simp [h10]) (fun l hl=>hb.frozen _) (fun u hu=>List.all_eq_true.1 h1 u hu)
   simp only [Nat.add_zero] at this
   have hsz:¬ v.cells.size≠s:=by simpa using hs
   unfold Instr.storeAt storeVar
   simp only [Sem.run_bind,Instr.sureAddr,Sem.run_pure,Result.andThen_ok,e1,Sem.run_ite,hsz,if_false,this]
  have hflat:∀ l:List α,(l.flatMap enc).length=l.length * k:=fun l=>by simp [List.length_flatMap,ei.len,List.map_const',List.sum_replicate_nat]
  unfold Oper.wp execOp;rw [hop]
  simp only [Sem.run_bind,q.ev hx,q.ev hy,hrun,Result.andThen_ok,Sem.run_pure,Oper.upon_skip,hd]
  refine hK _ _ (h _ _ (q.heap ?_ ?_))
  ·exact q.below.trans ⟨g2,g3,g4,by omega,fun l hl=>g6 l (by omega)⟩
  ·refine ho.turn (by omega) (fun l hl hn=>g6 l (fun h9=>hn (by rw [h9];rfl))) q.base (show Row enc k e 0 _ (.slice (some ⟨g,0,none⟩) m c) (xs.set i z') from ⟨?_,.inr ⟨g,c,_,?_,Nat.zero_le _,g8,?_,hcm,?_,?_⟩⟩) (fun l hl=>?_)
   ·rw [hflat]
   ·rw [hm,List.length_set]
   ·rw [List.length_set];omega
   ·rw [← hln];simp only [List.size_toArray,List.length_append,hflat,List.length_set]
   ·simp only []
    rw [← hflat,List.take_left]
   ·have:l=g:=by
     have h9:(Value.slice (some ⟨g,0,none⟩) m c).ownBlock=some l:=hl
     exact (Option.some.inj h9).symm
    subst this
    exact ⟨.inl rfl,by rw [g5];exact hft.2⟩
end
end Go.Proofs.YtcpdjamlhhfbhaaGreat
namespace Go.Proofs.YtcpdjamlhhfbhaaGreat.Two
variable {ro : Option Nat}
open Go.RowKit
set_option maxRecDepth 20000
structure zA4 (z L:List Sp):Prop where
 canon:zBJ z
 len:z.length≤L.length
 mem:∀ n,zAn z n↔zAn L n
def itS (s:Sp):Sp:=s
def zBe (t:zBK):Sp:=t.sum
theorem zHT (s:Sp) (w:World):Gv Tryz.prog 78 [.agg #[.int .i64 s.lo,.int .i64 s.hi]] w (.agg #[.int .i64 (itS s).lo,.int .i64 (itS s).hi]):=by
 unfold Gv itS
 (refine ze (n:=4) Tryz.func78 rfl rfl rfl ?_)
 (repeat' (first|((with_reducible refine zV ?_);first|(refine zQ rfl rfl rfl ?_;refine ⟨_,rfl,?_⟩)|(refine zg rfl rfl rfl rfl rfl ?_;refine ⟨rfl,by first|decide|exact Nat.le_of_ble_eq_true rfl|(simp;omega),_,rfl,?_⟩)|(refine zh rfl rfl (fun b=>?_))|(refine zl rfl rfl rfl rfl (fun b=>?_)))|(with_reducible first|refine zW ?_|refine zC ?_|refine zU ?_|refine zB ?_|refine zX ?_|refine zT ?_|refine zF ?_|refine zf ?_)))
 exact zk (by (exact zAX.cons (by exact res1c rfl (by exact rfl)) zAX.nil)) () trivial rfl (fun _ h=>h.sub (by (repeat constructor)))
theorem zIw (t:zBK) (w:World):Gv Tryz.prog 80 [vTru t] w (.agg #[.int .i64 (zBe t).lo,.int .i64 (zBe t).hi]):=by
 unfold Gv vTru zBe
 (refine ze (n:=5) Tryz.func80 rfl rfl rfl ?_)
 (repeat' (first|((with_reducible refine zV ?_);first|(refine zQ rfl rfl rfl ?_;refine ⟨_,rfl,?_⟩)|refine zS rfl rfl rfl ?_|(refine zg rfl rfl rfl rfl rfl ?_;refine ⟨rfl,by first|decide|exact Nat.le_of_ble_eq_true rfl|(simp;omega),_,rfl,?_⟩)|(refine zh rfl rfl (fun b=>?_))|(refine zl rfl rfl rfl rfl (fun b=>?_)))|(with_reducible first|refine zW ?_|refine zC ?_|refine zU ?_|refine zB ?_|refine zX ?_|refine zT ?_|refine zF ?_|refine zf ?_)))
 exact zk (by (exact zAX.cons (by exact res1c rfl (by exact rfl)) zAX.nil)) () trivial rfl (fun _ h=>h.sub (by (repeat constructor)))
theorem ent_sp : ∀ args w,(callFunc 120 args).run Tryz.prog w = .ok (.enter 120 args) w:=enters_of Tryz.func120 (by kernel_rfl) rfl
theorem ent_tr : ∀ args w,(callFunc 121 args).run Tryz.prog w = .ok (.enter 121 args) w:=enters_of Tryz.func121 (by kernel_rfl) rfl
end Go.Proofs.YtcpdjamlhhfbhaaGreat.Two
