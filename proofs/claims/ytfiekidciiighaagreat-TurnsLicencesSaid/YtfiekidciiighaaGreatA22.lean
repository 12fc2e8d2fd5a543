/- A22 -/
import Derived.Test.YtfiekidciiighaaGreatA19
import Derived.Test.YtfiekidciiighaaGreatA11
set_option linter.unusedSimpArgs false
set_option linter.unusedVariables false
namespace Go.Proofs.YtfiekidciiighaaGreat.Two
variable {ro : Option Nat}
open Go.RowKit
open Go.ChangeMaps (setBlock)
set_option maxRecDepth 20000
section
variable {S : List (Nat × Nat)} {I:List (Nat × Nat × Nat × List Ent)} {P:Program} {w0:World} {n:Nat} {d:List Deferred} {R R0:List (Nat × Value)} {H H' H0:List Ent} {Q:Exit→Act→World→Prop} {ops:Array Oper} {bs:List (List Bool)} {b:List Bool} {k:Nat} {o:Oper} {rest:List Oper} {T:List Rw} {t:Tmp} {Hk:zAp→List Ent} {x y z:Operand} {v:Value}
theorem zI1 {T1 e:TypeId} {i:TypeInfo} {z v:Value} {n0 s:Nat} {g:Bool} (hop:o.op = .makeSlice T1 x y) [i1:TyI P T1 (.slice e) s g] (hi:P.info? e=some i) (hz:i.zero=some z) (h1:i.size=1) (hcz:z.cells=#[v]) (hb:Nat.ble (i.bytes * 1000) 281474976710656=true) (hw:∀ G,want (Rk R0 ops b o T G) ops o=some true) (hd:o.dst=some t) (hx:∀ G,evR (Rk R0 ops b o T G) x=some (.int .i64 (n0:Int))) (hy:∀ G,evR (Rk R0 ops b o T G) y=some (.int .i64 (n0:Int))) (hn:n0≤1000)
  (h:zBC ro S I P w0 n d ops R0 H0 Q bs (k+1) rest (⟨k,some t,fun G=>(.slice (some ⟨(G k).g,0,none⟩) n0 n0,[.blk (G k).g (List.replicate n0 v)])⟩::T)):CAt ro S I P w0 n d ops R0 H0 Q b bs k o rest T Hk:=by
 refine zEG (f:=fun G=>(.slice (some ⟨(G k).g,0,none⟩) n0 n0,[.blk (G k).g (List.replicate n0 v)])) (fun G G' hG=>by simp only [hG k (.inl rfl)]) (fun G a w q K hK=>?_) (by rw [hd];exact h)
 rw [zBP q (hw G),if_pos rfl]
 have hb':(i.bytes:Int) * (n0:Int)≤281474976710656:=by
  have h9:=Nat.le_of_ble_eq_true hb
  have h8:i.bytes * n0≤i.bytes * 1000:=Nat.mul_le_mul_left _ hn
  have h7:((i.bytes * n0:Nat):Int)≤281474976710656:=by omega
  rwa [Int.natCast_mul] at h7
 have hr:=run_make (P:=P) w T1 e i z i1.und hi hz .i64 .i64 n0 n0 (by omega) (Int.le_refl _) hb' (by omega)
 simp only [Int.toNat_natCast,h1,Nat.mul_one,hcz] at hr
 unfold Oper.wp execOp;rw [hop]
 simp only [Sem.run_bind,q.ev (hx G),q.ev (hy G),hr,Result.andThen_ok,Sem.run_pure,Oper.upon_value]
 have e1:madeCells #[v] n0=(List.replicate n0 v).toArray:=by
  apply Array.ext'
  rw [toList_madeCells_one]
 rw [e1]
 exact hK _ _ _ ⟨⟨w.heap.size,none,0⟩,by simp only [upW,if_true]⟩ (zAU w (.cells (List.replicate n0 v).toArray e)) (zGl w (List.replicate n0 v) e)
theorem zAj {F:TypeId} {x y:Operand} (hop:o.op = .indexAddr F x y) (h:CAt ro S I P w0 n d ops R0 H0 Q b bs k o rest T Hk):CAt ro S I P w0 n d ops R0 H0 Q b bs k o rest T Hk:=h
theorem zA6 {x:Operand} (hop:o.op = .nilCheck x) (h:CAt ro S I P w0 n d ops R0 H0 Q b bs k o rest T Hk):CAt ro S I P w0 n d ops R0 H0 Q b bs k o rest T Hk:=h
theorem zAM {c} (hop:o.op = .call c) (h:CAt ro S I P w0 n d ops R0 H0 Q b bs k o rest T Hk):CAt ro S I P w0 n d ops R0 H0 Q b bs k o rest T Hk:=h
theorem zHc (K V:Type) [DecidableEq K] (kv:K→Value) (vv:V→Value) {T1:TypeId} (hop:o.op = .makeMap T1 none) (hw:∀ G,want (Rk R0 ops b o T G) ops o=some true) (hd:o.dst=some t)
  (h:zBC ro S I P w0 n d ops R0 H0 Q bs (k+1) rest (⟨k,some t,fun G=>(.map (some (G k).g),[.fm (G k).g kv vv (fun _=>none)])⟩::T)):CAt ro S I P w0 n d ops R0 H0 Q b bs k o rest T Hk:=by
 refine zEG (f:=fun G=>(.map (some (G k).g),[.fm (G k).g kv vv (fun _=>none)])) (fun G G' hG=>by simp only [hG k (.inl rfl)]) (fun G a w q K' hK=>?_) (by rw [hd];exact h)
 rw [zBP q (hw G),if_pos rfl]
 unfold Oper.wp execOp;rw [hop]
 have hrun:(Instr.makeMap T1 none).run P w = .ok (.map (some w.heap.size)) (w.alloc (.map #[] 0)):=rfl
 simp only [Option.map_none,Sem.run_bind,hrun,Result.andThen_ok,Sem.run_pure,Oper.upon_value]
 refine hK _ [.fm w.heap.size kv vv (fun _=>none)] _ ⟨⟨w.heap.size,none,0⟩,by simp only [upW,if_true]⟩ (zAU w _) ⟨fun e he=>?_,fun e he b hb=>?_,by simp⟩
 ·simp only [List.mem_singleton] at he;subst he
  exact ⟨[],0,heap_alloc_new w _,MOk.nil 0,zJn⟩
 ·simp only [List.mem_singleton] at he;subst he;cases hb;simp
theorem zLP {K V:Type} [DecidableEq K] {kv:K→Value} {vv:V→Value} {f:K→Option V} {T1 kt et:TypeId} {s:Nat} {g:Bool} {gx:zAp→Nat} (key:K) (u:V) (j:Nat) (hjk:(j,k)∈S) (hkI:keyI I k=false) (hop:o.op = .insert T1 x y z) [i1:TyI P T1 (.map kt et) s g] (hT:KeyT P kt kv) (hw:∀ G,want (Rk R0 ops b o T G) ops o=some true) (hd:o.dst=none) (hx:∀ G,evR (Rk R0 ops b o T G) x=some (.map (some (gx G)))) (hy:∀ G,evR (Rk R0 ops b o T G) y=some (kv key)) (hz:∀ G,evR (Rk R0 ops b o T G) z=some (vv u)) (hent:∀ G,zq (only j T) G=[.fm (gx G) kv vv f]) (hg:zFW b k gx)
  (h:zBC ro S I P w0 n d ops R0 H0 Q bs (k+1) rest (⟨k,none,fun G=>(undef,[.fm (gx G) kv vv (zCs f key (some u))])⟩::T)):zBC ro S I P w0 n d ops R0 H0 Q (b::bs) k (o::rest) T:=by
 refine zKz (f:=fun G=>(undef,[.fm (gx G) kv vv (zCs f key (some u))])) j hjk hkI (fun G G' hG=>by simp only [hg.loc G G' hG]) (fun G L a w q ho K' hK=>?_) (by rw [hd];exact h)
 rw [zBP q (hw G),if_pos rfl]
 rw [hent G] at ho
 obtain ⟨l,c,hb,hl,rfl⟩:=ho.here (.fm (gx G) kv vv f) (by simp)
 have hfo:=ho.foot (.fm (gx G) kv vv (look l)) (by simp) (gx G) rfl
 obtain ⟨l',c',hrun,h1,h2⟩:=zJP (P:=P) (T1:=T1) (et:=et) (s:=s) (g:=g) key u hT hb hl
 have hxv:=q.ev (hx G)
 have hyv:=q.ev (hy G)
 have hzv:=q.ev (hz G)
 unfold Oper.wp execOp;rw [hop]
 simp only [Sem.run_bind,hxv,hyv,hzv,hrun,Result.andThen_ok,Sem.run_pure,Oper.upon_skip,hd]
 have:=hK undef [.fm (gx G) kv vv (zCs (look l) key (some u))] _ ⟨⟨0,none,0⟩,by simp only [hg.up]⟩ (q.below.trans (zER hfo.1)) (own_fm ho rfl q.base h1 h2)
 rw [hd] at this
 exact this
end
end Go.Proofs.YtfiekidciiighaaGreat.Two
