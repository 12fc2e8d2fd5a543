/- F26 -/
import Derived.Test.YtdigopgncfhiaaaGreatDoorF25
import Derived.Test.YtdigopgncfhiaaaGreatDoorF24
import Derived.Test.YtdigopgncfhiaaaGreatDoorF9
set_option linter.unusedSimpArgs false
set_option linter.unusedVariables false
namespace Go.Proofs.YtdigopgncfhiaaaGreatDoor
variable {ro : Option Nat}
open Go.RowKit
set_option maxRecDepth 20000
theorem zGi {P:Program} {w:World} (t u ty e:TypeId) (i:TypeInfo) (z:Value) (ht:P.underlying t=some (.slice e)) (hu:P.underlying u=some (.int .i64)) (hi:P.info? e=some i) (hz:i.zero=some z)
  (n:Nat) (h0:0<n) (h63:(n:Int)≤1000000) (hb:i.bytes≤1000000) (hs:0<i.size) :
  (Builtin.append_ #[t,u] ty #[.slice none 0 0,.int .i64 n]).run P w =
   .ok (.slice (some ⟨w.heap.size,0,none⟩) n (grownCap w n 0 e)) (w.drew.alloc (.cells (Builtin.zeroCells z.cells n++Builtin.zeroCells z.cells (grownCap w n 0 e - n)) e)):=by
 have hn:n≠0:=by omega
 have hw:IntKind.i64.wrap (n:Int)=n:=IntWalk.i64_in _ (by omega)
 have h63':¬ (9223372036854775807<(n:Int)):=by omega
 have h49:n * i.bytes≤1000000 * 1000000:=Nat.mul_le_mul (by omega) hb
 have h48':¬ (281474976710656<Builtin.nextslicecap n 0 * i.bytes):=by rw [nextslicecap_zero h0];omega
 have h50:¬ ((281474976710656:Int)<(n:Int) * (i.bytes:Int)):=by
  have:((n * i.bytes:Nat):Int)≤((1000000 * 1000000:Nat):Int):=by exact_mod_cast h49
  rw [Int.natCast_mul] at this;omega
 have h51:¬ ((n:Int)<0):=by omega
 have h52:¬ n * i.size=0:=by
  intro h;rcases Nat.mul_eq_zero.1 h with h|h<;>omega
 have h53:¬ i.size=0:=by omega
 simp [Builtin.append_,run_underlying ht,run_underlying hu,sizeOf,typeInfo,zeroValue,hi,hz,Builtin.lenOf,Builtin.firstCells,hn,h63',h48',Question.forced,newRow,grownCap,asInt,asIntOf,hw,h50,h51,h52,h53]
section
variable {P : Program} {w0:World} {n:Nat} {d:List Deferred} {R:List (Nat × Value)} {H:List Ent} {Q:Exit→Act→World→Prop} {ops:Array Oper} {rest:List Oper} {o:Oper} {t:Tmp} {x y:Operand}
theorem zIw {α:Type} (enc:α→List Value) {k e T1 U1 bytes s m:Nat} {g:Bool} [el:ElI P T1 e k bytes] [tu:TyI P U1 (.int .i64) s g] (hop:o.op = .call { callee:=.builtin .append,args:=#[x,y],argTypes:=#[T1,U1] }) (hrd:rdy R ops n o=some t)
  (hx:evR R x=some (.slice none 0 0)) (hy:evR R y=some (.int .i64 (m:Int))) (h0:0<m) (hm:m≤1000000∧bytes≤1000000)
  (h:∀ b c',m≤c'→U w0 n d ((t,.slice (some ⟨b,0,none⟩) m c')::R) (.row enc k e (.slice (some ⟨b,0,none⟩) 0 c') ([]:List α)::H) (wpL ro P ops Q rest)):U w0 n d R H (wpL ro P ops Q (o::rest)) :=
 zDh (rW hrd) fun a w q K hK=>by
  obtain ⟨z,hE⟩:=el.el
  obtain ⟨i,i1,i2,i3,i4⟩:=hE.info
  have hp:=hE.pos
  have key:=zGi (P:=P) (w:=w) T1 U1 o.type e i z hE.under tu.und i1 i2 m h0 (by omega) (by omega) (by omega)
  unfold Oper.wp execOp
  simp only [hop,resolve,invoke,builtin,Sem.run_bind,Sem.run_pure,Result.andThen_ok,List.map_toArray,List.map_cons,List.map_nil,q.ev hx,q.ev hy,key,Oper.upon_value,(rD hrd)]
  have hge:=grownCap_ge w m 0 e
  refine hK _ _ (h w.heap.size _ hge _ _ (Kn.put (q.call (E:=[.row enc k e (.slice (some ⟨w.heap.size,0,none⟩) 0 (grownCap w m 0 e)) ([]:List α)]) ?_ ⟨?_,?_,by simp⟩) (rT hrd)))
  ·exact ⟨rfl,rfl,rfl,by simp,fun k hk=>Below.heap_alloc _ _ _ hk⟩
  ·intro f hf
   simp only [List.mem_singleton] at hf
   subst hf
   refine (?_:World.ownsRow _ 0 e k (.slice (some ⟨w.heap.size,0,none⟩) 0 (grownCap w m 0 e)) 0 [])
   refine ⟨by simp,.inr ⟨w.heap.size,_,_,rfl,Nat.zero_le _,heap_alloc_new w.drew _,Nat.zero_le _,grownCap_le_maxLen w m 0 e (by unfold maxLen;omega),?_,by simp⟩⟩
   simp only [Array.size_append,size_zeroCells,hE.zs,← Nat.add_mul]
   congr 1
   omega
  ·intro f hf b hb
   simp only [List.mem_singleton] at hf
   subst hf
   cases hb
   simp
theorem zIt {T1 e:TypeId} {td:TypeDesc} {s s' m c:Nat} {g g':Bool} {A:Option Addr} {hi:Option Operand} {u:Int} (M:Nat) (hop:o.op = .slice T1 x none hi none) [i1:TyI P T1 (.slice e) s g] [i2:TyI P e td s' g'] (hrd:rdy R ops n o=some t) (hx:evR R x=some (.slice A m c))
  (hu:bnd R hi m=some u) (hM:u=(M:Int)) (h2:M≤c) (hA:A.map (·.add 0)=A)
  (h:U w0 n d ((t,.slice A M c)::R) H (wpL ro P ops Q rest)):U w0 n d R H (wpL ro P ops Q (o::rest)):=by
 subst hM
 refine zAL (v:=.slice A M c) hrd (fun a w q=>?_) h
 unfold execOp;rw [hop]
 have e1:=run_underlying i1.und w
 have e2:=i2.siz w
 have b1:∀ (r:Nat) (code:BoundsCode) (z:Nat),z≤r→∀ k,(Instr.sliceBound (.int k (z:Int)) r code).run P w = .ok z w:=fun r code z hz k=>by
  simp [Instr.sliceBound,asIntOf,hz]
 have hhi:(∃ k,hi.map a.eval=some (.int k (M:Int)))∨(hi=none∧M=m):=by
  cases hi with
  | none=>simp only [bnd,Option.some.injEq] at hu;exact .inr ⟨rfl,by omega⟩
  | some y =>
   simp only [bnd] at hu
   cases hy:evR R y with
   | none=>rw [hy] at hu;simp at hu
   | some v =>
    rw [hy] at hu
    cases v<;>simp at hu
    rename_i k i
    subst hu
    exact .inl ⟨k,by simp [q.ev hy]⟩
 have hA':∀ z:Nat,z=0→A.map (·.add z)=A:=fun z hz=>by rw [hz];exact hA
 rcases hhi with ⟨k2,hhi⟩ | ⟨hhi,rfl⟩ <;>
  simp [Instr.sliceAt,Instr.slice,e1,e2,q.ev hx,Instr.sliceBounds,hhi,b1,h2,hA]
end
set_option maxHeartbeats 1000000 in
theorem grow_any (m:Nat) (w:World) (h0:0<m) (hm:m≤1000):Ret Tryz.prog 122 [.slice none 0 0,.int .i64 (m:Int)] w (fun p:Nat × Nat=>.slice (some ⟨p.1,0,none⟩) 0 p.2) (fun p=>[.row zAS 9 86 (.slice (some ⟨p.1,0,none⟩) 0 p.2) ([]:List St)]) (fun p=>m≤p.2):=by
 (refine zJ (n:=27) Tryz.func122 rfl rfl rfl ?_)
 (repeat' (first|((with_reducible refine zF ?_);first|refine zE rfl rfl rfl ?_|refine zC rfl rfl rfl ?_|(refine zQ rfl rfl rfl rfl rfl (fun h=>?_) (fun h=>?_)<;>(dsimp only [cmpP] at h;(try (exfalso;omega))))|refine zIt 0 rfl rfl rfl (by exact rfl) rfl (by omega) (by first|exact rfl|simp [Addr.add]) ?_|(refine zIw zAS (m:=m) rfl rfl rfl (by rw [show (m:Int)=(m:Int) - (((0:Nat):Int) - ((0:Nat):Int)) by omega];exact rfl) h0 (by omega) (fun b c' hc=>?_))|refine zCC rfl rfl rfl rfl (IntWalk.i64_in _ (by omega)) ?_|refine zo rfl rfl rfl ?_|refine u_cap rfl rfl rfl ?_)|(with_reducible first|refine zH ?_|refine zB ?_|refine zD ?_|refine zA ?_|refine zX ?_|refine zT ?_)|((with_reducible refine zI ?_ ?_);(· exact rfl))|((with_reducible refine zG ?_ ?_);(· exact rfl))))
 exact zS (by exact rTm rfl) (b,c') hc rfl (fun _ h=>h.sub (by (repeat constructor)))
end Go.Proofs.YtdigopgncfhiaaaGreatDoor
namespace Go.Proofs.YtdigopgncfhiaaaGreatDoor
variable {ro : Option Nat}
open Go.RowKit
set_option maxRecDepth 20000
def sz2 (la lb:Int):Nat→Int
 | 0=>0
 | 1=>0+la
 | _=>0+la+lb
def part2 {α:Type} (a b:List α):Nat→List α
 | 0=>[]
 | 1=>a
 | _=>a++b
theorem sz2_0 {la lb:Int}:sz2 la lb 0=0:=rfl
theorem sz2_1 {la lb:Int}:sz2 la lb 1=0+la:=rfl
theorem sz2_2 {la lb:Int}:sz2 la lb 2=0+la+lb:=rfl
theorem part2_0 {α:Type} {a b:List α}:part2 a b 0=[]:=rfl
theorem part2_1 {α:Type} {a b:List α}:part2 a b 1=a:=rfl
theorem part2_2 {α:Type} {a b:List α}:part2 a b 2=a++b:=rfl
set_option maxHeartbeats 2000000 in
theorem zMY (a b:List St) (A B:Option Addr) (ca cb bb:Nat) (w:World) (ha:zq zAS 9 w A a) (hb:zq zAS 9 w B b) (h0:0<a.length+b.length) (hl:a.length≤100∧b.length≤100) (h1:InC w bb 0 [.slice A a.length ca,.slice B b.length cb]) :
  zCB zAS 9 (a++b) (fun v=>v) Tryz.prog 92 [.slice (some ⟨bb,0,none⟩) 2 2] w:=by
 unfold zCB
 (refine zJ (n:=36) Tryz.func92 rfl rfl rfl ?_)
 (repeat' (first|((with_reducible refine zF ?_);first|refine zE rfl rfl rfl ?_|refine zC rfl rfl rfl ?_|refine zo rfl rfl rfl ?_)|(with_reducible first|refine zH ?_|refine zB ?_|refine zD ?_|refine zA ?_|refine zP ?_)))
 refine zJn (ι:=Nat) (fun i=>i≤2) (fun i=>[(0,.slice (some ⟨bb,0,none⟩) 2 2),(3,.int .i64 (sz2 a.length b.length i)),(9,.slice (some ⟨bb,0,none⟩) 2 2),(10,.int .i64 ((2:Nat):Int)),(11,.int .i64 (i:Int))]) (fun _=>[]) (fun i=>2 - i) 0 (by omega) (by (repeat first|exact lK1|refine zL rfl ?_)) (by (repeat constructor)) ?_
 intro i hi
 rcases (by omega:i=0∨i=1∨i=2) with rfl|rfl|rfl
 ·rw [sz2_0]
  (repeat' (first|((with_reducible refine zF ?_);first|refine zE rfl rfl rfl ?_|refine zC rfl rfl rfl ?_|(refine zK rfl rfl rfl ?_;refine ⟨_,rfl,?_⟩)|(refine zQ rfl rfl rfl rfl rfl (fun h=>?_) (fun h=>?_)<;>(dsimp only [cmpP] at h;(try (exfalso;omega))))|refine zh rfl rfl rfl rfl (by omega) ?_|refine zBd rfl rfl rfl rfl (IntWalk.i64_in _ (by omega)) ?_|refine zl rfl rfl rfl rfl rfl (by omega) ?_|refine zo rfl rfl rfl ?_)|(with_reducible first|refine zH ?_|refine zB ?_|refine zD ?_|refine zA ?_|refine zT ?_|refine zP ?_|refine zg ?_)|((with_reducible refine zI ?_ ?_);(· exact rfl))|((with_reducible refine zG ?_ ?_);(· exact rfl))))
  exact zf 1 (by omega) (by omega) (by (repeat first|exact lK1|refine zL rfl ?_)) (by (repeat constructor))
 ·rw [sz2_1]
  (repeat' (first|((with_reducible refine zF ?_);first|refine zE rfl rfl rfl ?_|refine zC rfl rfl rfl ?_|(refine zK rfl rfl rfl ?_;refine ⟨_,rfl,?_⟩)|(refine zQ rfl rfl rfl rfl rfl (fun h=>?_) (fun h=>?_)<;>(dsimp only [cmpP] at h;(try (exfalso;omega))))|refine zh rfl rfl rfl rfl (by omega) ?_|refine zBd rfl rfl rfl rfl (IntWalk.i64_in _ (by omega)) ?_|refine zl rfl rfl rfl rfl rfl (by omega) ?_|refine zo rfl rfl rfl ?_)|(with_reducible first|refine zH ?_|refine zB ?_|refine zD ?_|refine zA ?_|refine zT ?_|refine zP ?_|refine zg ?_)|((with_reducible refine zI ?_ ?_);(· exact rfl))|((with_reducible refine zG ?_ ?_);(· exact rfl))))
  exact zf 2 (by omega) (by omega) (by (repeat first|exact lK1|refine zL rfl ?_)) (by (repeat constructor))
 rw [sz2_2]
 have hg:=fun W=>grow_any (a.length+b.length) W h0 (by omega)
 rw [show ((a.length+b.length:Nat):Int)=0+(a.length:Int)+(b.length:Int) by omega] at hg
 (repeat' (first|((with_reducible refine zF ?_);first|refine zE rfl rfl rfl ?_|refine zC rfl rfl rfl ?_|(refine zQ rfl rfl rfl rfl rfl (fun h=>?_) (fun h=>?_)<;>(dsimp only [cmpP] at h;(try (exfalso;omega))))|(refine zAQ rfl rfl rfl rfl (fun _ w _=>hg w) ?_;rintro ⟨g,c0⟩ hc0;dsimp only [List.cons_append,List.nil_append] at hc0 ⊢)|refine zo rfl rfl rfl ?_)|(with_reducible first|refine zH ?_|refine zB ?_|refine zD ?_|refine zA ?_|refine zP ?_|refine zk ?_|refine zR ?_|refine zW ?_)|((with_reducible refine zG ?_ ?_);(· exact rfl))))
 refine zJn (ι:=Nat × Value) (fun i=>i.1≤2) (fun i=>[(6,i.2),(25,.slice (some ⟨bb,0,none⟩) 2 2),(26,.int .i64 ((2:Nat):Int)),(27,.int .i64 (i.1:Int))]) (fun i=>[.row zAS 9 86 i.2 (part2 a b i.1)]) (fun i=>2 - i.1) (0,.slice (some ⟨g,0,none⟩) 0 c0) (by simp) (by (repeat first|exact lK1|refine zL rfl ?_)) (by (repeat constructor)) ?_
 rintro ⟨i,v⟩ hi
 simp only at hi ⊢
 rcases (by omega:i=0∨i=1∨i=2) with rfl|rfl|rfl
 ·rw [part2_0]
  (repeat' (first|((with_reducible refine zF ?_);first|refine zE rfl rfl rfl ?_|refine zC rfl rfl rfl ?_|(refine zK rfl rfl rfl ?_;refine ⟨_,rfl,?_⟩)|(refine zQ rfl rfl rfl rfl rfl (fun h=>?_) (fun h=>?_)<;>(dsimp only [cmpP] at h;(try (exfalso;omega))))|(refine zAn (enc:=zAS) a rfl rfl rfl (by (repeat constructor)) rfl rfl (zEP ha) (by refine ⟨?_,by decide⟩;(try simp only [List.length_append,List.length_cons,List.length_nil]);omega) (fun A' c'=>?_))|refine zh rfl rfl rfl rfl (by omega) ?_|refine zl rfl rfl rfl rfl rfl (by omega) ?_)|(with_reducible first|refine zH ?_|refine zB ?_|refine zD ?_|refine zA ?_|refine zT ?_|refine zP ?_|refine zg ?_)|((with_reducible refine zI ?_ ?_);(· exact rfl))))
  exact zf (1,.slice A' ([]++a).length c') (by simp) (by simp) (by (repeat first|exact lK1|refine zL rfl ?_)) (by (repeat constructor))
 ·rw [part2_1]
  (repeat' (first|((with_reducible refine zF ?_);first|refine zE rfl rfl rfl ?_|refine zC rfl rfl rfl ?_|(refine zK rfl rfl rfl ?_;refine ⟨_,rfl,?_⟩)|(refine zQ rfl rfl rfl rfl rfl (fun h=>?_) (fun h=>?_)<;>(dsimp only [cmpP] at h;(try (exfalso;omega))))|(refine zAn (enc:=zAS) b rfl rfl rfl (by (repeat constructor)) rfl rfl (zEP hb) (by refine ⟨?_,by decide⟩;(try simp only [List.length_append,List.length_cons,List.length_nil]);omega) (fun A' c'=>?_))|refine zh rfl rfl rfl rfl (by omega) ?_|refine zl rfl rfl rfl rfl rfl (by omega) ?_)|(with_reducible first|refine zH ?_|refine zB ?_|refine zD ?_|refine zA ?_|refine zT ?_|refine zP ?_|refine zg ?_)|((with_reducible refine zI ?_ ?_);(· exact rfl))))
  exact zf (2,.slice A' (a++b).length c') (by simp) (by simp) (by (repeat first|exact lK1|refine zL rfl ?_)) (by (repeat constructor))
 rw [part2_2]
 (repeat' (first|((with_reducible refine zF ?_);first|refine zE rfl rfl rfl ?_|refine zC rfl rfl rfl ?_|(refine zQ rfl rfl rfl rfl rfl (fun h=>?_) (fun h=>?_)<;>(dsimp only [cmpP] at h;(try (exfalso;omega)))))|(with_reducible first|refine zH ?_|refine zB ?_|refine zD ?_|refine zA ?_|refine zX ?_|refine zk ?_|refine zR ?_|refine zW ?_)|((with_reducible refine zG ?_ ?_);(· exact rfl))))
 refine zEL (enc:=zAS) (by (repeat constructor)) ?_
 rintro A2 c2 rfl
 exact zS (by exact rTm rfl) (A2,c2) trivial rfl (fun _ h=>(h.zER (by (repeat constructor))).sub (by (repeat constructor)))
end Go.Proofs.YtdigopgncfhiaaaGreatDoor
namespace Go.Proofs.YtdigopgncfhiaaaGreatDoor
open Go.RowKit
set_option maxRecDepth 20000
set_option maxHeartbeats 1000000 in
theorem zN0 (m:Nat) (w:World) (hm:m≤1000):Ret Tryz.prog 111 [.slice none 0 0,.int .i64 (m:Int)] w (fun v:Value=>v) (fun v=>[.row encI 1 3 v ([]:List Int)]) (fun _=>True):=by
 by_cases h0:0<m
 ·(refine zJ (n:=27) Tryz.func111 rfl rfl rfl ?_)
  (repeat' (first|((with_reducible refine zF ?_);first|refine zE rfl rfl rfl ?_|refine zC rfl rfl rfl ?_|(refine zQ rfl rfl rfl rfl rfl (fun h=>?_) (fun h=>?_)<;>(dsimp only [cmpP] at h;(try (exfalso;omega))))|refine zIt 0 rfl rfl rfl (by exact rfl) rfl (by omega) (by first|exact rfl|simp [Addr.add]) ?_|(refine zIw encI (m:=m) rfl rfl rfl (by rw [show (m:Int)=(m:Int) - (((0:Nat):Int) - ((0:Nat):Int)) by omega];exact rfl) h0 (by omega) (fun b c' hc=>?_))|refine zCC rfl rfl rfl rfl (IntWalk.i64_in _ (by omega)) ?_|refine zo rfl rfl rfl ?_|refine u_cap rfl rfl rfl ?_)|(with_reducible first|refine zH ?_|refine zB ?_|refine zD ?_|refine zA ?_|refine zX ?_|refine zT ?_)|((with_reducible refine zI ?_ ?_);(· exact rfl))|((with_reducible refine zG ?_ ?_);(· exact rfl))))
  exact zS (by exact rTm rfl) _ trivial rfl (fun _ h=>h.sub (by (repeat constructor)))
 ·obtain rfl:m=0:=by omega
  (refine zJ (n:=27) Tryz.func111 rfl rfl rfl ?_)
  (repeat' (first|((with_reducible refine zF ?_);first|refine zE rfl rfl rfl ?_|refine zC rfl rfl rfl ?_|(refine zQ rfl rfl rfl rfl rfl (fun h=>?_) (fun h=>?_)<;>(dsimp only [cmpP] at h;(try (exfalso;omega))))|refine zCC rfl rfl rfl rfl (IntWalk.i64_in _ (by omega)) ?_|refine zo rfl rfl rfl ?_|refine u_cap rfl rfl rfl ?_)|(with_reducible first|refine zH ?_|refine zB ?_|refine zD ?_|refine zA ?_|refine zX ?_|refine zT ?_)|((with_reducible refine zG ?_ ?_);(· exact rfl))))
  refine zDr encI 1 3 ?_
  exact zS (by exact rTm rfl) (.slice none 0 0) trivial rfl (fun _ h=>h.sub (by (repeat constructor)))
def zEC (pl:List Sli) (k:Nat):List Int:=(pl.take k).flatMap Sli.xs
theorem zGw {pl:List Sli} {k:Nat} {s:Sli} (h:pl[k]?=some s):zEC pl (k+1)=zEC pl k++s.xs:=by
 unfold zEC
 rw [List.take_add_one,h,List.flatMap_append]
 simp
theorem zIT {pl:List Sli} (h:∀ s∈pl,s.xs.length≤20):∀ k,k≤pl.length→(zEC pl k).length≤k * 20
 | 0,_=>by simp [zEC]
 | k+1,hk=>by
  obtain ⟨s,hs⟩:∃ s,pl[k]?=some s:=⟨_,List.getElem?_eq_getElem (by omega)⟩
  rw [zGw hs,List.length_append]
  have:=zIT h k (by omega)
  have:=h s (List.mem_of_getElem? hs)
  omega
set_option maxHeartbeats 2000000 in
theorem zLU (pl:List Sli) (P:Option Addr) (cp:Nat) (w:World) (hp:zBG w P pl) (hl:pl.length≤12) (hrl:∀ s∈pl,s.xs.length≤20) :
  zCB encI 1 (pl.flatMap Sli.xs) (fun v=>v) Tryz.prog 69 [.slice P pl.length cp] w:=by
 have hpp:=hp.p
 have hcl:=zIT hrl
 have hall:zEC pl pl.length=pl.flatMap Sli.xs:=by unfold zEC;rw [List.take_length]
 rw [← hall]
 unfold zCB
 (refine zJ (n:=36) Tryz.func69 rfl rfl rfl ?_)
 (repeat' (first|((with_reducible refine zF ?_);first|refine zE rfl rfl rfl ?_|refine zC rfl rfl rfl ?_|refine zo rfl rfl rfl ?_)|(with_reducible first|refine zH ?_|refine zB ?_|refine zD ?_|refine zA ?_|refine zP ?_)))
 refine zw (ι:=Nat) [0,9,10] rfl (fun k=>k≤pl.length) (fun k=>[(11,.int .i64 (k:Int)),(3,.int .i64 ((zEC pl k).length:Int))]) (fun _=>[]) (fun k=>pl.length - k) 0 (Nat.zero_le _) (by (repeat first|exact lK1|refine zL rfl ?_)) (by (repeat constructor)) ?_
 rintro k hk
 simp only [zAt,List.cons_append,List.nil_append]
 have hck:=hcl k hk
 by_cases hlt:k<pl.length
 ·obtain ⟨s,hsk⟩:∃ s,pl[k]?=some s:=⟨_,List.getElem?_eq_getElem hlt⟩
  have hsl:=hrl s (List.mem_of_getElem? hsk)
  obtain ⟨bb,o,rfl,hblt,hc⟩:=hpp.at_ hlt
  have:InS w bb o zBF 1 pl:=⟨hpp⟩
  have:zAT pl k s:=⟨hsk⟩
  have hcs:((zEC pl (k+1)).length:Int)=((zEC pl k).length:Int)+(s.xs.length:Int):=by rw [zGw hsk,List.length_append];omega
  (repeat' (first|((with_reducible refine zF ?_);first|refine zE rfl rfl rfl ?_|refine zC rfl rfl rfl ?_|(refine zK rfl rfl rfl ?_;refine ⟨_,rfl,?_⟩)|(refine zQ rfl rfl rfl rfl rfl (fun h=>?_) (fun h=>?_)<;>(dsimp only [cmpP] at h;(try (exfalso;omega))))|refine zh rfl rfl rfl rfl (by omega) ?_|refine zBd rfl rfl rfl rfl (IntWalk.i64_in _ (by omega)) ?_|refine zl rfl rfl rfl rfl rfl (by omega) ?_|refine zo rfl rfl rfl ?_)|(with_reducible first|refine zH ?_|refine zB ?_|refine zD ?_|refine zA ?_|refine zT ?_|refine zP ?_|refine zg ?_)|((with_reducible refine zI ?_ ?_);(· exact rfl))|((with_reducible refine zG ?_ ?_);(· exact rfl))))
  all_goals exact zf (k+1) (by omega) (by omega) (by simp only [hcs];(repeat first|exact lK1|refine zL rfl ?_)) (by (repeat constructor))
 ·obtain rfl:k=pl.length:=by omega
  have hg:=fun W=>zN0 (zEC pl pl.length).length W (by omega)
  (repeat' (first|((with_reducible refine zF ?_);first|refine zE rfl rfl rfl ?_|refine zC rfl rfl rfl ?_|(refine zQ rfl rfl rfl rfl rfl (fun h=>?_) (fun h=>?_)<;>(dsimp only [cmpP] at h;(try (exfalso;omega))))|(refine zAQ rfl rfl rfl rfl (fun _ w _=>hg w) ?_;rintro v9 -;dsimp only [List.cons_append,List.nil_append])|refine zo rfl rfl rfl ?_)|(with_reducible first|refine zH ?_|refine zB ?_|refine zD ?_|refine zA ?_|refine zP ?_|refine zk ?_|refine zR ?_|refine zW ?_)|((with_reducible refine zG ?_ ?_);(· exact rfl))))
  refine zw (ι:=Nat × Value) [25,26] rfl (fun q=>q.1≤pl.length) (fun q=>[(27,.int .i64 (q.1:Int)),(6,q.2)]) (fun q=>[.row encI 1 3 q.2 (zEC pl q.1)]) (fun q=>pl.length - q.1) (0,v9) (Nat.zero_le _) (by (repeat first|exact lK1|refine zL rfl ?_)) (by (repeat constructor)) ?_
  rintro ⟨k,v⟩ hk
  simp only at hk
  simp only [zAt,List.cons_append,List.nil_append]
  have hck:=hcl k hk
  by_cases hlt:k<pl.length
  ·obtain ⟨s,hsk⟩:∃ s,pl[k]?=some s:=⟨_,List.getElem?_eq_getElem hlt⟩
   have hsm:=List.mem_of_getElem? hsk
   have hsl:=hrl s hsm
   have hrow:=hp.rows s hsm
   obtain ⟨bb,o,rfl,hblt,hc⟩:=hpp.at_ hlt
   have:InS w bb o zBF 1 pl:=⟨hpp⟩
   obtain ⟨sA,xs,sc⟩:=s
   have:zAT pl k ⟨sA,xs,sc⟩:=⟨hsk⟩
   have hcs:=zGw hsk
   simp only at hsl hrow hcs
   (repeat' (first|((with_reducible refine zF ?_);first|refine zE rfl rfl rfl ?_|refine zC rfl rfl rfl ?_|(refine zK rfl rfl rfl ?_;refine ⟨_,rfl,?_⟩)|(refine zQ rfl rfl rfl rfl rfl (fun h=>?_) (fun h=>?_)<;>(dsimp only [cmpP] at h;(try (exfalso;omega))))|(refine zAn (enc:=encI) xs rfl rfl rfl (by (repeat constructor)) rfl rfl (zEP hrow) (by refine ⟨?_,by decide⟩;(try simp only [List.length_append,List.length_cons,List.length_nil]);omega) (fun A' c'=>?_))|refine zh rfl rfl rfl rfl (by omega) ?_|refine zl rfl rfl rfl rfl rfl (by omega) ?_)|(with_reducible first|refine zH ?_|refine zB ?_|refine zD ?_|refine zA ?_|refine zT ?_|refine zP ?_|refine zg ?_)|((with_reducible refine zI ?_ ?_);(· exact rfl))))
   exact zf (k+1,.slice A' (zEC pl k++xs).length c') (by simp only;omega) (by simp only;omega) (by (repeat first|exact lK1|refine zL rfl ?_)) (by simp only [hcs];(repeat constructor))
  ·obtain rfl:k=pl.length:=by omega
   refine zEL (by (repeat constructor)) ?_
   rintro A9 c9 rfl
   (repeat' (first|((with_reducible refine zF ?_);first|refine zE rfl rfl rfl ?_|refine zC rfl rfl rfl ?_|(refine zQ rfl rfl rfl rfl rfl (fun h=>?_) (fun h=>?_)<;>(dsimp only [cmpP] at h;(try (exfalso;omega)))))|(with_reducible first|refine zH ?_|refine zB ?_|refine zD ?_|refine zA ?_|refine zX ?_|refine zk ?_|refine zR ?_|refine zW ?_)|((with_reducible refine zG ?_ ?_);(· exact rfl))))
   exact zS (by exact rTm rfl) (A9,c9) trivial rfl (fun _ h=>(h.zER (by (repeat constructor))).sub (by (repeat constructor)))
end Go.Proofs.YtdigopgncfhiaaaGreatDoor
namespace Go.Proofs.YtdigopgncfhiaaaGreatDoor
open Go.RowKit
set_option maxRecDepth 20000
def zDa (c:Cov) (x:Int):Sp:=(c.t.getD x.toNat default).long
def zDA (c:Cov) (w:Sp) (x:Int):Sp:=⟨w.lo+c.rate * (zDa c x).lo,w.hi+c.rate * (zDa c x).hi⟩
def zEJ (c:Cov) (l:List Int):Sp:=l.foldl (zDA c) ⟨0,0⟩
def zFZ (c:Cov) (pl:List Sli):Sp:=if zBs c pl=0 then zEJ c (zEC pl pl.length) else ⟨0,0⟩
theorem zLg {c:Cov} {l:List Int} {x:Int}:zEJ c (l++[x])=zDA c (zEJ c l) x:=by simp [zEJ]
theorem zMQ {c:Cov} (h:zAm c=0):valid c.t=true:=by
 unfold zAm at h
 cases hv:valid c.t with
 | true=>rfl
 | false=>rw [hv] at h;simp at h
theorem cat_in {c:Cov} {pl:List Sli} (hp:zBY c pl=true) {x:Int} (hx:x∈zEC pl pl.length):∃ k:Nat,x=(k:Int)∧k<c.beds.length:=by
 unfold zEC at hx
 rw [List.take_length,List.mem_flatMap] at hx
 obtain ⟨s,hs,hx⟩:=hx
 obtain ⟨i,hi⟩:=List.mem_iff_getElem?.1 hs
 obtain ⟨hl,hr⟩:=zBK.1 hp
 have hil:=(List.getElem?_eq_some_iff.1 hi).1
 have:=hr i _ s (List.getElem?_eq_getElem (show i<c.hours.length by omega)) hi
 unfold zEp at this
 simp only [Bool.and_eq_true] at this
 exact zL3 (List.all_eq_true.1 this.1.2 x hx)
theorem zK8 {c:Cov} (hv:valid c.t=true) {k:Nat} (hk:k<c.t.length):1≤(zDa c k).lo∧(zDa c k).lo≤(zDa c k).hi∧(zDa c k).hi≤30000:=by
 have hz:c.t[k]?=some c.t[k]:=List.getElem?_eq_getElem hk
 have ho:=zFa hv c.t[k] (List.getElem_mem hk)
 unfold zDa
 rw [Int.toNat_natCast,zBB hz]
 exact ⟨ho.l0,ho.l1,ho.l2⟩
theorem zN8 {c:Cov} (hv:valid c.t=true) {k:Nat} (hk:k<c.t.length):zEA c.t (k:Int) ((k:Int)+1)=zDa c k:=by
 have hd:zEa c.t (k:Int) ((k:Int)+1)=true:=by unfold zEa;simp only [Bool.and_eq_true,zAC];omega
 unfold zEA
 rw [hv,hd,Bool.and_true,if_pos rfl,Int.toNat_natCast,show ((k:Int)+1).toNat=k+1 by omega]
 unfold ze longs zDa
 have hz:c.t[k]?=some c.t[k]:=List.getElem?_eq_getElem hk
 rw [Int.toNat_natCast,zBB hz,List.extract_eq_take_drop,show k+1 - k=1 by omega,List.take_one,List.head?_drop,List.getElem?_map,hz]
 simp [zG1,zBa]
theorem zKQ {c:Cov} (hf:zDo c) (hv:valid c.t=true):∀ (l:List Int) (w:Sp) (m:Int),(∀ x∈l,∃ k:Nat,x=(k:Int)∧k<c.t.length)→0≤w.lo∧w.lo≤m∧0≤w.hi∧w.hi≤m→0≤(l.foldl (zDA c) w).lo∧(l.foldl (zDA c) w).lo≤m+3000000 * l.length∧0≤(l.foldl (zDA c) w).hi∧(l.foldl (zDA c) w).hi≤m+3000000 * l.length
 | [],w,m,_,h=>by simp only [List.foldl_nil,List.length_nil];omega
 | x::l,w,m,hx,h=>by
  obtain ⟨k,rfl,hk⟩:=hx x (by simp)
  have h1:=zK8 hv hk
  have h2:=hf.rate
  simp only [zAC] at h2
  have m1:=zEt (a:=c.rate) (b:=(zDa c k).lo) (A:=100) (B:=30000) (by omega) (by omega) (by omega) (by omega)
  have m2:=zEt (a:=c.rate) (b:=(zDa c k).hi) (A:=100) (B:=30000) (by omega) (by omega) (by omega) (by omega)
  have:=zKQ hf hv l (zDA c w k) (m+3000000) (fun y hy=>hx y (by simp [hy])) (by simp only [zDA];omega)
  simp only [List.foldl_cons,List.length_cons]
  omega
end Go.Proofs.YtdigopgncfhiaaaGreatDoor
namespace Go.Proofs.YtdigopgncfhiaaaGreatDoor
open Go.RowKit
set_option maxRecDepth 20000
set_option maxHeartbeats 4000000 in
theorem zMH (c:Cov) (A:Option Addr) (ca:Nat) (B:Option Addr) (cb:Nat) (C:Option Addr) (cc:Nat) (pl:List Sli) (P:Option Addr) (cp:Nat) (w:World) (hc:zAe w c A B C) (hs:Small c) (hp:zBG w P pl) (hl:pl.length≤12) (hrl:∀ s∈pl,s.xs.length≤20) :
  Gv Tryz.prog 29 [zAH c A ca B cb C cc,.slice P pl.length cp] w (.tuple #[vSp (zFZ c pl),.int .i64 (zBs c pl)]):=by
 have h1:=fun W (hb:Below w.heap.size w W)=>zDz c A ca B cb C cc pl P cp W (hc.below hb) hs (hp.below hb) hl hrl
 have h2:=fun W (hb:Below w.heap.size w W)=>zDy c A ca B cb C cc pl P cp W (hc.below hb) hs (hp.below hb) hl hrl
 unfold zAH at h1 h2
 unfold Gv zAH zFZ vSp
 by_cases h0:zBs c pl=0
 ·rw [if_pos h0,h0]
  obtain ⟨h00,hpl⟩:=zD6 h0
  have hf:=zBu h00
  have hv:=zMQ h00
  have h2:=fun W hb=>h2 W hb h00 hpl
  have hC:=fun W (hb:Below w.heap.size w W)=>zLU pl P cp W (hp.below hb) hl hrl
  have hin:=fun x hx=>cat_in (c:=c) (pl:=pl) hpl (x:=x) hx
  have hlen:=zIT hrl pl.length (Nat.le_refl _)
  have hall:zEC pl pl.length=pl.flatMap Sli.xs:=by unfold zEC;rw [List.take_length]
  rw [← hall] at hC
  generalize zEC pl pl.length=L at *
  have hbt:=hf.beds
  have hrt:=hf.rate
  simp only [zAC] at hrt
  have hDr:=fun W (hb:Below w.heap.size w W) (k:Nat) (hk:k<c.t.length)=>(drop_any c.t A ca (k:Int) (((k+1:Nat)):Int) W (hc.t.below hb) hs.fit (by have:=hs.t;omega)).gv
  unfold vT vSp at hDr
  unfold zM at h2 ⊢
  (refine zJ (n:=60) Tryz.func29 rfl rfl rfl ?_)
  (repeat' (first|((with_reducible refine zF ?_);first|refine zE rfl rfl rfl ?_|refine zC rfl rfl rfl ?_|(refine zK rfl rfl rfl ?_;refine ⟨_,rfl,?_⟩)|(refine zQ rfl rfl rfl rfl rfl (fun h=>?_) (fun h=>?_)<;>(dsimp only [cmpP] at h;(try (exfalso;omega))))|(refine zAQ rfl rfl rfl rfl (fun _ _ q=>h2 _ q.below) ?_;rintro g -;dsimp only [List.cons_append,List.nil_append])|refine zBt rfl rfl rfl rfl (fun _ _ q=>hC _ q.below) (fun A' c'=>?_)|refine zc rfl rfl rfl rfl ?_|refine zo rfl rfl rfl ?_|(refine zj rfl rfl (fun b=>?_))|(refine zu rfl rfl rfl rfl (fun b=>?_)))|(with_reducible first|refine zH ?_|refine zB ?_|refine zD ?_|refine zA ?_|refine zT ?_|refine zP ?_)|((with_reducible refine zG ?_ ?_);(· exact rfl))))
  rename_i b2 b4
  refine zw (ι:=Nat) [2,4,8,25,26] rfl (fun k=>k≤L.length) (fun k=>[(27,.int .i64 (k:Int))]) (fun k=>[.blk b (zAz (zEJ c (L.take k))),.sl encI 1 A' L,.blk b4 [.int .i64 0,.int .i64 0],.blk b2 (zM c A ca B cb C cc)]) (fun k=>L.length - k) 0 (Nat.zero_le _) (by (repeat first|exact lK1|refine zL rfl ?_)) (by (repeat constructor)) ?_
  rintro k hk
  simp only [zAt,zM,List.cons_append,List.nil_append]
  by_cases hlt:k<L.length
  ·obtain ⟨x,hx⟩:∃ x,L[k]?=some x:=⟨_,List.getElem?_eq_getElem hlt⟩
   obtain ⟨i,rfl,hi⟩:=hin x (List.mem_of_getElem? hx)
   have hD:=fun W hb=>hDr W hb i (by omega)
   have he:zEA c.t (i:Int) (((i+1:Nat)):Int)=zDa c i:=by rw [show (((i+1:Nat)):Int)=(i:Int)+1 by omega];exact zN8 hv (by omega)
   rw [he] at hD
   have h4:=hs.b
   have hli:=zK8 hv (show i<c.t.length by omega)
   have hwi:=zKQ hf hv (L.take k) ⟨0,0⟩ 0 (fun y hy=>by obtain ⟨j,e,hj⟩:=hin y (List.mem_of_mem_take hy);exact ⟨j,e,by omega⟩) (by simp only;omega)
   have hwl:(L.take k).length≤240:=by rw [List.length_take];omega
   have hw:zEJ c (L.take (k+1))=zDA c (zEJ c (L.take k)) i:=by rw [List.take_add_one,hx];exact zLg
   have hwe:(L.take k).foldl (zDA c) ⟨0,0⟩=zEJ c (L.take k):=rfl
   rw [hwe] at hwi
   have m1:=zEt (a:=c.rate) (b:=(zDa c i).lo) (A:=100) (B:=30000) (by omega) (by omega) (by omega) (by omega)
   have m2:=zEt (a:=c.rate) (b:=(zDa c i).hi) (A:=100) (B:=30000) (by omega) (by omega) (by omega) (by omega)
   generalize zEJ c (L.take k)=wk at *
   have:zAT L k (i:Int):=⟨hx⟩
   unfold zAz
   refine u_slS (by (repeat constructor)) (by omega) ?_
   rintro bl ol rfl
   (repeat' (first|((with_reducible refine zF ?_);first|refine zE rfl rfl rfl ?_|refine zC rfl rfl rfl ?_|(refine zK rfl rfl rfl ?_;refine ⟨_,rfl,?_⟩)|refine za rfl rfl rfl ?_|(refine zQ rfl rfl rfl rfl rfl (fun h=>?_) (fun h=>?_)<;>(dsimp only [cmpP] at h;(try (exfalso;omega))))|refine zV rfl rfl rfl rfl (fun _ _ q=>hD _ q.below) ?_|refine zc rfl rfl rfl rfl ?_|refine zh rfl rfl rfl rfl (by omega) ?_|refine zBd rfl rfl rfl rfl (IntWalk.i64_in _ (by omega)) ?_|refine u_mul rfl rfl rfl rfl (IntWalk.i64_in _ (by omega)) ?_|refine zl rfl rfl rfl rfl rfl (by omega) ?_|(refine zb rfl rfl rfl rfl rfl ?_;refine ⟨rfl,by first|decide|exact Nat.le_of_ble_eq_true rfl|(simp;omega),_,rfl,?_⟩)|(refine zj rfl rfl (fun b=>?_))|(refine zAl rfl rfl rfl ?_;refine ⟨_,rfl,?_⟩))|(with_reducible first|refine zH ?_|refine zB ?_|refine zD ?_|refine zA ?_|refine zT ?_|refine zP ?_|refine zg ?_)|((with_reducible refine zI ?_ ?_);(· exact rfl))))
   exact zf (k+1) (by omega) (by omega) (by (repeat first|exact lK1|refine zL rfl ?_)) (by simp only [hw,zDA];(repeat constructor))
  ·obtain rfl:k=L.length:=by omega
   rw [List.take_length]
   (repeat' (first|((with_reducible refine zF ?_);first|refine zC rfl rfl rfl ?_|(refine zK rfl rfl rfl ?_;refine ⟨_,rfl,?_⟩)|(refine zQ rfl rfl rfl rfl rfl (fun h=>?_) (fun h=>?_)<;>(dsimp only [cmpP] at h;(try (exfalso;omega))))|(refine zb rfl rfl rfl rfl rfl ?_;refine ⟨rfl,by first|decide|exact Nat.le_of_ble_eq_true rfl|(simp;omega),_,rfl,?_⟩))|(with_reducible first|refine zH ?_|refine zB ?_|refine zD ?_|refine zA ?_|refine zX ?_|refine zk ?_|refine zR ?_|refine zW ?_)|((with_reducible refine zG ?_ ?_);(· exact rfl))))
   exact zS (by (exact zi.cons (by exact res1c rfl (by exact rfl)) (zi.cons (by exact zAR.tmp rfl) zi.nil))) () trivial rfl (fun _ h=>h.sub (by (repeat constructor)))
 ·rw [if_neg h0]
  unfold zM at h1 ⊢
  generalize zBs c pl=e at *
  (refine zJ (n:=60) Tryz.func29 rfl rfl rfl ?_)
  (repeat' (first|((with_reducible refine zF ?_);first|refine zE rfl rfl rfl ?_|refine zC rfl rfl rfl ?_|(refine zK rfl rfl rfl ?_;refine ⟨_,rfl,?_⟩)|(refine zQ rfl rfl rfl rfl rfl (fun h=>?_) (fun h=>?_)<;>(dsimp only [cmpP] at h;(try (exfalso;omega))))|refine zV rfl rfl rfl rfl (fun _ _ q=>h1 _ q.below h0) ?_|refine zc rfl rfl rfl rfl ?_|(refine zb rfl rfl rfl rfl rfl ?_;refine ⟨rfl,by first|decide|exact Nat.le_of_ble_eq_true rfl|(simp;omega),_,rfl,?_⟩)|(refine zj rfl rfl (fun b=>?_))|(refine zu rfl rfl rfl rfl (fun b=>?_))|(refine zAl rfl rfl rfl ?_;refine ⟨_,rfl,?_⟩))|(with_reducible first|refine zH ?_|refine zB ?_|refine zD ?_|refine zA ?_|refine zX ?_|refine zZ ?_)|((with_reducible refine zI ?_ ?_);(· exact rfl))))
  all_goals exact zS (by (exact zi.cons (by exact res1c rfl (by exact rfl)) (zi.cons (by exact zAR.tmp rfl) zi.nil))) () trivial rfl (fun _ h=>h.sub (by (repeat constructor)))
end Go.Proofs.YtdigopgncfhiaaaGreatDoor
namespace Go.Proofs.YtdigopgncfhiaaaGreatDoor
open Go.RowKit
set_option maxRecDepth 20000
theorem zKS {c:Cov} {pl pl':List Sli} (h:pl.map Sli.xs=pl'.map Sli.xs):zFy c pl=zFy c pl':=by unfold zFy;rw [zB1 h,zDS h]
theorem zKa {c:Cov} {pl pl':List Sli} (h:pl.map Sli.xs=pl'.map Sli.xs):zHt c pl=zHt c pl':=by unfold zHt;rw [zB1 h,zDS h,zDS h]
theorem zJj {c:Cov} {pl pl':List Sli} (h:pl.map Sli.xs=pl'.map Sli.xs):zFZ c pl=zFZ c pl':=by
 unfold zFZ zEC
 rw [zB1 h,List.take_length,List.take_length,List.flatMap_def,List.flatMap_def,h]
end Go.Proofs.YtdigopgncfhiaaaGreatDoor
namespace Go.Proofs.YtdigopgncfhiaaaGreatDoor
open Go.RowKit
set_option maxRecDepth 20000
section
variable (c : Cov) (A:Option Addr) (ca:Nat) (B:Option Addr) (cb:Nat) (C:Option Addr) (cc:Nat) (xss:List (List Int)) (P:Option Addr) (cp:Nat) (w:World) (hc:zAe w c A B C) (hs:Small c) (hp:∃ pl:List Sli,pl.map Sli.xs=(zB5 xss).map Sli.xs∧zBG w P pl) (hl:xss.length≤12) (hr:∀ r∈xss,r.length≤20)
include hc hs hp hl hr
theorem zJ9 (i h:Int):Gv Tryz.prog 23 [zAH c A ca B cb C cc,.slice P xss.length cp,.int .i64 i,.int .i64 h] w (.tuple #[vSp (zDB c (zB5 xss) i h).1,.int .i64 (zDB c (zB5 xss) i h).2]):=by
 obtain ⟨pl,hx,hp⟩:=hp
 have:=zMI c A ca B cb C cc pl P cp i h w hc hs hp (by rw [zCb hx];exact hl) (zE0 hx hr)
 rw [zCb hx,zJr hx] at this
 exact this
theorem iThinP (hG:InC w 0 0 zCP):Ret Tryz.prog 20 [zAH c A ca B cb C cc,.slice P xss.length cp] w (fun p:Option Addr × Nat=>.tuple #[.slice p.1 (zFy c (zB5 xss)).length p.2,.int .i64 (zBs c (zB5 xss))]) (fun p=>[.sl zAW 2 p.1 (zFy c (zB5 xss))]) (fun _=>True):=by
 obtain ⟨pl,hx,hp⟩:=hp
 have:=zNu c A ca B cb C cc pl P cp w hc hs hp (by rw [zCb hx];exact hl) (zE0 hx hr) hG
 rw [zCb hx,zKS hx,zB1 hx] at this
 exact this
theorem iSafeP (hG:InC w 0 0 zCP):Gv Tryz.prog 21 [zAH c A ca B cb C cc,.slice P xss.length cp] w (.tuple #[.int .u8 (zHt c (zB5 xss)),.int .i64 (zBs c (zB5 xss))]):=by
 obtain ⟨pl,hx,hp⟩:=hp
 have:=zNv c A ca B cb C cc pl P cp w hc hs hp (by rw [zCb hx];exact hl) (zE0 hx hr) hG
 rw [zCb hx,zKa hx,zB1 hx] at this
 exact this
theorem iMostP (h:Int) (hG:InC w 0 0 zCP):Gv Tryz.prog 37 [zAH c A ca B cb C cc,.slice P xss.length cp,.int .i64 h] w (.tuple #[.int .i64 (zF9 c (zB5 xss) h).1,.int .i64 (zF9 c (zB5 xss) h).2]):=by
 obtain ⟨pl,hx,hp⟩:=hp
 have:=zNy c A ca B cb C cc pl P cp h w hc hs hp (by rw [zCb hx];exact hl) (zE0 hx hr) hG
 rw [zCb hx,zK0 hx] at this
 exact this
theorem iWaterP : Gv Tryz.prog 29 [zAH c A ca B cb C cc,.slice P xss.length cp] w (.tuple #[vSp (zFZ c (zB5 xss)),.int .i64 (zBs c (zB5 xss))]):=by
 obtain ⟨pl,hx,hp⟩:=hp
 have:=zMH c A ca B cb C cc pl P cp w hc hs hp (by rw [zCb hx];exact hl) (zE0 hx hr)
 rw [zCb hx,zJj hx,zB1 hx] at this
 exact this
end
theorem zLl (xss:List (List Int)) (P:Option Addr) (cp:Nat) (P2:Option Addr) (cp2:Nat) (w:World) (hp:∃ pl:List Sli,pl.map Sli.xs=(zB5 xss).map Sli.xs∧zBG w P pl) (hp2:∃ pl:List Sli,pl.map Sli.xs=(zB5 xss).map Sli.xs∧zBG w P2 pl) (hl:xss.length≤1000) (hr:∀ r∈xss,r.length≤1000) :
  Gv Tryz.prog 53 [.slice P xss.length cp,.slice P2 xss.length cp2] w (.bool true):=by
 obtain ⟨pl,hx,hp⟩:=hp
 obtain ⟨pl2,hx2,hp2⟩:=hp2
 have:=zIk pl pl2 P cp P2 cp2 w hp hp2 (hx.trans hx2.symm) (by rw [zCb hx];exact hl) (zE0 hx2 hr)
 rw [zCb hx,zCb hx2] at this
 exact this
theorem zJx (x:List Int) (X:Option Addr) (cx:Nat) (Y:Option Addr) (cy:Nat) (W:World) (h1:zq encI 1 W X x) (h2:zq encI 1 W Y x) (h3:x.length≤1000):Gv Tryz.prog 27 [.slice X x.length cx,.slice Y x.length cy] W (.bool true):=by
 have hs:=fun W' (hW:Below W.heap.size W W')=>(zI2 x x X Y cx cy W' (h1.below hW) (h2.below hW) (by omega) (by omega)).gv
 simp only [decide_true] at hs
 unfold Gv
 (refine zJ (n:=8) Tryz.func27 rfl rfl rfl ?_)
 (repeat' (first|((with_reducible refine zF ?_);first|refine zE rfl rfl rfl ?_|refine zC rfl rfl rfl ?_|refine zV rfl rfl rfl rfl (fun _ _ q=>hs _ q.below) ?_)|(with_reducible first|refine zH ?_|refine zB ?_|refine zD ?_|refine zA ?_|refine zX ?_)))
 all_goals exact zS (by exact rTm rfl) () trivial rfl (fun _ h=>h.sub (by (repeat constructor)))
def zFg (c:Cov):Bool:=!zCk c [] && decide (zAm c=0)
theorem zFf {c:Cov}:zFg c=true↔zCk c []=false∧zAm c=0:=by simp [zFg]
theorem zF6 {c:Cov} (h:zFg c=true) (hf:zEe c.t):Small c:=by
 obtain ⟨h1,_⟩:=zFf.1 h
 obtain ⟨k1,k2,k3,_,_⟩:=zFI h1
 exact ⟨hf,k1,k2,k3⟩
theorem zII (c:Cov) (A:Option Addr) (ca:Nat) (B:Option Addr) (cb:Nat) (C:Option Addr) (cc:Nat) (w:World) (hc:zAe w c A B C) (hf:zEe c.t):Gv Tryz.prog 16 [zAH c A ca B cb C cc] w (.bool (zFg c)):=by
 have hGr:=fun W (hW:Below w.heap.size w W)=>zKj c A ca B cb C cc [] none 0 W ⟨zq.nil,fun s hs=>by cases hs⟩ ⟨Nat.le_refl _,Nat.zero_le _⟩
 unfold zAH at hGr
 unfold Gv zAH zFg
 cases hgr:zCk c []
 ·rw [hgr] at hGr
  obtain ⟨k1,k2,k3,_,_⟩:=zFI hgr
  have hC:=fun W (hW:Below w.heap.size w W)=>zKi c A ca B cb C cc W (hc.below hW) ⟨hf,k1,k2,k3⟩
  unfold zAH at hC
  generalize zAm c=e at *
  unfold zM at hC hGr ⊢
  (refine zJ (n:=11) Tryz.func16 rfl rfl rfl ?_)
  (repeat' (first|((with_reducible refine zF ?_);first|refine zE rfl rfl rfl ?_|refine zC rfl rfl rfl ?_|(refine zK rfl rfl rfl ?_;refine ⟨_,rfl,?_⟩)|refine zAB rfl rfl rfl rfl ?_|(refine zQ rfl rfl rfl rfl rfl (fun h=>?_) (fun h=>?_)<;>(dsimp only [cmpP] at h;(try (exfalso;omega))))|refine zV rfl rfl rfl rfl (fun _ _ q=>hGr _ q.below) ?_|refine zV rfl rfl rfl rfl (fun _ _ q=>hC _ q.below) ?_|refine zAN rfl rfl rfl ?_|(refine zu rfl rfl rfl rfl (fun b=>?_)))|(with_reducible first|refine zH ?_|refine zB ?_|refine zD ?_|refine zA ?_|refine zX ?_)))
  all_goals exact zS (by exact rTm rfl) () trivial (by simp_all [resV]) (fun _ h=>h.sub (by (repeat constructor)))
 ·rw [hgr] at hGr
  unfold zM at hGr ⊢
  (refine zJ (n:=11) Tryz.func16 rfl rfl rfl ?_)
  (repeat' (first|((with_reducible refine zF ?_);first|refine zE rfl rfl rfl ?_|refine zC rfl rfl rfl ?_|(refine zK rfl rfl rfl ?_;refine ⟨_,rfl,?_⟩)|refine zAB rfl rfl rfl rfl ?_|refine zd rfl rfl rfl ?_|refine zV rfl rfl rfl rfl (fun _ _ q=>hGr _ q.below) ?_|refine zAN rfl rfl rfl ?_|(refine zu rfl rfl rfl rfl (fun b=>?_)))|(with_reducible first|refine zH ?_|refine zB ?_|refine zD ?_|refine zA ?_|refine zX ?_)))
  all_goals exact zS (by exact rTm rfl) () trivial rfl (fun _ h=>h.sub (by (repeat constructor)))
end Go.Proofs.YtdigopgncfhiaaaGreatDoor
namespace Go.Proofs.YtdigopgncfhiaaaGreatDoor
variable {ro : Option Nat}
open Go.RowKit
class Ctb (α:Type):Prop where ex:∃ f:Nat→α,∀ z,∃ n,f n=z
def zDR : Nat→Nat × Nat
 | 0=>(0,0)
 | n+1=>match zDR n with
  | (0,b)=>(b+1,0)
  | (a+1,b)=>(a,b+1)
theorem zGW : ∀ s b,b≤s→∃ n,zDR n=(s - b,b)
  | 0, b, h => ⟨0, by obtain rfl : b = 0 := by omega
                      rfl⟩
  | s+1,0,_=>by
    obtain ⟨n,hn⟩:=zGW s s (Nat.le_refl _)
    refine ⟨n+1,?_⟩
    simp only [zDR,hn,Nat.sub_self]
    rfl
  | s+1,b+1,h=>by
    obtain ⟨n,hn⟩:=zGW (s+1) b (by omega)
    refine ⟨n+1,?_⟩
    rw [show s+1 - b=(s - b)+1 by omega] at hn
    simp only [zDR,hn]
    rw [show s+1 - (b+1)=s - b by omega]
theorem zGX (p:Nat × Nat):∃ n,zDR n=p:=by
 obtain ⟨a,b⟩:=p
 obtain ⟨n,hn⟩:=zGW (a+b) b (by omega)
 exact ⟨n,by rw [hn,Nat.add_sub_cancel]⟩
instance : Ctb Nat:=⟨id,fun z=>⟨z,rfl⟩⟩
instance : Ctb Unit:=⟨fun _=>(),fun _=>⟨0,rfl⟩⟩
instance ctb_prod {α β:Type} [i:Ctb α] [j:Ctb β]:Ctb (α × β):=by
 obtain ⟨f,hf⟩:=i.ex
 obtain ⟨g,hg⟩:=j.ex
 refine ⟨fun n=>(f (zDR n).1,g (zDR n).2),fun z=>?_⟩
 obtain ⟨a,ha⟩:=hf z.1
 obtain ⟨b,hb⟩:=hg z.2
 obtain ⟨n,hn⟩:=zGX (a,b)
 exact ⟨n,by simp only [hn,ha,hb]⟩
instance ctb_opt {α:Type} [i:Ctb α]:Ctb (Option α):=by
 obtain ⟨f,hf⟩:=i.ex
 refine ⟨fun n=>match n with | 0=>none|n+1=>some (f n),fun z=>?_⟩
 cases z with
 | none=>exact ⟨0,rfl⟩
 | some a=>obtain ⟨n,hn⟩:=hf a;exact ⟨n+1,by simp only [hn]⟩
theorem zM5 {α β:Type} (h:α→β) (hs:∀ z,∃ x,h x=z) [i:Ctb α]:Ctb β:=by
 obtain ⟨f,hf⟩:=i.ex
 refine ⟨fun n=>h (f n),fun z=>?_⟩
 obtain ⟨x,rfl⟩:=hs z
 obtain ⟨n,rfl⟩:=hf x
 exact ⟨n,rfl⟩
instance : Ctb Int:=zM5 (α:=Nat × Nat) (fun p=>(p.1:Int) - p.2) fun z=>⟨(z.toNat,(-z).toNat),by simp only;omega⟩
instance : Ctb Addr:=zM5 (α:=Nat × Nat × Option Nat) (fun p=>⟨p.1,p.2.1,p.2.2⟩) fun z=>⟨(z.block,z.off,z.spot),rfl⟩
instance ctb_list {α:Type} [i:Ctb α]:Ctb (List α):=by
 obtain ⟨f,hf⟩:=i.ex
 have key:∀ l:List α,∃ n,(fun n=>(Nat.rec (fun _=>[]) (fun _ g c=>f (zDR c).1::g (zDR c).2) (zDR n).1:Nat→List α) (zDR n).2) n=l:=by
  have h2:∀ l:List α,∃ c,(Nat.rec (fun _=>[]) (fun _ g c=>f (zDR c).1::g (zDR c).2) l.length:Nat→List α) c=l:=by
   intro l
   induction l with
   | nil=>exact ⟨0,rfl⟩
   | cons x l ih =>
    obtain ⟨c,hc⟩:=ih
    obtain ⟨n,hn⟩:=hf x
    obtain ⟨m,hm⟩:=zGX (n,c)
    refine ⟨m,?_⟩
    show f (zDR m).1::_=_
    rw [hm,hn]
    exact congrArg _ hc
  intro l
  obtain ⟨c,hc⟩:=h2 l
  obtain ⟨n,hn⟩:=zGX (l.length,c)
  exact ⟨n,by simp only [hn];exact hc⟩
 exact ⟨_,key⟩
end Go.Proofs.YtdigopgncfhiaaaGreatDoor
