/- B29 -/
import Derived.Test.YtdigopgncfhiaaaGreatDoorB5
import Derived.Test.YtdigopgncfhiaaaGreatDoorB14
import Derived.Test.YtdigopgncfhiaaaGreatDoorB11
import Derived.Test.YtdigopgncfhiaaaGreatDoorB1
import Derived.Test.YtdigopgncfhiaaaGreatDoorB8
import Derived.Test.YtdigopgncfhiaaaGreatDoorB28
import Derived.Test.YtdigopgncfhiaaaGreatDoorB26
import Derived.Test.YtdigopgncfhiaaaGreatDoorB10
set_option linter.unusedSimpArgs false
set_option linter.unusedVariables false
namespace Go.Proofs.YtdigopgncfhiaaaGreatDoor
variable {ro : Option Nat}
open Go.RowKit
set_option maxRecDepth 20000
theorem zIO {P:Program} {w:World} (t u ty e:TypeId) (i:TypeInfo) (z:Value) (ht:P.underlying t=some (.slice e)) (hu:P.underlying u=some (.int .i64)) (hi:P.info? e=some i) (hz:i.zero=some z)
  (n:Nat) (h0:0<n) (h63:(n:Int)≤1000000) (hb:i.bytes≤1000000) (hs:0<i.size) :
  (Builtin.append_ #[t,u] ty #[.slice none 0 0,.int .i64 n]).run P w =
   .ok (.slice (some ⟨w.heap.size,0,none⟩) n (grownCap w n 0 e)) (w.drew.alloc (.cells (Builtin.zeroCells z.cells n++Builtin.zeroCells z.cells (grownCap w n 0 e - n)) e)):=by
 have hn:n≠0:=by omega
 have hw:IntKind.i64.wrap (n:Int)=n:=IntWalk.i64_in _ zRU
 have h63':¬ (9223372036854775807<(n:Int)):=by omega
 have h49:n * i.bytes≤1000000 * 1000000:=Nat.mul_le_mul zRU hb
 have h48':¬ (281474976710656<Builtin.nextslicecap n 0 * i.bytes):=by rw [nextslicecap_zero h0];omega
 have h50:¬ ((281474976710656:Int)<(n:Int) * (i.bytes:Int)):=by
  have:((n * i.bytes:Nat):Int)≤((1000000 * 1000000:Nat):Int):=by exact_mod_cast h49
  rw [Int.natCast_mul] at this;omega
 have h51:¬ ((n:Int)<0):=by omega
 have h52:¬ n * i.size=0:=by
  intro h;rcases Nat.mul_eq_zero.1 h with h|h<;>omega
 have h53:¬ i.size=0:=by omega
 simp [Builtin.append_,run_underlying ht,run_underlying hu,sizeOf,typeInfo,zeroValue,hi,hz,Builtin.lenOf,Builtin.firstCells,hn,h63',h48',Question.forced,newRow,grownCap,asInt,asIntOf,hw,h50,h51,h52,h53]
section
variable {P : Program} {w0:World} {n:Nat} {d:List Deferred} {R:List (Nat × Value)} {H:List Ent} {Q:Exit→Act→World→Prop} {ops:Array Oper} {rest:List Oper} {o:Oper} {t:Tmp} {x y:Operand}
theorem zQH {α:Type} (enc:α→List Value) {k e T1 U1 bytes s m:Nat} {g:Bool} [el:ElI P T1 e k bytes] [tu:TyI P U1 (.int .i64) s g] (hop:o.op = .call { callee:=.builtin .append,args:=#[x,y],argTypes:=#[T1,U1] }) (hw:want R ops o=some true) (hd:o.dst=some t) (ht:Nat.blt t n=true)
  (hx:evR R x=some (.slice none 0 0)) (hy:evR R y=some (.int .i64 (m:Int))) (h0:0<m) (hm:m≤1000000∧bytes≤1000000)
  (h:∀ b c',m≤c'→U w0 n d ((t,.slice (some ⟨b,0,none⟩) m c')::R) (.row enc k e (.slice (some ⟨b,0,none⟩) 0 c') ([]:List α)::H) (wpL ro P ops Q rest)):U w0 n d R H (wpL ro P ops Q (o::rest)) :=
 zEc hw fun a w q K hK=>by
  obtain ⟨z,hE⟩:=el.el
  obtain ⟨i,i1,i2,i3,i4⟩:=hE.info
  have hp:=hE.pos
  have key:=zIO (P:=P) (w:=w) T1 U1 o.type e i z hE.under tu.und i1 i2 m h0 zRU zRU zRU
  unfold Oper.wp execOp
  simp only [hop,resolve,invoke,builtin,Sem.run_bind,Sem.run_pure,Result.andThen_ok,List.map_toArray,List.map_cons,List.map_nil,q.ev hx,q.ev hy,key,Oper.upon_value,hd]
  have hge:=grownCap_ge w m 0 e
  refine hK _ _ (h w.heap.size _ hge _ _ (Kn.put (q.call (E:=[.row enc k e (.slice (some ⟨w.heap.size,0,none⟩) 0 (grownCap w m 0 e)) ([]:List α)]) ?_ ⟨?_,?_,by simp⟩) ht))
  ·exact ⟨rfl,rfl,rfl,by simp,fun k hk=>Below.heap_alloc _ _ _ hk⟩
  ·intro f hf
   simp only [List.mem_singleton] at hf
   subst hf
   refine (?_:World.ownsRow _ 0 e k (.slice (some ⟨w.heap.size,0,none⟩) 0 (grownCap w m 0 e)) 0 [])
   refine ⟨by simp,.inr ⟨w.heap.size,_,_,rfl,Nat.zero_le _,heap_alloc_new w.drew _,Nat.zero_le _,grownCap_le_maxLen w m 0 e (by unfold maxLen;omega),?_,by simp⟩⟩
   simp only [Array.size_append,size_zeroCells,hE.zs,← Nat.add_mul]
   congr 1
   omega
  ·intro f hf b hb
   simp only [List.mem_singleton] at hf
   subst hf
   cases hb
   simp
theorem zQB {T1 e:TypeId} {td:TypeDesc} {s s' m c:Nat} {g g':Bool} {A:Option Addr} {hi:Option Operand} {u:Int} (M:Nat) (hop:o.op = .slice T1 x none hi none) [i1:TyI P T1 (.slice e) s g] [i2:TyI P e td s' g'] (hw:want R ops o=some true) (hd:o.dst=some t) (ht:Nat.blt t n=true) (hx:evR R x=some (.slice A m c))
  (hu:bnd R hi m=some u) (hM:u=(M:Int)) (h2:M≤c) (hA:A.map (·.add 0)=A)
  (h:U w0 n d ((t,.slice A M c)::R) H (wpL ro P ops Q rest)):U w0 n d R H (wpL ro P ops Q (o::rest)):=by
 subst hM
 refine zAb (v:=.slice A M c) hw hd ht (fun a w q=>?_) h
 unfold execOp;rw [hop]
 have e1:=run_underlying i1.und w
 have e2:=i2.siz w
 have b1:∀ (r:Nat) (code:BoundsCode) (z:Nat),z≤r→∀ k,(Instr.sliceBound (.int k (z:Int)) r code).run P w = .ok z w:=fun r code z hz k=>by
  simp [Instr.sliceBound,asIntOf,hz]
 have hhi:(∃ k,hi.map a.eval=some (.int k (M:Int)))∨(hi=none∧M=m):=by
  cases hi with
  | none=>simp only [bnd,Option.some.injEq] at hu;exact .inr ⟨rfl,by omega⟩
  | some y =>
   simp only [bnd] at hu
   cases hy:evR R y with
   | none=>rw [hy] at hu;simp at hu
   | some v =>
    rw [hy] at hu
    cases v<;>simp at hu
    rename_i k i
    subst hu
    exact .inl ⟨k,by simp [q.ev hy]⟩
 have hA':∀ z:Nat,z=0→A.map (·.add z)=A:=fun z hz=>by rw [hz];exact hA
 rcases hhi with ⟨k2,hhi⟩ | ⟨hhi,rfl⟩ <;>
  simp [Instr.sliceAt,Instr.slice,e1,e2,q.ev hx,Instr.sliceBounds,hhi,b1,h2,hA]
end
end Go.Proofs.YtdigopgncfhiaaaGreatDoor
namespace Go.Proofs.YtdigopgncfhiaaaGreatDoor
open Go.RowKit
set_option maxRecDepth 20000
set_option maxHeartbeats 1000000 in
theorem zQx (m:Nat) (w:World) (hm:m≤1000):Ret Tryz.prog 111 [.slice none 0 0,.int .i64 (m:Int)] w (fun v:Value=>v) (fun v=>[.row encI 1 3 v ([]:List Int)]) (fun _=>True):=by
 by_cases h0:0<m
 ·(refine zM (n:=27) Tryz.func111 rfl rfl rfl ?_)
  (repeat' (first|((with_reducible refine zG ?_);first|refine zE rfl rfl rfl rfl rfl ?_|refine zC rfl rfl rfl rfl rfl ?_|(refine zQ rfl rfl rfl rfl rfl rfl rfl (fun h=>?_) (fun h=>?_)<;>(dsimp only [cmpP] at h;(try (exfalso;omega))))|refine zQB 0 rfl rfl rfl rfl rfl zRe rfl zRU (by first|exact rfl|simp [Addr.add]) ?_|(refine zQH encI (m:=m) rfl rfl rfl rfl rfl (by rw [show (m:Int)=(m:Int) - (((0:Nat):Int) - ((0:Nat):Int)) by omega];exact rfl) h0 zRU (fun b c' hc=>?_))|refine zCc rfl rfl rfl rfl rfl rfl (IntWalk.i64_in _ zRU) ?_|refine zp rfl rfl rfl rfl rfl ?_|refine u_cap rfl rfl rfl rfl rfl ?_)|(with_reducible first|refine zI ?_|refine zB ?_|refine zD ?_|refine zA ?_|refine za ?_|refine zP ?_|refine zb ?_|refine zDH ?_)|((with_reducible refine zJ ?_ ?_);(· exact rfl))|((with_reducible refine zF ?_ ?_);(· exact rfl))))
  exact zU zRZ _ trivial rfl (fun _ h=>h.sub zRQ)
 ·obtain rfl:m=0:=by omega
  (refine zM (n:=27) Tryz.func111 rfl rfl rfl ?_)
  (repeat' (first|((with_reducible refine zG ?_);first|refine zE rfl rfl rfl rfl rfl ?_|refine zC rfl rfl rfl rfl rfl ?_|(refine zQ rfl rfl rfl rfl rfl rfl rfl (fun h=>?_) (fun h=>?_)<;>(dsimp only [cmpP] at h;(try (exfalso;omega))))|refine zCc rfl rfl rfl rfl rfl rfl (IntWalk.i64_in _ zRU) ?_|refine zp rfl rfl rfl rfl rfl ?_|refine u_cap rfl rfl rfl rfl rfl ?_)|(with_reducible first|refine zI ?_|refine zB ?_|refine zD ?_|refine zA ?_|refine za ?_|refine zP ?_|refine zb ?_|refine zDH ?_)|((with_reducible refine zJ ?_ ?_);(· exact rfl))|((with_reducible refine zF ?_ ?_);(· exact rfl))))
  refine zCE encI 1 3 ?_
  exact zU zRZ (.slice none 0 0) trivial rfl (fun _ h=>h.sub zRQ)
def zEa (pl:List Sli) (k:Nat):List Int:=(pl.take k).flatMap Sli.xs
theorem zIj {pl:List Sli} {k:Nat} {s:Sli} (h:pl[k]?=some s):zEa pl (k+1)=zEa pl k++s.xs:=by
 unfold zEa
 rw [List.take_add_one,h,List.flatMap_append]
 simp
theorem zKb {pl:List Sli} (h:∀ s∈pl,s.xs.length≤20):∀ k,k≤pl.length→(zEa pl k).length≤k * 20
 | 0,_=>by simp [zEa]
 | k+1,hk=>by
  obtain ⟨s,hs⟩:∃ s,pl[k]?=some s:=⟨_,List.getElem?_eq_getElem zRU⟩
  rw [zIj hs,List.length_append]
  have:=zKb h k zRU
  have:=h s (List.mem_of_getElem? hs)
  omega
set_option maxHeartbeats 2000000 in
theorem zOM (pl:List Sli) (P:Option Addr) (cp:Nat) (w:World) (hp:zBA w P pl) (hl:pl.length≤12) (hrl:∀ s∈pl,s.xs.length≤20) :
  zDV encI 1 (pl.flatMap Sli.xs) (fun v=>v) Tryz.prog 69 [.slice P pl.length cp] w:=by
 have hpp:=hp.p
 have hcl:=zKb hrl
 have hall:zEa pl pl.length=pl.flatMap Sli.xs:=by unfold zEa;rw [List.take_length]
 rw [← hall]
 unfold zDV
 (refine zM (n:=36) Tryz.func69 rfl rfl rfl ?_)
 (repeat' (first|((with_reducible refine zG ?_);first|refine zE rfl rfl rfl rfl rfl ?_|refine zC rfl rfl rfl rfl rfl ?_|(refine zK rfl rfl rfl rfl rfl ?_;refine ⟨_,rfl,?_⟩)|(refine zQ rfl rfl rfl rfl rfl rfl rfl (fun h=>?_) (fun h=>?_)<;>(dsimp only [cmpP] at h;(try (exfalso;omega))))|refine zg rfl rfl rfl rfl rfl rfl zRU ?_|refine zCX rfl rfl rfl rfl rfl rfl (IntWalk.i64_in _ zRU) ?_|refine ze rfl rfl rfl rfl rfl rfl rfl zRU ?_|refine zB7 rfl rfl rfl rfl rfl rfl rfl zRq ?_|refine zp rfl rfl rfl rfl rfl ?_)|(with_reducible first|refine zI ?_|refine zB ?_|refine zD ?_|refine zA ?_|refine za ?_|refine zP ?_|refine zb ?_|refine zDH ?_|refine zN ?_|refine zk ?_|refine zi ?_|refine zAv ?_|refine zR ?_|refine zY ?_)|((with_reducible refine zA6 ?_ ?_);(· exact rfl))|((with_reducible refine zJ ?_ ?_);(· exact rfl))|((with_reducible refine zF ?_ ?_);(· exact rfl))))
 refine zq (ι:=Nat) [0,9,10] rfl (fun k=>k≤pl.length) (fun k=>[(11,.int .i64 (k:Int)),(3,.int .i64 ((zEa pl k).length:Int))]) (fun _=>[]) (fun k=>pl.length - k) 0 (Nat.zero_le _) zRS zRQ ?_
 rintro k hk
 simp only [zAn,List.cons_append,List.nil_append]
 have hck:=hcl k hk
 by_cases hlt:k<pl.length
 ·obtain ⟨s,hsk⟩:∃ s,pl[k]?=some s:=⟨_,List.getElem?_eq_getElem hlt⟩
  have hsl:=hrl s (List.mem_of_getElem? hsk)
  obtain ⟨bb,o,rfl,hblt,hc⟩:=hpp.at_ hlt
  have:InS w bb o zAA 1 pl:=⟨hpp⟩
  have:zAP pl k s:=⟨hsk⟩
  have hcs:((zEa pl (k+1)).length:Int)=((zEa pl k).length:Int)+(s.xs.length:Int):=by rw [zIj hsk,List.length_append];omega
  (repeat' (first|((with_reducible refine zG ?_);first|refine zE rfl rfl rfl rfl rfl ?_|refine zC rfl rfl rfl rfl rfl ?_|(refine zK rfl rfl rfl rfl rfl ?_;refine ⟨_,rfl,?_⟩)|(refine zQ rfl rfl rfl rfl rfl rfl rfl (fun h=>?_) (fun h=>?_)<;>(dsimp only [cmpP] at h;(try (exfalso;omega))))|refine zg rfl rfl rfl rfl rfl rfl zRU ?_|refine zCX rfl rfl rfl rfl rfl rfl (IntWalk.i64_in _ zRU) ?_|refine ze rfl rfl rfl rfl rfl rfl rfl zRU ?_|refine zB7 rfl rfl rfl rfl rfl rfl rfl zRq ?_|refine zp rfl rfl rfl rfl rfl ?_)|(with_reducible first|refine zI ?_|refine zB ?_|refine zD ?_|refine zA ?_|refine za ?_|refine zP ?_|refine zb ?_|refine zDH ?_|refine zN ?_|refine zk ?_|refine zi ?_|refine zAv ?_|refine zR ?_|refine zY ?_)|((with_reducible refine zA6 ?_ ?_);(· exact rfl))|((with_reducible refine zJ ?_ ?_);(· exact rfl))|((with_reducible refine zF ?_ ?_);(· exact rfl))))
  all_goals exact zc (k+1) zRU zRU (by simp only [hcs];(first|exact lK1|(repeat (first|exact lK1|(refine zL rfl ?_))))) zRQ
 ·obtain rfl:k=pl.length:=by omega
  have hg:=fun W=>zQx (zEa pl pl.length).length W zRU
  (repeat' (first|((with_reducible refine zG ?_);first|refine zE rfl rfl rfl rfl rfl ?_|refine zC rfl rfl rfl rfl rfl ?_|(refine zK rfl rfl rfl rfl rfl ?_;refine ⟨_,rfl,?_⟩)|(refine zQ rfl rfl rfl rfl rfl rfl rfl (fun h=>?_) (fun h=>?_)<;>(dsimp only [cmpP] at h;(try (exfalso;omega))))|(refine zAV rfl rfl rfl rfl rfl rfl (fun _ w _=>hg w) ?_;rintro v9 -;dsimp only [List.cons_append,List.nil_append])|refine zg rfl rfl rfl rfl rfl rfl zRU ?_|refine zCX rfl rfl rfl rfl rfl rfl (IntWalk.i64_in _ zRU) ?_|refine ze rfl rfl rfl rfl rfl rfl rfl zRU ?_|refine zB7 rfl rfl rfl rfl rfl rfl rfl zRq ?_|refine zp rfl rfl rfl rfl rfl ?_)|(with_reducible first|refine zI ?_|refine zB ?_|refine zD ?_|refine zA ?_|refine za ?_|refine zP ?_|refine zb ?_|refine zDH ?_|refine zN ?_|refine zk ?_|refine zi ?_|refine zAv ?_|refine zR ?_|refine zY ?_)|((with_reducible refine zA6 ?_ ?_);(· exact rfl))|((with_reducible refine zJ ?_ ?_);(· exact rfl))|((with_reducible refine zF ?_ ?_);(· exact rfl))))
  refine zq (ι:=Nat × Value) [25,26] rfl (fun q=>q.1≤pl.length) (fun q=>[(27,.int .i64 (q.1:Int)),(6,q.2)]) (fun q=>[.row encI 1 3 q.2 (zEa pl q.1)]) (fun q=>pl.length - q.1) (0,v9) (Nat.zero_le _) zRS zRQ ?_
  rintro ⟨k,v⟩ hk
  simp only at hk
  simp only [zAn,List.cons_append,List.nil_append]
  have hck:=hcl k hk
  by_cases hlt:k<pl.length
  ·obtain ⟨s,hsk⟩:∃ s,pl[k]?=some s:=⟨_,List.getElem?_eq_getElem hlt⟩
   have hsm:=List.mem_of_getElem? hsk
   have hsl:=hrl s hsm
   have hrow:=hp.rows s hsm
   obtain ⟨bb,o,rfl,hblt,hc⟩:=hpp.at_ hlt
   have:InS w bb o zAA 1 pl:=⟨hpp⟩
   obtain ⟨sA,xs,sc⟩:=s
   have:zAP pl k ⟨sA,xs,sc⟩:=⟨hsk⟩
   have hcs:=zIj hsk
   simp only at hsl hrow hcs
   (repeat' (first|((with_reducible refine zG ?_);first|refine zE rfl rfl rfl rfl rfl ?_|refine zC rfl rfl rfl rfl rfl ?_|(refine zK rfl rfl rfl rfl rfl ?_;refine ⟨_,rfl,?_⟩)|(refine zQ rfl rfl rfl rfl rfl rfl rfl (fun h=>?_) (fun h=>?_)<;>(dsimp only [cmpP] at h;(try (exfalso;omega))))|(refine zAq (enc:=encI) xs rfl rfl rfl rfl rfl zRT rfl rfl (zEu hrow) zRc (fun A' c'=>?_))|refine zg rfl rfl rfl rfl rfl rfl zRU ?_|refine zCX rfl rfl rfl rfl rfl rfl (IntWalk.i64_in _ zRU) ?_|refine ze rfl rfl rfl rfl rfl rfl rfl zRU ?_|refine zB7 rfl rfl rfl rfl rfl rfl rfl zRq ?_|refine zp rfl rfl rfl rfl rfl ?_)|(with_reducible first|refine zI ?_|refine zB ?_|refine zD ?_|refine zA ?_|refine za ?_|refine zP ?_|refine zb ?_|refine zDH ?_|refine zN ?_|refine zk ?_|refine zi ?_|refine zAv ?_|refine zR ?_|refine zY ?_)|((with_reducible refine zA6 ?_ ?_);(· exact rfl))|((with_reducible refine zJ ?_ ?_);(· exact rfl))|((with_reducible refine zF ?_ ?_);(· exact rfl))))
   exact zc (k+1,.slice A' (zEa pl k++xs).length c') zRi zRi zRS (by simp only [hcs];(repeat (first|exact oK1 _|(refine oK2 zRT ?_))))
  ·obtain rfl:k=pl.length:=by omega
   refine zC4 zRT ?_
   rintro A9 c9 rfl
   (repeat' (first|((with_reducible refine zG ?_);first|refine zE rfl rfl rfl rfl rfl ?_|refine zC rfl rfl rfl rfl rfl ?_|(refine zK rfl rfl rfl rfl rfl ?_;refine ⟨_,rfl,?_⟩)|(refine zQ rfl rfl rfl rfl rfl rfl rfl (fun h=>?_) (fun h=>?_)<;>(dsimp only [cmpP] at h;(try (exfalso;omega))))|refine zg rfl rfl rfl rfl rfl rfl zRU ?_|refine zCX rfl rfl rfl rfl rfl rfl (IntWalk.i64_in _ zRU) ?_|refine ze rfl rfl rfl rfl rfl rfl rfl zRU ?_|refine zB7 rfl rfl rfl rfl rfl rfl rfl zRq ?_|refine zp rfl rfl rfl rfl rfl ?_)|(with_reducible first|refine zI ?_|refine zB ?_|refine zD ?_|refine zA ?_|refine za ?_|refine zP ?_|refine zb ?_|refine zDH ?_|refine zN ?_|refine zk ?_|refine zi ?_|refine zAv ?_|refine zR ?_|refine zY ?_)|((with_reducible refine zA6 ?_ ?_);(· exact rfl))|((with_reducible refine zJ ?_ ?_);(· exact rfl))|((with_reducible refine zF ?_ ?_);(· exact rfl))))
   exact zU zRZ (A9,c9) trivial rfl (fun _ h=>(h.zCK zRT).sub zRQ)
end Go.Proofs.YtdigopgncfhiaaaGreatDoor
namespace Go.Proofs.YtdigopgncfhiaaaGreatDoor
open Go.RowKit
set_option maxRecDepth 20000
def zDX (c:Cov) (x:Int):Sp:=(c.t.getD x.toNat default).long
def zDa (c:Cov) (w:Sp) (x:Int):Sp:=⟨w.lo+c.rate * (zDX c x).lo,w.hi+c.rate * (zDX c x).hi⟩
def zEs (c:Cov) (l:List Int):Sp:=l.foldl (zDa c) ⟨0,0⟩
def zC3 (c:Cov) (pl:List Sli):Sp:=if zCC c pl=0 then zEs c (zEa pl pl.length) else ⟨0,0⟩
theorem zOU {c:Cov} {l:List Int} {x:Int}:zEs c (l++[x])=zDa c (zEs c l) x:=by simp [zEs]
theorem zKV {c:Cov} (h:zAp c=0):valid c.t=true:=by
 unfold zAp at h
 cases hv:valid c.t with
 | true=>rfl
 | false=>rw [hv] at h;simp at h
theorem cat_in {c:Cov} {pl:List Sli} (hp:zA2 c pl=true) {x:Int} (hx:x∈zEa pl pl.length):∃ k:Nat,x=(k:Int)∧k<c.beds.length:=by
 unfold zEa at hx
 rw [List.take_length,List.mem_flatMap] at hx
 obtain ⟨s,hs,hx⟩:=hx
 obtain ⟨i,hi⟩:=List.mem_iff_getElem?.1 hs
 obtain ⟨hl,hr⟩:=zAj.1 hp
 have hil:=(List.getElem?_eq_some_iff.1 hi).1
 have:=hr i _ s (List.getElem?_eq_getElem (show i<c.hours.length by omega)) hi
 unfold zDL at this
 simp only [Bool.and_eq_true] at this
 exact zJ5 (List.all_eq_true.1 this.1.2 x hx)
theorem zJ9 {c:Cov} (hv:valid c.t=true) {k:Nat} (hk:k<c.t.length):1≤(zDX c k).lo∧(zDX c k).lo≤(zDX c k).hi∧(zDX c k).hi≤30000:=by
 have hz:c.t[k]?=some c.t[k]:=List.getElem?_eq_getElem hk
 have ho:=zG8 hv c.t[k] (List.getElem_mem hk)
 unfold zDX
 rw [Int.toNat_natCast,zAS hz]
 exact ⟨ho.l0,ho.l1,ho.l2⟩
theorem zRE {c:Cov} (hv:valid c.t=true) {k:Nat} (hk:k<c.t.length):zFT c.t (k:Int) ((k:Int)+1)=zDX c k:=by
 have hd:zFp c.t (k:Int) ((k:Int)+1)=true:=by unfold zFp;simp only [Bool.and_eq_true,zx];omega
 unfold zFT
 rw [hv,hd,Bool.and_true,if_pos rfl,Int.toNat_natCast,show ((k:Int)+1).toNat=k+1 by omega]
 unfold zo longs zDX
 have hz:c.t[k]?=some c.t[k]:=List.getElem?_eq_getElem hk
 rw [Int.toNat_natCast,zAS hz,List.extract_eq_take_drop,show k+1 - k=1 by omega,List.take_one,List.head?_drop,List.getElem?_map,hz]
 simp [zIp,zCB]
theorem zM3 {c:Cov} (hf:zBm c) (hv:valid c.t=true):∀ (l:List Int) (w:Sp) (m:Int),(∀ x∈l,∃ k:Nat,x=(k:Int)∧k<c.t.length)→0≤w.lo∧w.lo≤m∧0≤w.hi∧w.hi≤m→0≤(l.foldl (zDa c) w).lo∧(l.foldl (zDa c) w).lo≤m+3000000 * l.length∧0≤(l.foldl (zDa c) w).hi∧(l.foldl (zDa c) w).hi≤m+3000000 * l.length
 | [],w,m,_,h=>by simp only [List.foldl_nil,List.length_nil];omega
 | x::l,w,m,hx,h=>by
  obtain ⟨k,rfl,hk⟩:=hx x zRf
  have h1:=zJ9 hv hk
  have h2:=hf.rate
  simp only [zx] at h2
  have m1:=zGA (a:=c.rate) (b:=(zDX c k).lo) (A:=100) (B:=30000) zRU zRU zRU zRU
  have m2:=zGA (a:=c.rate) (b:=(zDX c k).hi) (A:=100) (B:=30000) zRU zRU zRU zRU
  have:=zM3 hf hv l (zDa c w k) (m+3000000) (fun y hy=>hx y (by simp [hy])) (by simp only [zDa];omega)
  simp only [List.foldl_cons,List.length_cons]
  omega
end Go.Proofs.YtdigopgncfhiaaaGreatDoor
namespace Go.Proofs.YtdigopgncfhiaaaGreatDoor
open Go.RowKit
set_option maxRecDepth 20000
set_option maxHeartbeats 4000000 in
theorem zO4 (c:Cov) (A:Option Addr) (ca:Nat) (B:Option Addr) (cb:Nat) (C:Option Addr) (cc:Nat) (pl:List Sli) (P:Option Addr) (cp:Nat) (w:World) (hc:zAl w c A B C) (hs:Small c) (hp:zBA w P pl) (hl:pl.length≤12) (hrl:∀ s∈pl,s.xs.length≤20) :
  Gv Tryz.prog 29 [zAQ c A ca B cb C cc,.slice P pl.length cp] w (.tuple #[vSp (zC3 c pl),.int .i64 (zCC c pl)]):=by
 have h1:=fun W (hb:Below w.heap.size w W)=>zFI c A ca B cb C cc pl P cp W (hc.below hb) hs (hp.below hb) hl hrl
 have h2:=fun W (hb:Below w.heap.size w W)=>zFH c A ca B cb C cc pl P cp W (hc.below hb) hs (hp.below hb) hl hrl
 unfold zAQ at h1 h2
 unfold Gv zAQ zC3 vSp
 by_cases h0:zCC c pl=0
 ·rw [if_pos h0,h0]
  obtain ⟨h00,hpl⟩:=zFQ h0
  have hf:=zAy h00
  have hv:=zKV h00
  have h2:=fun W hb=>h2 W hb h00 hpl
  have hC:=fun W (hb:Below w.heap.size w W)=>zOM pl P cp W (hp.below hb) hl hrl
  have hin:=fun x hx=>cat_in (c:=c) (pl:=pl) hpl (x:=x) hx
  have hlen:=zKb hrl pl.length (Nat.le_refl _)
  have hall:zEa pl pl.length=pl.flatMap Sli.xs:=by unfold zEa;rw [List.take_length]
  rw [← hall] at hC
  generalize zEa pl pl.length=L at *
  have hbt:=hf.beds
  have hrt:=hf.rate
  simp only [zx] at hrt
  have hDr:=fun W (hb:Below w.heap.size w W) (k:Nat) (hk:k<c.t.length)=>(drop_any c.t A ca (k:Int) (((k+1:Nat)):Int) W (hc.t.below hb) hs.fit (by have:=hs.t;omega)).gv
  unfold vT vSp at hDr
  unfold zH at h2 ⊢
  (refine zM (n:=60) Tryz.func29 rfl rfl rfl ?_)
  (repeat' (first|((with_reducible refine zG ?_);first|refine zE rfl rfl rfl rfl rfl ?_|refine zC rfl rfl rfl rfl rfl ?_|(refine zK rfl rfl rfl rfl rfl ?_;refine ⟨_,rfl,?_⟩)|refine zd rfl rfl rfl rfl rfl ?_|(refine zQ rfl rfl rfl rfl rfl rfl rfl (fun h=>?_) (fun h=>?_)<;>(dsimp only [cmpP] at h;(try (exfalso;omega))))|(refine zAV rfl rfl rfl rfl rfl rfl (fun _ _ q=>h2 _ q.below) ?_;rintro g -;dsimp only [List.cons_append,List.nil_append])|refine zCW rfl rfl rfl rfl rfl rfl (fun _ _ q=>hC _ q.below) (fun A' c'=>?_)|refine zj rfl rfl rfl rfl rfl rfl ?_|refine zg rfl rfl rfl rfl rfl rfl zRU ?_|refine zCX rfl rfl rfl rfl rfl rfl (IntWalk.i64_in _ zRU) ?_|refine zK8 rfl rfl rfl rfl rfl rfl (IntWalk.i64_in _ zRU) ?_|refine ze rfl rfl rfl rfl rfl rfl rfl zRU ?_|refine zB7 rfl rfl rfl rfl rfl rfl rfl zRq ?_|refine zp rfl rfl rfl rfl rfl ?_|(refine zf rfl rfl rfl rfl rfl ?_;refine And.intro rfl (And.intro zRY ⟨_,rfl,?_⟩))|(refine zr rfl rfl rfl rfl (fun b=>?_))|(refine zAI rfl rfl rfl rfl rfl rfl (fun b=>?_))|(refine zBC rfl rfl rfl rfl rfl ?_;refine ⟨_,rfl,?_⟩))|(with_reducible first|refine zI ?_|refine zB ?_|refine zD ?_|refine zA ?_|refine za ?_|refine zP ?_|refine zb ?_|refine zDH ?_|refine zN ?_|refine zk ?_|refine zi ?_|refine zAv ?_|refine zR ?_|refine zY ?_)|((with_reducible refine zA6 ?_ ?_);(· exact rfl))|((with_reducible refine zJ ?_ ?_);(· exact rfl))|((with_reducible refine zF ?_ ?_);(· exact rfl))))
  rename_i b2 b4
  refine zq (ι:=Nat) [2,4,8,25,26] rfl (fun k=>k≤L.length) (fun k=>[(27,.int .i64 (k:Int))]) (fun k=>[.blk b (zBX (zEs c (L.take k))),.sl encI 1 A' L,.blk b4 [.int .i64 0,.int .i64 0],.blk b2 (zH c A ca B cb C cc)]) (fun k=>L.length - k) 0 (Nat.zero_le _) zRS zRQ ?_
  rintro k hk
  simp only [zAn,zH,List.cons_append,List.nil_append]
  by_cases hlt:k<L.length
  ·obtain ⟨x,hx⟩:∃ x,L[k]?=some x:=⟨_,List.getElem?_eq_getElem hlt⟩
   obtain ⟨i,rfl,hi⟩:=hin x (List.mem_of_getElem? hx)
   have hD:=fun W hb=>hDr W hb i zRU
   have he:zFT c.t (i:Int) (((i+1:Nat)):Int)=zDX c i:=by rw [show (((i+1:Nat)):Int)=(i:Int)+1 by omega];exact zRE hv zRU
   rw [he] at hD
   have h4:=hs.b
   have hli:=zJ9 hv (show i<c.t.length by omega)
   have hwi:=zM3 hf hv (L.take k) ⟨0,0⟩ 0 (fun y hy=>by obtain ⟨j,e,hj⟩:=hin y (List.mem_of_mem_take hy);exact ⟨j,e,by omega⟩) zRi
   have hwl:(L.take k).length≤240:=by rw [List.length_take];omega
   have hw:zEs c (L.take (k+1))=zDa c (zEs c (L.take k)) i:=by rw [List.take_add_one,hx];exact zOU
   have hwe:(L.take k).foldl (zDa c) ⟨0,0⟩=zEs c (L.take k):=rfl
   rw [hwe] at hwi
   have m1:=zGA (a:=c.rate) (b:=(zDX c i).lo) (A:=100) (B:=30000) zRU zRU zRU zRU
   have m2:=zGA (a:=c.rate) (b:=(zDX c i).hi) (A:=100) (B:=30000) zRU zRU zRU zRU
   generalize zEs c (L.take k)=wk at *
   have:zAP L k (i:Int):=⟨hx⟩
   unfold zBX
   refine zE1 zRT zRU ?_
   rintro bl ol rfl
   (repeat' (first|((with_reducible refine zG ?_);first|refine zE rfl rfl rfl rfl rfl ?_|refine zC rfl rfl rfl rfl rfl ?_|(refine zK rfl rfl rfl rfl rfl ?_;refine ⟨_,rfl,?_⟩)|refine zd rfl rfl rfl rfl rfl ?_|(refine zQ rfl rfl rfl rfl rfl rfl rfl (fun h=>?_) (fun h=>?_)<;>(dsimp only [cmpP] at h;(try (exfalso;omega))))|refine zV rfl rfl rfl rfl rfl rfl (fun _ _ q=>hD _ q.below) ?_|refine zj rfl rfl rfl rfl rfl rfl ?_|refine zg rfl rfl rfl rfl rfl rfl zRU ?_|refine zCX rfl rfl rfl rfl rfl rfl (IntWalk.i64_in _ zRU) ?_|refine zK8 rfl rfl rfl rfl rfl rfl (IntWalk.i64_in _ zRU) ?_|refine ze rfl rfl rfl rfl rfl rfl rfl zRU ?_|refine zB7 rfl rfl rfl rfl rfl rfl rfl zRq ?_|refine zp rfl rfl rfl rfl rfl ?_|(refine zf rfl rfl rfl rfl rfl ?_;refine And.intro rfl (And.intro zRY ⟨_,rfl,?_⟩))|(refine zr rfl rfl rfl rfl (fun b=>?_))|(refine zAI rfl rfl rfl rfl rfl rfl (fun b=>?_))|(refine zBC rfl rfl rfl rfl rfl ?_;refine ⟨_,rfl,?_⟩))|(with_reducible first|refine zI ?_|refine zB ?_|refine zD ?_|refine zA ?_|refine za ?_|refine zP ?_|refine zb ?_|refine zDH ?_|refine zN ?_|refine zk ?_|refine zi ?_|refine zAv ?_|refine zR ?_|refine zY ?_)|((with_reducible refine zA6 ?_ ?_);(· exact rfl))|((with_reducible refine zJ ?_ ?_);(· exact rfl))|((with_reducible refine zF ?_ ?_);(· exact rfl))))
   exact zc (k+1) zRU zRU zRS (by simp only [hw,zDa];(repeat (first|exact oK1 _|(refine oK2 zRT ?_))))
  ·obtain rfl:k=L.length:=by omega
   rw [List.take_length]
   (repeat' (first|((with_reducible refine zG ?_);first|refine zE rfl rfl rfl rfl rfl ?_|refine zC rfl rfl rfl rfl rfl ?_|(refine zK rfl rfl rfl rfl rfl ?_;refine ⟨_,rfl,?_⟩)|refine zd rfl rfl rfl rfl rfl ?_|(refine zQ rfl rfl rfl rfl rfl rfl rfl (fun h=>?_) (fun h=>?_)<;>(dsimp only [cmpP] at h;(try (exfalso;omega))))|refine zj rfl rfl rfl rfl rfl rfl ?_|refine zg rfl rfl rfl rfl rfl rfl zRU ?_|refine zCX rfl rfl rfl rfl rfl rfl (IntWalk.i64_in _ zRU) ?_|refine zK8 rfl rfl rfl rfl rfl rfl (IntWalk.i64_in _ zRU) ?_|refine ze rfl rfl rfl rfl rfl rfl rfl zRU ?_|refine zB7 rfl rfl rfl rfl rfl rfl rfl zRq ?_|refine zp rfl rfl rfl rfl rfl ?_|(refine zf rfl rfl rfl rfl rfl ?_;refine And.intro rfl (And.intro zRY ⟨_,rfl,?_⟩))|(refine zr rfl rfl rfl rfl (fun b=>?_))|(refine zAI rfl rfl rfl rfl rfl rfl (fun b=>?_))|(refine zBC rfl rfl rfl rfl rfl ?_;refine ⟨_,rfl,?_⟩))|(with_reducible first|refine zI ?_|refine zB ?_|refine zD ?_|refine zA ?_|refine za ?_|refine zP ?_|refine zb ?_|refine zDH ?_|refine zN ?_|refine zk ?_|refine zi ?_|refine zAv ?_|refine zR ?_|refine zY ?_)|((with_reducible refine zA6 ?_ ?_);(· exact rfl))|((with_reducible refine zJ ?_ ?_);(· exact rfl))|((with_reducible refine zF ?_ ?_);(· exact rfl))))
   exact zU zRg () trivial rfl (fun _ _=>Own.nil _ _)
 ·rw [if_neg h0]
  unfold zH at h1 ⊢
  generalize zCC c pl=e at *
  (refine zM (n:=60) Tryz.func29 rfl rfl rfl ?_)
  (repeat' (first|((with_reducible refine zG ?_);first|refine zE rfl rfl rfl rfl rfl ?_|refine zC rfl rfl rfl rfl rfl ?_|(refine zK rfl rfl rfl rfl rfl ?_;refine ⟨_,rfl,?_⟩)|refine zd rfl rfl rfl rfl rfl ?_|(refine zQ rfl rfl rfl rfl rfl rfl rfl (fun h=>?_) (fun h=>?_)<;>(dsimp only [cmpP] at h;(try (exfalso;omega))))|refine zV rfl rfl rfl rfl rfl rfl (fun _ _ q=>h1 _ q.below h0) ?_|refine zj rfl rfl rfl rfl rfl rfl ?_|refine zg rfl rfl rfl rfl rfl rfl zRU ?_|refine zCX rfl rfl rfl rfl rfl rfl (IntWalk.i64_in _ zRU) ?_|refine zK8 rfl rfl rfl rfl rfl rfl (IntWalk.i64_in _ zRU) ?_|refine ze rfl rfl rfl rfl rfl rfl rfl zRU ?_|refine zB7 rfl rfl rfl rfl rfl rfl rfl zRq ?_|refine zp rfl rfl rfl rfl rfl ?_|(refine zf rfl rfl rfl rfl rfl ?_;refine And.intro rfl (And.intro zRY ⟨_,rfl,?_⟩))|(refine zr rfl rfl rfl rfl (fun b=>?_))|(refine zAI rfl rfl rfl rfl rfl rfl (fun b=>?_))|(refine zBC rfl rfl rfl rfl rfl ?_;refine ⟨_,rfl,?_⟩))|(with_reducible first|refine zI ?_|refine zB ?_|refine zD ?_|refine zA ?_|refine za ?_|refine zP ?_|refine zb ?_|refine zDH ?_|refine zN ?_|refine zk ?_|refine zi ?_|refine zAv ?_|refine zR ?_|refine zY ?_)|((with_reducible refine zA6 ?_ ?_);(· exact rfl))|((with_reducible refine zJ ?_ ?_);(· exact rfl))|((with_reducible refine zF ?_ ?_);(· exact rfl))))
  all_goals exact zU zRg () trivial rfl (fun _ _=>Own.nil _ _)
end Go.Proofs.YtdigopgncfhiaaaGreatDoor
namespace Go.Proofs.YtdigopgncfhiaaaGreatDoor
open Go.RowKit
set_option maxRecDepth 20000
theorem zNA {c:Cov} {pl pl':List Sli} (h:pl.map Sli.xs=pl'.map Sli.xs):zE3 c pl=zE3 c pl':=by unfold zE3;rw [zCj h,zEe h]
theorem zNM {c:Cov} {pl pl':List Sli} (h:pl.map Sli.xs=pl'.map Sli.xs):zBN c pl=zBN c pl':=by unfold zBN;rw [zCj h,zEe h,zEe h]
theorem zMB {c:Cov} {pl pl':List Sli} (h:pl.map Sli.xs=pl'.map Sli.xs):zC3 c pl=zC3 c pl':=by
 unfold zC3 zEa
 rw [zCj h,List.take_length,List.take_length,List.flatMap_def,List.flatMap_def,h]
end Go.Proofs.YtdigopgncfhiaaaGreatDoor
namespace Go.Proofs.YtdigopgncfhiaaaGreatDoor
open Go.RowKit
set_option maxRecDepth 20000
section
variable (c : Cov) (A:Option Addr) (ca:Nat) (B:Option Addr) (cb:Nat) (C:Option Addr) (cc:Nat) (xss:List (List Int)) (P:Option Addr) (cp:Nat) (w:World) (hc:zAl w c A B C) (hs:Small c) (hp:∃ pl:List Sli,pl.map Sli.xs=(zAC xss).map Sli.xs∧zBA w P pl) (hl:xss.length≤12) (hr:∀ r∈xss,r.length≤20)
include hc hs hp hl hr
theorem zMh (i h:Int):Gv Tryz.prog 23 [zAQ c A ca B cb C cc,.slice P xss.length cp,.int .i64 i,.int .i64 h] w (.tuple #[vSp (zEI c (zAC xss) i h).1,.int .i64 (zEI c (zAC xss) i h).2]):=by
 obtain ⟨pl,hx,hp⟩:=hp
 have:=zO6 c A ca B cb C cc pl P cp i h w hc hs hp (by rw [zDD hx];exact hl) (zFe hx hr)
 rw [zDD hx,zML hx] at this
 exact this
theorem zO5 (hG:InC w 0 0 zCS):Ret Tryz.prog 20 [zAQ c A ca B cb C cc,.slice P xss.length cp] w (fun p:Option Addr × Nat=>.tuple #[.slice p.1 (zE3 c (zAC xss)).length p.2,.int .i64 (zCC c (zAC xss))]) (fun p=>[.sl zAW 2 p.1 (zE3 c (zAC xss))]) (fun _=>True):=by
 obtain ⟨pl,hx,hp⟩:=hp
 have:=zQs c A ca B cb C cc pl P cp w hc hs hp (by rw [zDD hx];exact hl) (zFe hx hr) hG
 rw [zDD hx,zNA hx,zCj hx] at this
 exact this
theorem zFl (hG:InC w 0 0 zCS):Gv Tryz.prog 21 [zAQ c A ca B cb C cc,.slice P xss.length cp] w (.tuple #[.int .u8 (zBN c (zAC xss)),.int .i64 (zCC c (zAC xss))]):=by
 obtain ⟨pl,hx,hp⟩:=hp
 have:=zQt c A ca B cb C cc pl P cp w hc hs hp (by rw [zDD hx];exact hl) (zFe hx hr) hG
 rw [zDD hx,zNM hx,zCj hx] at this
 exact this
theorem iMostP (h:Int) (hG:InC w 0 0 zCS):Gv Tryz.prog 37 [zAQ c A ca B cb C cc,.slice P xss.length cp,.int .i64 h] w (.tuple #[.int .i64 (zHn c (zAC xss) h).1,.int .i64 (zHn c (zAC xss) h).2]):=by
 obtain ⟨pl,hx,hp⟩:=hp
 have:=zQu c A ca B cb C cc pl P cp h w hc hs hp (by rw [zDD hx];exact hl) (zFe hx hr) hG
 rw [zDD hx,zNl hx] at this
 exact this
theorem zMg : Gv Tryz.prog 29 [zAQ c A ca B cb C cc,.slice P xss.length cp] w (.tuple #[vSp (zC3 c (zAC xss)),.int .i64 (zCC c (zAC xss))]):=by
 obtain ⟨pl,hx,hp⟩:=hp
 have:=zO4 c A ca B cb C cc pl P cp w hc hs hp (by rw [zDD hx];exact hl) (zFe hx hr)
 rw [zDD hx,zMB hx,zCj hx] at this
 exact this
end
theorem zOY (xss:List (List Int)) (P:Option Addr) (cp:Nat) (P2:Option Addr) (cp2:Nat) (w:World) (hp:∃ pl:List Sli,pl.map Sli.xs=(zAC xss).map Sli.xs∧zBA w P pl) (hp2:∃ pl:List Sli,pl.map Sli.xs=(zAC xss).map Sli.xs∧zBA w P2 pl) (hl:xss.length≤1000) (hr:∀ r∈xss,r.length≤1000) :
  Gv Tryz.prog 53 [.slice P xss.length cp,.slice P2 xss.length cp2] w (.bool true):=by
 obtain ⟨pl,hx,hp⟩:=hp
 obtain ⟨pl2,hx2,hp2⟩:=hp2
 have:=zKt pl pl2 P cp P2 cp2 w hp hp2 (hx.trans hx2.symm) (by rw [zDD hx];exact hl) (zFe hx2 hr)
 rw [zDD hx,zDD hx2] at this
 exact this
theorem zMR (x:List Int) (X:Option Addr) (cx:Nat) (Y:Option Addr) (cy:Nat) (W:World) (h1:zAB encI 1 W X x) (h2:zAB encI 1 W Y x) (h3:x.length≤1000):Gv Tryz.prog 27 [.slice X x.length cx,.slice Y x.length cy] W (.bool true):=by
 have hs:=fun W' (hW:Below W.heap.size W W')=>(zLI x x X Y cx cy W' (h1.below hW) (h2.below hW) zRU zRU).gv
 simp only [decide_true] at hs
 unfold Gv
 (refine zM (n:=8) Tryz.func27 rfl rfl rfl ?_)
 (repeat' (first|((with_reducible refine zG ?_);first|refine zE rfl rfl rfl rfl rfl ?_|refine zC rfl rfl rfl rfl rfl ?_|refine zV rfl rfl rfl rfl rfl rfl (fun _ _ q=>hs _ q.below) ?_)|(with_reducible first|refine zI ?_|refine zB ?_|refine zD ?_|refine zA ?_|refine za ?_)))
 all_goals exact zU zRZ () trivial rfl (fun _ _=>Own.nil _ _)
def zDc (c:Cov):Bool:=!zDi c [] && decide (zAp c=0)
theorem zC5 {c:Cov}:zDc c=true↔zDi c []=false∧zAp c=0:=by simp [zDc]
theorem zCq {c:Cov} (h:zDc c=true) (hf:zFc c.t):Small c:=by
 obtain ⟨h1,_⟩:=zC5.1 h
 obtain ⟨k1,k2,k3,_,_⟩:=zGn h1
 exact ⟨hf,k1,k2,k3⟩
theorem zDg (c:Cov) (A:Option Addr) (ca:Nat) (B:Option Addr) (cb:Nat) (C:Option Addr) (cc:Nat) (w:World) (hc:zAl w c A B C) (hf:zFc c.t):Gv Tryz.prog 16 [zAQ c A ca B cb C cc] w (.bool (zDc c)):=by
 have hGr:=fun W (hW:Below w.heap.size w W)=>zNW c A ca B cb C cc [] none 0 W ⟨zAB.nil,fun s hs=>by cases hs⟩ ⟨Nat.le_refl _,Nat.zero_le _⟩
 unfold zAQ at hGr
 unfold Gv zAQ zDc
 cases hgr:zDi c []
 ·rw [hgr] at hGr
  obtain ⟨k1,k2,k3,_,_⟩:=zGn hgr
  have hC:=fun W (hW:Below w.heap.size w W)=>zNV c A ca B cb C cc W (hc.below hW) ⟨hf,k1,k2,k3⟩
  unfold zAQ at hC
  generalize zAp c=e at *
  unfold zH at hC hGr ⊢
  (refine zM (n:=11) Tryz.func16 rfl rfl rfl ?_)
  (repeat' (first|((with_reducible refine zG ?_);first|refine zE rfl rfl rfl rfl rfl ?_|refine zC rfl rfl rfl rfl rfl ?_|(refine zK rfl rfl rfl rfl rfl ?_;refine ⟨_,rfl,?_⟩)|refine zAg rfl rfl rfl rfl rfl rfl ?_|(refine zQ rfl rfl rfl rfl rfl rfl rfl (fun h=>?_) (fun h=>?_)<;>(dsimp only [cmpP] at h;(try (exfalso;omega))))|refine zV rfl rfl rfl rfl rfl rfl (fun _ _ q=>hGr _ q.below) ?_|refine zV rfl rfl rfl rfl rfl rfl (fun _ _ q=>hC _ q.below) ?_|refine zAf rfl rfl rfl rfl rfl ?_|(refine zAI rfl rfl rfl rfl rfl rfl (fun b=>?_)))|(with_reducible first|refine zI ?_|refine zB ?_|refine zD ?_|refine zA ?_|refine za ?_)))
  all_goals exact zU zRZ () trivial (by simp_all [resV]) (fun _ h=>h.sub zRQ)
 ·rw [hgr] at hGr
  unfold zH at hGr ⊢
  (refine zM (n:=11) Tryz.func16 rfl rfl rfl ?_)
  (repeat' (first|((with_reducible refine zG ?_);first|refine zE rfl rfl rfl rfl rfl ?_|refine zC rfl rfl rfl rfl rfl ?_|(refine zK rfl rfl rfl rfl rfl ?_;refine ⟨_,rfl,?_⟩)|refine zAg rfl rfl rfl rfl rfl rfl ?_|refine zAN rfl rfl rfl ?_|refine zV rfl rfl rfl rfl rfl rfl (fun _ _ q=>hGr _ q.below) ?_|refine zAf rfl rfl rfl rfl rfl ?_|(refine zAI rfl rfl rfl rfl rfl rfl (fun b=>?_)))|(with_reducible first|refine zI ?_|refine zB ?_|refine zD ?_|refine zA ?_|refine za ?_)))
  all_goals exact zU zRZ () trivial rfl (fun _ _=>Own.nil _ _)
end Go.Proofs.YtdigopgncfhiaaaGreatDoor
namespace Go.Proofs.YtdigopgncfhiaaaGreatDoor
variable {ro : Option Nat}
open Go.RowKit
class Ctb (α:Type):Prop where ex:∃ f:Nat→α,∀ z,∃ n,f n=z
def zEd : Nat→Nat × Nat
 | 0=>(0,0)
 | n+1=>match zEd n with
  | (0,b)=>(b+1,0)
  | (a+1,b)=>(a,b+1)
theorem zIC : ∀ s b,b≤s→∃ n,zEd n=(s - b,b)
  | 0, b, h => ⟨0, by obtain rfl : b = 0 := by omega
                      rfl⟩
  | s+1,0,_=>by
    obtain ⟨n,hn⟩:=zIC s s (Nat.le_refl _)
    refine ⟨n+1,?_⟩
    simp only [zEd,hn,Nat.sub_self]
    rfl
  | s+1,b+1,h=>by
    obtain ⟨n,hn⟩:=zIC (s+1) b zRU
    refine ⟨n+1,?_⟩
    rw [show s+1 - b=(s - b)+1 by omega] at hn
    simp only [zEd,hn]
    rw [show s+1 - (b+1)=s - b by omega]
theorem zID (p:Nat × Nat):∃ n,zEd n=p:=by
 obtain ⟨a,b⟩:=p
 obtain ⟨n,hn⟩:=zIC (a+b) b zRU
 exact ⟨n,by rw [hn,Nat.add_sub_cancel]⟩
instance : Ctb Nat:=⟨id,fun z=>⟨z,rfl⟩⟩
instance : Ctb Unit:=⟨fun _=>(),fun _=>⟨0,rfl⟩⟩
instance ctb_prod {α β:Type} [i:Ctb α] [j:Ctb β]:Ctb (α × β):=by
 obtain ⟨f,hf⟩:=i.ex
 obtain ⟨g,hg⟩:=j.ex
 refine ⟨fun n=>(f (zEd n).1,g (zEd n).2),fun z=>?_⟩
 obtain ⟨a,ha⟩:=hf z.1
 obtain ⟨b,hb⟩:=hg z.2
 obtain ⟨n,hn⟩:=zID (a,b)
 exact ⟨n,by simp only [hn,ha,hb]⟩
instance ctb_opt {α:Type} [i:Ctb α]:Ctb (Option α):=by
 obtain ⟨f,hf⟩:=i.ex
 refine ⟨fun n=>match n with | 0=>none|n+1=>some (f n),fun z=>?_⟩
 cases z with
 | none=>exact ⟨0,rfl⟩
 | some a=>obtain ⟨n,hn⟩:=hf a;exact ⟨n+1,by simp only [hn]⟩
theorem zMt {α β:Type} (h:α→β) (hs:∀ z,∃ x,h x=z) [i:Ctb α]:Ctb β:=by
 obtain ⟨f,hf⟩:=i.ex
 refine ⟨fun n=>h (f n),fun z=>?_⟩
 obtain ⟨x,rfl⟩:=hs z
 obtain ⟨n,rfl⟩:=hf x
 exact ⟨n,rfl⟩
instance : Ctb Int:=zMt (α:=Nat × Nat) (fun p=>(p.1:Int) - p.2) fun z=>⟨(z.toNat,(-z).toNat),by simp only;omega⟩
instance : Ctb Addr:=zMt (α:=Nat × Nat × Option Nat) (fun p=>⟨p.1,p.2.1,p.2.2⟩) fun z=>⟨(z.block,z.off,z.spot),rfl⟩
instance ctb_list {α:Type} [i:Ctb α]:Ctb (List α):=by
 obtain ⟨f,hf⟩:=i.ex
 have key:∀ l:List α,∃ n,(fun n=>(Nat.rec (fun _=>[]) (fun _ g c=>f (zEd c).1::g (zEd c).2) (zEd n).1:Nat→List α) (zEd n).2) n=l:=by
  have h2:∀ l:List α,∃ c,(Nat.rec (fun _=>[]) (fun _ g c=>f (zEd c).1::g (zEd c).2) l.length:Nat→List α) c=l:=by
   intro l
   induction l with
   | nil=>exact ⟨0,rfl⟩
   | cons x l ih =>
    obtain ⟨c,hc⟩:=ih
    obtain ⟨n,hn⟩:=hf x
    obtain ⟨m,hm⟩:=zID (n,c)
    refine ⟨m,?_⟩
    show f (zEd m).1::_=_
    rw [hm,hn]
    exact congrArg _ hc
  intro l
  obtain ⟨c,hc⟩:=h2 l
  obtain ⟨n,hn⟩:=zID (l.length,c)
  exact ⟨n,by simp only [hn];exact hc⟩
 exact ⟨_,key⟩
noncomputable def deC (α:Type) [i:Ctb α]:Nat→α:=i.ex.choose
theorem deC_any {α:Type} [i:Ctb α] (z:α):∃ n,deC α n=z:=i.ex.choose_spec z
def Ent.fact (q:Prop):Ent:=⟨fun _=>False,fun _=>q,fun _ _ _ _ h=>h⟩
theorem own_fact {base:Nat} {w:World} {H:List Ent} {q:Prop} (hq:q) (h:Own base w H):Own base w (.fact q::H) :=
 ⟨fun e he=>by
  rcases List.mem_cons.1 he with rfl|he
  ·exact hq
  ·exact h.here e he,fun e he b hb=>by
  rcases List.mem_cons.1 he with rfl|he
  ·cases hb
  ·exact h.foot e he b hb,List.pairwise_cons.2 ⟨(fun f _ b hb=>by cases hb),h.apart⟩⟩
theorem zMG {w0:World} {n:Nat} {d:List Deferred} {R:List (Nat × Value)} {H H':List Ent} {X:Act→World→Prop} {q:Prop} (ht:Take H (.fact q) H') (h:q→U w0 n d R H' X):U w0 n d R H X:=fun a w k=>h (k.own.here _ ht.mem) a w ⟨k.size,k.defers,k.regs,k.below,(k.own.take ht).tail⟩
theorem zKu {P:Program} {T:TypeId} {s:Nat} {g:Bool} [i1:TyI P T .bool s g] (a b:Bool) (w:World):(Op.equalIn Op.maxDepth T (.bool a) (.bool b)).run P w = .ok (a == b) w:=by
 show (Op.equalIn (9999+1) T (.bool a) (.bool b)).run P w=_
 have e:=run_underlying i1.und w
 unfold Op.equalIn
 simp [e]
theorem zOI {P:Program} {w0:World} {n:Nat} {d:List Deferred} {R:List (Nat × Value)} {H:List Ent} {o:Oper} {x y:Operand} {T T':TypeId} {s:Nat} {g:Bool} {a b:Bool} (hop:o.op = .binOp .neq T x y T') [i1:TyI P T .bool s g] (hx:evR R x=some (.bool a)) (hy:evR R y=some (.bool b)):Ev P w0 n d R H o (.bool (a != b)):=fun a' w q=>by
 have e:=zKu (P:=P) (T:=T) a b w
 unfold execOp;rw [hop]
 cases a<;>cases b<;>simp [q.ev hx,q.ev hy,eqGuard,binOp,Op.equal,e]
end Go.Proofs.YtdigopgncfhiaaaGreatDoor
namespace Go.Proofs.YtdigopgncfhiaaaGreatDoor.Two
variable {ro : Option Nat}
open Go.RowKit
section
variable {S : List (Nat × Nat)} {I:List (Nat × Nat × Nat × List Ent)} {P:Program} {w0:World} {n:Nat} {d:List Deferred} {R R0:List (Nat × Value)} {H H' H0:List Ent} {Q:Exit→Act→World→Prop} {ops:Array Oper} {bs:List (List Bool)} {b:List Bool} {k:Nat} {o:Oper} {rest:List Oper} {T:List Rw} {t:Tmp} {Hk:zBO→List Ent} {x y:Operand} {v:Value}
theorem zIk {α:Type} [Ctb α] {V:α→Value} {E:α→List Ent} {p:α→Prop} {f:FuncId} {fx:Operand} {xs:Array Operand} {ts:Array TypeId} {vs:zBO→List Value} {cap:Array Value} (hop:o.op = .call ⟨.value fx,xs,ts⟩) (hw:∀ G,want (Rk R0 ops b o T G) ops o=some true) (hd:o.dst=some t) (hf:∀ G,evR (Rk R0 ops b o T G) fx=some (.func (.func f) #[] cap)) (hx:∀ G,evs (Rk R0 ops b o T G) xs.toList=some (vs G)) [ci:zZ P f]
  (hc:∀ G a w,Kn w0 n d (Rk R0 ops b o T G) (Hk G) a w→Ret P f (vs G++cap.toList) w V E p) (h:zBo ro S I P w0 n d ops R0 H0 Q bs (k+1) rest (⟨k,some t,fun G=>(V (deC α (G k).g),.fact (p (deC α (G k).g))::E (deC α (G k).g))⟩::T)):CAt ro S I P w0 n d ops R0 H0 Q b bs k o rest T Hk:=by
 refine zFy (f:=fun G=>(V (deC α (G k).g),.fact (p (deC α (G k).g))::E (deC α (G k).g))) (fun G G' hG=>by simp only [hG k (.inl rfl)]) (fun G a w q K hK=>?_) zRt
 rw [zBs q (hw G),if_pos rfl]
 unfold Oper.wp execOp;rw [hop]
 have e1:xs.map a.eval=(vs G).toArray:=by apply Array.ext';simpa using q.evs (hx G)
 have e2:(vs G).toArray++cap=(vs G++cap.toList).toArray:=by apply Array.ext';simp
 simp only [resolve,q.ev (hf G),e1,Deferred.ofValue,Sem.run_bind,Sem.run_pure,Result.andThen_ok,invoke,Array.empty_append,e2,ci.ent,Oper.upon_enter]
 refine Calls.mono (hc G a w q).calls ?_
 rintro e w' ⟨z,hp,rfl,hb,hE⟩
 obtain ⟨m,hm⟩:=deC_any z
 exact hK _ _ _ ⟨⟨m,none,0⟩,by simp only [upW,if_true,hm]⟩ hb (own_fact hp hE)
end
end Go.Proofs.YtdigopgncfhiaaaGreatDoor.Two
