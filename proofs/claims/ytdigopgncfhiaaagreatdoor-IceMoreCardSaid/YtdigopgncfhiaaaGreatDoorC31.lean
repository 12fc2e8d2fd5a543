/- C31 -/
import Derived.Test.YtdigopgncfhiaaaGreatDoorC30
import Derived.Test.YtdigopgncfhiaaaGreatDoorC29
import Derived.Test.YtdigopgncfhiaaaGreatDoorC10
set_option linter.unusedSimpArgs false
set_option linter.unusedVariables false
namespace Go.Proofs.YtdigopgncfhiaaaGreatDoor
variable {ro : Option Nat}
open Go.RowKit
set_option maxRecDepth 20000
theorem zN1 {base:Nat} {w:World} {H H':List Ent} {pl:List Sli} {s:Sli} (h:Own base w H) (ht:Take H (.rows pl) H') (hm:s∈pl):zAB encI 1 w s.A s.xs:=(h.here _ ht.mem:∀ s∈pl,zAB encI 1 w s.A s.xs) s hm
theorem zK4 {w0:World} {n:Nat} {d:List Deferred} {R:List (Nat × Value)} {H:List Ent} {o:Oper} {x y:Operand} {a b:Int} {T':TypeId} (hop:o.op = .binOp .neq 28 x y T') (hx:evR R x=some (.agg #[.int .i64 a,.int .i64 b])) (hy:evR R y=some (.agg #[.int .i64 a,.int .i64 b])):Ev Tryz.prog w0 n d R H o (.bool false):=fun k w q=>by
 have e:=zPI a b a b w
 rw [show zFm ⟨a,b⟩ ⟨a,b⟩=true from zIJ.2 ⟨rfl,rfl⟩] at e
 have g:=gd_sp .neq x y #[.int .i64 a,.int .i64 b] #[.int .i64 a,.int .i64 b] w
 unfold execOp;rw [hop]
 simp only [Sem.run_bind,q.ev hx,q.ev hy,g,Result.andThen_ok,e,Sem.run_pure]
 rfl
theorem lossT_at {c:Cov} (h:zAr c=0) {i k:Nat} (hi:i<c.beds.length) (hk:k<c.hours.length):zL9 c (i:Int) (k:Int)=(zBF c (c.beds.getD i default) (c.hours.getD k default),0):=by
 unfold zL9
 rw [if_pos h,if_pos (by rw [zAA,zAA];omega)]
 rfl
theorem zFQ {c:Cov} {pl:List Sli} (h:zCG c pl=0) {i k:Nat} (hi:i<c.beds.length) (hk:k≤c.hours.length):zDB c pl (i:Int) (k:Int)=(thickN c pl (c.beds.getD i default) i k,0):=by
 unfold zDB
 rw [if_pos h,if_pos (by rw [zAA,zAA];omega)]
 rfl
theorem fact_use {base:Nat} {w:World} {H H':List Ent} {q:Prop} (h:Own base w H) (ht:Take H (.fact q) H'):q:=h.here _ ht.mem
end Go.Proofs.YtdigopgncfhiaaaGreatDoor
namespace Go.Proofs.YtdigopgncfhiaaaGreatDoor.Two
variable {ro : Option Nat}
open Go.RowKit
set_option maxRecDepth 20000
theorem zPV {A:Option Addr} {c s:Nat}:zJI A c 0 s=A:=by
 unfold zJI
 split
 ·rfl
 ·cases A with
  | none=>rfl
  | some a=>simp [Addr.add]
theorem zOu {P:Program} {w0:World} {n:Nat} {d:List Deferred} {R:List (Nat × Value)} {H:List Ent} {o:Oper} {x:Operand} {T1 e:TypeId} {td:TypeDesc} {s s' m c:Nat} {g g':Bool} {A:Option Addr} {hi:Option Operand} {u:Int} (M:Nat) (hop:o.op = .slice T1 x none hi none) [i1:TyI P T1 (.slice e) s g] [i2:TyI P e td s' g'] (hx:evR R x=some (.slice A m c)) (hu:bnd R hi m=some u) (hM:u=(M:Int)) (h2:M≤c):Ev P w0 n d R H o (.slice A M c):=by
 have h:=zHA (P:=P) (w0:=w0) (n:=n) (d:=d) (H:=H) (l:=0) 0 M hop hx rfl hu rfl hM (Nat.zero_le _) h2
 rw [zPV] at h
 exact h
end Go.Proofs.YtdigopgncfhiaaaGreatDoor.Two
