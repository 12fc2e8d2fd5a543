/- D11 -/
import Derived.Test.YtdigopgncfhiaaaGreatDoorD10
import Derived.Test.YtdigopgncfhiaaaGreatDoorD5
import Derived.Test.YtdigopgncfhiaaaGreatDoorD9
set_option linter.unusedSimpArgs false
set_option linter.unusedVariables false
namespace Go.Proofs.YtdigopgncfhiaaaGreatDoor.Two
variable {ro : Option Nat}
open Go.RowKit
set_option maxRecDepth 20000
section
variable {S : List (Nat × Nat)} {I : List (Nat × Nat × Nat × List Ent)} {P : Program} {w0 : World} {n : Nat} {d : List Deferred} {R R0 : List (Nat × Value)} {H H' H0 : List Ent} {Q : Exit → Act → World → Prop} {ops : Array Oper} {bs : List (List Bool)} {b : List Bool} {k : Nat} {o : Oper} {rest : List Oper} {T : List Rw} {t : Tmp} {Hk : zAT → List Ent} {x y : Operand} {v : Value}
theorem zDt {α : Type} {enc : α → List Value} {kk e base m c : Nat} {A : Option Addr} {xs : List α} {H H' : List Ent} {w : World} (ho : Own base w H) (ht : Take H (.row enc kk e (.slice A m c) xs) H') [ei : zBu enc kk] : zp enc kk w A xs := (ho.zFq ht).here (.sl enc kk A xs) (by simp)
theorem c_take {f : zAT → Value × List Ent} (j : Nat) (hjk : (j, k) ∈ S) (hkI : keyI I k = false) (hl : Loc b k f) (ht : zLy S I P w0 n d ops R0 H0 b k o T f (zw (only j T))) (h : zAN ro S I P w0 n d ops R0 H0 Q bs (k + 1) rest (⟨k, o.dst, f⟩ :: T)) : zAN ro S I P w0 n d ops R0 H0 Q (b :: bs) k (o :: rest) T :=
 .inl ⟨f, hl, .inr (.inl ⟨hkI, j, hjk, ht⟩), h⟩
theorem zNM {f : zAT → Value × List Ent} {E0 : List Ent} {lo hi : Nat} (hkE : (k, lo, hi, E0) ∈ I) (hfree : takes S k = false) (hl : Loc b k f) (ht : zLy S I P w0 n d ops R0 H0 b k o T f (fun _ => E0)) (h : zAN ro S I P w0 n d ops R0 H0 Q bs (k + 1) rest (⟨k, o.dst, f⟩ :: T)) : zAN ro S I P w0 n d ops R0 H0 Q (b :: bs) k (o :: rest) T :=
 .inl ⟨f, hl, .inr (.inr ⟨hfree, lo, hi, E0, hkE, ht⟩), h⟩
theorem zJ4 {α : Type} {enc : α → List Value} {kk e T1 bytes m : Nat} [el : ElI P T1 e kk bytes] [ei : zBu enc kk] {xs : List α} (ys : List α) {A : zAT → Option Addr} {c : zAT → Nat} {vx : zAT → Value} (E0 : zAT → List Ent) (hop : o.op = .call { callee := .builtin .append, args := #[x, y], argTypes := #[T1, T1] }) (hw : ∀ G, want (Rk R0 ops b o T G) ops o = some true) (hd : o.dst = some t)
  (hx : ∀ G, evR (Rk R0 ops b o T G) x = some (vx G)) (hrow : ∀ G, E0 G = [.row enc kk e (vx G) xs]) (hy : ∀ G, evR (Rk R0 ops b o T G) y = some (.slice (A G) m (c G))) (hm : m = ys.length) (hH : ∀ G, see I k ++ (zw (fltT (vis S k b) T) G ++ H0) = Hk G) (hs : ∀ G w, Below w0.heap.size w0 w → Own w0.heap.size w (Hk G) → zp enc kk w (A G) ys) (hl : xs.length + ys.length ≤ 1000000 ∧ bytes ≤ 1000000) :
  zLy S I P w0 n d ops R0 H0 b k o T (fun G => (.slice (G k).A (xs ++ ys).length (G k).m, [.row enc kk e (.slice (G k).A (xs ++ ys).length (G k).m) (xs ++ ys)])) E0 := by
 subst hm
 intro G L a w q ho K hK
 rw [zAn q (hw G), if_pos rfl]
 rw [hrow G] at ho
 obtain ⟨z, hE⟩ := el.el
 obtain ⟨i, i1, i2, i3, i4⟩ := hE.info
 have hrow : Row enc kk e 0 w (vx G) xs := ho.here (.row enc kk e (vx G) xs) (by simp)
 have hsl := hs G w q.below (by rw [← hH G]; exact q.own)
 have hlen : (ys.flatMap enc).length = ys.length * kk := by
  simp [List.length_flatMap, ei.len, List.map_const', List.sum_replicate_nat]
 have hmul : (xs.length + ys.length) * bytes ≤ 140737488355328 := by
  have := Nat.mul_le_mul hl.1 hl.2; omega
 have hxv := q.ev (hx G)
 have hyv := q.ev (hy G)
 generalize vx G = v at *
 generalize A G = A at *
 generalize c G = c at *
 have key : ∃ v' w', (Builtin.append_ #[T1, T1] o.type #[v, .slice A ys.length c]).run P w = .ok v' w' ∧ Row enc kk e 0 w' v' (xs ++ ys) ∧ w.grownBy w' v.ownBlock ∧ (v'.ownBlock = v.ownBlock ∨ v'.ownBlock = some w.heap.size) := by
  cases hA : A with
  | none =>
   have hys : ys = [] := by
    cases ys with
    | nil => rfl
    | cons y r =>
     obtain ⟨b, o, hb, _⟩ := hsl 0 y (by simp)
     rw [hA] at hb; cases hb
   subst hys hA
   refine ⟨v, w, ?_, by simpa using hrow, World.grownBy.refl w _, .inl rfl⟩
   rcases hrow.2 with ⟨rfl, _⟩ | ⟨g, cap, cur, rfl, _, _, hnc, _⟩
   ·simp [Builtin.append_, run_underlying hE.under, sizeOf, typeInfo, i1, Builtin.lenOf, Builtin.firstCells]
   ·simp [Builtin.append_, run_underlying hE.under, sizeOf, typeInfo, i1, Builtin.lenOf, Builtin.firstCells, hnc, storeCells]
  | some ad =>
   subst hA
   obtain ⟨v', w', r1, r2, r3, _, r5⟩ := run_append_own_at (P := P) w 0 T1 o.type e i z kk bytes hE.under i1 i2 i3 i4 hE.zs hE.pos v xs.length (xs.flatMap enc) hrow ad ys.length c (ys.flatMap enc) hlen
    (fun j u hu => by
     obtain ⟨i, y, l, hi, hl, rfl⟩ := zIg ei.len ys j u hu
     obtain ⟨b, o, hb, hlt, hc⟩ := hsl i y hi
     cases hb
     have e1 : (⟨b, o, none⟩ : Addr).add (i * kk + l) = ⟨b, o + i * kk + l, none⟩ := by rw [zB7]; congr 1; omega
     rw [e1]; exact hc l u hl)
    (fun u hu => by
     obtain ⟨y, _, hy'⟩ := List.mem_flatMap.1 hu
     exact ei.one y u hy') (by unfold maxLen; omega) hmul (Nat.zero_le _)
   exact ⟨v', w', r1, by unfold Row; simpa using r2, r3, r5⟩
 obtain ⟨v', w', k1, k2, k3, k4⟩ := key
 obtain ⟨A', c', rfl⟩ := k2.form
 unfold Oper.wp execOp
 simp only [hop, resolve, invoke, builtin, Sem.run_bind, Sem.run_pure, Result.andThen_ok, List.map_toArray, List.map_cons, List.map_nil, hxv, hyv, k1, Oper.upon_value]
 have hfoot : ∀ b, v.ownBlock = some b → w0.heap.size ≤ b ∧ b < w.heap.size := fun b hb => ho.foot (.row enc kk e v xs) (by simp) b hb
 refine hK (.slice A' (xs ++ ys).length c') [.row enc kk e (.slice A' (xs ++ ys).length c') (xs ++ ys)] _ ⟨⟨0, A', c'⟩, by simp only [upW, if_true]⟩ ?_ ?_
 ·exact q.below.trans ⟨k3.os, k3.tape, k3.output, k3.size, fun b hb => k3.block b (by have := q.base; omega) (fun e => by have := (hfoot b e.symm).1; omega)⟩
 ·refine ho.turn k3.size (fun b hb hn => k3.block b hb (fun e => hn e.symm)) q.base k2 (fun b hb => ?_)
  have hb' : (Value.slice A' (xs ++ ys).length c').ownBlock = some b := hb
  have hlt := k2.lt b hb'
  rcases k4 with h4 | h4
  ·exact ⟨.inl (h4.symm.trans hb'), hlt.2⟩
  ·rw [h4] at hb'; cases hb'; exact ⟨.inr (Nat.le_refl _), hlt.2⟩
theorem zEN {α : Type} {enc : α → List Value} {kk e T1 bytes m : Nat} [el : ElI P T1 e kk bytes] [ei : zBu enc kk] {xs : List α} (ys : List α) {A : zAT → Option Addr} {c : zAT → Nat} {vx : Value} {lo hi : Nat} (hkE : (k, lo, hi, [Ent.row enc kk e vx xs]) ∈ I) (hfree : takes S k = false) (hop : o.op = .call { callee := .builtin .append, args := #[x, y], argTypes := #[T1, T1] }) (hw : ∀ G, want (Rk R0 ops b o T G) ops o = some true) (hd : o.dst = some t)
  (hx : ∀ G, evR (Rk R0 ops b o T G) x = some vx) (hy : ∀ G, evR (Rk R0 ops b o T G) y = some (.slice (A G) m (c G))) (hm : m = ys.length) (hH : ∀ G, see I k ++ (zw (fltT (vis S k b) T) G ++ H0) = Hk G) (hs : ∀ G w, Below w0.heap.size w0 w → Own w0.heap.size w (Hk G) → zp enc kk w (A G) ys) (hl : xs.length + ys.length ≤ 1000000 ∧ bytes ≤ 1000000)
  (h : zAN ro S I P w0 n d ops R0 H0 Q bs (k + 1) rest (⟨k, some t, fun G => (.slice (G k).A (xs ++ ys).length (G k).m, [.row enc kk e (.slice (G k).A (xs ++ ys).length (G k).m) (xs ++ ys)])⟩ :: T)) : zAN ro S I P w0 n d ops R0 H0 Q (b :: bs) k (o :: rest) T :=
 zNM (f := fun G => (.slice (G k).A (xs ++ ys).length (G k).m, [.row enc kk e (.slice (G k).A (xs ++ ys).length (G k).m) (xs ++ ys)])) hkE hfree (fun G G' hG => by simp only [hG k (.inl rfl)]) (zJ4 (vx := fun _ => vx) ys (fun _ => [Ent.row enc kk e vx xs]) hop hw hd hx (fun _ => rfl) hy hm hH hs hl) (by rw [hd]; exact h)
end
end Go.Proofs.YtdigopgncfhiaaaGreatDoor.Two
namespace Go.Proofs.YtdigopgncfhiaaaGreatDoor
open Go.RowKit
set_option maxRecDepth 20000
def zCG (c : Cov) (pl : List Sli) : Int := if zAh c = 0 then (if zB1 c pl then 0 else 21) else zAh c
theorem zE0 (c : Cov) (A : Option Addr) (ca : Nat) (B : Option Addr) (cb : Nat) (C : Option Addr) (cc : Nat) (w : World) (h : zAq w c A B C) (hs : Small c) (he : zAh c ≠ 0) : Gv Tryz.prog 62 [zAS c A ca B cb C cc] w (.tuple #[.pointer none, .int .i64 (zAh c)]) := by
 have hc := fun W (hb : Below w.heap.size w W) => zIc c A ca B cb C cc W (h.below hb) hs
 unfold zAS zM at hc
 generalize zAh c = e at *
 unfold Gv zAS zM
 (refine zL (n := 13) Tryz.func62 rfl rfl rfl ?_)
 (repeat' (first | ((with_reducible refine zG ?_); first | refine zE rfl rfl rfl rfl rfl ?_ | refine zC rfl rfl rfl rfl rfl ?_ | (refine zJ rfl rfl rfl rfl rfl ?_; refine ⟨_, rfl, ?_⟩) | (refine zR rfl rfl rfl rfl rfl rfl rfl (fun h => ?_) (fun h => ?_) <;> (dsimp only [cmpP] at h; (try (exfalso; omega)))) | refine zY rfl rfl rfl rfl rfl rfl (fun _ _ q => hc _ q.below) ?_ | (refine zAD rfl rfl rfl rfl rfl rfl (fun b => ?_))) | (with_reducible first | refine zH ?_ | refine zB ?_ | refine zD ?_ | refine zA ?_ | refine zX ?_ | refine zZ ?_) | ((with_reducible refine zI ?_ ?_); (· exact rfl))))
 all_goals exact zV (by (exact zP.cons (by exact zf.tmp rfl) (zP.cons (by exact zf.tmp rfl) zP.nil))) () trivial rfl (fun _ _ => Own.nil _ _)
theorem zDU (c : Cov) (A : Option Addr) (ca : Nat) (B : Option Addr) (cb : Nat) (C : Option Addr) (cc : Nat) (w : World) (h : zAq w c A B C) (hs : Small c) (he : zAh c = 0) : Ret Tryz.prog 62 [zAS c A ca B cb C cc] w (fun g : Nat => .tuple #[.pointer (some ⟨g, 0, none⟩), .int .i64 0]) (fun g => [.blk g (zM c A ca B cb C cc)]) (fun _ => True) := by
 have hc := fun W (hb : Below w.heap.size w W) => zIc c A ca B cb C cc W (h.below hb) hs
 unfold zAS zM at hc
 rw [he] at hc
 unfold zAS zM
 (refine zL (n := 13) Tryz.func62 rfl rfl rfl ?_)
 (repeat' (first | ((with_reducible refine zG ?_); first | refine zE rfl rfl rfl rfl rfl ?_ | refine zC rfl rfl rfl rfl rfl ?_ | (refine zJ rfl rfl rfl rfl rfl ?_; refine ⟨_, rfl, ?_⟩) | (refine zR rfl rfl rfl rfl rfl rfl rfl (fun h => ?_) (fun h => ?_) <;> (dsimp only [cmpP] at h; (try (exfalso; omega)))) | refine zY rfl rfl rfl rfl rfl rfl (fun _ _ q => hc _ q.below) ?_ | (refine zAD rfl rfl rfl rfl rfl rfl (fun b => ?_)) | (refine zA4 rfl rfl rfl rfl rfl ?_; refine ⟨_, rfl, ?_⟩)) | (with_reducible first | refine zH ?_ | refine zB ?_ | refine zD ?_ | refine zA ?_ | refine zX ?_ | refine zU ?_) | ((with_reducible refine zF ?_ ?_); (· exact rfl))))
 all_goals exact zV (by (exact zP.cons (by exact zf.tmp rfl) (zP.cons (by exact zf.tmp rfl) zP.nil))) _ trivial rfl (fun _ h => h.sub (by (repeat (first | exact oK1 _ | (refine oK2 (by (repeat (first | exact tK1 _ _ | apply tK2))) ?_)))))
theorem zEB (c : Cov) (A : Option Addr) (ca : Nat) (B : Option Addr) (cb : Nat) (C : Option Addr) (cc : Nat) (pl : List Sli) (P : Option Addr) (cp : Nat) (w : World) (h : zAq w c A B C) (hs : Small c) (hp : zBK w P pl) (hl : pl.length ≤ 12) (hrl : ∀ s ∈ pl, s.xs.length ≤ 20) (he : zCG c pl ≠ 0) :
  Gv Tryz.prog 56 [zAS c A ca B cb C cc, .slice P pl.length cp] w (.tuple #[.pointer none, .int .i64 (zCG c pl)]) := by
 have h1 := fun W (hb : Below w.heap.size w W) => zE0 c A ca B cb C cc W (h.below hb) hs
 have h2 := fun W (hb : Below w.heap.size w W) => zDU c A ca B cb C cc W (h.below hb) hs
 have h3 := fun W (hb : Below w.heap.size w W) g (hr : InC W g 0 (zM c A ca B cb C cc)) => zGS c A ca B cb C cc g pl P cp W hr (h.below hb) (hp.below hb) hs hl hrl
 unfold zAS at h1 h2
 unfold Gv zAS
 unfold zCG at he ⊢
 by_cases h0 : zAh c = 0
 ·rw [if_pos h0] at he ⊢
  have hpl : zB1 c pl = false := by
   cases hq : zB1 c pl with
   | false => rfl
   | true => rw [hq] at he; exact absurd rfl he
  rw [hpl] at h3 ⊢
  unfold zM at h2 h3 ⊢
  (refine zL (n := 21) Tryz.func56 rfl rfl rfl ?_)
  (repeat' (first | ((with_reducible refine zG ?_); first | refine zE rfl rfl rfl rfl rfl ?_ | refine zC rfl rfl rfl rfl rfl ?_ | (refine zJ rfl rfl rfl rfl rfl ?_; refine ⟨_, rfl, ?_⟩) | (refine zR rfl rfl rfl rfl rfl rfl rfl (fun h => ?_) (fun h => ?_) <;> (dsimp only [cmpP] at h; (try (exfalso; omega)))) | (refine zAR rfl rfl rfl rfl rfl rfl (fun _ _ q => h2 _ q.below h0) ?_; rintro g -; dsimp only [List.cons_append, List.nil_append]) | refine zY rfl rfl rfl rfl rfl rfl (fun _ _ q => h3 _ q.below _ (zBG q.own (Below.refl _ _) rfl)) ?_ | refine zh rfl rfl rfl rfl rfl rfl ?_ | refine zAe rfl rfl rfl rfl rfl ?_ | (refine zAD rfl rfl rfl rfl rfl rfl (fun b => ?_))) | (with_reducible first | refine zH ?_ | refine zB ?_ | refine zD ?_ | refine zA ?_ | refine zX ?_ | refine zU ?_ | refine zZ ?_) | ((with_reducible refine zI ?_ ?_); (· exact rfl)) | ((with_reducible refine zF ?_ ?_); (· exact rfl))))
  all_goals exact zV (by (exact zP.cons (by exact zf.tmp rfl) (zP.cons (by exact zf.tmp rfl) zP.nil))) () trivial rfl (fun _ _ => Own.nil _ _)
 ·rw [if_neg h0] at he ⊢
  unfold zM at h1 ⊢
  generalize zAh c = e at *
  (refine zL (n := 21) Tryz.func56 rfl rfl rfl ?_)
  (repeat' (first | ((with_reducible refine zG ?_); first | refine zE rfl rfl rfl rfl rfl ?_ | refine zC rfl rfl rfl rfl rfl ?_ | (refine zJ rfl rfl rfl rfl rfl ?_; refine ⟨_, rfl, ?_⟩) | (refine zR rfl rfl rfl rfl rfl rfl rfl (fun h => ?_) (fun h => ?_) <;> (dsimp only [cmpP] at h; (try (exfalso; omega)))) | refine zY rfl rfl rfl rfl rfl rfl (fun _ _ q => h1 _ q.below h0) ?_ | refine zh rfl rfl rfl rfl rfl rfl ?_ | (refine zAD rfl rfl rfl rfl rfl rfl (fun b => ?_))) | (with_reducible first | refine zH ?_ | refine zB ?_ | refine zD ?_ | refine zA ?_ | refine zX ?_ | refine zZ ?_) | ((with_reducible refine zI ?_ ?_); (· exact rfl))))
  all_goals exact zV (by (exact zP.cons (by exact zf.tmp rfl) (zP.cons (by exact zf.tmp rfl) zP.nil))) () trivial rfl (fun _ _ => Own.nil _ _)
theorem zEA (c : Cov) (A : Option Addr) (ca : Nat) (B : Option Addr) (cb : Nat) (C : Option Addr) (cc : Nat) (pl : List Sli) (P : Option Addr) (cp : Nat) (w : World) (h : zAq w c A B C) (hs : Small c) (hp : zBK w P pl) (hl : pl.length ≤ 12) (hrl : ∀ s ∈ pl, s.xs.length ≤ 20) (he : zAh c = 0) (hpl : zB1 c pl = true) :
  Ret Tryz.prog 56 [zAS c A ca B cb C cc, .slice P pl.length cp] w (fun g : Nat => .tuple #[.pointer (some ⟨g, 0, none⟩), .int .i64 0]) (fun g => [.blk g (zM c A ca B cb C cc)]) (fun _ => True) := by
 have h2 := fun W (hb : Below w.heap.size w W) => zDU c A ca B cb C cc W (h.below hb) hs he
 have h3 := fun W (hb : Below w.heap.size w W) g (hr : InC W g 0 (zM c A ca B cb C cc)) => zGS c A ca B cb C cc g pl P cp W hr (h.below hb) (hp.below hb) hs hl hrl
 unfold zAS at h2 ⊢
 rw [hpl] at h3
 unfold zM at h2 h3 ⊢
 (refine zL (n := 21) Tryz.func56 rfl rfl rfl ?_)
 (repeat' (first | ((with_reducible refine zG ?_); first | refine zE rfl rfl rfl rfl rfl ?_ | refine zC rfl rfl rfl rfl rfl ?_ | (refine zJ rfl rfl rfl rfl rfl ?_; refine ⟨_, rfl, ?_⟩) | (refine zR rfl rfl rfl rfl rfl rfl rfl (fun h => ?_) (fun h => ?_) <;> (dsimp only [cmpP] at h; (try (exfalso; omega)))) | (refine zAR rfl rfl rfl rfl rfl rfl (fun _ _ q => h2 _ q.below) ?_; rintro g -; dsimp only [List.cons_append, List.nil_append]) | refine zY rfl rfl rfl rfl rfl rfl (fun _ _ q => h3 _ q.below _ (zBG q.own (Below.refl _ _) rfl)) ?_ | refine zh rfl rfl rfl rfl rfl rfl ?_ | refine zAe rfl rfl rfl rfl rfl ?_ | (refine zAD rfl rfl rfl rfl rfl rfl (fun b => ?_))) | (with_reducible first | refine zH ?_ | refine zB ?_ | refine zD ?_ | refine zA ?_ | refine zX ?_ | refine zU ?_) | ((with_reducible refine zF ?_ ?_); (· exact rfl))))
 all_goals exact zV (by (exact zP.cons (by exact zf.tmp rfl) (zP.cons (by exact zf.tmp rfl) zP.nil))) _ trivial rfl (fun _ h => h.sub (by (repeat (first | exact oK1 _ | (refine oK2 (by (repeat (first | exact tK1 _ _ | apply tK2))) ?_)))))
def zBm (c : Cov) (z : Bed) (u : Hour) : Sp := ⟨z.sun * u.melt.lo + u.runs * c.wear.lo, z.sun * u.melt.hi + u.runs * c.wear.hi⟩
structure zCf (c : Cov) : Prop where
 bed : ∀ z ∈ c.beds, zEP z = true
 hour : ∀ u ∈ c.hours, zCc u = true
 wear : zBJ c.wear 0 20 = true
 layer : zBJ c.layer 1 100 = true
 rate : inB 0 100 c.rate = true
 limit : inB 0 2000 c.limit = true
 base : inB 0 c.limit c.base = true
 beds : c.beds.length = c.t.length
 hours : inB 1 8 c.hours.length = true
theorem zBg {c : Cov} (h : zAh c = 0) : zCf c := by
 unfold zAh at h
 by_cases hv : valid c.t = true
 ·rw [if_pos hv] at h
  by_cases hi : zDW c = true
  ·obtain ⟨i1, i2, i3, i4, i5, i6, i7, i8, i9⟩ := zCB.1 hi
   exact ⟨fun z hz => List.all_eq_true.1 i3 z hz, fun z hz => List.all_eq_true.1 i4 z hz, i5, i6, i7, i8, i9, i1, i2⟩
  ·rw [if_neg hi] at h; cases h
 ·rw [if_neg hv] at h; cases h
theorem zEw {a b A B : Int} (h1 : 0 ≤ a) (h2 : a ≤ A) (h3 : 0 ≤ b) (h4 : b ≤ B) : 0 ≤ a * b ∧ a * b ≤ A * B :=
 ⟨Int.mul_nonneg h1 h3, Int.le_trans (Int.mul_le_mul_of_nonneg_right h2 h3) (Int.mul_le_mul_of_nonneg_left h4 (Int.le_trans h1 h2))⟩
theorem zNE {c : Cov} {z : Bed} {u : Hour} (hf : zCf c) (hz : z ∈ c.beds) (hu : u ∈ c.hours) :
  (0 ≤ z.sun * u.melt.lo ∧ z.sun * u.melt.lo ≤ 450) ∧ (0 ≤ z.sun * u.melt.hi ∧ z.sun * u.melt.hi ≤ 450) ∧ (0 ≤ u.runs * c.wear.lo ∧ u.runs * c.wear.lo ≤ 1200) ∧ (0 ≤ u.runs * c.wear.hi ∧ u.runs * c.wear.hi ≤ 1200) := by
 have h1 := hf.bed z hz; have h2 := hf.hour u hu; have h3 := hf.wear
 simp only [zEP, zCc, Bool.and_eq_true, zBI, zAJ] at h1 h2 h3
 exact ⟨zEw (A := 9) (B := 50) (by omega) (by omega) (by omega) (by omega), zEw (A := 9) (B := 50) (by omega) (by omega) (by omega) (by omega), zEw (A := 60) (B := 20) (by omega) (by omega) (by omega) (by omega), zEw (A := 60) (B := 20) (by omega) (by omega) (by omega) (by omega)⟩
theorem zD5 {c : Cov} {z : Bed} {u : Hour} (hf : zCf c) (hz : z ∈ c.beds) (hu : u ∈ c.hours) : 0 ≤ (zBm c z u).lo ∧ (zBm c z u).lo ≤ 1650 ∧ 0 ≤ (zBm c z u).hi ∧ (zBm c z u).hi ≤ 1650 := by
 have := zNE hf hz hu
 simp only [zBm]; omega
set_option maxHeartbeats 2000000 in
theorem zFS (c : Cov) (A : Option Addr) (ca : Nat) (B : Option Addr) (cb : Nat) (C : Option Addr) (cc g i j : Nat) (z : Bed) (u : Hour) (w : World) (hr : InC w g 0 (zM c A ca B cb C cc)) (h : zAq w c A B C) (hs : Small c) (hf : zCf c) (hz : c.beds[i]? = some z) (hu : c.hours[j]? = some u) :
  Gv Tryz.prog 88 [.pointer (some ⟨g, 0, none⟩), .int .i64 (i : Int), .int .i64 (j : Int)] w (vSp (zBm c z u)) := by
 have h4 := hs.b; have h5 := hs.h
 have hb := h.b; have hh := h.h
 have hzm := List.mem_of_getElem? hz
 have hum := List.mem_of_getElem? hu
 obtain ⟨⟨m1, m2⟩, ⟨m3, m4⟩, ⟨m5, m6⟩, m7, m8⟩ := zNE hf hzm hum
 have hi := (List.getElem?_eq_some_iff.1 hz).1
 have hj := (List.getElem?_eq_some_iff.1 hu).1
 obtain ⟨bb, o, rfl, hblt, hc⟩ := hb.at_ hi
 have : InS w bb o zAx 3 c.beds := ⟨hb⟩
 have : zAQ c.beds i z := ⟨hz⟩
 obtain ⟨bc, oc, rfl, hblt2, hc2⟩ := hh.at_ hj
 have : InS w bc oc zx 5 c.hours := ⟨hh⟩
 have : zAQ c.hours j u := ⟨hu⟩
 unfold zM at hr
 unfold Gv zBm vSp
 (refine zL (n := 57) Tryz.func88 rfl rfl rfl ?_)
 (repeat' (first | ((with_reducible refine zG ?_); first | (refine zt rfl rfl rfl rfl (fun b => ?_))) | (with_reducible first | refine zH ?_ | refine zB ?_ | refine zD ?_ | refine zA ?_)))
 (refine zAo (by kernel_rfl) [[], [I0], [I0, I0], [I0, I0, I0], [I0, I0, I0, I0], [O0, O0, O0, O0, O0], [I0, I0, I0, I0, I0, I0], [I0, I0, I0, I0, I0, I0, I0], [I0, I0, I0, I0, I0, I0, I0, I0], [O0, O0, O0, O0, O0, O0, O0, O0, O0], [I0, O0, O0, O0, O0, O0, O0, O0, O0, O0], [I0, I0, O0, O0, O0, O0, O0, O0, O0, O0, O0], [I0, I0, I0, O0, O0, O0, O0, O0, O0, O0, O0, O0], [I0, I0, I0, I0, O0, O0, O0, O0, O0, O0, O0, O0, O0], [O0, O0, O0, O0, O0, O0, O0, O0, O0, O0, O0, O0, O0, O0], [I0, I0, I0, I0, I0, I0, O0, O0, O0, O0, O0, O0, O0, O0, O0], [I0, I0, I0, I0, I0, I0, I0, O0, O0, O0, O0, O0, O0, O0, O0, O0], [O0, O0, O0, O0, O0, O0, O0, O0, O0, O0, O0, O0, O0, O0, O0, O0, O0], [I0, O0, O0, O0, O0, O0, O0, O0, O0, I0, I0, I0, I0, I0, I0, I0, I0, I0], [I0, I0, I0, I0, I0, I0, I0, I0, I0, I0, I0, I0, I0, I0, I0, I0, I0, I0, I0]] (by kernel_rfl) (by kernel_rfl) (by kernel_rfl) ?_)
 (repeat' (first | (((with_reducible refine zC6 ?_ ?_); (· exact rfl); refine ⟨_, fun G => (by (try simp only [fltT, zw, List.nil_append, List.cons_append]); rfl), ?_⟩); first | refine za _ (fun _ => zAm rfl rfl) (fun _ => rfl) rfl (by first | exact fun _ _ _ => rfl | (intro G G' h; simp (decide := true) only [h])) ?_ | refine za _ (fun _ => zAH rfl rfl (by exact rfl)) (fun _ => rfl) rfl (by first | exact fun _ _ _ => rfl | (intro G G' h; simp (decide := true) only [h])) ?_ | (refine zAU rfl ?_; refine za _ (fun _ => zAY rfl rfl) (fun _ => rfl) rfl (by first | exact fun _ _ _ => rfl | (intro G G' h; simp (decide := true) only [h])) ?_) | refine za _ (fun _ => zB5 rfl rfl) (fun _ => rfl) rfl (by first | exact fun _ _ _ => rfl | (intro G G' h; simp (decide := true) only [h])) ?_ | refine za _ (fun _ => zAt (I := i) rfl rfl rfl rfl (by omega)) (fun _ => rfl) rfl (by exact fun _ _ _ => rfl) ?_ | refine za _ (fun _ => zAt (I := j) rfl rfl rfl rfl (by omega)) (fun _ => rfl) rfl (by exact fun _ _ _ => rfl) ?_ | refine za _ (fun _ => zAc rfl rfl) (fun _ => rfl) rfl (by first | exact fun _ _ _ => rfl | (intro G G' h; simp (decide := true) only [h])) ?_ | refine zGZ rfl (fun _ => rfl) rfl ?_) | ((with_reducible refine zBp ?_ ?_); (· exact rfl))))
 (intro G; simp only [regsT, zw, Pend.zBS, List.nil_append, List.cons_append])
 (repeat' (first | ((with_reducible refine zG ?_); first | (refine zj rfl rfl rfl rfl rfl ?_; refine And.intro rfl (And.intro (by first | decide | exact Nat.le_of_ble_eq_true rfl | (simp; omega)) ⟨_, rfl, ?_⟩))) | (with_reducible first | refine zH ?_ | refine zD ?_ | refine zA ?_)))
 (refine zAo (by kernel_rfl) [[], [O0], [I0, O0], [I0, I0, O0], [I0, I0, I0, I0], [O0, O0, O0, O0, O0], [I0, O0, O0, O0, O0, O0], [O0, O0, O0, O0, O0, O0, O0], [I0, O0, O0, O0, O0, O0, O0, O0], [I0, I0, O0, O0, O0, O0, O0, O0, O0], [I0, I0, I0, O0, O0, O0, O0, O0, O0, O0], [I0, I0, I0, I0, O0, O0, O0, O0, O0, O0, O0], [I0, I0, I0, I0, I0, O0, O0, O0, O0, O0, O0, O0], [I0, I0, I0, I0, I0, I0, I0, I0, O0, O0, O0, O0, O0], [I0, I0, I0, I0, I0, I0, I0, I0, I0, I0, I0, I0, I0, I0], [O0, O0, O0, O0, O0, O0, O0, O0, O0, O0, O0, O0, O0, O0, O0], [O0, O0, O0, O0, O0, O0, O0, O0, O0, O0, O0, O0, O0, O0, O0, O0], [I0, O0, O0, O0, O0, O0, O0, O0, O0, O0, O0, O0, O0, O0, O0, O0, O0], [I0, I0, O0, O0, O0, O0, O0, O0, O0, O0, O0, O0, O0, O0, O0, O0, O0, O0], [I0, I0, I0, I0, O0, O0, O0, O0, O0, O0, O0, O0, O0, O0, O0, O0, O0, O0, O0], [O0, O0, O0, O0, O0, O0, O0, O0, O0, O0, O0, O0, O0, O0, O0, O0, O0, O0, O0, O0], [I0, O0, O0, O0, O0, O0, O0, O0, O0, O0, O0, O0, O0, O0, O0, O0, O0, O0, O0, O0, O0], [O0, O0, O0, O0, O0, O0, O0, O0, O0, O0, O0, O0, O0, O0, O0, O0, O0, O0, O0, O0, O0, O0], [I0, O0, O0, O0, O0, O0, O0, O0, O0, O0, O0, O0, O0, O0, O0, O0, O0, O0, O0, O0, O0, O0, O0], [I0, I0, O0, O0, O0, O0, O0, O0, O0, O0, O0, O0, O0, O0, O0, O0, O0, O0, O0, O0, O0, O0, O0, O0], [I0, I0, I0, O0, O0, O0, O0, O0, O0, O0, O0, O0, O0, O0, O0, O0, O0, O0, O0, O0, O0, O0, O0, O0, O0], [I0, I0, I0, I0, O0, O0, O0, O0, O0, O0, O0, O0, O0, O0, O0, O0, O0, O0, O0, O0, O0, O0, O0, O0, O0, O0], [I0, I0, I0, I0, I0, O0, O0, O0, O0, O0, O0, O0, O0, O0, O0, O0, O0, O0, O0, O0, O0, O0, O0, O0, O0, O0, O0], [I0, I0, I0, I0, I0, I0, I0, I0, O0, O0, O0, O0, O0, O0, O0, O0, O0, O0, O0, O0, O0, O0, O0, O0, O0, O0, O0, O0], [I0, I0, I0, I0, I0, I0, I0, I0, I0, I0, I0, I0, I0, I0, O0, O0, O0, O0, O0, O0, O0, O0, O0, O0, O0, O0, O0, O0, O0], [I0, I0, I0, I0, I0, I0, I0, I0, I0, I0, I0, I0, I0, I0, I0, I0, I0, I0, I0, I0, I0, I0, I0, I0, I0, I0, I0, I0, I0, I0], [I0, I0, I0, I0, I0, I0, I0, I0, I0, I0, I0, I0, I0, I0, I0, I0, I0, I0, I0, I0, I0, I0, I0, I0, I0, I0, I0, I0, I0, I0, I0]] (by kernel_rfl) (by kernel_rfl) (by kernel_rfl) ?_)
 (repeat' (first | (((with_reducible refine zC6 ?_ ?_); (· exact rfl); refine ⟨_, fun G => (by (try simp only [fltT, zw, List.nil_append, List.cons_append]); rfl), ?_⟩); first | refine za _ (fun _ => zAm rfl rfl) (fun _ => rfl) rfl (by first | exact fun _ _ _ => rfl | (intro G G' h; simp (decide := true) only [h])) ?_ | refine za _ (fun _ => zAH rfl rfl (by exact rfl)) (fun _ => rfl) rfl (by first | exact fun _ _ _ => rfl | (intro G G' h; simp (decide := true) only [h])) ?_ | (refine zAU rfl ?_; refine za _ (fun _ => zAY rfl rfl) (fun _ => rfl) rfl (by first | exact fun _ _ _ => rfl | (intro G G' h; simp (decide := true) only [h])) ?_) | refine za _ (fun _ => zLn rfl rfl rfl (IntWalk.i64_in _ (by omega))) (fun _ => rfl) rfl (by first | exact fun _ _ _ => rfl | (intro G G' h; simp (decide := true) only [h])) ?_ | refine za _ (fun _ => e_mul rfl rfl rfl (IntWalk.i64_in _ (by omega))) (fun _ => rfl) rfl (by first | exact fun _ _ _ => rfl | (intro G G' h; simp (decide := true) only [h])) ?_ | refine za _ (fun _ => zAc rfl rfl) (fun _ => rfl) rfl (by first | exact fun _ _ _ => rfl | (intro G G' h; simp (decide := true) only [h])) ?_ | refine za _ (fun _ => zDa rfl rfl (by exact rfl)) (fun _ => rfl) rfl (by first | exact fun _ _ _ => rfl | (intro G G' h; simp (decide := true) only [h])) ?_) | ((with_reducible refine zBp ?_ ?_); (· exact rfl))))
 (intro G; simp only [regsT, zw, Pend.zBS, List.nil_append, List.cons_append])
 (repeat' (first | ((with_reducible refine zG ?_); first | (refine zj rfl rfl rfl rfl rfl ?_; refine And.intro rfl (And.intro (by first | decide | exact Nat.le_of_ble_eq_true rfl | (simp; omega)) ⟨_, rfl, ?_⟩))) | (with_reducible first | refine zD ?_ | refine zA ?_ | refine zX ?_)))
 exact zV (by (exact zP.cons (by exact res1c rfl (by exact rfl)) zP.nil)) () trivial rfl (fun _ _ => Own.nil _ _)
end Go.Proofs.YtdigopgncfhiaaaGreatDoor
namespace Go.Proofs.YtdigopgncfhiaaaGreatDoor
open Go.RowKit
set_option maxRecDepth 20000
theorem InC.below {w W : World} {b off : Nat} {vs : List Value} (h : InC w b off vs) (hb : Below w.heap.size w W) : InC W b off vs := ⟨fun j v hv => by
 have h1 := h.cells j v hv
 rw [hb.cell (p := ⟨b, off + j, none⟩) (World.block_lt_of_cell? w _ h1)]; exact h1⟩
theorem zMI {n : Nat} {i : Int} (h : inB 0 ((n : Int) - 1) i = true) : ∃ I : Nat, i = (I : Int) ∧ I < n := by
 rw [zAJ] at h
 exact ⟨i.toNat, by omega, by omega⟩
theorem has_step {l : List Int} {n : Int} {i : Nat} {x : Int} (hx : l[i]? = some x) (hne : ¬ n = x) (h : ∀ j y, j < i → l[j]? = some y → ¬ n = y) : ∀ j y, j < i + 1 → l[j]? = some y → ¬ n = y := by
 intro j y hj hy
 by_cases e : j = i
 ·subst e; rw [hx] at hy; cases hy; exact hne
 ·exact h j y (by omega) hy
theorem has_no {l : List Int} {n : Int} (h : ∀ j y, j < l.length → l[j]? = some y → ¬ n = y) : l.contains n = false := by
 rw [← Bool.not_eq_true, List.contains_iff_mem]
 intro hm
 obtain ⟨j, hj⟩ := List.mem_iff_getElem?.1 hm
 exact h j n (List.getElem?_eq_some_iff.1 hj).1 hj rfl
theorem has_yes {l : List Int} {n x : Int} {i : Nat} (hx : l[i]? = some x) (e : n = x) : l.contains n = true := by
 rw [List.contains_iff_mem, e]; exact List.mem_of_getElem? hx
set_option maxHeartbeats 1000000 in
theorem rhas_any (l : List Int) (n : Int) (A : Option Addr) (c : Nat) (w : World) (h : zp encI 1 w A l) (hl : l.length ≤ 1000000) : Gv Tryz.prog 30 [.slice A l.length c, .int .i64 n] w (.bool (l.contains n)) := by
 unfold Gv
 (refine zL (n := 18) Tryz.func30 rfl rfl rfl ?_)
 (repeat' (first | ((with_reducible refine zG ?_); first | refine zC rfl rfl rfl rfl rfl ?_) | (with_reducible first | refine zH ?_ | refine zB ?_ | refine zD ?_ | refine zA ?_ | refine zQ ?_)))
 refine zq (ι := Nat) [0, 1] rfl (fun i => i ≤ l.length ∧ ∀ j y, j < i → l[j]? = some y → ¬ n = y) (fun i => [(5, .int .i64 (i : Int))]) (fun _ => []) (fun i => l.length - i) 0 ⟨Nat.zero_le _, fun j z h => by omega⟩ (by (first | exact lK1 | (repeat (first | exact lK1 | (refine zK rfl ?_))))) (by (repeat (first | exact oK1 _ | (refine oK2 (by (repeat (first | exact tK1 _ _ | apply tK2))) ?_)))) ?_
 rintro i ⟨hi, hall⟩
 simp only [zAw, List.cons_append, List.nil_append]
 by_cases hlt : i < l.length
 ·obtain ⟨x, hx⟩ : ∃ x, l[i]? = some x := ⟨_, List.getElem?_eq_getElem hlt⟩
  obtain ⟨bb, o, rfl, hblt, hc⟩ := h.at_ hlt
  have : InS w bb o encI 1 l := ⟨h⟩
  have : zAQ l i x := ⟨hx⟩
  (repeat' (first | ((with_reducible refine zG ?_); first | refine zE rfl rfl rfl rfl rfl ?_ | refine zC rfl rfl rfl rfl rfl ?_ | (refine zJ rfl rfl rfl rfl rfl ?_; refine ⟨_, rfl, ?_⟩) | (refine zR rfl rfl rfl rfl rfl rfl rfl (fun h => ?_) (fun h => ?_) <;> (dsimp only [cmpP] at h; (try (exfalso; omega)))) | refine zg rfl rfl rfl rfl rfl rfl (by omega) ?_ | refine zb rfl rfl rfl rfl rfl rfl rfl (by omega) ?_ | refine zr rfl rfl rfl rfl rfl ?_) | (with_reducible first | refine zH ?_ | refine zB ?_ | refine zD ?_ | refine zA ?_ | refine zX ?_ | refine zU ?_ | refine zZ ?_ | refine zQ ?_ | refine zi ?_ | refine zAi ?_) | ((with_reducible refine zI ?_ ?_); (· exact rfl)) | ((with_reducible refine zF ?_ ?_); (· exact rfl))))
  all_goals first | exact zV (by (exact zP.cons (by exact zf.tmp rfl) zP.nil)) () trivial (by rw [has_yes hx (by omega)]; rfl) (fun _ h => h.sub (by (repeat (first | exact oK1 _ | (refine oK2 (by (repeat (first | exact tK1 _ _ | apply tK2))) ?_))))) | exact ze (i + 1) ⟨by omega, has_step hx (by omega) hall⟩ (by omega) (by (first | exact lK1 | (repeat (first | exact lK1 | (refine zK rfl ?_))))) (by (repeat (first | exact oK1 _ | (refine oK2 (by (repeat (first | exact tK1 _ _ | apply tK2))) ?_))))
 ·obtain rfl : i = l.length := by omega
  (repeat' (first | ((with_reducible refine zG ?_); first | refine zE rfl rfl rfl rfl rfl ?_ | refine zC rfl rfl rfl rfl rfl ?_ | (refine zR rfl rfl rfl rfl rfl rfl rfl (fun h => ?_) (fun h => ?_) <;> (dsimp only [cmpP] at h; (try (exfalso; omega)))) | refine zr rfl rfl rfl rfl rfl ?_) | (with_reducible first | refine zH ?_ | refine zB ?_ | refine zD ?_ | refine zA ?_ | refine zX ?_ | refine zk ?_ | refine zT ?_ | refine zW ?_) | ((with_reducible refine zF ?_ ?_); (· exact rfl))))
  exact zV (by (exact zP.cons (by exact zf.tmp rfl) zP.nil)) () trivial (by rw [has_no hall]; rfl) (fun _ h => h.sub (by (repeat (first | exact oK1 _ | (refine oK2 (by (repeat (first | exact tK1 _ _ | apply tK2))) ?_)))))
set_option maxHeartbeats 1000000 in
theorem zOC (l : List Int) (n : Int) (A : Option Addr) (c : Nat) (w : World) (h : zp encI 1 w A l) (hl : l.length ≤ 1000000) : Gv Tryz.prog 133 [.slice A l.length c, .int .i64 n] w (.int .i64 (zCh (fun y => decide (n = y)) l)) := by
 unfold Gv
 (refine zL (n := 19) Tryz.func133 rfl rfl rfl ?_)
 (repeat' (first | ((with_reducible refine zG ?_); first | refine zE rfl rfl rfl rfl rfl ?_ | refine zC rfl rfl rfl rfl rfl ?_ | refine zr rfl rfl rfl rfl rfl ?_) | (with_reducible first | refine zH ?_ | refine zB ?_ | refine zD ?_ | refine zA ?_ | refine zQ ?_)))
 refine zq (ι := Nat) [0, 1, 7] rfl (fun i => i ≤ l.length ∧ ∀ j y, j < i → l[j]? = some y → decide (n = y) = false) (fun i => [(8, .int .i64 (i : Int))]) (fun _ => []) (fun i => l.length - i) 0 ⟨Nat.zero_le _, fun j z h => by omega⟩ (by (first | exact lK1 | (repeat (first | exact lK1 | (refine zK rfl ?_))))) (by (repeat (first | exact oK1 _ | (refine oK2 (by (repeat (first | exact tK1 _ _ | apply tK2))) ?_)))) ?_
 rintro i ⟨hi, hall⟩
 simp only [zAw, List.cons_append, List.nil_append]
 by_cases hlt : i < l.length
 ·obtain ⟨x, hx⟩ : ∃ x, l[i]? = some x := ⟨_, List.getElem?_eq_getElem hlt⟩
  obtain ⟨bb, o, rfl, hblt, hc⟩ := h.at_ hlt
  have : InS w bb o encI 1 l := ⟨h⟩
  have : zAQ l i x := ⟨hx⟩
  (repeat' (first | ((with_reducible refine zG ?_); first | refine zE rfl rfl rfl rfl rfl ?_ | refine zC rfl rfl rfl rfl rfl ?_ | (refine zJ rfl rfl rfl rfl rfl ?_; refine ⟨_, rfl, ?_⟩) | (refine zR rfl rfl rfl rfl rfl rfl rfl (fun h => ?_) (fun h => ?_) <;> (dsimp only [cmpP] at h; (try (exfalso; omega)))) | refine zg rfl rfl rfl rfl rfl rfl (by omega) ?_ | refine zb rfl rfl rfl rfl rfl rfl rfl (by omega) ?_) | (with_reducible first | refine zH ?_ | refine zB ?_ | refine zD ?_ | refine zA ?_ | refine zX ?_ | refine zU ?_ | refine zZ ?_ | refine zQ ?_ | refine zi ?_ | refine zAi ?_) | ((with_reducible refine zI ?_ ?_); (· exact rfl)) | ((with_reducible refine zF ?_ ?_); (· exact rfl))))
  ·exact zV (by (exact zP.cons (by exact zf.tmp rfl) zP.nil)) () trivial (by rw [zED hlt (by rw [List.getElem?_eq_getElem hlt] at hx; cases hx; simp; omega) hall]; rfl) (fun _ h => h.sub (by (repeat (first | exact oK1 _ | (refine oK2 (by (repeat (first | exact tK1 _ _ | apply tK2))) ?_)))))
  ·exact ze (i + 1) ⟨by omega, fun j y hj hy => by
    by_cases e : j = i
    ·subst e; rw [hx] at hy; cases hy; simp; omega
    ·exact hall j y (by omega) hy⟩ (by omega) (by (first | exact lK1 | (repeat (first | exact lK1 | (refine zK rfl ?_))))) (by (repeat (first | exact oK1 _ | (refine oK2 (by (repeat (first | exact tK1 _ _ | apply tK2))) ?_))))
 ·obtain rfl : i = l.length := by omega
  (repeat' (first | ((with_reducible refine zG ?_); first | refine zC rfl rfl rfl rfl rfl ?_ | (refine zR rfl rfl rfl rfl rfl rfl rfl (fun h => ?_) (fun h => ?_) <;> (dsimp only [cmpP] at h; (try (exfalso; omega))))) | (with_reducible first | refine zH ?_ | refine zB ?_ | refine zD ?_ | refine zA ?_ | refine zX ?_ | refine zk ?_ | refine zT ?_ | refine zW ?_) | ((with_reducible refine zF ?_ ?_); (· exact rfl))))
  exact zV (by (exact zP.cons (by exact zf.tmp rfl) zP.nil)) () trivial (by rw [zDY (fun y hy => by obtain ⟨j, hj⟩ := List.mem_iff_getElem?.1 hy; exact hall j y (List.getElem?_eq_some_iff.1 hj).1 hj)]; rfl) (fun _ h => h.sub (by (repeat (first | exact oK1 _ | (refine oK2 (by (repeat (first | exact tK1 _ _ | apply tK2))) ?_)))))
theorem zOL {l : List Int} {n : Int} : (0 ≤ zCh (fun y => decide (n = y)) l) ↔ l.contains n = true := by
 rw [List.contains_iff_mem]
 unfold zCh
 cases hf : l.findIdx? (fun y => decide (n = y)) with
 | none =>
  rw [List.findIdx?_eq_none_iff] at hf
  simp only
  constructor
  ·intro h; omega
  ·intro h; have := hf n h; simp at this
 | some k =>
  obtain ⟨hk, hp, _⟩ := List.findIdx?_eq_some_iff_getElem.1 hf
  simp only
  constructor
  ·intro _
   simp only [decide_eq_true_eq] at hp
   rw [hp]; exact List.getElem_mem hk
  ·intro _; omega
theorem zGX (l : List Int) (n : Int) (A : Option Addr) (c : Nat) (w : World) (h : zp encI 1 w A l) (hl : l.length ≤ 1000000) : Gv Tryz.prog 105 [.slice A l.length c, .int .i64 n] w (.bool (l.contains n)) := by
 have h1 := fun W (hb : Below w.heap.size w W) => zOC l n A c W (h.below hb) hl
 have h2 := zOL (l := l) (n := n)
 generalize zCh (fun y => decide (n = y)) l = m at *
 unfold Gv
 (refine zL (n := 9) Tryz.func105 rfl rfl rfl ?_)
 (repeat' (first | ((with_reducible refine zG ?_); first | refine zE rfl rfl rfl rfl rfl ?_ | refine zC rfl rfl rfl rfl rfl ?_ | (refine zR rfl rfl rfl rfl rfl rfl rfl (fun h => ?_) (fun h => ?_) <;> (dsimp only [cmpP] at h; (try (exfalso; omega)))) | refine zY rfl rfl rfl rfl rfl rfl (fun _ _ q => h1 _ q.below) ?_) | (with_reducible first | refine zH ?_ | refine zB ?_ | refine zD ?_ | refine zA ?_ | refine zX ?_)))
 ·exact zV (by (exact zP.cons (by exact zf.tmp rfl) zP.nil)) () trivial (by rw [h2.1 (by omega)]; rfl) (fun _ h => h.sub (by (repeat (first | exact oK1 _ | (refine oK2 (by (repeat (first | exact tK1 _ _ | apply tK2))) ?_)))))
 ·exact zV (by (exact zP.cons (by exact zf.tmp rfl) zP.nil)) () trivial (by rw [show l.contains n = false from by cases e : l.contains n with | false => rfl | true => (have := h2.2 e; omega)]; rfl) (fun _ h => h.sub (by (repeat (first | exact oK1 _ | (refine oK2 (by (repeat (first | exact tK1 _ _ | apply tK2))) ?_)))))
end Go.Proofs.YtdigopgncfhiaaaGreatDoor
namespace Go.Proofs.YtdigopgncfhiaaaGreatDoor
open Go.RowKit
set_option maxRecDepth 20000
def thinned (t l : Sp) : Sp := ⟨max 0 (t.lo - l.hi), max 0 (t.hi - l.lo)⟩
def layered (c : Cov) (on : Bool) (t : Sp) : Sp := if on then ⟨t.lo + c.layer.lo, t.hi + c.layer.hi⟩ else t
def thickN (c : Cov) (pl : List Sli) (z : Bed) (i : Int) : Nat → Sp
 | 0 => z.thick
 | h + 1 => layered c ((pl.getD h default).xs.contains i) (thinned (thickN c pl z i h) (zBm c z (c.hours.getD h default)))
theorem zF8 {c : Cov} {pl : List Sli} {z : Bed} {i : Int} (hf : zCf c) (hz : z ∈ c.beds) : ∀ h, h ≤ c.hours.length → 0 ≤ (thickN c pl z i h).lo ∧ (thickN c pl z i h).lo ≤ 2000 + 100 * h ∧ 0 ≤ (thickN c pl z i h).hi ∧ (thickN c pl z i h).hi ≤ 2000 + 100 * h
 | 0, _ => by
  have := hf.bed z hz
  simp only [zEP, Bool.and_eq_true, zBI] at this
  simp only [thickN]; omega
 | h + 1, hl => by
  have ih := zF8 (pl := pl) (i := i) hf hz h (by omega)
  obtain ⟨u, hu⟩ : ∃ u, c.hours[h]? = some u := ⟨_, List.getElem?_eq_getElem (by omega)⟩
  have l4 := zD5 hf hz (List.mem_of_getElem? hu)
  have hl := hf.layer
  simp only [zBI] at hl
  simp only [thickN, zAv hu, layered, thinned]
  split <;> simp only <;> omega
end Go.Proofs.YtdigopgncfhiaaaGreatDoor
