/- D25 -/
import Derived.Test.YtdigopgncfhiaaaGreatDoorD23
import Derived.Test.YtdigopgncfhiaaaGreatDoorD14
import Derived.Test.YtdigopgncfhiaaaGreatDoorD24
import Derived.Test.YtdigopgncfhiaaaGreatDoorD18
import Derived.Laws.MakeOwn
set_option linter.unusedSimpArgs false
set_option linter.unusedVariables false
namespace Go.Proofs.YtdigopgncfhiaaaGreatDoor
open Go.RowKit
set_option maxRecDepth 20000
def zB8 : Cov := ⟨[], [], [], ⟨0, 0⟩, ⟨0, 0⟩, 0, 0, 0⟩
def zC4 (z : Bed) (th : Sp) : Bed := { z with thick := ⟨max z.thick.lo th.lo, min z.thick.hi th.hi⟩ }
def zMh (c : Cov) (th : Sp) : List Int → Cov × Int
 | [p] => if p = (c.beds.length : Int) then (zB8, 6)
  else if (zC4 (c.beds.getD p.toNat default) th).thick.hi < (zC4 (c.beds.getD p.toNat default) th).thick.lo then (zB8, 8)
  else ({ c with beds := c.beds.set p.toNat (zC4 (c.beds.getD p.toNat default) th) }, 0)
 | _ => (zB8, 6)
def zCs (c : Cov) (a : Int) (th : Sp) : Cov × Int :=
 if zAh c = 0 then
  if errP c.t a = 0 ∧ zBJ th 0 2000 = true then zMh c th (zDA c.t a) else (zB8, 2)
 else (zB8, zAh c)
theorem place_in {t : List St} {a : Int} : ∀ p ∈ zDA t a, ∃ i : Nat, p = (i : Int) ∧ i ≤ t.length := fun p hp => by
 unfold zDA at hp
 split at hp
 ·obtain ⟨i, hi, rfl⟩ := List.mem_map.1 hp
  have h1 := List.mem_range.1 (List.mem_filter.1 hi).1
  have := zJY t
  exact ⟨i, rfl, by omega⟩
 ·cases hp
theorem zDR {base : Nat} {w : World} : Own base w [.sl zBU 9 none [], .sl zAx 3 none [], .sl zx 5 none []] := by
 refine ⟨fun e he => ?_, fun e he b hb => ?_, ?_⟩
 ·simp only [List.mem_cons, List.not_mem_nil, or_false] at he
  rcases he with rfl | rfl | rfl <;> (intro i x hx; cases hx)
 ·simp only [List.mem_cons, List.not_mem_nil, or_false] at he
  rcases he with rfl | rfl | rfl <;> (obtain ⟨o, h⟩ := hb; cases h)
 ·refine List.Pairwise.cons (fun e _ b hb => ?_) (List.Pairwise.cons (fun e _ b hb => ?_) (List.Pairwise.cons (fun e _ b hb => ?_) List.Pairwise.nil)) <;> (obtain ⟨o, h⟩ := hb; cases h)
theorem clone_be (t : List Bed) (A : Option Addr) (c : Nat) (w : World) (ht : zp zAx 3 w A t) (h0 : 0 < t.length) (hl : t.length ≤ 1000) :
  Ret Tryz.prog 82 [.slice A t.length c] w (fun p : Option Addr × Nat => .slice p.1 t.length p.2) (fun p => [.row zAx 3 73 (.slice p.1 t.length p.2) t]) (fun _ => True) := by
 obtain ⟨bb, o, rfl, _⟩ := ht.at_ h0
 (refine zL (n := 8) Tryz.func82 rfl rfl rfl ?_)
 (repeat' (first | ((with_reducible refine zG ?_); first | refine zE rfl rfl rfl rfl rfl ?_ | refine zC rfl rfl rfl rfl rfl ?_ | refine zHr rfl rfl rfl rfl rfl rfl ?_ | (refine zFo zAx rfl rfl rfl rfl (fun b => ?_)) | (refine zBi (enc := zAx) t rfl rfl rfl rfl rfl (by (repeat (first | exact tK1 _ _ | apply tK2))) rfl rfl (zJ7 ht) (by refine ⟨?_, by decide⟩; (try simp only [List.length_append, List.length_cons, List.length_nil]); omega) (fun A' c' => ?_))) | (with_reducible first | refine zH ?_ | refine zB ?_ | refine zD ?_ | refine zA ?_ | refine zX ?_ | refine zU ?_) | ((with_reducible refine zF ?_ ?_); (· exact rfl))))
 exact zV (by (exact zP.cons (by exact zf.tmp rfl) zP.nil)) (A', c') trivial rfl (fun _ h => h.sub (by (repeat (first | exact oK1 _ | (refine oK2 (by (repeat (first | exact tK1 _ _ | apply tK2))) ?_)))))
theorem clone_st (t : List St) (A : Option Addr) (c : Nat) (w : World) (ht : zp zBU 9 w A t) (h0 : 0 < t.length) (hl : t.length ≤ 1000) :
  Ret Tryz.prog 81 [.slice A t.length c] w (fun p : Option Addr × Nat => .slice p.1 t.length p.2) (fun p => [.row zBU 9 86 (.slice p.1 t.length p.2) t]) (fun _ => True) := by
 obtain ⟨bb, o, rfl, _⟩ := ht.at_ h0
 (refine zL (n := 8) Tryz.func81 rfl rfl rfl ?_)
 (repeat' (first | ((with_reducible refine zG ?_); first | refine zE rfl rfl rfl rfl rfl ?_ | refine zC rfl rfl rfl rfl rfl ?_ | refine zHr rfl rfl rfl rfl rfl rfl ?_ | (refine zFo zBU rfl rfl rfl rfl (fun b => ?_)) | (refine zBi (enc := zBU) t rfl rfl rfl rfl rfl (by (repeat (first | exact tK1 _ _ | apply tK2))) rfl rfl (zJ7 ht) (by refine ⟨?_, by decide⟩; (try simp only [List.length_append, List.length_cons, List.length_nil]); omega) (fun A' c' => ?_))) | (with_reducible first | refine zH ?_ | refine zB ?_ | refine zD ?_ | refine zA ?_ | refine zX ?_ | refine zU ?_) | ((with_reducible refine zF ?_ ?_); (· exact rfl))))
 exact zV (by (exact zP.cons (by exact zf.tmp rfl) zP.nil)) (A', c') trivial rfl (fun _ h => h.sub (by (repeat (first | exact oK1 _ | (refine oK2 (by (repeat (first | exact tK1 _ _ | apply tK2))) ?_)))))
end Go.Proofs.YtdigopgncfhiaaaGreatDoor
namespace Go.Proofs.YtdigopgncfhiaaaGreatDoor.Two
variable {ro : Option Nat}
open Go.RowKit
set_option maxRecDepth 20000
section
variable {S : List (Nat × Nat)} {I : List (Nat × Nat × Nat × List Ent)} {P : Program} {w0 : World} {n : Nat} {d : List Deferred} {R R0 : List (Nat × Value)} {H H' H0 : List Ent} {Q : Exit → Act → World → Prop} {ops : Array Oper} {bs : List (List Bool)} {b : List Bool} {k : Nat} {o : Oper} {rest : List Oper} {T : List Rw} {t : Tmp} {Hk : zAT → List Ent} {x y : Operand} {v : Value}
theorem zG8 {α : Type} {enc : α → List Value} {kk e : Nat} {zs : List α} {f : FuncId} {fx : Operand} {xs : Array Operand} {ts : Array TypeId} {vs : zAT → List Value} {cap : Array Value} (hop : o.op = .call ⟨.value fx, xs, ts⟩) (hw : ∀ G, want (Rk R0 ops b o T G) ops o = some true) (hd : o.dst = some t) (hf : ∀ G, evR (Rk R0 ops b o T G) fx = some (.func (.func f) #[] cap)) (hx : ∀ G, evs (Rk R0 ops b o T G) xs.toList = some (vs G)) [ci : zS P f]
  (hc : ∀ G a w, Kn w0 n d (Rk R0 ops b o T G) (Hk G) a w → Ret P f (vs G ++ cap.toList) w (fun p : Option Addr × Nat => .slice p.1 zs.length p.2) (fun p => [.row enc kk e (.slice p.1 zs.length p.2) zs]) (fun _ => True)) (h : zAN ro S I P w0 n d ops R0 H0 Q bs (k + 1) rest (⟨k, some t, fun G => (.slice (G k).A zs.length (G k).m, [.row enc kk e (.slice (G k).A zs.length (G k).m) zs])⟩ :: T)) : CAt ro S I P w0 n d ops R0 H0 Q b bs k o rest T Hk := by
 refine zCQ (f := fun G => (.slice (G k).A zs.length (G k).m, [.row enc kk e (.slice (G k).A zs.length (G k).m) zs])) (fun G G' hG => by simp only [hG k (.inl rfl)]) (fun G a w q K hK => ?_) (by rw [hd]; exact h)
 rw [zAn q (hw G), if_pos rfl]
 unfold Oper.wp execOp; rw [hop]
 have e1 : xs.map a.eval = (vs G).toArray := by apply Array.ext'; simpa using q.evs (hx G)
 have e2 : (vs G).toArray ++ cap = (vs G ++ cap.toList).toArray := by apply Array.ext'; simp
 simp only [resolve, q.ev (hf G), e1, Deferred.ofValue, Sem.run_bind, Sem.run_pure, Result.andThen_ok, invoke, Array.empty_append, e2, ci.ent, Oper.upon_enter]
 refine Calls.mono (hc G a w q).calls ?_
 rintro e w' ⟨⟨A, m⟩, hp, rfl, hb, hE⟩
 exact hK _ _ _ ⟨⟨0, A, m⟩, by simp [upW]⟩ hb hE
end
set_option maxHeartbeats 8000000 in
theorem zMZ (c : Cov) (A : Option Addr) (ca : Nat) (B : Option Addr) (cb : Nat) (C : Option Addr) (cc : Nat) (a : Int) (th : Sp) (w : World) (h : zAq w c A B C) (hs : Small c) :
  Ret Tryz.prog 39 [zAS c A ca B cb C cc, .int .i64 a, vSp th] w (fun p : (Option Addr × Nat) × (Option Addr × Nat) × (Option Addr × Nat) => .tuple #[zAS (zCs c a th).1 p.1.1 p.1.2 p.2.1.1 p.2.1.2 p.2.2.1 p.2.2.2, .int .i64 (zCs c a th).2]) (fun p => [.sl zBU 9 p.1.1 (zCs c a th).1.t, .sl zAx 3 p.2.1.1 (zCs c a th).1.beds, .sl zx 5 p.2.2.1 (zCs c a th).1.hours]) (fun _ => True) := by
 have h4 := hs.b; have h5 := hs.h
 by_cases h0 : zAh c = 0
 ·have hf := zBg h0
  have hv : valid c.t = true := by
   cases hv : valid c.t with
   | true => rfl
   | false => unfold zAh at h0; rw [hv] at h0; simp at h0
  have hvl := zD0 hv
  have hbl := zLv h0
  have hbt := hf.beds
  have hh1 := hf.hours
  rw [zAJ] at hh1
  have h1 := fun W (hb : Below w.heap.size w W) => zDU c A ca B cb C cc W (h.below hb) hs h0
  have h2 := fun W (hb : Below w.heap.size w W) => zNs c.t A ca a W (h.t.below hb) hs.fit (by omega)
  have h3 := fun W (hb : Below w.heap.size w W) => clone_st c.t A ca W (h.t.below hb) (by omega) (by omega)
  have h6 := fun W (hb : Below w.heap.size w W) => clone_be c.beds B cb W (h.b.below hb) (by omega) (by omega)
  have h7 := fun W (hb : Below w.heap.size w W) => zLr c.hours C cc W (h.h.below hb) (by omega) (by omega)
  have hpi := place_in (t := c.t) (a := a)
  have hX : zCs c a th = if errP c.t a = 0 ∧ zBJ th 0 2000 = true then zMh c th (zDA c.t a) else (zB8, 2) := by unfold zCs; rw [if_pos h0]
  generalize zCs c a th = dx at *
  generalize errP c.t a = ep at *
  generalize zDA c.t a = l at *
  have e1 : zAS c A ca B cb C cc = .agg (zM c A ca B cb C cc).toArray := rfl
  rw [e1] at h1 ⊢
  unfold vT at h2
  unfold zM at h1 ⊢
  (refine zL (n := 107) Tryz.func39 rfl rfl rfl ?_)
  (repeat' (first | ((with_reducible refine zG ?_); first | refine zE rfl rfl rfl rfl rfl ?_ | refine zC rfl rfl rfl rfl rfl ?_ | (refine zJ rfl rfl rfl rfl rfl ?_; refine ⟨_, rfl, ?_⟩) | refine zd rfl rfl rfl rfl rfl ?_ | refine zAO rfl rfl rfl rfl rfl rfl ?_ | refine zu rfl rfl rfl ?_ | (refine zR rfl rfl rfl rfl rfl rfl rfl (fun h => ?_) (fun h => ?_) <;> (dsimp only [cmpP] at h; (try (exfalso; omega)))) | (refine zAR rfl rfl rfl rfl rfl rfl (fun _ _ q => h1 _ q.below) ?_; rintro g -; dsimp only [List.cons_append, List.nil_append]) | refine zCu rfl rfl rfl rfl rfl rfl (fun _ _ q => h2 _ q.below) (fun A' c' => ?_) | (refine zAG rfl rfl rfl rfl rfl rfl (fun _ _ q => zBo th 0 2000 _) (fun h => ?_) (fun h => ?_) <;> skip) | refine zh rfl rfl rfl rfl rfl rfl ?_ | refine zAe rfl rfl rfl rfl rfl ?_ | (refine zj rfl rfl rfl rfl rfl ?_; refine And.intro rfl (And.intro (by first | decide | exact Nat.le_of_ble_eq_true rfl | (simp; omega)) ⟨_, rfl, ?_⟩)) | (refine zt rfl rfl rfl rfl (fun b => ?_)) | (refine zAD rfl rfl rfl rfl rfl rfl (fun b => ?_)) | (refine zA4 rfl rfl rfl rfl rfl ?_; refine ⟨_, rfl, ?_⟩)) | (with_reducible first | refine zH ?_ | refine zB ?_ | refine zD ?_ | refine zA ?_ | refine zX ?_ | refine zU ?_ | refine zZ ?_) | ((with_reducible refine zI ?_ ?_); (· exact rfl)) | ((with_reducible refine zF ?_ ?_); (· exact rfl))))
  ·rw [show dx = (zB8, 2) by rw [hX, if_neg (fun e => h e.1)]]
   exact zV (by (exact zP.cons (by exact res1c rfl (by exact rfl)) (zP.cons (by exact zf.tmp rfl) zP.nil))) ((none, 0), (none, 0), none, 0) trivial rfl (fun _ h => zDR)
  ·rename_i b3 b5 x1 hne
   obtain ⟨b6, hb6⟩ : ∃ x, x = b := ⟨_, rfl⟩
   subst hb6
   have hep : ep = 0 := by omega
   rw [if_pos ⟨hep, h⟩] at hX
   rcases l with _ | ⟨p, _ | ⟨p2, r⟩⟩
   ·rw [show dx = (zB8, 6) from hX]
    simp only [List.length_nil]
    (refine zBv (by kernel_rfl) (by kernel_rfl) (by kernel_rfl) ?_)
    (repeat' (first | ((with_reducible refine zCb ?_); first | refine zl (zAm rfl rfl) rfl rfl rfl ?_ | refine zl (zDw rfl rfl rfl) rfl rfl rfl ?_ | refine zDI rfl rfl rfl ?_ | (refine zHL rfl rfl rfl rfl rfl rfl rfl (fun h => ?_) (fun h => ?_) <;> (dsimp only [cmpP] at h; (try (exfalso; omega)))) | refine zl (zEI rfl rfl) rfl rfl rfl ?_) | (with_reducible refine zDj ?_)))
    all_goals (repeat' (first | ((with_reducible refine zG ?_); first | refine zC rfl rfl rfl rfl rfl ?_ | (refine zj rfl rfl rfl rfl rfl ?_; refine And.intro rfl (And.intro (by first | decide | exact Nat.le_of_ble_eq_true rfl | (simp; omega)) ⟨_, rfl, ?_⟩)) | (refine zA4 rfl rfl rfl rfl rfl ?_; refine ⟨_, rfl, ?_⟩)) | (with_reducible first | refine zH ?_ | refine zB ?_ | refine zD ?_ | refine zA ?_ | refine zX ?_ | refine zZ ?_) | ((with_reducible refine zI ?_ ?_); (· exact rfl))))
    all_goals exact zV (by (exact zP.cons (by exact res1c rfl (by exact rfl)) (zP.cons (by exact zf.tmp rfl) zP.nil))) ((none, 0), (none, 0), none, 0) trivial rfl (fun _ h => zDR)
   ·obtain ⟨i, rfl, hi⟩ := hpi p (by simp)
    simp only [zMh] at hX
    refine zKm (xs := [(i : Int)]) (by (repeat (first | exact tK1 _ _ | apply tK2))) (by simp) ?_
    rintro b9 o9 rfl
    have : zAQ [(i : Int)] 0 (i : Int) := ⟨rfl⟩
    simp only [List.length_cons, List.length_nil]
    by_cases hie : i = c.beds.length
    ·rw [show dx = (zB8, 6) by rw [hX, if_pos (by omega)]]
     (refine zBv (by kernel_rfl) (by kernel_rfl) (by kernel_rfl) ?_)
     (repeat' (first | ((with_reducible refine zCb ?_); first | refine zl (zAm rfl rfl) rfl rfl rfl ?_ | refine zl (zAH rfl rfl (by exact rfl)) rfl rfl rfl ?_ | refine zl (zAY rfl rfl) rfl rfl rfl ?_ | refine zl (zDw rfl rfl rfl) rfl rfl rfl ?_ | (refine zHL rfl rfl rfl rfl rfl rfl rfl (fun h => ?_) (fun h => ?_) <;> (dsimp only [cmpP] at h; (try (exfalso; omega)))) | refine zl (zAt (I := 0) rfl rfl rfl (by omega) (by first | omega | (dsimp only; omega))) rfl rfl rfl ?_ | refine zl (zEI rfl rfl) rfl rfl rfl ?_) | (with_reducible refine zDj ?_)))
     all_goals (repeat' (first | ((with_reducible refine zG ?_); first | refine zC rfl rfl rfl rfl rfl ?_ | (refine zj rfl rfl rfl rfl rfl ?_; refine And.intro rfl (And.intro (by first | decide | exact Nat.le_of_ble_eq_true rfl | (simp; omega)) ⟨_, rfl, ?_⟩)) | (refine zA4 rfl rfl rfl rfl rfl ?_; refine ⟨_, rfl, ?_⟩)) | (with_reducible first | refine zH ?_ | refine zB ?_ | refine zD ?_ | refine zA ?_ | refine zX ?_ | refine zZ ?_) | ((with_reducible refine zI ?_ ?_); (· exact rfl))))
     all_goals exact zV (by (exact zP.cons (by exact res1c rfl (by exact rfl)) (zP.cons (by exact zf.tmp rfl) zP.nil))) ((none, 0), (none, 0), none, 0) trivial rfl (fun _ h => zDR)
    ·rw [if_neg (by omega)] at hX
     obtain ⟨z, hz⟩ : ∃ z, c.beds[i]? = some z := ⟨_, List.getElem?_eq_getElem (by omega)⟩
     simp only [Int.toNat_natCast, zAv hz] at hX
     (refine zBv (by kernel_rfl) (by kernel_rfl) (by kernel_rfl) ?_)
     (repeat' (first | ((with_reducible refine zCb ?_); first | refine zl (zAm rfl rfl) rfl rfl rfl ?_ | refine zl (zAH rfl rfl (by exact rfl)) rfl rfl rfl ?_ | refine zl (zAY rfl rfl) rfl rfl rfl ?_ | refine zl (zDw rfl rfl rfl) rfl rfl rfl ?_ | (refine zHL rfl rfl rfl rfl rfl rfl rfl (fun h => ?_) (fun h => ?_) <;> (dsimp only [cmpP] at h; (try (exfalso; omega)))) | refine zl (zAt (I := 0) rfl rfl rfl (by omega) (by first | omega | (dsimp only; omega))) rfl rfl rfl ?_ | refine zl (zEI rfl rfl) rfl rfl rfl ?_) | (with_reducible refine zDj ?_)))
     all_goals (repeat' (first | ((with_reducible refine zG ?_); first | refine zE rfl rfl rfl rfl rfl ?_ | (refine zJ rfl rfl rfl rfl rfl ?_; refine ⟨_, rfl, ?_⟩) | refine zd rfl rfl rfl rfl rfl ?_ | (refine zj rfl rfl rfl rfl rfl ?_; refine And.intro rfl (And.intro (by first | decide | exact Nat.le_of_ble_eq_true rfl | (simp; omega)) ⟨_, rfl, ?_⟩)) | (refine zt rfl rfl rfl rfl (fun b => ?_)) | refine zA9 rfl rfl rfl rfl rfl ?_) | (with_reducible first | refine zH ?_ | refine zB ?_ | refine zD ?_ | refine zA ?_ | refine zU ?_) | ((with_reducible refine zF ?_ ?_); (· exact rfl))))
     (refine zAo [] [] [] rfl (by decide) (fun _ h => h) (by kernel_rfl) [[], [I0], [I0, I0], [I0, I0, I0], [O0, O0, O0, O0], [I0, O0, O0, O0, O0], [I0, I0, I0, I0, I0, I0], [O0, O0, O0, O0, O0, O0, O0], [I0, O0, O0, O0, O0, O0, O0, O0], [I0, I0, I0, I0, I0, I0, I0, I0, I0], [O0, O0, O0, O0, O0, O0, I0, I0, I0, I0], [I0, O0, O0, O0, O0, O0, O0, I0, I0, I0, I0], [I0, I0, I0, I0, I0, I0, I0, I0, I0, I0, I0, I0], [I0, I0, I0, I0, I0, I0, I0, I0, I0, I0, I0, I0, I0], [I0, I0, I0, I0, I0, I0, I0, I0, I0, I0, I0, I0, I0, I0], [I0, I0, I0, I0, I0, I0, I0, I0, I0, I0, I0, I0, I0, I0, I0], [I0, I0, I0, I0, I0, I0, I0, I0, I0, I0, I0, I0, I0, I0, I0, I0]] (by kernel_rfl) (by kernel_rfl) (by kernel_rfl) (by kernel_rfl) (by kernel_rfl) ?_)
     (repeat' (first | (((with_reducible refine zC6 ?_ ?_); (· exact rfl); refine ⟨_, fun G => (by (try simp (decide := true) only [vis, see, fltT, zw, Nat.reduceAdd, Nat.reduceSub, if_true, if_false, List.set_cons_zero, List.set_cons_succ, List.set_nil, List.nil_append, List.cons_append]); rfl), ?_⟩); first | refine za _ (fun _ => zAH rfl rfl (by exact rfl)) (fun _ => rfl) rfl (by first | exact fun _ _ _ => rfl | (intro G G' h; simp (decide := true) only [h])) ?_ | (refine zAU rfl ?_; refine za _ (fun _ => zAY rfl rfl) (fun _ => rfl) rfl (by first | exact fun _ _ _ => rfl | (intro G G' h; simp (decide := true) only [h])) ?_) | (refine zG8 (enc := zBU) (e := 86) (zs := c.t) rfl (fun _ => rfl) rfl (fun _ => rfl) (fun _ => rfl) (fun _ _ _ q => h3 _ q.below) ?_) | (refine zG8 (enc := zAx) (e := 73) (zs := c.beds) rfl (fun _ => rfl) rfl (fun _ => rfl) (fun _ => rfl) (fun _ _ _ q => h6 _ q.below) ?_) | (refine zG8 (enc := zx) (e := 67) (zs := c.hours) rfl (fun _ => rfl) rfl (fun _ => rfl) (fun _ => rfl) (fun _ _ _ q => h7 _ q.below) ?_)) | ((with_reducible refine zBp ?_ ?_); (· exact rfl))))
     intro G
     simp only [regsT, List.nil_append, List.cons_append, Nat.reduceAdd]
     refine zEo (H' := [.row zx 5 67 (.slice (G 9).A c.hours.length (G 9).m) c.hours, .row zAx 3 73 (.slice (G 6).A c.beds.length (G 6).m) c.beds, .row zBU 9 86 (.slice (G 3).A c.t.length (G 3).m) c.t, .blk b [.slice A c.t.length ca, .slice B c.beds.length cb, .slice C c.hours.length cc, .int .i64 c.wear.lo, .int .i64 c.wear.hi, .int .i64 c.layer.lo, .int .i64 c.layer.hi, .int .i64 c.rate, .int .i64 c.limit, .int .i64 c.base], .sl encI 1 (some ⟨b9, o9, none⟩) [(i : Int)], .blk b6 [.slice none 0 0, .slice none 0 0, .slice none 0 0, .int .i64 0, .int .i64 0, .int .i64 0, .int .i64 0, .int .i64 0, .int .i64 0, .int .i64 0], .blk b5 [.int .i64 th.lo, .int .i64 th.hi]]) (fun _ h => h.sub (by (repeat (first | exact oK1 _ | (refine oK2 (by (repeat (first | exact tK1 _ _ | apply tK2))) ?_))))) ?_
     generalize (G 9).A = A9
     generalize (G 9).m = m9
     generalize (G 6).A = A6
     generalize (G 6).m = m6
     generalize (G 3).A = A3
     generalize (G 3).m = m3
     refine zJB (enc := zAx) (xs := c.beds) (by (repeat (first | exact tK1 _ _ | apply tK2))) (by omega) ?_
     rintro gb rfl
     have : zAQ c.beds i z := ⟨hz⟩
     (repeat' (first | ((with_reducible refine zG ?_); first | refine zd rfl rfl rfl rfl rfl ?_ | (refine zj rfl rfl rfl rfl rfl ?_; refine And.intro rfl (And.intro (by first | decide | exact Nat.le_of_ble_eq_true rfl | (simp; omega)) ⟨_, rfl, ?_⟩))) | (with_reducible first | refine zH ?_ | refine zD ?_ | refine zA ?_)))
     (refine zBv (by kernel_rfl) (by kernel_rfl) (by kernel_rfl) ?_)
     (repeat' (first | ((with_reducible refine zCb ?_); first | refine zl (zAm rfl rfl) rfl rfl rfl ?_ | refine zl (zAH rfl rfl (by exact rfl)) rfl rfl rfl ?_ | refine zl (zAY rfl rfl) rfl rfl rfl ?_ | refine zl (zB5 rfl rfl) rfl rfl rfl ?_ | refine zl (zAt (I := 0) rfl rfl rfl (by omega) (by first | omega | (dsimp only; omega))) rfl rfl rfl ?_ | refine zl (zAt (I := i) rfl rfl rfl (by omega) (by first | omega | (dsimp only; omega))) rfl rfl rfl ?_) | (with_reducible refine zDj ?_)))
     (repeat' (first | (with_reducible first | refine zH ?_ | refine zA ?_)))
     (refine zAo [] [] [] rfl (by decide) (fun _ h => h) (by kernel_rfl) [[], [O0], [I0, O0], [I0, I0, O0], [I0, I0, I0, O0], [I0, I0, I0, I0, O0], [O0, O0, O0, O0, O0, O0], [I0, O0, O0, O0, O0, O0, O0], [I0, I0, I0, I0, I0, I0, I0, O0], [O0, O0, O0, O0, O0, O0, O0, O0, O0], [I0, O0, O0, O0, O0, O0, O0, O0, O0, O0], [I0, I0, O0, O0, O0, O0, O0, O0, O0, O0, O0], [I0, I0, I0, O0, O0, O0, O0, O0, O0, O0, O0, O0], [I0, I0, I0, I0, O0, O0, O0, O0, O0, O0, O0, O0, O0], [O0, O0, O0, O0, O0, O0, O0, O0, O0, O0, O0, O0, O0, O0], [I0, O0, O0, O0, O0, O0, O0, O0, O0, O0, O0, O0, O0, O0, O0], [I0, I0, I0, I0, I0, I0, I0, O0, O0, O0, O0, O0, O0, O0, O0, O0], [I0, I0, I0, I0, I0, I0, I0, I0, I0, I0, I0, I0, I0, I0, I0, I0, O0], [I0, I0, I0, I0, I0, I0, I0, I0, I0, I0, I0, I0, I0, I0, I0, I0, I0, I0], [I0, I0, I0, I0, I0, I0, I0, I0, I0, I0, I0, I0, I0, I0, I0, I0, I0, I0, I0], [I0, I0, I0, I0, I0, I0, I0, I0, I0, I0, I0, I0, I0, I0, I0, I0, I0, I0, I0, I0]] (by kernel_rfl) (by kernel_rfl) (by kernel_rfl) (by kernel_rfl) (by kernel_rfl) ?_)
     (repeat' (first | (((with_reducible refine zC6 ?_ ?_); (· exact rfl); refine ⟨_, fun G => (by (try simp (decide := true) only [vis, see, fltT, zw, Nat.reduceAdd, Nat.reduceSub, if_true, if_false, List.set_cons_zero, List.set_cons_succ, List.set_nil, List.nil_append, List.cons_append]); rfl), ?_⟩); first | refine za _ (fun _ => zAm rfl rfl) (fun _ => rfl) rfl (by first | exact fun _ _ _ => rfl | (intro G G' h; simp (decide := true) only [h])) ?_ | refine za _ (fun _ => zAH rfl rfl (by exact rfl)) (fun _ => rfl) rfl (by first | exact fun _ _ _ => rfl | (intro G G' h; simp (decide := true) only [h])) ?_ | (refine zAU rfl ?_; refine za _ (fun _ => zAY rfl rfl) (fun _ => rfl) rfl (by first | exact fun _ _ _ => rfl | (intro G G' h; simp (decide := true) only [h])) ?_) | refine za _ (fun _ => zAc rfl rfl) (fun _ => rfl) rfl (by first | exact fun _ _ _ => rfl | (intro G G' h; simp (decide := true) only [h])) ?_ | refine za _ (fun _ => e_min rfl rfl rfl) (fun _ => rfl) rfl (by first | exact fun _ _ _ => rfl | (intro G G' h; simp (decide := true) only [h])) ?_ | refine za _ (fun _ => zLl rfl rfl rfl) (fun _ => rfl) rfl (by first | exact fun _ _ _ => rfl | (intro G G' h; simp (decide := true) only [h])) ?_ | refine za _ (fun _ => zDa rfl rfl (by exact rfl)) (fun _ => rfl) rfl (by first | exact fun _ _ _ => rfl | (intro G G' h; simp (decide := true) only [h])) ?_) | ((with_reducible refine zBp ?_ ?_); (· exact rfl))))
     intro G2
     simp only [regsT, List.nil_append, List.cons_append, Nat.reduceAdd]
     refine zEo (H' := [.arr zAx 3 gb c.beds, .blk b [.slice A3 c.t.length m3, .slice (some ⟨gb, 0, none⟩) c.beds.length m6, .slice A9 c.hours.length m9, .int .i64 c.wear.lo, .int .i64 c.wear.hi, .int .i64 c.layer.lo, .int .i64 c.layer.hi, .int .i64 c.rate, .int .i64 c.limit, .int .i64 c.base], .row zx 5 67 (.slice A9 c.hours.length m9) c.hours, .row zBU 9 86 (.slice A3 c.t.length m3) c.t, .sl encI 1 (some ⟨b9, o9, none⟩) [(i : Int)], .blk b6 [.slice none 0 0, .slice none 0 0, .slice none 0 0, .int .i64 0, .int .i64 0, .int .i64 0, .int .i64 0, .int .i64 0, .int .i64 0, .int .i64 0], .blk b5 [.int .i64 th.lo, .int .i64 th.hi]]) (fun _ h => h.sub (by (repeat (first | exact oK1 _ | (refine oK2 (by (repeat (first | exact tK1 _ _ | apply tK2))) ?_))))) ?_
     (repeat' (first | ((with_reducible refine zG ?_); first | refine zHo (enc := zAx) (k := 3) (i := i) (j := 0) (z := z) (zC4 z th) rfl rfl rfl rfl rfl rfl rfl rfl (by decide) ?_) | (with_reducible first | refine zH ?_ | refine zD ?_ | refine zA ?_)))
     have : zAQ (c.beds.set i (zC4 z th)) i (zC4 z th) := ⟨List.getElem?_set_self (by omega)⟩
     (refine zBv (by kernel_rfl) (by kernel_rfl) (by kernel_rfl) ?_)
     (repeat' (first | ((with_reducible refine zCb ?_); first | refine zl (zAm rfl rfl) rfl rfl rfl ?_ | refine zl (zAH rfl rfl (by exact rfl)) rfl rfl rfl ?_ | refine zl (zAY rfl rfl) rfl rfl rfl ?_ | (refine zHL rfl rfl rfl rfl rfl rfl rfl (fun h => ?_) (fun h => ?_) <;> (dsimp only [cmpP] at h; (try (exfalso; omega)))) | refine zl (zAc rfl rfl) rfl rfl rfl ?_) | (with_reducible refine zDj ?_)))
     ·rw [show dx = (zB8, 8) by rw [hX, if_pos h]]
      (repeat' (first | ((with_reducible refine zG ?_); first | refine zC rfl rfl rfl rfl rfl ?_ | (refine zj rfl rfl rfl rfl rfl ?_; refine And.intro rfl (And.intro (by first | decide | exact Nat.le_of_ble_eq_true rfl | (simp; omega)) ⟨_, rfl, ?_⟩)) | (refine zA4 rfl rfl rfl rfl rfl ?_; refine ⟨_, rfl, ?_⟩)) | (with_reducible first | refine zH ?_ | refine zB ?_ | refine zD ?_ | refine zA ?_ | refine zX ?_ | refine zZ ?_) | ((with_reducible refine zI ?_ ?_); (· exact rfl))))
      exact zV (by (exact zP.cons (by exact res1c rfl (by exact rfl)) (zP.cons (by exact zf.tmp rfl) zP.nil))) ((none, 0), (none, 0), none, 0) trivial rfl (fun _ h => zDR)
     ·rw [show dx = ({ c with beds := c.beds.set i (zC4 z th) }, 0) by rw [hX, if_neg h]]
      (repeat' (first | ((with_reducible refine zG ?_); first | refine zC rfl rfl rfl rfl rfl ?_ | (refine zJ rfl rfl rfl rfl rfl ?_; refine ⟨_, rfl, ?_⟩) | (refine zj rfl rfl rfl rfl rfl ?_; refine And.intro rfl (And.intro (by first | decide | exact Nat.le_of_ble_eq_true rfl | (simp; omega)) ⟨_, rfl, ?_⟩))) | (with_reducible first | refine zH ?_ | refine zB ?_ | refine zD ?_ | refine zA ?_ | refine zX ?_ | refine zU ?_) | ((with_reducible refine zF ?_ ?_); (· exact rfl))))
      exact zV (by (exact zP.cons (by exact res1c rfl (by exact rfl)) (zP.cons (by exact zf.tmp rfl) zP.nil))) ((A3, m3), (some ⟨gb, 0, none⟩, m6), A9, m9) trivial (by simp only [zAS, zM, List.length_set]; rfl) (fun _ h => (((Own.zMq (xs := c.beds.set i (zC4 z th)) (by (repeat (first | exact tK1 _ _ | apply tK2))) h).zFq (xs := c.hours) (by (repeat (first | exact tK1 _ _ | apply tK2)))).zFq (xs := c.t) (by (repeat (first | exact tK1 _ _ | apply tK2)))).sub (by (repeat (first | exact oK1 _ | (refine oK2 (by (repeat (first | exact tK1 _ _ | apply tK2))) ?_)))))
   ·rw [show dx = (zB8, 6) from hX]
    simp only [List.length_cons]
    (refine zBv (by kernel_rfl) (by kernel_rfl) (by kernel_rfl) ?_)
    (repeat' (first | ((with_reducible refine zCb ?_); first | refine zl (zAm rfl rfl) rfl rfl rfl ?_ | refine zl (zDw rfl rfl rfl) rfl rfl rfl ?_ | refine zDI rfl rfl rfl ?_ | (refine zHL rfl rfl rfl rfl rfl rfl rfl (fun h => ?_) (fun h => ?_) <;> (dsimp only [cmpP] at h; (try (exfalso; omega)))) | refine zl (zEI rfl rfl) rfl rfl rfl ?_) | (with_reducible refine zDj ?_)))
    all_goals (repeat' (first | ((with_reducible refine zG ?_); first | refine zC rfl rfl rfl rfl rfl ?_ | (refine zj rfl rfl rfl rfl rfl ?_; refine And.intro rfl (And.intro (by first | decide | exact Nat.le_of_ble_eq_true rfl | (simp; omega)) ⟨_, rfl, ?_⟩)) | (refine zA4 rfl rfl rfl rfl rfl ?_; refine ⟨_, rfl, ?_⟩)) | (with_reducible first | refine zH ?_ | refine zB ?_ | refine zD ?_ | refine zA ?_ | refine zX ?_ | refine zZ ?_) | ((with_reducible refine zI ?_ ?_); (· exact rfl))))
    all_goals exact zV (by (exact zP.cons (by exact res1c rfl (by exact rfl)) (zP.cons (by exact zf.tmp rfl) zP.nil))) ((none, 0), (none, 0), none, 0) trivial rfl (fun _ h => zDR)
  ·rw [show dx = (zB8, 2) by rw [hX, if_neg (fun e => by rw [e.2] at h; cases h)]]
   exact zV (by (exact zP.cons (by exact res1c rfl (by exact rfl)) (zP.cons (by exact zf.tmp rfl) zP.nil))) ((none, 0), (none, 0), none, 0) trivial rfl (fun _ h => zDR)
 ·have h1 := fun W (hb : Below w.heap.size w W) => zE0 c A ca B cb C cc W (h.below hb) hs h0
  have hX : zCs c a th = (zB8, zAh c) := by unfold zCs; rw [if_neg h0]
  rw [hX]
  have e1 : zAS c A ca B cb C cc = .agg (zM c A ca B cb C cc).toArray := rfl
  rw [e1] at h1 ⊢
  generalize zAh c = e at *
  unfold zM at h1 ⊢
  (refine zL (n := 107) Tryz.func39 rfl rfl rfl ?_)
  (repeat' (first | ((with_reducible refine zG ?_); first | refine zE rfl rfl rfl rfl rfl ?_ | refine zC rfl rfl rfl rfl rfl ?_ | (refine zJ rfl rfl rfl rfl rfl ?_; refine ⟨_, rfl, ?_⟩) | (refine zR rfl rfl rfl rfl rfl rfl rfl (fun h => ?_) (fun h => ?_) <;> (dsimp only [cmpP] at h; (try (exfalso; omega)))) | refine zY rfl rfl rfl rfl rfl rfl (fun _ _ q => h1 _ q.below) ?_ | refine zh rfl rfl rfl rfl rfl rfl ?_ | (refine zj rfl rfl rfl rfl rfl ?_; refine And.intro rfl (And.intro (by first | decide | exact Nat.le_of_ble_eq_true rfl | (simp; omega)) ⟨_, rfl, ?_⟩)) | (refine zt rfl rfl rfl rfl (fun b => ?_)) | (refine zAD rfl rfl rfl rfl rfl rfl (fun b => ?_)) | (refine zA4 rfl rfl rfl rfl rfl ?_; refine ⟨_, rfl, ?_⟩)) | (with_reducible first | refine zH ?_ | refine zB ?_ | refine zD ?_ | refine zA ?_ | refine zX ?_ | refine zZ ?_) | ((with_reducible refine zI ?_ ?_); (· exact rfl))))
  exact zV (by (exact zP.cons (by exact res1c rfl (by exact rfl)) (zP.cons (by exact zf.tmp rfl) zP.nil))) ((none, 0), (none, 0), none, 0) trivial rfl (fun _ h => zDR)
end Go.Proofs.YtdigopgncfhiaaaGreatDoor.Two
namespace Go.Proofs.YtdigopgncfhiaaaGreatDoor
open Go.RowKit
set_option maxRecDepth 20000
def zDG (m k : Nat) : List Int := ((List.range k).filter m.testBit).map fun h : Nat => (h : Int)
theorem zKv {m k : Nat} (h : m.testBit k = true) : zDG m (k + 1) = zDG m k ++ [(k : Int)] := by
 simp [zDG, List.range_succ, List.filter_append, h]
theorem zM2 {m k : Nat} (h : m.testBit k = false) : zDG m (k + 1) = zDG m k := by
 simp [zDG, List.range_succ, List.filter_append, h]
theorem zH3 (m k : Nat) : (zDG m k).length ≤ k := by
 have := List.length_filter_le m.testBit (List.range k)
 simpa [zDG] using this
def lexB : List Int → List Int → Bool
 | x :: a, y :: b => if x = y then lexB a b else decide (x < y)
 | _, _ => false
def befB (a b : List Int) : Bool := if a.length = b.length then lexB a b else decide (a.length < b.length)
end Go.Proofs.YtdigopgncfhiaaaGreatDoor
namespace Go.Proofs.YtdigopgncfhiaaaGreatDoor
open Go.RowKit
set_option maxRecDepth 20000
section
variable {ro : Option Nat} {P : Program} {w0 : World} {n : Nat} {d : List Deferred} {R : List (Nat × Value)} {H : List Ent} {Q : Exit → Act → World → Prop} {ops : Array Oper} {rest : List Oper} {o : Oper} {t : Tmp} {x y : Operand} {T T' : TypeId} {k : IntKind} {i j : Int}
def isAny2 : BinOp → Bool
 | .add | .and => true
 | _ => false
theorem u_any2 {c : BinOp} (hop : o.op = .binOp c T x y T') (hc : isAny2 c = true) (hw : want R ops o = some true) (hd : o.dst = some t) (ht : Nat.blt t n = true) (hx : evR R x = some (.int k i)) (hy : evR R y = some (.int k j)) (h : ∀ z, U w0 n d ((t, .int k z) :: R) H (wpL ro P ops Q rest)) : U w0 n d R H (wpL ro P ops Q (o :: rest)) := by
 have key : ∃ z, ∀ a w, Kn w0 n d R H a w → (execOp a.eval o).run P w = .ok (.value (.int k z)) w := by
  cases c <;> simp only [isAny2, Bool.false_eq_true] at hc
  ·exact ⟨k.wrap (i + j), fun a w q => by unfold execOp; rw [hop]; simp [q.ev hx, q.ev hy, eqGuard, binOp, Op.intArith]⟩
  ·exact ⟨_, fun a w q => by unfold execOp; rw [hop]; simp only [Sem.run_bind, q.ev hx, q.ev hy, eqGuard, binOp, Op.intBits, ne_eq, not_true_eq_false, if_false, Bool.not_false, if_true, Sem.run_pure, Result.andThen_ok]; rfl⟩
 obtain ⟨z, hz⟩ := key
 exact zAL hw hd ht hz (h z)
end
theorem zMF (z : Int) (w : World) : Ret Tryz.prog 113 [.int .u64 z] w (fun m : Nat => .int .i64 (m : Int)) (fun _ => []) (fun m => m ≤ 127) := by
 (refine zL (n := 35) Tryz.func113 rfl rfl rfl ?_)
 (repeat' (first | ((with_reducible refine zG ?_); first | refine zE rfl rfl rfl rfl rfl ?_ | refine zC rfl rfl rfl rfl rfl ?_ | refine u_and127 rfl rfl rfl rfl rfl rfl (fun m hm => ?_) | refine u_any2 rfl rfl rfl rfl rfl rfl rfl (fun _ => ?_) | refine u_anyShr rfl rfl rfl rfl rfl rfl (by omega) (fun _ => ?_) | refine zJE rfl rfl rfl rfl rfl (fun _ => ?_)) | (with_reducible first | refine zH ?_ | refine zB ?_ | refine zD ?_ | refine zA ?_ | refine zX ?_)))
 exact zV (by (exact zP.cons (by exact zf.tmp rfl) zP.nil)) m hm rfl (fun _ h => h.sub (by (repeat (first | exact oK1 _ | (refine oK2 (by (repeat (first | exact tK1 _ _ | apply tK2))) ?_)))))
theorem ones_any (z : Int) (w : World) : Ret Tryz.prog 71 [.int .u64 z] w (fun m : Nat => .int .i64 (m : Int)) (fun _ => []) (fun m => m ≤ 127) := by
 (refine zL (n := 8) Tryz.func71 rfl rfl rfl ?_)
 (repeat' (first | ((with_reducible refine zG ?_); first | refine zE rfl rfl rfl rfl rfl ?_ | refine zC rfl rfl rfl rfl rfl ?_ | (refine zAR rfl rfl rfl rfl rfl rfl (fun _ _ q => zMF _ _) ?_; rintro m hm; dsimp only [List.cons_append, List.nil_append])) | (with_reducible first | refine zH ?_ | refine zB ?_ | refine zD ?_ | refine zA ?_ | refine zX ?_ | refine zU ?_) | ((with_reducible refine zF ?_ ?_); (· exact rfl))))
 exact zV (by (exact zP.cons (by exact zf.tmp rfl) zP.nil)) m hm rfl (fun _ h => h.sub (by (repeat (first | exact oK1 _ | (refine oK2 (by (repeat (first | exact tK1 _ _ | apply tK2))) ?_)))))
theorem zN9 (x : Int) (w : World) : Gv Tryz.prog 138 [.int .i64 x] w (.bool false) := by
 unfold Gv
 (refine zL (n := 6) Tryz.func138 rfl rfl rfl ?_)
 (repeat' (first | ((with_reducible refine zG ?_); first | refine zE rfl rfl rfl rfl rfl ?_ | refine zC rfl rfl rfl rfl rfl ?_ | (refine zR rfl rfl rfl rfl rfl rfl rfl (fun h => ?_) (fun h => ?_) <;> (dsimp only [cmpP] at h; (try (exfalso; omega))))) | (with_reducible first | refine zH ?_ | refine zB ?_ | refine zD ?_ | refine zA ?_ | refine zX ?_)))
 exact zV (by (exact zP.cons (by exact zf.tmp rfl) zP.nil)) () trivial rfl (fun _ _ => Own.nil _ _)
def cmpI (x y : Int) : Int := if x < y then -1 else if y < x then 1 else 0
theorem cmp_any (x y : Int) (w : World) : Gv Tryz.prog 115 [.int .i64 x, .int .i64 y] w (.int .i64 (cmpI x y)) := by
 unfold Gv cmpI
 (refine zL (n := 20) Tryz.func115 rfl rfl rfl ?_)
 (repeat' (first | ((with_reducible refine zG ?_); first | refine zE rfl rfl rfl rfl rfl ?_ | refine zC rfl rfl rfl rfl rfl ?_ | (refine zR rfl rfl rfl rfl rfl rfl rfl (fun h => ?_) (fun h => ?_) <;> (dsimp only [cmpP] at h; (try (exfalso; omega)))) | refine zY rfl rfl rfl rfl rfl rfl (fun _ _ q => zN9 _ _) ?_) | (with_reducible first | refine zH ?_ | refine zB ?_ | refine zD ?_ | refine zA ?_ | refine zX ?_ | refine zU ?_ | refine zZ ?_) | ((with_reducible refine zI ?_ ?_); (· exact rfl)) | ((with_reducible refine zF ?_ ?_); (· exact rfl))))
 all_goals exact zV (by (exact zP.cons (by exact zf.tmp rfl) zP.nil)) () trivial (by simp only [resV]; congr 1; omega) (fun _ h => h.sub (by (repeat (first | exact oK1 _ | (refine oK2 (by (repeat (first | exact tK1 _ _ | apply tK2))) ?_)))))
def zHc : List Int → List Int → Int
 | x :: a, y :: b => if cmpI x y = 0 then zHc a b else cmpI x y
 | _, _ => 0
theorem zOY {a b : List Int} {i : Nat} {x y : Int} (h1 : a[i]? = some x) (h2 : b[i]? = some y) : zHc (a.drop i) (b.drop i) = if cmpI x y = 0 then zHc (a.drop (i + 1)) (b.drop (i + 1)) else cmpI x y := by
 obtain ⟨i1, rfl⟩ := List.getElem?_eq_some_iff.1 h1
 obtain ⟨i2, rfl⟩ := List.getElem?_eq_some_iff.1 h2
 rw [List.drop_eq_getElem_cons i1, List.drop_eq_getElem_cons i2]; rfl
theorem zLq : ∀ (a b : List Int), zHc a b < 0 ↔ lexB a b = true
 | [], _ => by simp [zHc, lexB]
 | _ :: _, [] => by simp [zHc, lexB]
 | x :: a, y :: b => by
  simp only [zHc, lexB]
  by_cases e : x = y
  ·subst e
   rw [if_pos rfl, if_pos (by simp [cmpI])]
   exact zLq a b
  ·rw [if_neg e]
   unfold cmpI
   by_cases h : x < y
   ·simp [h]
   ·have : y < x := by omega
    simp [h, this]
set_option maxHeartbeats 1000000 in
theorem zKa (a : List Int) (A : Option Addr) (ca : Nat) (m : List Int) (B : Option Addr) (cb : Nat) (w : World) (ha : zp encI 1 w A a) (hm : zp encI 1 w B m) (h1 : a.length ≤ 1000) (hl : a.length = m.length) :
  Gv Tryz.prog 74 [.slice A a.length ca, .slice B m.length cb] w (.int .i64 (zHc a m)) := by
 unfold Gv
 (refine zL (n := 36) Tryz.func74 rfl rfl rfl ?_)
 (repeat' (first | ((with_reducible refine zG ?_); first | refine zE rfl rfl rfl rfl rfl ?_ | refine zC rfl rfl rfl rfl rfl ?_ | refine zr rfl rfl rfl rfl rfl ?_) | (with_reducible first | refine zH ?_ | refine zB ?_ | refine zD ?_ | refine zA ?_ | refine zQ ?_)))
 refine zq (ι := Nat) [0, 1, 9, 10] rfl (fun i => i ≤ a.length ∧ zHc (a.drop i) (m.drop i) = zHc a m) (fun i => [(11, .int .i64 (i : Int))]) (fun _ => []) (fun i => a.length - i) 0 ⟨Nat.zero_le _, rfl⟩ (by (first | exact lK1 | (repeat (first | exact lK1 | (refine zK rfl ?_))))) (by (repeat (first | exact oK1 _ | (refine oK2 (by (repeat (first | exact tK1 _ _ | apply tK2))) ?_)))) ?_
 rintro i ⟨hi, hlx⟩
 simp only [zAw, List.cons_append, List.nil_append]
 by_cases hlt : i < a.length
 ·obtain ⟨x, hx⟩ : ∃ x, a[i]? = some x := ⟨_, List.getElem?_eq_getElem hlt⟩
  obtain ⟨y, hy⟩ : ∃ y, m[i]? = some y := ⟨_, List.getElem?_eq_getElem (by omega)⟩
  rw [zOY hx hy] at hlx
  obtain ⟨b1, o1, rfl, _, _⟩ := ha.at_ hlt
  obtain ⟨b2, o2, rfl, _, _⟩ := hm.at_ (i := i) (by omega)
  have : InS w b1 o1 encI 1 a := ⟨ha⟩
  have : InS w b2 o2 encI 1 m := ⟨hm⟩
  have : zAQ a i x := ⟨hx⟩
  have : zAQ m i y := ⟨hy⟩
  have hcm := fun W => cmp_any x y W
  generalize cmpI x y = z at *
  by_cases hz : z = 0
  ·rw [if_pos hz] at hlx
   (repeat' (first | ((with_reducible refine zG ?_); first | refine zE rfl rfl rfl rfl rfl ?_ | refine zC rfl rfl rfl rfl rfl ?_ | (refine zJ rfl rfl rfl rfl rfl ?_; refine ⟨_, rfl, ?_⟩) | (refine zR rfl rfl rfl rfl rfl rfl rfl (fun h => ?_) (fun h => ?_) <;> (dsimp only [cmpP] at h; (try (exfalso; omega)))) | refine zY rfl rfl rfl rfl rfl rfl (fun _ _ q => hcm _) ?_ | refine zg rfl rfl rfl rfl rfl rfl (by omega) ?_ | refine zb rfl rfl rfl rfl rfl rfl rfl (by omega) ?_ | refine zr rfl rfl rfl rfl rfl ?_) | (with_reducible first | refine zH ?_ | refine zB ?_ | refine zD ?_ | refine zA ?_ | refine zU ?_ | refine zQ ?_ | refine zi ?_) | ((with_reducible refine zI ?_ ?_); (· exact rfl)) | ((with_reducible refine zF ?_ ?_); (· exact rfl))))
   all_goals exact ze (ι := Nat) (i + 1) (by exact ⟨by omega, hlx⟩) (by omega) (by (first | exact lK1 | (repeat (first | exact lK1 | (refine zK rfl ?_))))) (by (repeat (first | exact oK1 _ | (refine oK2 (by (repeat (first | exact tK1 _ _ | apply tK2))) ?_))))
  ·rw [if_neg hz] at hlx
   rw [← hlx]
   (repeat' (first | ((with_reducible refine zG ?_); first | refine zE rfl rfl rfl rfl rfl ?_ | refine zC rfl rfl rfl rfl rfl ?_ | (refine zJ rfl rfl rfl rfl rfl ?_; refine ⟨_, rfl, ?_⟩) | (refine zR rfl rfl rfl rfl rfl rfl rfl (fun h => ?_) (fun h => ?_) <;> (dsimp only [cmpP] at h; (try (exfalso; omega)))) | refine zY rfl rfl rfl rfl rfl rfl (fun _ _ q => hcm _) ?_ | refine zb rfl rfl rfl rfl rfl rfl rfl (by omega) ?_ | refine zr rfl rfl rfl rfl rfl ?_) | (with_reducible first | refine zH ?_ | refine zB ?_ | refine zD ?_ | refine zA ?_ | refine zX ?_ | refine zU ?_ | refine zZ ?_ | refine zQ ?_ | refine zAi ?_) | ((with_reducible refine zI ?_ ?_); (· exact rfl)) | ((with_reducible refine zF ?_ ?_); (· exact rfl))))
   all_goals exact zV (by (exact zP.cons (by exact zf.tmp rfl) zP.nil)) () trivial rfl (fun _ _ => Own.nil _ _)
 ·obtain rfl : i = a.length := by omega
  have e : zHc a m = 0 := by rw [← hlx, List.drop_length]; rfl
  rw [e]
  (repeat' (first | ((with_reducible refine zG ?_); first | refine zE rfl rfl rfl rfl rfl ?_ | refine zC rfl rfl rfl rfl rfl ?_ | (refine zR rfl rfl rfl rfl rfl rfl rfl (fun h => ?_) (fun h => ?_) <;> (dsimp only [cmpP] at h; (try (exfalso; omega)))) | refine zr rfl rfl rfl rfl rfl ?_) | (with_reducible first | refine zH ?_ | refine zB ?_ | refine zD ?_ | refine zA ?_ | refine zX ?_ | refine zU ?_ | refine zk ?_ | refine zT ?_ | refine zW ?_) | ((with_reducible refine zF ?_ ?_); (· exact rfl))))
  all_goals exact zV (by (exact zP.cons (by exact zf.tmp rfl) zP.nil)) () trivial rfl (fun _ _ => Own.nil _ _)
def ordI (a b : List Int) : Int := if a.length = b.length then zHc a b else (a.length : Int) - b.length
theorem ordI_bef (a b : List Int) : ordI a b < 0 ↔ befB a b = true := by
 unfold ordI befB
 split
 ·exact zLq a b
 ·simp; omega
theorem zNu (a : List Int) (A : Option Addr) (ca : Nat) (m : List Int) (B : Option Addr) (cb : Nat) (w : World) (ha : zp encI 1 w A a) (hm : zp encI 1 w B m) (h1 : a.length ≤ 1000) (h2 : m.length ≤ 1000) :
  Gv Tryz.prog 73 [.slice A a.length ca, .slice B m.length cb] w (.int .i64 (ordI a m)) := by
 have hcm := fun (hl : a.length = m.length) W (hb : Below w.heap.size w W) => zKa a A ca m B cb W (ha.below hb) (hm.below hb) h1 hl
 unfold Gv ordI
 (refine zL (n := 18) Tryz.func73 rfl rfl rfl ?_)
 by_cases hl : a.length = m.length
 ·rw [if_pos hl]
  have hcm := hcm hl
  (repeat' (first | ((with_reducible refine zG ?_); first | refine zE rfl rfl rfl rfl rfl ?_ | refine zC rfl rfl rfl rfl rfl ?_ | (refine zR rfl rfl rfl rfl rfl rfl rfl (fun h => ?_) (fun h => ?_) <;> (dsimp only [cmpP] at h; (try (exfalso; omega)))) | refine zY rfl rfl rfl rfl rfl rfl (fun _ _ q => hcm _ q.below) ?_ | refine zr rfl rfl rfl rfl rfl ?_) | (with_reducible first | refine zH ?_ | refine zB ?_ | refine zD ?_ | refine zA ?_ | refine zX ?_ | refine zU ?_) | ((with_reducible refine zF ?_ ?_); (· exact rfl))))
  exact zV (by (exact zP.cons (by exact zf.tmp rfl) zP.nil)) () trivial rfl (fun _ _ => Own.nil _ _)
 ·rw [if_neg hl]
  (repeat' (first | ((with_reducible refine zG ?_); first | refine zE rfl rfl rfl rfl rfl ?_ | refine zC rfl rfl rfl rfl rfl ?_ | (refine zR rfl rfl rfl rfl rfl rfl rfl (fun h => ?_) (fun h => ?_) <;> (dsimp only [cmpP] at h; (try (exfalso; omega)))) | refine zCC rfl rfl rfl rfl rfl rfl (IntWalk.i64_in _ (by omega)) ?_ | refine zr rfl rfl rfl rfl rfl ?_) | (with_reducible first | refine zH ?_ | refine zB ?_ | refine zD ?_ | refine zA ?_ | refine zX ?_ | refine zZ ?_) | ((with_reducible refine zI ?_ ?_); (· exact rfl))))
  exact zV (by (exact zP.cons (by exact zf.tmp rfl) zP.nil)) () trivial rfl (fun _ _ => Own.nil _ _)
end Go.Proofs.YtdigopgncfhiaaaGreatDoor
namespace Go.Proofs.YtdigopgncfhiaaaGreatDoor
open Go.RowKit
set_option maxRecDepth 20000
def zDq (m x : zy Int) : zy Int := if befB x.xs m.xs = true then x else m
def minS : List (zy Int) → zy Int
 | [] => zAp
 | s :: r => r.foldl zDq s
theorem zLM : ∀ (r : List (zy Int)) (s : zy Int), r.foldl zDq s = s ∨ r.foldl zDq s ∈ r
 | [], s => .inl rfl
 | x :: r, s => by
  simp only [List.foldl_cons]
  rcases zLM r (zDq s x) with h | h
  ·rw [h]; unfold zDq; split
   ·exact .inr List.mem_cons_self
   ·exact .inl rfl
  ·exact .inr (List.mem_cons_of_mem _ h)
set_option maxHeartbeats 2000000 in
theorem min_any (L : List (zy Int)) (A : Option Addr) (ca : Nat) (w : World) (hL : zCd encI 1 w A L) (h0 : 0 < L.length) (hl : L.length ≤ 100000) (hb : ∀ s ∈ L, s.xs.length ≤ 1000) :
  Gv Tryz.prog 114 [.slice A L.length ca, .func (.func 73) #[] #[]] w (.slice (minS L).A (minS L).xs.length (minS L).c) := by
 have hLp := hL.p
 obtain ⟨b1, o1, rfl, _, _⟩ := hLp.at_ h0
 have : InS w b1 o1 zn 1 L := ⟨hLp⟩
 obtain ⟨s0, hs0⟩ : ∃ s, L[0]? = some s := ⟨_, List.getElem?_eq_getElem h0⟩
 have : zAQ L 0 s0 := ⟨hs0⟩
 have hmin : (L.drop 1).foldl zDq s0 = minS L := by
  cases L with
  | nil => cases h0
  | cons x r => cases hs0; rfl
 unfold Gv
 (refine zL (n := 33) Tryz.func114 rfl rfl rfl ?_)
 (repeat' (first | ((with_reducible refine zG ?_); first | refine zE rfl rfl rfl rfl rfl ?_ | refine zC rfl rfl rfl rfl rfl ?_ | (refine zJ rfl rfl rfl rfl rfl ?_; refine ⟨_, rfl, ?_⟩) | (refine zR rfl rfl rfl rfl rfl rfl rfl (fun h => ?_) (fun h => ?_) <;> (dsimp only [cmpP] at h; (try (exfalso; omega)))) | refine zb rfl rfl rfl rfl rfl rfl rfl (by omega) ?_ | refine zr rfl rfl rfl rfl rfl ?_) | (with_reducible first | refine zH ?_ | refine zB ?_ | refine zD ?_ | refine zA ?_ | refine zU ?_ | refine zQ ?_) | ((with_reducible refine zF ?_ ?_); (· exact rfl))))
 refine zq (ι := Nat × zy Int) [0, 1] rfl (fun q => q.1 ≤ L.length ∧ q.2 ∈ L ∧ (L.drop q.1).foldl zDq q.2 = minS L) (fun q => [(6, .int .i64 (q.1 : Int)), (5, .slice q.2.A q.2.xs.length q.2.c)]) (fun _ => []) (fun q => L.length - q.1) (1, s0) ⟨h0, List.mem_of_getElem? hs0, hmin⟩ (by (first | exact lK1 | (repeat (first | exact lK1 | (refine zK rfl ?_))))) (by (repeat (first | exact oK1 _ | (refine oK2 (by (repeat (first | exact tK1 _ _ | apply tK2))) ?_)))) ?_
 rintro ⟨i, s⟩ ⟨hi, hs, hf⟩
 simp only at hi hs hf
 simp only [zAw, List.cons_append, List.nil_append]
 by_cases hlt : i < L.length
 ·obtain ⟨x, hx⟩ : ∃ x, L[i]? = some x := ⟨_, List.getElem?_eq_getElem hlt⟩
  have : zAQ L i x := ⟨hx⟩
  have hxL := List.mem_of_getElem? hx
  have hord := fun W (hb' : Below w.heap.size w W) => zNu x.xs x.A x.c s.xs s.A s.c W ((hL.rows x hxL).below hb') ((hL.rows s hs).below hb') (hb x hxL) (hb s hs)
  have hbf := ordI_bef x.xs s.xs
  rw [show L.drop i = x :: L.drop (i + 1) by rw [List.drop_eq_getElem_cons hlt]; rw [List.getElem?_eq_getElem hlt] at hx; cases hx; rfl, List.foldl_cons] at hf
  generalize ordI x.xs s.xs = z at *
  by_cases hz : z < 0
  ·rw [show zDq s x = x by unfold zDq; rw [if_pos (hbf.1 hz)]] at hf
   (repeat' (first | ((with_reducible refine zG ?_); first | refine zE rfl rfl rfl rfl rfl ?_ | refine zC rfl rfl rfl rfl rfl ?_ | (refine zJ rfl rfl rfl rfl rfl ?_; refine ⟨_, rfl, ?_⟩) | (refine zR rfl rfl rfl rfl rfl rfl rfl (fun h => ?_) (fun h => ?_) <;> (dsimp only [cmpP] at h; (try (exfalso; omega)))) | refine zY rfl rfl rfl rfl rfl rfl (fun _ _ q => hord _ q.below) ?_ | refine zg rfl rfl rfl rfl rfl rfl (by omega) ?_ | refine zb rfl rfl rfl rfl rfl rfl rfl (by omega) ?_ | refine zr rfl rfl rfl rfl rfl ?_) | (with_reducible first | refine zH ?_ | refine zB ?_ | refine zD ?_ | refine zA ?_ | refine zU ?_ | refine zQ ?_ | refine zi ?_) | ((with_reducible refine zI ?_ ?_); (· exact rfl))))
   all_goals exact ze (ι := Nat × zy Int) (i + 1, x) (by exact ⟨by omega, hxL, hf⟩) (by simp only; omega) (by (first | exact lK1 | (repeat (first | exact lK1 | (refine zK rfl ?_))))) (by (repeat (first | exact oK1 _ | (refine oK2 (by (repeat (first | exact tK1 _ _ | apply tK2))) ?_))))
  ·rw [show zDq s x = s by unfold zDq; rw [if_neg (fun e => hz (hbf.2 e))]] at hf
   (repeat' (first | ((with_reducible refine zG ?_); first | refine zE rfl rfl rfl rfl rfl ?_ | refine zC rfl rfl rfl rfl rfl ?_ | (refine zJ rfl rfl rfl rfl rfl ?_; refine ⟨_, rfl, ?_⟩) | (refine zR rfl rfl rfl rfl rfl rfl rfl (fun h => ?_) (fun h => ?_) <;> (dsimp only [cmpP] at h; (try (exfalso; omega)))) | refine zY rfl rfl rfl rfl rfl rfl (fun _ _ q => hord _ q.below) ?_ | refine zg rfl rfl rfl rfl rfl rfl (by omega) ?_ | refine zb rfl rfl rfl rfl rfl rfl rfl (by omega) ?_ | refine zr rfl rfl rfl rfl rfl ?_) | (with_reducible first | refine zH ?_ | refine zB ?_ | refine zD ?_ | refine zA ?_ | refine zU ?_ | refine zQ ?_ | refine zi ?_) | ((with_reducible refine zI ?_ ?_); (· exact rfl)) | ((with_reducible refine zF ?_ ?_); (· exact rfl))))
   all_goals exact ze (ι := Nat × zy Int) (i + 1, s) (by exact ⟨by omega, hs, hf⟩) (by simp only; omega) (by (first | exact lK1 | (repeat (first | exact lK1 | (refine zK rfl ?_))))) (by (repeat (first | exact oK1 _ | (refine oK2 (by (repeat (first | exact tK1 _ _ | apply tK2))) ?_))))
 ·obtain rfl : i = L.length := by omega
  rw [List.drop_length, List.foldl_nil] at hf
  rw [← hf]
  (repeat' (first | ((with_reducible refine zG ?_); first | refine zE rfl rfl rfl rfl rfl ?_ | refine zC rfl rfl rfl rfl rfl ?_ | (refine zR rfl rfl rfl rfl rfl rfl rfl (fun h => ?_) (fun h => ?_) <;> (dsimp only [cmpP] at h; (try (exfalso; omega)))) | refine zr rfl rfl rfl rfl rfl ?_) | (with_reducible first | refine zH ?_ | refine zB ?_ | refine zD ?_ | refine zA ?_ | refine zX ?_ | refine zk ?_ | refine zT ?_ | refine zW ?_) | ((with_reducible refine zF ?_ ?_); (· exact rfl))))
  exact zV (by (exact zP.cons (by exact zf.tmp rfl) zP.nil)) () trivial rfl (fun _ _ => Own.nil _ _)
theorem zJn (L : List (zy Int)) (A : Option Addr) (ca : Nat) (w : World) (hL : zCd encI 1 w A L) (hl : L.length ≤ 100000) (hb : ∀ s ∈ L, s.xs.length ≤ 1000) :
  Gv Tryz.prog 72 [.slice A L.length ca, .func (.func 73) #[] #[]] w (.tuple #[.slice (minS L).A (minS L).xs.length (minS L).c, .bool (decide (0 < L.length))]) := by
 unfold Gv
 by_cases h0 : 0 < L.length
 ·have hm := fun W (hb' : Below w.heap.size w W) => min_any L A ca W (hL.below hb') h0 hl hb
  rw [decide_eq_true h0]
  (refine zL (n := 14) Tryz.func72 rfl rfl rfl ?_)
  (repeat' (first | ((with_reducible refine zG ?_); first | refine zE rfl rfl rfl rfl rfl ?_ | refine zC rfl rfl rfl rfl rfl ?_ | (refine zR rfl rfl rfl rfl rfl rfl rfl (fun h => ?_) (fun h => ?_) <;> (dsimp only [cmpP] at h; (try (exfalso; omega)))) | refine zY rfl rfl rfl rfl rfl rfl (fun _ _ q => hm _ q.below) ?_ | refine zr rfl rfl rfl rfl rfl ?_) | (with_reducible first | refine zH ?_ | refine zB ?_ | refine zD ?_ | refine zA ?_ | refine zX ?_ | refine zU ?_) | ((with_reducible refine zF ?_ ?_); (· exact rfl))))
  exact zV (by (exact zP.cons (by exact zf.tmp rfl) (zP.cons (by exact zf.tmp rfl) zP.nil))) () trivial rfl (fun _ _ => Own.nil _ _)
 ·obtain rfl : L = [] := List.eq_nil_of_length_eq_zero (by omega)
  rw [show minS [] = zAp from rfl]
  (refine zL (n := 14) Tryz.func72 rfl rfl rfl ?_)
  (repeat' (first | ((with_reducible refine zG ?_); first | refine zE rfl rfl rfl rfl rfl ?_ | refine zC rfl rfl rfl rfl rfl ?_ | (refine zR rfl rfl rfl rfl rfl rfl rfl (fun h => ?_) (fun h => ?_) <;> (dsimp only [cmpP] at h; (try (exfalso; omega)))) | refine zr rfl rfl rfl rfl rfl ?_) | (with_reducible first | refine zH ?_ | refine zB ?_ | refine zD ?_ | refine zA ?_ | refine zX ?_ | refine zZ ?_) | ((with_reducible refine zI ?_ ?_); (· exact rfl))))
  all_goals exact zV (by (exact zP.cons (by exact zf.tmp rfl) (zP.cons (by exact zf.tmp rfl) zP.nil))) () trivial rfl (fun _ _ => Own.nil _ _)
end Go.Proofs.YtdigopgncfhiaaaGreatDoor
namespace Go.Proofs.YtdigopgncfhiaaaGreatDoor
variable {ro : Option Nat}
open Go.RowKit
set_option maxRecDepth 20000
def zIT (m x : List Int) : List Int := if befB x m = true then x else m
def zGL : List (List Int) → Option (List Int)
 | [] => none
 | s :: r => some (r.foldl zIT s)
theorem zLc : ∀ (r : List (zy Int)) (s : zy Int), (r.foldl zDq s).xs = (r.map (·.xs)).foldl zIT s.xs
 | [], s => rfl
 | x :: r, s => by
  simp only [List.foldl_cons, List.map_cons]
  rw [zLc r]
  congr 1
  unfold zDq zIT; split <;> rfl
theorem minS_xs {L : List (zy Int)} (h : 0 < L.length) : zGL (L.map (·.xs)) = some (minS L).xs := by
 cases L with
 | nil => cases h
 | cons s r => simp only [minS, List.map_cons, zGL, zLc]
theorem minS_in {L : List (zy Int)} (h : 0 < L.length) : minS L ∈ L := by
 cases L with
 | nil => cases h
 | cons s r =>
  rcases zLM r s with h | h
  ·show r.foldl zDq s ∈ s :: r
   rw [h]; exact List.mem_cons_self
  ·exact List.mem_cons_of_mem _ h
def zCK (c : Cov) (h m : Nat) : Bool := decide (0 < zC9 (zAP c) (zCa c) (zAA c) h m)
def zCH (c : Cov) (h k : Nat) : List (List Int) := ((List.range k).filter (zCK c h)).map fun m => zDG m h
theorem zNm {c : Cov} {h k : Nat} (hb : zCK c h k = true) : zCH c h (k + 1) = zCH c h k ++ [zDG k h] := by
 simp [zCH, List.range_succ, List.filter_append, hb]
theorem setsX_no {c : Cov} {h k : Nat} (hb : zCK c h k = false) : zCH c h (k + 1) = zCH c h k := by
 simp [zCH, List.range_succ, List.filter_append, hb]
theorem zNn (c : Cov) (h k : Nat) : (zCH c h k).length ≤ k := by
 have := List.length_filter_le (zCK c h) (List.range k)
 simpa [zCH] using this
def shortF (c : Cov) : Nat → Nat → Int × List Int × Int
 | 0, _ => (0, [], 6)
 | n + 1, h => match zGL (zCH c h (2 ^ h)) with
  | some l => ((h : Int), l, 0)
  | none => shortF c n (h + 1)
theorem zHF {c : Cov} {n h : Nat} {l : List Int} (e : zGL (zCH c h (2 ^ h)) = some l) : shortF c (n + 1) h = ((h : Int), l, 0) := by simp [shortF, e]
theorem zHG {c : Cov} {n h : Nat} (e : zGL (zCH c h (2 ^ h)) = none) : shortF c (n + 1) h = shortF c n (h + 1) := by simp [shortF, e]
def zC8 (c : Cov) : Int × List Int × Int := if zAh c = 0 then shortF c c.hours.length 0 else (0, [], zAh c)
theorem zDr {nd nd' : Nat → Int} {my sm : Nat → Bool} : ∀ k, (∀ h, h < k → nd h = nd' h) → Flow.lackF nd my sm k = Flow.lackF nd' my sm k
 | 0, _ => rfl
 | k + 1, h => by
  have ih := zDr (nd := nd) (nd' := nd') (my := my) (sm := sm) k (fun i hi => h i (by omega))
  have hk := h k (by omega)
  simp only [Flow.lackF, ih, hk]
theorem zJj {hs : List Int} {m k : Nat} (hm : m < 2 ^ k) : ∀ d, zBQ hs m (k + d) = zBQ hs m k
 | 0 => rfl
 | d + 1 => by
  have e : zBQ hs m (k + d + 1) = zBQ hs m (k + d) + (if m.testBit (k + d) then hs.getD (k + d) 0 else 0) := Flow.zAF _ _
  rw [← Nat.add_assoc, e, Nat.testBit_lt_two_pow (Nat.lt_of_lt_of_le hm (Nat.pow_le_pow_right (by omega) (by omega))), zJj hm d]
  simp
theorem zAC {f g : Nat → Int} : ∀ k : Nat, (∀ i, i < k → f i = g i) → Flow.sumL (List.range k) f = Flow.sumL (List.range k) g
 | 0, _ => rfl
 | k + 1, h => by rw [Flow.zAF, Flow.zAF, zAC k (fun i hi => h i (by omega)), h k (by omega)]
section
variable {P : Program} {w0 : World} {n : Nat} {d : List Deferred} {R : List (Nat × Value)} {H H' H1 H2 H3 : List Ent} {Q : Exit → Act → World → Prop} {X : Act → World → Prop} {ops : Array Oper} {rest : List Oper} {o : Oper} {t : Tmp} {x y : Operand} {v : Value}
theorem zNb {α : Type} (enc : α → List Value) {k : Nat} {T1 e : TypeId} {i : TypeInfo} {z : Value} {n0 s : Nat} {g : Bool} (hop : o.op = .makeSlice T1 x y) [i1 : TyI P T1 (.slice e) s g] (hi : P.info? e = some i) (hz : i.zero = some z) (h1 : i.size = k) (hb : Nat.ble (i.bytes * 1000) 281474976710656 = true) (hw : want R ops o = some true) (hd : o.dst = some t) (ht : Nat.blt t n = true) (hx : evR R x = some (.int .i64 0)) (hy : evR R y = some (.int .i64 (n0 : Int))) (hn : n0 ≤ 1000)
  (h : ∀ b, U w0 n d ((t, .slice (some ⟨b, 0, none⟩) 0 n0) :: R) (.row enc k e (.slice (some ⟨b, 0, none⟩) 0 n0) ([] : List α) :: H) (wpL ro P ops Q rest)) : U w0 n d R H (wpL ro P ops Q (o :: rest)) :=
 zDe hw fun a w q K1 hK => by
  have hb' : i.bytes * n0 ≤ 281474976710656 := by
   have h9 := Nat.le_of_ble_eq_true hb
   have h8 : i.bytes * n0 ≤ i.bytes * 1000 := Nat.mul_le_mul_left _ hn
   omega
  obtain ⟨w', hr, ho, hg⟩ := run_make_own (P := P) w w.heap.size T1 e i z k i1.und hi hz h1 .i64 .i64 n0 hb' (by simp [maxLen]; omega) (Nat.le_refl _)
  have hlt := World.ownsRow.lt ho w.heap.size rfl
  unfold Oper.wp execOp; rw [hop]
  simp only [Sem.run_bind, q.ev hx, q.ev hy, hr, Result.andThen_ok, Sem.run_pure, Oper.upon_value, hd]
  refine hK _ _ (h w.heap.size _ _ ((q.call (E := [.row enc k e (.slice (some ⟨w.heap.size, 0, none⟩) 0 n0) ([] : List α)]) (zHY (Below.refl _ _) hg (fun g h => by cases h) (Nat.le_refl _)) ⟨fun f hf => ?_, fun f hf b hb => ?_, by simp⟩).put ht))
  ·simp only [List.mem_singleton] at hf
   subst hf
   obtain ⟨h3, h4⟩ := ho
   refine ⟨h3, ?_⟩
   rcases h4 with h4 | ⟨g, cap, cur, e1, _, h5⟩
   ·exact .inl h4
   ·exact .inr ⟨g, cap, cur, e1, Nat.zero_le _, h5⟩
  ·simp only [List.mem_singleton] at hf; subst hf; cases hb
   exact hlt
theorem zNd {β : Type} {f : β → Ent} {L : List β} {s : β} (ht : Take H (f s) H1) (ht1 : Take H1 (.all (L.map f)) H2) (h : U w0 n d R (.all ((L ++ [s]).map f) :: H2) X) : U w0 n d R H X :=
 zEo (H' := .all ((L ++ [s]).map f) :: H2) (fun w h0 => by
  have h1 := (h0.take ht)
  have h2 := h1.take (Take.there _ ht1)
  have h3 : Own w0.heap.size w ((L.map f) ++ (f s :: H2)) := zBH.2 h2
  refine zBH.1 ?_
  rw [List.map_append, List.append_assoc]
  exact h3) h
theorem u_allNil {β : Type} (f : β → Ent) (h : U w0 n d R (.all (([] : List β).map f) :: H) X) : U w0 n d R H X :=
 zEo (H' := .all (([] : List β).map f) :: H) (fun w h0 => (zBH (L := [])).1 h0) h
theorem zLE {β : Type} {f : β → Ent} {L : List β} {s : β} {base : Nat} {w : World} (hs : s ∈ L) (ht : Take H (.all (L.map f)) H1) (h : Own base w H) : Own base w (f s :: H1) := by
 obtain ⟨i, hi⟩ := List.getElem?_of_mem hs
 have h1 : Own base w (L.map f ++ H1) := zBH.2 (h.take ht)
 have hp : (L.map f ++ H1).Perm (f s :: ((L.eraseIdx i).map f ++ H1)) := List.Perm.append_right H1 ((zEg hi).map f)
 have h2 := h1.perm hp
 refine ⟨fun e he => ?_, fun e he => ?_, ?_⟩
 ·refine h2.here e ?_
  rcases List.mem_cons.1 he with he | he
  ·exact List.mem_cons.2 (.inl he)
  ·exact List.mem_cons.2 (.inr (List.mem_append.2 (.inr he)))
 ·refine h2.foot e ?_
  rcases List.mem_cons.1 he with he | he
  ·exact List.mem_cons.2 (.inl he)
  ·exact List.mem_cons.2 (.inr (List.mem_append.2 (.inr he)))
 ·refine h2.apart.sublist (List.Sublist.cons_cons _ (List.sublist_append_right _ _))
theorem zKr {α : Type} {enc : α → List Value} {k e e2 m c base : Nat} [ei : zBu enc k] {A : Option Addr} {L : List (zy α)} {w : World} (h : Own base w H) (ht : Take H (.row zn 1 e2 (.slice A m c) L) H1) (ht2 : Take H (.all (L.map (rowOf enc k e))) H2) : zCd enc k w A L := by
 refine ⟨zDt h ht, fun s hs => ?_⟩
 have h1 : Own 0 w (L.map (rowOf enc k e)) := h.here _ ht2.mem
 exact (zDQ ei.len (h1.here _ (List.mem_map_of_mem hs) : Row enc k e 0 w (.slice s.A s.xs.length s.c) s.xs)).2
end
end Go.Proofs.YtdigopgncfhiaaaGreatDoor
