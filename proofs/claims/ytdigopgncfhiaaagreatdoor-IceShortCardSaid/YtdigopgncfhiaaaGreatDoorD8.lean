/- D8 -/
import Derived.Test.YtdigopgncfhiaaaGreatDoorD5
import Derived.Test.YtdigopgncfhiaaaGreatDoorD7
set_option linter.unusedSimpArgs false
set_option linter.unusedVariables false
namespace Go.Proofs.YtdigopgncfhiaaaGreatDoor
open Go.RowKit
set_option maxRecDepth 20000
structure Bed where
 thick : Sp
 sun : Int
deriving DecidableEq
structure Hour where
 melt : Sp
 runs : Int
 crew : Int
 cold : Bool
deriving DecidableEq
structure Cov where
 t : List St
 beds : List Bed
 hours : List Hour
 wear : Sp
 layer : Sp
 rate : Int
 limit : Int
 base : Int
instance : Inhabited Bed := ⟨⟨⟨0, 0⟩, 0⟩⟩
instance : Inhabited Hour := ⟨⟨⟨0, 0⟩, 0, 0, false⟩⟩
def zAx (b : Bed) : List Value := [.int .i64 b.thick.lo, .int .i64 b.thick.hi, .int .i64 b.sun]
def vBed (b : Bed) : Value := .agg #[.int .i64 b.thick.lo, .int .i64 b.thick.hi, .int .i64 b.sun]
def zx (h : Hour) : List Value := [.int .i64 h.melt.lo, .int .i64 h.melt.hi, .int .i64 h.runs, .int .i64 h.crew, .bool h.cold]
def zD1 (h : Hour) : Value := .agg #[.int .i64 h.melt.lo, .int .i64 h.melt.hi, .int .i64 h.runs, .int .i64 h.crew, .bool h.cold]
theorem one_bed (b : Bed) : ∀ v ∈ zAx b, v.oneCell' = true := by intro v hv; simp [zAx] at hv; rcases hv with rfl | rfl | rfl <;> rfl
theorem one_hour (h : Hour) : ∀ v ∈ zx h, v.oneCell' = true := by intro v hv; simp [zx] at hv; rcases hv with rfl | rfl | rfl | rfl | rfl <;> rfl
instance : zBu zAx 3 := ⟨fun _ => rfl, one_bed⟩
instance : zBu zx 5 := ⟨fun _ => rfl, one_hour⟩
theorem zED {α : Type} {p : α → Bool} {l : List α} {i : Nat} (h : i < l.length) (hp : p l[i] = true) (hb : ∀ j y, j < i → l[j]? = some y → p y = false) : zCh p l = i := by
 have : l.findIdx? p = some i := List.findIdx?_eq_some_iff_getElem.2 ⟨h, hp, fun j hj => by
  have := hb j l[j] hj (List.getElem?_eq_getElem (by omega))
  simp [this]⟩
 unfold zCh; rw [this]
theorem zDY {α : Type} {p : α → Bool} {l : List α} (h : ∀ y ∈ l, p y = false) : zCh p l = -1 := by
 have : l.findIdx? p = none := by rw [List.findIdx?_eq_none_iff]; intro x hx; simp [h x hx]
 unfold zCh; rw [this]
set_option maxHeartbeats 1000000 in
theorem zIn (l : List Int) (A : Option Addr) (cap : Nat) (kf : FuncId) [zS Tryz.prog kf] (cs : Array Value) (p : Int → Bool) (w : World) (hk : zp encI 1 w A l) (hl : l.length ≤ 1000000)
  (hp : ∀ x W, x ∈ l → Below w.heap.size w W → Gv Tryz.prog kf ([.int .i64 x] ++ cs.toList) W (.bool (p x))) :
  Gv Tryz.prog 108 [.slice A l.length cap, .func (.func kf) #[] cs] w (.int .i64 (zCh p l)) := by
 unfold Gv
 (refine zL (n := 19) Tryz.func108 rfl rfl rfl ?_)
 (repeat' (first | ((with_reducible refine zG ?_); first | refine zE rfl rfl rfl rfl rfl ?_ | refine zC rfl rfl rfl rfl rfl ?_ | refine zr rfl rfl rfl rfl rfl ?_) | (with_reducible first | refine zH ?_ | refine zB ?_ | refine zD ?_ | refine zA ?_ | refine zQ ?_)))
 refine zq (ι := Nat) [0, 1, 7] rfl (fun i => i ≤ l.length ∧ ∀ j y, j < i → l[j]? = some y → p y = false) (fun i => [(8, .int .i64 (i : Int))]) (fun _ => []) (fun i => l.length - i) 0 ⟨Nat.zero_le _, fun j y h => by omega⟩ (by (first | exact lK1 | (repeat (first | exact lK1 | (refine zK rfl ?_))))) (by (repeat (first | exact oK1 _ | (refine oK2 (by (repeat (first | exact tK1 _ _ | apply tK2))) ?_)))) ?_
 rintro i ⟨hi, hb⟩
 simp only [zAw, List.cons_append, List.nil_append]
 by_cases hlt : i < l.length
 ·have hx : l[i]? = some l[i] := by simp [hlt]
  obtain ⟨b, o, rfl, hblt, hc⟩ := hk.at_ hlt
  have : InS w b o encI 1 l := ⟨hk⟩
  have : zAQ l i l[i] := ⟨hx⟩
  (repeat' (first | ((with_reducible refine zG ?_); first | refine zE rfl rfl rfl rfl rfl ?_ | refine zC rfl rfl rfl rfl rfl ?_ | (refine zJ rfl rfl rfl rfl rfl ?_; refine ⟨_, rfl, ?_⟩) | (refine zR rfl rfl rfl rfl rfl rfl rfl (fun h => ?_) (fun h => ?_) <;> (dsimp only [cmpP] at h; (try (exfalso; omega)))) | (refine zAG rfl rfl rfl rfl rfl rfl (fun _ _ q => hp _ _ (List.getElem_mem hlt) q.below) (fun h => ?_) (fun h => ?_) <;> (try (exfalso; omega))) | refine zg rfl rfl rfl rfl rfl rfl (by omega) ?_ | refine zb rfl rfl rfl rfl rfl rfl rfl (by omega) ?_) | (with_reducible first | refine zH ?_ | refine zB ?_ | refine zD ?_ | refine zA ?_ | refine zX ?_ | refine zU ?_ | refine zZ ?_ | refine zQ ?_ | refine zi ?_ | refine zAi ?_) | ((with_reducible refine zI ?_ ?_); (· exact rfl)) | ((with_reducible refine zF ?_ ?_); (· exact rfl))))
  ·have e1 := zED hlt h hb
   exact zV (by (exact zP.cons (by exact zf.tmp rfl) zP.nil)) () trivial (by rw [e1]; rfl) (fun _ h => h.sub (by (repeat (first | exact oK1 _ | (refine oK2 (by (repeat (first | exact tK1 _ _ | apply tK2))) ?_)))))
  ·refine ze (i + 1) ⟨by omega, fun j y hj hy => ?_⟩ (by omega) (by (first | exact lK1 | (repeat (first | exact lK1 | (refine zK rfl ?_))))) (by (repeat (first | exact oK1 _ | (refine oK2 (by (repeat (first | exact tK1 _ _ | apply tK2))) ?_))))
   by_cases e : j = i
   ·subst e; rw [hx] at hy; cases hy; exact h
   ·exact hb j y (by omega) hy
 ·obtain rfl : i = l.length := by omega
  have e1 := zDY (p := p) (l := l) (fun y hy => by
   obtain ⟨j, hj⟩ := List.mem_iff_getElem?.1 hy
   exact hb j y (List.getElem?_eq_some_iff.1 hj).1 hj)
  (repeat' (first | ((with_reducible refine zG ?_); first | refine zC rfl rfl rfl rfl rfl ?_ | (refine zR rfl rfl rfl rfl rfl rfl rfl (fun h => ?_) (fun h => ?_) <;> (dsimp only [cmpP] at h; (try (exfalso; omega))))) | (with_reducible first | refine zH ?_ | refine zB ?_ | refine zD ?_ | refine zA ?_ | refine zX ?_ | refine zk ?_ | refine zT ?_ | refine zW ?_) | ((with_reducible refine zF ?_ ?_); (· exact rfl))))
  exact zV (by (exact zP.cons (by exact zf.tmp rfl) zP.nil)) () trivial (by rw [e1]; rfl) (fun _ h => h.sub (by (repeat (first | exact oK1 _ | (refine oK2 (by (repeat (first | exact tK1 _ _ | apply tK2))) ?_)))))
theorem ci_con (l : List Int) (A : Option Addr) (cap : Nat) (kf : FuncId) [zS Tryz.prog kf] (cs : Array Value) (p : Int → Bool) (w : World) (hk : zp encI 1 w A l) (hl : l.length ≤ 1000000)
  (hp : ∀ x W, x ∈ l → Below w.heap.size w W → Gv Tryz.prog kf ([.int .i64 x] ++ cs.toList) W (.bool (p x))) :
  Gv Tryz.prog 102 [.slice A l.length cap, .func (.func kf) #[] cs] w (.bool (l.any p)) := by
 unfold Gv
 have hf := zEC p l
 (refine zL (n := 9) Tryz.func102 rfl rfl rfl ?_)
 (repeat' (first | ((with_reducible refine zG ?_); first | refine zE rfl rfl rfl rfl rfl ?_ | refine zC rfl rfl rfl rfl rfl ?_ | (refine zR rfl rfl rfl rfl rfl rfl rfl (fun h => ?_) (fun h => ?_) <;> (dsimp only [cmpP] at h; (try (exfalso; omega)))) | refine zY rfl rfl rfl rfl rfl rfl (fun _ _ q => zIn l A cap kf cs p _ (hk.below q.below) hl (fun x W hx hW => hp x W hx (q.below.trans (hW.mono q.base)))) ?_) | (with_reducible first | refine zH ?_ | refine zB ?_ | refine zD ?_ | refine zA ?_ | refine zX ?_)))
 all_goals exact zV (by (exact zP.cons (by exact zf.tmp rfl) zP.nil)) () trivial (by simp only [resV]; rw [← hf]; simp; omega) (fun _ h => h.sub (by (repeat (first | exact oK1 _ | (refine oK2 (by (repeat (first | exact tK1 _ _ | apply tK2))) ?_)))))
set_option maxHeartbeats 1000000 in
theorem zMm (l : List Bed) (A : Option Addr) (cap : Nat) (kf : FuncId) [zS Tryz.prog kf] (cs : Array Value) (p : Bed → Bool) (w : World) (hk : zp zAx 3 w A l) (hl : l.length ≤ 1000000)
  (hp : ∀ x W, x ∈ l → Below w.heap.size w W → Gv Tryz.prog kf ([vBed x] ++ cs.toList) W (.bool (p x))) :
  Gv Tryz.prog 155 [.slice A l.length cap, .func (.func kf) #[] cs] w (.int .i64 (zCh p l)) := by
 unfold Gv
 (refine zL (n := 19) Tryz.func155 rfl rfl rfl ?_)
 (repeat' (first | ((with_reducible refine zG ?_); first | refine zE rfl rfl rfl rfl rfl ?_ | refine zC rfl rfl rfl rfl rfl ?_ | refine zr rfl rfl rfl rfl rfl ?_) | (with_reducible first | refine zH ?_ | refine zB ?_ | refine zD ?_ | refine zA ?_ | refine zQ ?_)))
 refine zq (ι := Nat) [0, 1, 7] rfl (fun i => i ≤ l.length ∧ ∀ j y, j < i → l[j]? = some y → p y = false) (fun i => [(8, .int .i64 (i : Int))]) (fun _ => []) (fun i => l.length - i) 0 ⟨Nat.zero_le _, fun j y h => by omega⟩ (by (first | exact lK1 | (repeat (first | exact lK1 | (refine zK rfl ?_))))) (by (repeat (first | exact oK1 _ | (refine oK2 (by (repeat (first | exact tK1 _ _ | apply tK2))) ?_)))) ?_
 rintro i ⟨hi, hb⟩
 simp only [zAw, List.cons_append, List.nil_append]
 by_cases hlt : i < l.length
 ·have hx : l[i]? = some l[i] := by simp [hlt]
  obtain ⟨b, o, rfl, hblt, hc⟩ := hk.at_ hlt
  have : InS w b o zAx 3 l := ⟨hk⟩
  have : zAQ l i l[i] := ⟨hx⟩
  (repeat' (first | ((with_reducible refine zG ?_); first | refine zE rfl rfl rfl rfl rfl ?_ | refine zC rfl rfl rfl rfl rfl ?_ | (refine zJ rfl rfl rfl rfl rfl ?_; refine ⟨_, rfl, ?_⟩) | (refine zR rfl rfl rfl rfl rfl rfl rfl (fun h => ?_) (fun h => ?_) <;> (dsimp only [cmpP] at h; (try (exfalso; omega)))) | (refine zAG rfl rfl rfl rfl rfl rfl (fun _ _ q => hp _ _ (List.getElem_mem hlt) q.below) (fun h => ?_) (fun h => ?_) <;> (try (exfalso; omega))) | refine zg rfl rfl rfl rfl rfl rfl (by omega) ?_ | refine zb rfl rfl rfl rfl rfl rfl rfl (by omega) ?_) | (with_reducible first | refine zH ?_ | refine zB ?_ | refine zD ?_ | refine zA ?_ | refine zX ?_ | refine zU ?_ | refine zZ ?_ | refine zQ ?_ | refine zi ?_ | refine zAi ?_) | ((with_reducible refine zI ?_ ?_); (· exact rfl)) | ((with_reducible refine zF ?_ ?_); (· exact rfl))))
  ·have e1 := zED hlt h hb
   exact zV (by (exact zP.cons (by exact zf.tmp rfl) zP.nil)) () trivial (by rw [e1]; rfl) (fun _ h => h.sub (by (repeat (first | exact oK1 _ | (refine oK2 (by (repeat (first | exact tK1 _ _ | apply tK2))) ?_)))))
  ·refine ze (i + 1) ⟨by omega, fun j y hj hy => ?_⟩ (by omega) (by (first | exact lK1 | (repeat (first | exact lK1 | (refine zK rfl ?_))))) (by (repeat (first | exact oK1 _ | (refine oK2 (by (repeat (first | exact tK1 _ _ | apply tK2))) ?_))))
   by_cases e : j = i
   ·subst e; rw [hx] at hy; cases hy; exact h
   ·exact hb j y (by omega) hy
 ·obtain rfl : i = l.length := by omega
  have e1 := zDY (p := p) (l := l) (fun y hy => by
   obtain ⟨j, hj⟩ := List.mem_iff_getElem?.1 hy
   exact hb j y (List.getElem?_eq_some_iff.1 hj).1 hj)
  (repeat' (first | ((with_reducible refine zG ?_); first | refine zC rfl rfl rfl rfl rfl ?_ | (refine zR rfl rfl rfl rfl rfl rfl rfl (fun h => ?_) (fun h => ?_) <;> (dsimp only [cmpP] at h; (try (exfalso; omega))))) | (with_reducible first | refine zH ?_ | refine zB ?_ | refine zD ?_ | refine zA ?_ | refine zX ?_ | refine zk ?_ | refine zT ?_ | refine zW ?_) | ((with_reducible refine zF ?_ ?_); (· exact rfl))))
  exact zV (by (exact zP.cons (by exact zf.tmp rfl) zP.nil)) () trivial (by rw [e1]; rfl) (fun _ h => h.sub (by (repeat (first | exact oK1 _ | (refine oK2 (by (repeat (first | exact tK1 _ _ | apply tK2))) ?_)))))
theorem cb_con (l : List Bed) (A : Option Addr) (cap : Nat) (kf : FuncId) [zS Tryz.prog kf] (cs : Array Value) (p : Bed → Bool) (w : World) (hk : zp zAx 3 w A l) (hl : l.length ≤ 1000000)
  (hp : ∀ x W, x ∈ l → Below w.heap.size w W → Gv Tryz.prog kf ([vBed x] ++ cs.toList) W (.bool (p x))) :
  Gv Tryz.prog 136 [.slice A l.length cap, .func (.func kf) #[] cs] w (.bool (l.any p)) := by
 unfold Gv
 have hf := zEC p l
 (refine zL (n := 9) Tryz.func136 rfl rfl rfl ?_)
 (repeat' (first | ((with_reducible refine zG ?_); first | refine zE rfl rfl rfl rfl rfl ?_ | refine zC rfl rfl rfl rfl rfl ?_ | (refine zR rfl rfl rfl rfl rfl rfl rfl (fun h => ?_) (fun h => ?_) <;> (dsimp only [cmpP] at h; (try (exfalso; omega)))) | refine zY rfl rfl rfl rfl rfl rfl (fun _ _ q => zMm l A cap kf cs p _ (hk.below q.below) hl (fun x W hx hW => hp x W hx (q.below.trans (hW.mono q.base)))) ?_) | (with_reducible first | refine zH ?_ | refine zB ?_ | refine zD ?_ | refine zA ?_ | refine zX ?_)))
 all_goals exact zV (by (exact zP.cons (by exact zf.tmp rfl) zP.nil)) () trivial (by simp only [resV]; rw [← hf]; simp; omega) (fun _ h => h.sub (by (repeat (first | exact oK1 _ | (refine oK2 (by (repeat (first | exact tK1 _ _ | apply tK2))) ?_)))))
set_option maxHeartbeats 1000000 in
theorem zMl (l : List Hour) (A : Option Addr) (cap : Nat) (kf : FuncId) [zS Tryz.prog kf] (cs : Array Value) (p : Hour → Bool) (w : World) (hk : zp zx 5 w A l) (hl : l.length ≤ 1000000)
  (hp : ∀ x W, x ∈ l → Below w.heap.size w W → Gv Tryz.prog kf ([zD1 x] ++ cs.toList) W (.bool (p x))) :
  Gv Tryz.prog 156 [.slice A l.length cap, .func (.func kf) #[] cs] w (.int .i64 (zCh p l)) := by
 unfold Gv
 (refine zL (n := 19) Tryz.func156 rfl rfl rfl ?_)
 (repeat' (first | ((with_reducible refine zG ?_); first | refine zE rfl rfl rfl rfl rfl ?_ | refine zC rfl rfl rfl rfl rfl ?_ | refine zr rfl rfl rfl rfl rfl ?_) | (with_reducible first | refine zH ?_ | refine zB ?_ | refine zD ?_ | refine zA ?_ | refine zQ ?_)))
 refine zq (ι := Nat) [0, 1, 7] rfl (fun i => i ≤ l.length ∧ ∀ j y, j < i → l[j]? = some y → p y = false) (fun i => [(8, .int .i64 (i : Int))]) (fun _ => []) (fun i => l.length - i) 0 ⟨Nat.zero_le _, fun j y h => by omega⟩ (by (first | exact lK1 | (repeat (first | exact lK1 | (refine zK rfl ?_))))) (by (repeat (first | exact oK1 _ | (refine oK2 (by (repeat (first | exact tK1 _ _ | apply tK2))) ?_)))) ?_
 rintro i ⟨hi, hb⟩
 simp only [zAw, List.cons_append, List.nil_append]
 by_cases hlt : i < l.length
 ·have hx : l[i]? = some l[i] := by simp [hlt]
  obtain ⟨b, o, rfl, hblt, hc⟩ := hk.at_ hlt
  have : InS w b o zx 5 l := ⟨hk⟩
  have : zAQ l i l[i] := ⟨hx⟩
  (repeat' (first | ((with_reducible refine zG ?_); first | refine zE rfl rfl rfl rfl rfl ?_ | refine zC rfl rfl rfl rfl rfl ?_ | (refine zJ rfl rfl rfl rfl rfl ?_; refine ⟨_, rfl, ?_⟩) | (refine zR rfl rfl rfl rfl rfl rfl rfl (fun h => ?_) (fun h => ?_) <;> (dsimp only [cmpP] at h; (try (exfalso; omega)))) | (refine zAG rfl rfl rfl rfl rfl rfl (fun _ _ q => hp _ _ (List.getElem_mem hlt) q.below) (fun h => ?_) (fun h => ?_) <;> (try (exfalso; omega))) | refine zg rfl rfl rfl rfl rfl rfl (by omega) ?_ | refine zb rfl rfl rfl rfl rfl rfl rfl (by omega) ?_) | (with_reducible first | refine zH ?_ | refine zB ?_ | refine zD ?_ | refine zA ?_ | refine zX ?_ | refine zU ?_ | refine zZ ?_ | refine zQ ?_ | refine zi ?_ | refine zAi ?_) | ((with_reducible refine zI ?_ ?_); (· exact rfl)) | ((with_reducible refine zF ?_ ?_); (· exact rfl))))
  ·have e1 := zED hlt h hb
   exact zV (by (exact zP.cons (by exact zf.tmp rfl) zP.nil)) () trivial (by rw [e1]; rfl) (fun _ h => h.sub (by (repeat (first | exact oK1 _ | (refine oK2 (by (repeat (first | exact tK1 _ _ | apply tK2))) ?_)))))
  ·refine ze (i + 1) ⟨by omega, fun j y hj hy => ?_⟩ (by omega) (by (first | exact lK1 | (repeat (first | exact lK1 | (refine zK rfl ?_))))) (by (repeat (first | exact oK1 _ | (refine oK2 (by (repeat (first | exact tK1 _ _ | apply tK2))) ?_))))
   by_cases e : j = i
   ·subst e; rw [hx] at hy; cases hy; exact h
   ·exact hb j y (by omega) hy
 ·obtain rfl : i = l.length := by omega
  have e1 := zDY (p := p) (l := l) (fun y hy => by
   obtain ⟨j, hj⟩ := List.mem_iff_getElem?.1 hy
   exact hb j y (List.getElem?_eq_some_iff.1 hj).1 hj)
  (repeat' (first | ((with_reducible refine zG ?_); first | refine zC rfl rfl rfl rfl rfl ?_ | (refine zR rfl rfl rfl rfl rfl rfl rfl (fun h => ?_) (fun h => ?_) <;> (dsimp only [cmpP] at h; (try (exfalso; omega))))) | (with_reducible first | refine zH ?_ | refine zB ?_ | refine zD ?_ | refine zA ?_ | refine zX ?_ | refine zk ?_ | refine zT ?_ | refine zW ?_) | ((with_reducible refine zF ?_ ?_); (· exact rfl))))
  exact zV (by (exact zP.cons (by exact zf.tmp rfl) zP.nil)) () trivial (by rw [e1]; rfl) (fun _ h => h.sub (by (repeat (first | exact oK1 _ | (refine oK2 (by (repeat (first | exact tK1 _ _ | apply tK2))) ?_)))))
theorem ch_con (l : List Hour) (A : Option Addr) (cap : Nat) (kf : FuncId) [zS Tryz.prog kf] (cs : Array Value) (p : Hour → Bool) (w : World) (hk : zp zx 5 w A l) (hl : l.length ≤ 1000000)
  (hp : ∀ x W, x ∈ l → Below w.heap.size w W → Gv Tryz.prog kf ([zD1 x] ++ cs.toList) W (.bool (p x))) :
  Gv Tryz.prog 137 [.slice A l.length cap, .func (.func kf) #[] cs] w (.bool (l.any p)) := by
 unfold Gv
 have hf := zEC p l
 (refine zL (n := 9) Tryz.func137 rfl rfl rfl ?_)
 (repeat' (first | ((with_reducible refine zG ?_); first | refine zE rfl rfl rfl rfl rfl ?_ | refine zC rfl rfl rfl rfl rfl ?_ | (refine zR rfl rfl rfl rfl rfl rfl rfl (fun h => ?_) (fun h => ?_) <;> (dsimp only [cmpP] at h; (try (exfalso; omega)))) | refine zY rfl rfl rfl rfl rfl rfl (fun _ _ q => zMl l A cap kf cs p _ (hk.below q.below) hl (fun x W hx hW => hp x W hx (q.below.trans (hW.mono q.base)))) ?_) | (with_reducible first | refine zH ?_ | refine zB ?_ | refine zD ?_ | refine zA ?_ | refine zX ?_)))
 all_goals exact zV (by (exact zP.cons (by exact zf.tmp rfl) zP.nil)) () trivial (by simp only [resV]; rw [← hf]; simp; omega) (fun _ h => h.sub (by (repeat (first | exact oK1 _ | (refine oK2 (by (repeat (first | exact tK1 _ _ | apply tK2))) ?_)))))
theorem iin_fn (x lo hi : Int) (b c : Nat) (w : World) (h1 : InC w b 0 [.int .i64 lo]) (h2 : InC w c 0 [.int .i64 hi]) : Gv Tryz.prog 103 [.int .i64 x, .pointer (some ⟨b, 0, none⟩), .pointer (some ⟨c, 0, none⟩)] w (.bool (!inB lo hi x)) := by
 unfold Gv
 (refine zL (n := 13) Tryz.func103 rfl rfl rfl ?_)
 (repeat' (first | ((with_reducible refine zG ?_); first | refine zE rfl rfl rfl rfl rfl ?_ | refine zC rfl rfl rfl rfl rfl ?_ | (refine zJ rfl rfl rfl rfl rfl ?_; refine ⟨_, rfl, ?_⟩) | refine zAO rfl rfl rfl rfl rfl rfl ?_ | refine zu rfl rfl rfl ?_ | (refine zR rfl rfl rfl rfl rfl rfl rfl (fun h => ?_) (fun h => ?_) <;> (dsimp only [cmpP] at h; (try (exfalso; omega))))) | (with_reducible first | refine zH ?_ | refine zB ?_ | refine zD ?_ | refine zA ?_ | refine zX ?_)))
 all_goals exact zV (by (exact zP.cons (by exact zf.tmp rfl) zP.nil)) () trivial (by simp [resV, inB]; omega) (fun _ h => h.sub (by (repeat (first | exact oK1 _ | (refine oK2 (by (repeat (first | exact tK1 _ _ | apply tK2))) ?_)))))
theorem zKP (lo hi : Int) (l : List Int) (A : Option Addr) (cap : Nat) (w : World) (hk : zp encI 1 w A l) (hl : l.length ≤ 1000000) : Gv Tryz.prog 60 [.int .i64 lo, .int .i64 hi, .slice A l.length cap] w (.bool (l.all (inB lo hi))) := by
 unfold Gv
 rw [← zNQ]
 (refine zL (n := 11) Tryz.func60 rfl rfl rfl ?_)
 (repeat' (first | ((with_reducible refine zG ?_); first | refine zE rfl rfl rfl rfl rfl ?_ | refine zC rfl rfl rfl rfl rfl ?_ | refine zY rfl rfl rfl rfl rfl rfl (fun _ _ q => ci_con l A cap _ _ (fun n => !inB lo hi n) _ (hk.below q.below) hl (fun x W' _ hW' => iin_fn x lo hi _ _ W' (zBG q.own hW' rfl) (zBG q.own hW' rfl))) ?_ | refine zAe rfl rfl rfl rfl rfl ?_ | (refine zAD rfl rfl rfl rfl rfl rfl (fun b => ?_)) | refine zBx rfl rfl rfl rfl rfl rfl ?_) | (with_reducible first | refine zH ?_ | refine zB ?_ | refine zD ?_ | refine zA ?_ | refine zX ?_)))
 all_goals exact zV (by (exact zP.cons (by exact zf.tmp rfl) zP.nil)) () trivial rfl (fun _ _ => Own.nil _ _)
theorem iin1 (lo hi a : Int) (c : Nat) (A : Option Addr) (w : World) (hk : zp encI 1 w A [a]) : Gv Tryz.prog 60 [.int .i64 lo, .int .i64 hi, .slice A 1 c] w (.bool (inB lo hi a)) := by
 have := zKP lo hi [a] A c w hk (by simp)
 simpa using this
theorem iin2 (lo hi a b : Int) (c : Nat) (A : Option Addr) (w : World) (hk : zp encI 1 w A [a, b]) : Gv Tryz.prog 60 [.int .i64 lo, .int .i64 hi, .slice A 2 c] w (.bool (inB lo hi a && inB lo hi b)) := by
 have := zKP lo hi [a, b] A c w hk (by simp)
 simpa using this
theorem zBo (s : Sp) (lo hi : Int) (w : World) : Gv Tryz.prog 80 [vSp s, .int .i64 lo, .int .i64 hi] w (.bool (zBJ s lo hi)) := by
 unfold Gv vSp
 (refine zL (n := 22) Tryz.func80 rfl rfl rfl ?_)
 (repeat' (first | ((with_reducible refine zG ?_); first | refine zE rfl rfl rfl rfl rfl ?_ | refine zC rfl rfl rfl rfl rfl ?_ | (refine zJ rfl rfl rfl rfl rfl ?_; refine ⟨_, rfl, ?_⟩) | refine zd rfl rfl rfl rfl rfl ?_ | refine zAO rfl rfl rfl rfl rfl rfl ?_ | refine zu rfl rfl rfl ?_ | (refine zR rfl rfl rfl rfl rfl rfl rfl (fun h => ?_) (fun h => ?_) <;> (dsimp only [cmpP] at h; (try (exfalso; omega)))) | (refine zAG rfl rfl rfl rfl rfl rfl (fun _ _ q => iin2 _ _ _ _ _ _ _ (zGB (enc := encI) [_, _] (by exact rfl) _ q.below q.own)) (fun h => ?_) (fun h => ?_) <;> skip) | (refine zAD rfl rfl rfl rfl rfl rfl (fun b => ?_)) | (refine zz rfl rfl rfl rfl rfl ?_; refine ⟨rfl, _, rfl, fun b => ?_⟩)) | (with_reducible first | refine zH ?_ | refine zB ?_ | refine zD ?_ | refine zA ?_ | refine zX ?_)))
 all_goals exact zV (by (exact zP.cons (by exact zf.tmp rfl) zP.nil)) () trivial (by first | (simp_all [resV, zBJ]; done) | (simp_all [resV, zBJ]; omega)) (fun _ h => h.sub (by (repeat (first | exact oK1 _ | (refine oK2 (by (repeat (first | exact tK1 _ _ | apply tK2))) ?_)))))
theorem zEZ (n lo hi : Int) (w : World) : Gv Tryz.prog 67 [.int .i64 n, .int .i64 lo, .int .i64 hi] w (.bool (inB lo hi n)) := by
 unfold Gv
 (refine zL (n := 15) Tryz.func67 rfl rfl rfl ?_)
 (repeat' (first | ((with_reducible refine zG ?_); first | refine zE rfl rfl rfl rfl rfl ?_ | refine zC rfl rfl rfl rfl rfl ?_ | refine zAO rfl rfl rfl rfl rfl rfl ?_ | refine zu rfl rfl rfl ?_ | (refine zR rfl rfl rfl rfl rfl rfl rfl (fun h => ?_) (fun h => ?_) <;> (dsimp only [cmpP] at h; (try (exfalso; omega))))) | (with_reducible first | refine zH ?_ | refine zB ?_ | refine zD ?_ | refine zA ?_ | refine zX ?_)))
 all_goals exact zV (by (exact zP.cons (by exact zf.tmp rfl) zP.nil)) () trivial (by simp [resV, inB]; omega) (fun _ h => h.sub (by (repeat (first | exact oK1 _ | (refine oK2 (by (repeat (first | exact tK1 _ _ | apply tK2))) ?_)))))
theorem zCv (s : Sp) (lo hi : Int) (w : World) : Gv Tryz.prog 129 [vSp s, .int .i64 lo, .int .i64 hi] w (.bool (zBJ s lo hi)) := by
 unfold Gv vSp
 (refine zL (n := 24) Tryz.func129 rfl rfl rfl ?_)
 (repeat' (first | ((with_reducible refine zG ?_); first | refine zE rfl rfl rfl rfl rfl ?_ | refine zC rfl rfl rfl rfl rfl ?_ | (refine zJ rfl rfl rfl rfl rfl ?_; refine ⟨_, rfl, ?_⟩) | refine zd rfl rfl rfl rfl rfl ?_ | refine zAO rfl rfl rfl rfl rfl rfl ?_ | refine zu rfl rfl rfl ?_ | (refine zR rfl rfl rfl rfl rfl rfl rfl (fun h => ?_) (fun h => ?_) <;> (dsimp only [cmpP] at h; (try (exfalso; omega)))) | (refine zAD rfl rfl rfl rfl rfl rfl (fun b => ?_))) | (with_reducible first | refine zH ?_ | refine zB ?_ | refine zD ?_ | refine zA ?_ | refine zX ?_)))
 all_goals exact zV (by (exact zP.cons (by exact zf.tmp rfl) zP.nil)) () trivial (by simp [resV, zBJ, inB]; omega) (fun _ h => h.sub (by (repeat (first | exact oK1 _ | (refine oK2 (by (repeat (first | exact tK1 _ _ | apply tK2))) ?_)))))
def zEP (b : Bed) : Bool := zBJ b.thick 0 2000 && inB 0 9 b.sun
def zCc (h : Hour) : Bool := zBJ h.melt 0 50 && inB 0 60 h.runs && inB 0 12 h.crew
def zDW (c : Cov) : Bool := decide (c.beds.length = c.t.length) && (inB 1 8 c.hours.length && (c.beds.all zEP && (c.hours.all zCc && (zBJ c.wear 0 20 && (zBJ c.layer 1 100 && (inB 0 100 c.rate && (inB 0 2000 c.limit && inB 0 c.limit c.base)))))))
def zAh (c : Cov) : Int := if valid c.t then (if zDW c then 0 else 20) else 10
theorem ibed_fn (z : Bed) (w : World) : Gv Tryz.prog 134 [vBed z] w (.bool (!zEP z)) := by
 unfold Gv vBed
 (refine zL (n := 14) Tryz.func134 rfl rfl rfl ?_)
 (repeat' (first | ((with_reducible refine zG ?_); first | refine zE rfl rfl rfl rfl rfl ?_ | refine zC rfl rfl rfl rfl rfl ?_ | (refine zJ rfl rfl rfl rfl rfl ?_; refine ⟨_, rfl, ?_⟩) | refine zd rfl rfl rfl rfl rfl ?_ | refine zAO rfl rfl rfl rfl rfl rfl ?_ | refine zu rfl rfl rfl ?_ | (refine zAG rfl rfl rfl rfl rfl rfl (fun _ _ q => zBo z.thick 0 2000 _) (fun h => ?_) (fun h => ?_) <;> (try (exfalso; omega))) | (refine zAG rfl rfl rfl rfl rfl rfl (fun _ _ q => iin1 _ _ _ _ _ _ (zAk (enc := encI) (by exact rfl) _ q.below q.own)) (fun h => ?_) (fun h => ?_) <;> (try (exfalso; omega))) | refine zAe rfl rfl rfl rfl rfl ?_ | (refine zAD rfl rfl rfl rfl rfl rfl (fun b => ?_)) | (refine zz rfl rfl rfl rfl rfl ?_; refine ⟨rfl, _, rfl, fun b => ?_⟩)) | (with_reducible first | refine zH ?_ | refine zB ?_ | refine zD ?_ | refine zA ?_ | refine zX ?_)))
 all_goals exact zV (by (exact zP.cons (by exact zf.tmp rfl) zP.nil)) () trivial (by simp_all [resV, zEP]) (fun _ h => h.sub (by (repeat (first | exact oK1 _ | (refine oK2 (by (repeat (first | exact tK1 _ _ | apply tK2))) ?_)))))
theorem ihour_fn (z : Hour) (w : World) : Gv Tryz.prog 135 [zD1 z] w (.bool (!zCc z)) := by
 unfold Gv zD1
 (refine zL (n := 21) Tryz.func135 rfl rfl rfl ?_)
 (repeat' (first | ((with_reducible refine zG ?_); first | refine zE rfl rfl rfl rfl rfl ?_ | refine zC rfl rfl rfl rfl rfl ?_ | (refine zJ rfl rfl rfl rfl rfl ?_; refine ⟨_, rfl, ?_⟩) | refine zd rfl rfl rfl rfl rfl ?_ | refine zAO rfl rfl rfl rfl rfl rfl ?_ | refine zu rfl rfl rfl ?_ | (refine zAG rfl rfl rfl rfl rfl rfl (fun _ _ q => zBo z.melt 0 50 _) (fun h => ?_) (fun h => ?_) <;> (try (exfalso; omega))) | (refine zAG rfl rfl rfl rfl rfl rfl (fun _ _ q => iin1 _ _ _ _ _ _ (zAk (enc := encI) (by exact rfl) _ q.below q.own)) (fun h => ?_) (fun h => ?_) <;> (try (exfalso; omega))) | refine zAe rfl rfl rfl rfl rfl ?_ | (refine zAD rfl rfl rfl rfl rfl rfl (fun b => ?_)) | (refine zz rfl rfl rfl rfl rfl ?_; refine ⟨rfl, _, rfl, fun b => ?_⟩)) | (with_reducible first | refine zH ?_ | refine zB ?_ | refine zD ?_ | refine zA ?_ | refine zX ?_)))
 all_goals exact zV (by (exact zP.cons (by exact zf.tmp rfl) zP.nil)) () trivial (by simp_all [resV, zCc]) (fun _ h => h.sub (by (repeat (first | exact oK1 _ | (refine oK2 (by (repeat (first | exact tK1 _ _ | apply tK2))) ?_)))))
def zM (c : Cov) (A : Option Addr) (ca : Nat) (B : Option Addr) (cb : Nat) (C : Option Addr) (cc : Nat) : List Value :=
 [.slice A c.t.length ca, .slice B c.beds.length cb, .slice C c.hours.length cc, .int .i64 c.wear.lo, .int .i64 c.wear.hi, .int .i64 c.layer.lo, .int .i64 c.layer.hi, .int .i64 c.rate, .int .i64 c.limit, .int .i64 c.base]
def zAS (c : Cov) (A : Option Addr) (ca : Nat) (B : Option Addr) (cb : Nat) (C : Option Addr) (cc : Nat) : Value := .agg (zM c A ca B cb C cc).toArray
structure zAq (w : World) (c : Cov) (A B C : Option Addr) : Prop where
 t : zp zBU 9 w A c.t
 b : zp zAx 3 w B c.beds
 h : zp zx 5 w C c.hours
theorem zAq.below {w W : World} {c : Cov} {A B C : Option Addr} (h : zAq w c A B C) (hb : Below w.heap.size w W) : zAq W c A B C := ⟨h.t.below hb, h.b.below hb, h.h.below hb⟩
structure Small (c : Cov) : Prop where
 fit : zGd c.t
 t : c.t.length ≤ 20
 b : c.beds.length ≤ 20
 h : c.hours.length ≤ 12
theorem zCB {c : Cov} : zDW c = true ↔ c.beds.length = c.t.length ∧ inB 1 8 c.hours.length = true ∧ c.beds.all zEP = true ∧ c.hours.all zCc = true ∧ zBJ c.wear 0 20 = true ∧ zBJ c.layer 1 100 = true ∧ inB 0 100 c.rate = true ∧ inB 0 2000 c.limit = true ∧ inB 0 c.limit c.base = true := by
 unfold zDW; simp only [Bool.and_eq_true, decide_eq_true_eq]
theorem zLx {α : Type} {p : α → Bool} {l : List α} : (l.any fun x => !p x) = !l.all p := by
 induction l with
 | nil => rfl
 | cons a l ih => simp [ih]
set_option maxHeartbeats 2000000 in
theorem zIc (c : Cov) (A : Option Addr) (ca : Nat) (B : Option Addr) (cb : Nat) (C : Option Addr) (cc : Nat) (w : World) (h : zAq w c A B C) (hs : Small c) : Gv Tryz.prog 106 [zAS c A ca B cb C cc] w (.int .i64 (zAh c)) := by
 have hT := fun W (hb : Below w.heap.size w W) => (check_n c.t A ca W (h.t.below hb) hs.fit (by have := hs.t; omega))
 have h3 := hs.t; have h4 := hs.b; have h5 := hs.h
 have hB := fun W (hb : Below w.heap.size w W) => cb_con c.beds B cb 134 #[] (fun b => !zEP b) W (h.b.below hb) (by omega) (fun x W _ _ => ibed_fn x W)
 have hH := fun W (hb : Below w.heap.size w W) => ch_con c.hours C cc 135 #[] (fun b => !zCc b) W (h.h.below hb) (by omega) (fun x W _ _ => ihour_fn x W)
 rw [zLx] at hB hH
 unfold vT at hT
 unfold Gv zAS zM
 cases hv : valid c.t
 ·have e : zAh c = 10 := by simp [zAh, hv]
  rw [show zDZ c.t = 10 by simp [zDZ, hv]] at hT
  rw [e]
  (refine zL (n := 73) Tryz.func106 rfl rfl rfl ?_)
  (repeat' (first | ((with_reducible refine zG ?_); first | refine zE rfl rfl rfl rfl rfl ?_ | refine zC rfl rfl rfl rfl rfl ?_ | (refine zJ rfl rfl rfl rfl rfl ?_; refine ⟨_, rfl, ?_⟩) | refine zd rfl rfl rfl rfl rfl ?_ | (refine zR rfl rfl rfl rfl rfl rfl rfl (fun h => ?_) (fun h => ?_) <;> (dsimp only [cmpP] at h; (try (exfalso; omega)))) | refine zY rfl rfl rfl rfl rfl rfl (fun _ _ q => hT _ q.below) ?_ | (refine zAD rfl rfl rfl rfl rfl rfl (fun b => ?_))) | (with_reducible first | refine zH ?_ | refine zB ?_ | refine zD ?_ | refine zA ?_ | refine zX ?_ | refine zZ ?_) | ((with_reducible refine zI ?_ ?_); (· exact rfl))))
  all_goals exact zV (by (exact zP.cons (by exact zf.tmp rfl) zP.nil)) () trivial rfl (fun _ _ => Own.nil _ _)
 ·rw [zIi hv] at hT
  cases hi : zDW c
  ·have e : zAh c = 20 := by simp [zAh, hv, hi]
   rw [e]
   (refine zL (n := 73) Tryz.func106 rfl rfl rfl ?_)
   (repeat' (first | ((with_reducible refine zG ?_); first | refine zE rfl rfl rfl rfl rfl ?_ | refine zC rfl rfl rfl rfl rfl ?_ | (refine zJ rfl rfl rfl rfl rfl ?_; refine ⟨_, rfl, ?_⟩) | refine zd rfl rfl rfl rfl rfl ?_ | refine zAO rfl rfl rfl rfl rfl rfl ?_ | refine zu rfl rfl rfl ?_ | (refine zR rfl rfl rfl rfl rfl rfl rfl (fun h => ?_) (fun h => ?_) <;> (dsimp only [cmpP] at h; (try (exfalso; omega)))) | refine zY rfl rfl rfl rfl rfl rfl (fun _ _ q => hT _ q.below) ?_ | (refine zAG rfl rfl rfl rfl rfl rfl (fun _ _ q => hB _ q.below) (fun h => ?_) (fun h => ?_) <;> (try (exfalso; omega))) | (refine zAG rfl rfl rfl rfl rfl rfl (fun _ _ q => hH _ q.below) (fun h => ?_) (fun h => ?_) <;> (try (exfalso; omega))) | (refine zAG rfl rfl rfl rfl rfl rfl (fun _ _ q => zBo c.wear 0 20 _) (fun h => ?_) (fun h => ?_) <;> (try (exfalso; omega))) | (refine zAG rfl rfl rfl rfl rfl rfl (fun _ _ q => zBo c.layer 1 100 _) (fun h => ?_) (fun h => ?_) <;> (try (exfalso; omega))) | (refine zAG rfl rfl rfl rfl rfl rfl (fun _ _ q => iin1 _ _ _ _ _ _ (zAk (enc := encI) (by exact rfl) _ q.below q.own)) (fun h => ?_) (fun h => ?_) <;> (try (exfalso; omega))) | refine zAe rfl rfl rfl rfl rfl ?_ | refine zr rfl rfl rfl rfl rfl ?_ | (refine zAD rfl rfl rfl rfl rfl rfl (fun b => ?_)) | (refine zz rfl rfl rfl rfl rfl ?_; refine ⟨rfl, _, rfl, fun b => ?_⟩)) | (with_reducible first | refine zH ?_ | refine zB ?_ | refine zD ?_ | refine zA ?_ | refine zX ?_ | refine zU ?_ | refine zZ ?_) | ((with_reducible refine zI ?_ ?_); (· exact rfl)) | ((with_reducible refine zF ?_ ?_); (· exact rfl))))
   all_goals first | exact zV (by (exact zP.cons (by exact zf.tmp rfl) zP.nil)) () trivial rfl (fun _ _ => Own.nil _ _) | (exfalso; have := mt zCB.2 (by rw [hi]; simp); simp_all; done) | (exfalso; have := mt zCB.2 (by rw [hi]; simp); simp_all; omega)
  ·have e : zAh c = 0 := by simp [zAh, hv, hi]
   rw [e]
   obtain ⟨i1, i2, i3, i4, i5, i6, i7, i8, i9⟩ := zCB.1 hi
   rw [i3] at hB
   rw [i4] at hH
   (refine zL (n := 73) Tryz.func106 rfl rfl rfl ?_)
   (repeat' (first | ((with_reducible refine zG ?_); first | refine zE rfl rfl rfl rfl rfl ?_ | refine zC rfl rfl rfl rfl rfl ?_ | (refine zJ rfl rfl rfl rfl rfl ?_; refine ⟨_, rfl, ?_⟩) | refine zd rfl rfl rfl rfl rfl ?_ | refine zAO rfl rfl rfl rfl rfl rfl ?_ | (refine zR rfl rfl rfl rfl rfl rfl rfl (fun h => ?_) (fun h => ?_) <;> (dsimp only [cmpP] at h; (try (exfalso; omega)))) | refine zY rfl rfl rfl rfl rfl rfl (fun _ _ q => hT _ q.below) ?_ | refine zY rfl rfl rfl rfl rfl rfl (fun _ _ q => hB _ q.below) ?_ | refine zY rfl rfl rfl rfl rfl rfl (fun _ _ q => hH _ q.below) ?_ | (refine zY rfl rfl rfl rfl rfl rfl (fun _ _ q => i5 ▸ zBo c.wear 0 20 _) ?_) | (refine zY rfl rfl rfl rfl rfl rfl (fun _ _ q => i6 ▸ zBo c.layer 1 100 _) ?_) | (refine zAG rfl rfl rfl rfl rfl rfl (fun _ _ q => iin1 _ _ _ _ _ _ (zAk (enc := encI) (by exact rfl) _ q.below q.own)) (fun h => ?_) (fun h => ?_) <;> (try (exfalso; simp_all; done))) | refine zAe rfl rfl rfl rfl rfl ?_ | refine zr rfl rfl rfl rfl rfl ?_ | (refine zAD rfl rfl rfl rfl rfl rfl (fun b => ?_)) | (refine zz rfl rfl rfl rfl rfl ?_; refine ⟨rfl, _, rfl, fun b => ?_⟩)) | (with_reducible first | refine zH ?_ | refine zB ?_ | refine zD ?_ | refine zA ?_ | refine zX ?_ | refine zU ?_) | ((with_reducible refine zF ?_ ?_); (· exact rfl))))
   all_goals exact zV (by (exact zP.cons (by exact zf.tmp rfl) zP.nil)) () trivial rfl (fun _ _ => Own.nil _ _)
end Go.Proofs.YtdigopgncfhiaaaGreatDoor
namespace Go.Proofs.YtdigopgncfhiaaaGreatDoor
open Go.RowKit
set_option maxRecDepth 20000
theorem zMW {c : Cov} {z : Bed} (hz : z ∈ c.beds) (h : zEP z = false) : zDW c = false := by
 cases hi : zDW c with
 | false => rfl
 | true =>
  have := List.all_eq_true.1 (zCB.1 hi).2.2.1 z hz
  rw [h] at this; cases this
theorem zLW {c : Cov} {z : Hour} (hz : z ∈ c.hours) (h : zCc z = false) : zDW c = false := by
 cases hi : zDW c with
 | false => rfl
 | true =>
  have := List.all_eq_true.1 (zCB.1 hi).2.2.2.1 z hz
  rw [h] at this; cases this
theorem zIp {α : Type} {p : α → Bool} {l : List α} (h : ∀ j z, j < l.length → l[j]? = some z → p z = true) : l.all p = true := by
 rw [List.all_eq_true]
 intro x hx
 obtain ⟨j, hj⟩ := List.mem_iff_getElem?.1 hx
 exact h j x (List.getElem?_eq_some_iff.1 hj).1 hj
theorem zJA {α : Type} {p : α → Bool} {l : List α} {i : Nat} {z : α} (hz : l[i]? = some z) (hp : p z = true) (h : ∀ j y, j < i → l[j]? = some y → p y = true) : ∀ j y, j < i + 1 → l[j]? = some y → p y = true := by
 intro j y hj hy
 by_cases e : j = i
 ·subst e; rw [hz] at hy; cases hy; exact hp
 ·exact h j y (by omega) hy
set_option maxHeartbeats 2000000 in
theorem rice_any (c : Cov) (A : Option Addr) (ca : Nat) (B : Option Addr) (cb : Nat) (C : Option Addr) (cc : Nat) (w : World) (h0 : zAq w c A B C) (hs : Small c) : Gv Tryz.prog 97 [zAS c A ca B cb C cc] w (.bool (zDW c)) := by
 have h3 := hs.t; have h4 := hs.b; have h5 := hs.h
 have hb := h0.b; have hh := h0.h
 unfold Gv zAS zM
 (refine zL (n := 106) Tryz.func97 rfl rfl rfl ?_)
 (repeat' (first | ((with_reducible refine zG ?_); first | refine zE rfl rfl rfl rfl rfl ?_ | refine zC rfl rfl rfl rfl rfl ?_ | (refine zJ rfl rfl rfl rfl rfl ?_; refine ⟨_, rfl, ?_⟩) | refine zd rfl rfl rfl rfl rfl ?_ | refine zAO rfl rfl rfl rfl rfl rfl ?_ | refine zu rfl rfl rfl ?_ | (refine zR rfl rfl rfl rfl rfl rfl rfl (fun h => ?_) (fun h => ?_) <;> (dsimp only [cmpP] at h; (try (exfalso; omega)))) | (refine zAG rfl rfl rfl rfl rfl rfl (fun _ _ q => zEZ _ _ _ _) (fun h => ?_) (fun h => ?_) <;> (try (exfalso; omega))) | (refine zAG rfl rfl rfl rfl rfl rfl (fun _ _ q => zCv c.wear 0 20 _) (fun h => ?_) (fun h => ?_) <;> (try (exfalso; omega))) | (refine zAG rfl rfl rfl rfl rfl rfl (fun _ _ q => zCv c.layer 1 100 _) (fun h => ?_) (fun h => ?_) <;> (try (exfalso; omega))) | refine zAe rfl rfl rfl rfl rfl ?_ | refine zr rfl rfl rfl rfl rfl ?_ | (refine zAD rfl rfl rfl rfl rfl rfl (fun b => ?_))) | (with_reducible first | refine zH ?_ | refine zB ?_ | refine zD ?_ | refine zA ?_ | refine zX ?_ | refine zU ?_ | refine zZ ?_ | refine zQ ?_) | ((with_reducible refine zI ?_ ?_); (· exact rfl)) | ((with_reducible refine zF ?_ ?_); (· exact rfl))))
 all_goals first | exact zV (by (exact zP.cons (by exact zf.tmp rfl) zP.nil)) () trivial (by rw [show zDW c = false from by cases hi : zDW c with | false => rfl | true => (exfalso; obtain ⟨i1, i2, i3, i4, i5, i6, i7, i8, i9⟩ := zCB.1 hi; first | omega | simp_all)]; rfl) (fun _ h => h.sub (by (repeat (first | exact oK1 _ | (refine oK2 (by (repeat (first | exact tK1 _ _ | apply tK2))) ?_))))) | skip
 refine zq (ι := Nat) [1] rfl (fun i => i ≤ c.beds.length ∧ ∀ j z, j < i → c.beds[j]? = some z → zEP z = true) (fun i => [(3, .int .i64 (i : Int))]) (fun _ => [.blk b (zM c A ca B cb C cc)]) (fun i => c.beds.length - i) 0 ⟨Nat.zero_le _, fun j z h => by omega⟩ (by (first | exact lK1 | (repeat (first | exact lK1 | (refine zK rfl ?_))))) (by (repeat (first | exact oK1 _ | (refine oK2 (by (repeat (first | exact tK1 _ _ | apply tK2))) ?_)))) ?_
 rintro i ⟨hi, hall⟩
 simp only [zAw, List.cons_append, List.nil_append]
 unfold zM
 by_cases hlt : i < c.beds.length
 ·obtain ⟨z, hz⟩ : ∃ z, c.beds[i]? = some z := ⟨_, List.getElem?_eq_getElem hlt⟩
  have hm := List.mem_of_getElem? hz
  obtain ⟨bb, o, rfl, hblt, hc⟩ := hb.at_ hlt
  have : InS w bb o zAx 3 c.beds := ⟨hb⟩
  have : zAQ c.beds i z := ⟨hz⟩
  (repeat' (first | ((with_reducible refine zG ?_); first | refine zE rfl rfl rfl rfl rfl ?_ | refine zC rfl rfl rfl rfl rfl ?_ | (refine zJ rfl rfl rfl rfl rfl ?_; refine ⟨_, rfl, ?_⟩) | refine zd rfl rfl rfl rfl rfl ?_ | refine zAO rfl rfl rfl rfl rfl rfl ?_ | refine zu rfl rfl rfl ?_ | (refine zR rfl rfl rfl rfl rfl rfl rfl (fun h => ?_) (fun h => ?_) <;> (dsimp only [cmpP] at h; (try (exfalso; omega)))) | (refine zAG rfl rfl rfl rfl rfl rfl (fun _ _ q => zCv z.thick 0 2000 _) (fun h => ?_) (fun h => ?_) <;> (try (exfalso; omega))) | (refine zAG rfl rfl rfl rfl rfl rfl (fun _ _ q => zEZ _ _ _ _) (fun h => ?_) (fun h => ?_) <;> (try (exfalso; omega))) | refine zAe rfl rfl rfl rfl rfl ?_ | refine zg rfl rfl rfl rfl rfl rfl (by omega) ?_ | refine zb rfl rfl rfl rfl rfl rfl rfl (by omega) ?_ | refine zr rfl rfl rfl rfl rfl ?_) | (with_reducible first | refine zH ?_ | refine zB ?_ | refine zD ?_ | refine zA ?_ | refine zX ?_ | refine zU ?_ | refine zZ ?_ | refine zQ ?_ | refine zi ?_ | refine zAi ?_) | ((with_reducible refine zI ?_ ?_); (· exact rfl)) | ((with_reducible refine zF ?_ ?_); (· exact rfl))))
  all_goals first | exact ze (i + 1) ⟨by omega, zJA hz (by simp_all [zEP]; done) hall⟩ (by omega) (by (first | exact lK1 | (repeat (first | exact lK1 | (refine zK rfl ?_))))) (by (repeat (first | exact oK1 _ | (refine oK2 (by (repeat (first | exact tK1 _ _ | apply tK2))) ?_)))) | exact zV (by (exact zP.cons (by exact zf.tmp rfl) zP.nil)) () trivial (by rw [zMW hm (by simp_all [zEP])]; rfl) (fun _ h => h.sub (by (repeat (first | exact oK1 _ | (refine oK2 (by (repeat (first | exact tK1 _ _ | apply tK2))) ?_)))))
 ·obtain rfl : i = c.beds.length := by omega
  have hbeds := zIp (fun j z hj hz => hall j z hj hz)
  (repeat' (first | ((with_reducible refine zG ?_); first | refine zE rfl rfl rfl rfl rfl ?_ | refine zC rfl rfl rfl rfl rfl ?_ | (refine zJ rfl rfl rfl rfl rfl ?_; refine ⟨_, rfl, ?_⟩) | refine zd rfl rfl rfl rfl rfl ?_ | (refine zR rfl rfl rfl rfl rfl rfl rfl (fun h => ?_) (fun h => ?_) <;> (dsimp only [cmpP] at h; (try (exfalso; omega)))) | refine zr rfl rfl rfl rfl rfl ?_) | (with_reducible first | refine zH ?_ | refine zB ?_ | refine zD ?_ | refine zA ?_ | refine zQ ?_ | refine zk ?_ | refine zT ?_ | refine zW ?_) | ((with_reducible refine zF ?_ ?_); (· exact rfl))))
  refine zq (ι := Nat) [1] rfl (fun i => i ≤ c.hours.length ∧ ∀ j z, j < i → c.hours[j]? = some z → zCc z = true) (fun i => [(4, .int .i64 (i : Int))]) (fun _ => [.blk b (zM c A ca B cb C cc)]) (fun i => c.hours.length - i) 0 ⟨Nat.zero_le _, fun j z h => by omega⟩ (by (first | exact lK1 | (repeat (first | exact lK1 | (refine zK rfl ?_))))) (by (repeat (first | exact oK1 _ | (refine oK2 (by (repeat (first | exact tK1 _ _ | apply tK2))) ?_)))) ?_
  rintro i ⟨hi, hallh⟩
  simp only [zAw, List.cons_append, List.nil_append]
  unfold zM
  by_cases hlt : i < c.hours.length
  ·obtain ⟨z, hz⟩ : ∃ z, c.hours[i]? = some z := ⟨_, List.getElem?_eq_getElem hlt⟩
   have hm := List.mem_of_getElem? hz
   obtain ⟨bb, o, rfl, hblt, hc⟩ := hh.at_ hlt
   have : InS w bb o zx 5 c.hours := ⟨hh⟩
   have : zAQ c.hours i z := ⟨hz⟩
   (repeat' (first | ((with_reducible refine zG ?_); first | refine zE rfl rfl rfl rfl rfl ?_ | refine zC rfl rfl rfl rfl rfl ?_ | (refine zJ rfl rfl rfl rfl rfl ?_; refine ⟨_, rfl, ?_⟩) | refine zd rfl rfl rfl rfl rfl ?_ | refine zAO rfl rfl rfl rfl rfl rfl ?_ | refine zu rfl rfl rfl ?_ | (refine zR rfl rfl rfl rfl rfl rfl rfl (fun h => ?_) (fun h => ?_) <;> (dsimp only [cmpP] at h; (try (exfalso; omega)))) | (refine zAG rfl rfl rfl rfl rfl rfl (fun _ _ q => zCv z.melt 0 50 _) (fun h => ?_) (fun h => ?_) <;> (try (exfalso; omega))) | (refine zAG rfl rfl rfl rfl rfl rfl (fun _ _ q => zEZ _ _ _ _) (fun h => ?_) (fun h => ?_) <;> (try (exfalso; omega))) | refine zAe rfl rfl rfl rfl rfl ?_ | refine zg rfl rfl rfl rfl rfl rfl (by omega) ?_ | refine zb rfl rfl rfl rfl rfl rfl rfl (by omega) ?_ | refine zr rfl rfl rfl rfl rfl ?_ | (refine zj rfl rfl rfl rfl rfl ?_; refine And.intro rfl (And.intro (by first | decide | exact Nat.le_of_ble_eq_true rfl | (simp; omega)) ⟨_, rfl, ?_⟩)) | (refine zt rfl rfl rfl rfl (fun b => ?_))) | (with_reducible first | refine zH ?_ | refine zB ?_ | refine zD ?_ | refine zA ?_ | refine zX ?_ | refine zU ?_ | refine zZ ?_ | refine zQ ?_ | refine zi ?_ | refine zAi ?_) | ((with_reducible refine zI ?_ ?_); (· exact rfl)) | ((with_reducible refine zF ?_ ?_); (· exact rfl))))
   all_goals first | exact ze (i + 1) ⟨by omega, zJA hz (by simp_all [zCc]; done) hallh⟩ (by omega) (by (first | exact lK1 | (repeat (first | exact lK1 | (refine zK rfl ?_))))) (by (repeat (first | exact oK1 _ | (refine oK2 (by (repeat (first | exact tK1 _ _ | apply tK2))) ?_)))) | exact zV (by (exact zP.cons (by exact zf.tmp rfl) zP.nil)) () trivial (by rw [zLW hm (by simp_all [zCc])]; rfl) (fun _ h => h.sub (by (repeat (first | exact oK1 _ | (refine oK2 (by (repeat (first | exact tK1 _ _ | apply tK2))) ?_)))))
  ·obtain rfl : i = c.hours.length := by omega
   have hhours := zIp (fun j z hj hz => hallh j z hj hz)
   have e : zDW c = true := zCB.2 ⟨by omega, by assumption, hbeds, hhours, by assumption, by assumption, by assumption, by assumption, by assumption⟩
   (repeat' (first | ((with_reducible refine zG ?_); first | refine zE rfl rfl rfl rfl rfl ?_ | refine zC rfl rfl rfl rfl rfl ?_ | (refine zJ rfl rfl rfl rfl rfl ?_; refine ⟨_, rfl, ?_⟩) | refine zd rfl rfl rfl rfl rfl ?_ | (refine zR rfl rfl rfl rfl rfl rfl rfl (fun h => ?_) (fun h => ?_) <;> (dsimp only [cmpP] at h; (try (exfalso; omega)))) | refine zr rfl rfl rfl rfl rfl ?_) | (with_reducible first | refine zH ?_ | refine zB ?_ | refine zD ?_ | refine zA ?_ | refine zX ?_ | refine zk ?_ | refine zT ?_ | refine zW ?_) | ((with_reducible refine zF ?_ ?_); (· exact rfl))))
   exact zV (by (exact zP.cons (by exact zf.tmp rfl) zP.nil)) () trivial (by rw [e]; rfl) (fun _ h => h.sub (by (repeat (first | exact oK1 _ | (refine oK2 (by (repeat (first | exact tK1 _ _ | apply tK2))) ?_)))))
theorem zK4 (c : Cov) (A : Option Addr) (ca : Nat) (B : Option Addr) (cb : Nat) (C : Option Addr) (cc : Nat) (w : World) (h : zAq w c A B C) (hs : Small c) : Gv Tryz.prog 55 [zAS c A ca B cb C cc] w (.int .i64 (zAh c)) := by
 have h3 := hs.t
 have hT := fun W (hb : Below w.heap.size w W) => rcheck_n c.t A ca W (h.t.below hb) hs.fit (by omega)
 have hI := fun W (hb : Below w.heap.size w W) => rice_any c A ca B cb C cc W (h.below hb) hs
 unfold zAS zM at hI
 unfold Gv zAS zM
 cases hv : valid c.t
 ·have e : zAh c = 10 := by simp [zAh, hv]
  rw [show zDZ c.t = 10 by simp [zDZ, hv]] at hT
  rw [e]
  (refine zL (n := 13) Tryz.func55 rfl rfl rfl ?_)
  (repeat' (first | ((with_reducible refine zG ?_); first | refine zE rfl rfl rfl rfl rfl ?_ | refine zC rfl rfl rfl rfl rfl ?_ | (refine zJ rfl rfl rfl rfl rfl ?_; refine ⟨_, rfl, ?_⟩) | refine zd rfl rfl rfl rfl rfl ?_ | (refine zR rfl rfl rfl rfl rfl rfl rfl (fun h => ?_) (fun h => ?_) <;> (dsimp only [cmpP] at h; (try (exfalso; omega)))) | refine zY rfl rfl rfl rfl rfl rfl (fun _ _ q => hT _ q.below) ?_ | (refine zAD rfl rfl rfl rfl rfl rfl (fun b => ?_))) | (with_reducible first | refine zH ?_ | refine zB ?_ | refine zD ?_ | refine zA ?_ | refine zX ?_ | refine zZ ?_) | ((with_reducible refine zI ?_ ?_); (· exact rfl))))
  all_goals exact zV (by (exact zP.cons (by exact zf.tmp rfl) zP.nil)) () trivial rfl (fun _ _ => Own.nil _ _)
 ·rw [zIi hv] at hT
  cases hi : zDW c
  ·have e : zAh c = 20 := by simp [zAh, hv, hi]
   rw [hi] at hI
   rw [e]
   (refine zL (n := 13) Tryz.func55 rfl rfl rfl ?_)
   (repeat' (first | ((with_reducible refine zG ?_); first | refine zE rfl rfl rfl rfl rfl ?_ | refine zC rfl rfl rfl rfl rfl ?_ | (refine zJ rfl rfl rfl rfl rfl ?_; refine ⟨_, rfl, ?_⟩) | refine zd rfl rfl rfl rfl rfl ?_ | (refine zR rfl rfl rfl rfl rfl rfl rfl (fun h => ?_) (fun h => ?_) <;> (dsimp only [cmpP] at h; (try (exfalso; omega)))) | refine zY rfl rfl rfl rfl rfl rfl (fun _ _ q => hT _ q.below) ?_ | refine zY rfl rfl rfl rfl rfl rfl (fun _ _ q => hI _ q.below) ?_ | refine zAe rfl rfl rfl rfl rfl ?_ | (refine zAD rfl rfl rfl rfl rfl rfl (fun b => ?_))) | (with_reducible first | refine zH ?_ | refine zB ?_ | refine zD ?_ | refine zA ?_ | refine zX ?_ | refine zU ?_ | refine zZ ?_) | ((with_reducible refine zI ?_ ?_); (· exact rfl)) | ((with_reducible refine zF ?_ ?_); (· exact rfl))))
   all_goals exact zV (by (exact zP.cons (by exact zf.tmp rfl) zP.nil)) () trivial rfl (fun _ _ => Own.nil _ _)
  ·have e : zAh c = 0 := by simp [zAh, hv, hi]
   rw [hi] at hI
   rw [e]
   (refine zL (n := 13) Tryz.func55 rfl rfl rfl ?_)
   (repeat' (first | ((with_reducible refine zG ?_); first | refine zE rfl rfl rfl rfl rfl ?_ | refine zC rfl rfl rfl rfl rfl ?_ | (refine zJ rfl rfl rfl rfl rfl ?_; refine ⟨_, rfl, ?_⟩) | refine zd rfl rfl rfl rfl rfl ?_ | (refine zR rfl rfl rfl rfl rfl rfl rfl (fun h => ?_) (fun h => ?_) <;> (dsimp only [cmpP] at h; (try (exfalso; omega)))) | refine zY rfl rfl rfl rfl rfl rfl (fun _ _ q => hT _ q.below) ?_ | refine zY rfl rfl rfl rfl rfl rfl (fun _ _ q => hI _ q.below) ?_ | refine zAe rfl rfl rfl rfl rfl ?_ | (refine zAD rfl rfl rfl rfl rfl rfl (fun b => ?_))) | (with_reducible first | refine zH ?_ | refine zB ?_ | refine zD ?_ | refine zA ?_ | refine zX ?_ | refine zU ?_) | ((with_reducible refine zF ?_ ?_); (· exact rfl))))
   all_goals exact zV (by (exact zP.cons (by exact zf.tmp rfl) zP.nil)) () trivial rfl (fun _ _ => Own.nil _ _)
end Go.Proofs.YtdigopgncfhiaaaGreatDoor
