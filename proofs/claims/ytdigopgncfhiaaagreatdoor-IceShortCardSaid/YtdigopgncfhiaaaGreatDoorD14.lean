/- D14 -/
import Derived.Test.YtdigopgncfhiaaaGreatDoorD13
import Derived.Test.YtdigopgncfhiaaaGreatDoorD11
import Derived.Test.YtdigopgncfhiaaaGreatDoorD6
import Derived.Test.YtdigopgncfhiaaaGreatDoorD1
import Derived.Test.YtdigopgncfhiaaaGreatDoorD12
import Derived.LaidMore
set_option linter.unusedSimpArgs false
set_option linter.unusedVariables false
namespace Go.Proofs.YtdigopgncfhiaaaGreatDoor
open Go.RowKit
set_option maxRecDepth 20000
theorem elem_ho : zIx Tryz.prog 26 67 5 40 (.agg #[.int .i64 0, .int .i64 0, .int .i64 0, .int .i64 0, .bool false]) :=
 ⟨by rfl, by exact ⟨_, rfl, rfl, rfl, rfl⟩, by decide, by decide⟩
instance elI_ho : ElI Tryz.prog 26 67 5 40 := ⟨⟨_, elem_ho⟩⟩
theorem elem_be : zIx Tryz.prog 25 73 3 24 (.agg #[.int .i64 0, .int .i64 0, .int .i64 0]) :=
 ⟨by rfl, by exact ⟨_, rfl, rfl, rfl, rfl⟩, by decide, by decide⟩
instance elI_be : ElI Tryz.prog 25 73 3 24 := ⟨⟨_, elem_be⟩⟩
theorem zLr (t : List Hour) (A : Option Addr) (c : Nat) (w : World) (ht : zp zx 5 w A t) (h0 : 0 < t.length) (hl : t.length ≤ 1000) :
  Ret Tryz.prog 77 [.slice A t.length c] w (fun p : Option Addr × Nat => .slice p.1 t.length p.2) (fun p => [.row zx 5 67 (.slice p.1 t.length p.2) t]) (fun _ => True) := by
 obtain ⟨bb, o, rfl, _⟩ := ht.at_ h0
 (refine zL (n := 8) Tryz.func77 rfl rfl rfl ?_)
 (repeat' (first | ((with_reducible refine zG ?_); first | refine zE rfl rfl rfl rfl rfl ?_ | refine zC rfl rfl rfl rfl rfl ?_ | refine zHr rfl rfl rfl rfl rfl rfl ?_ | (refine zFo zx rfl rfl rfl rfl (fun b => ?_)) | (refine zBi (enc := zx) t rfl rfl rfl rfl rfl (by (repeat (first | exact tK1 _ _ | apply tK2))) rfl rfl (zJ7 ht) (by refine ⟨?_, by decide⟩; (try simp only [List.length_append, List.length_cons, List.length_nil]); omega) (fun A' c' => ?_))) | (with_reducible first | refine zH ?_ | refine zB ?_ | refine zD ?_ | refine zA ?_ | refine zX ?_ | refine zU ?_) | ((with_reducible refine zF ?_ ?_); (· exact rfl))))
 exact zV (by (exact zP.cons (by exact zf.tmp rfl) zP.nil)) (A', c') trivial rfl (fun _ h => h.sub (by (repeat (first | exact oK1 _ | (refine oK2 (by (repeat (first | exact tK1 _ _ | apply tK2))) ?_)))))
set_option maxHeartbeats 1000000 in
theorem zMi (l : List (Int × Int)) (A : Option Addr) (cap : Nat) (kf : FuncId) [zS Tryz.prog kf] (cs : Array Value) (p : (Int × Int) → Bool) (w : World) (hk : zp zAW 2 w A l) (hl : l.length ≤ 1000000)
  (hp : ∀ x W, x ∈ l → Below w.heap.size w W → Gv Tryz.prog kf ([(fun p : Int × Int => Value.agg (zAW p).toArray) x] ++ cs.toList) W (.bool (p x))) :
  Gv Tryz.prog 116 [.slice A l.length cap, .func (.func kf) #[] cs] w (.int .i64 (zCh p l)) := by
 unfold Gv
 (refine zL (n := 19) Tryz.func116 rfl rfl rfl ?_)
 (repeat' (first | ((with_reducible refine zG ?_); first | refine zE rfl rfl rfl rfl rfl ?_ | refine zC rfl rfl rfl rfl rfl ?_ | refine zr rfl rfl rfl rfl rfl ?_) | (with_reducible first | refine zH ?_ | refine zB ?_ | refine zD ?_ | refine zA ?_ | refine zQ ?_)))
 refine zq (ι := Nat) [0, 1, 7] rfl (fun i => i ≤ l.length ∧ ∀ j y, j < i → l[j]? = some y → p y = false) (fun i => [(8, .int .i64 (i : Int))]) (fun _ => []) (fun i => l.length - i) 0 ⟨Nat.zero_le _, fun j y h => by omega⟩ (by (first | exact lK1 | (repeat (first | exact lK1 | (refine zK rfl ?_))))) (by (repeat (first | exact oK1 _ | (refine oK2 (by (repeat (first | exact tK1 _ _ | apply tK2))) ?_)))) ?_
 rintro i ⟨hi, hb⟩
 simp only [zAw, List.cons_append, List.nil_append]
 by_cases hlt : i < l.length
 ·have hx : l[i]? = some l[i] := by simp [hlt]
  obtain ⟨b, o, rfl, hblt, hc⟩ := hk.at_ hlt
  have : InS w b o zAW 2 l := ⟨hk⟩
  have : zAQ l i l[i] := ⟨hx⟩
  (repeat' (first | ((with_reducible refine zG ?_); first | refine zE rfl rfl rfl rfl rfl ?_ | refine zC rfl rfl rfl rfl rfl ?_ | (refine zJ rfl rfl rfl rfl rfl ?_; refine ⟨_, rfl, ?_⟩) | (refine zR rfl rfl rfl rfl rfl rfl rfl (fun h => ?_) (fun h => ?_) <;> (dsimp only [cmpP] at h; (try (exfalso; omega)))) | (refine zAG rfl rfl rfl rfl rfl rfl (fun _ _ q => hp _ _ (List.getElem_mem hlt) q.below) (fun h => ?_) (fun h => ?_) <;> (try (exfalso; omega))) | refine zg rfl rfl rfl rfl rfl rfl (by omega) ?_ | refine zb rfl rfl rfl rfl rfl rfl rfl (by omega) ?_) | (with_reducible first | refine zH ?_ | refine zB ?_ | refine zD ?_ | refine zA ?_ | refine zX ?_ | refine zU ?_ | refine zZ ?_ | refine zQ ?_ | refine zi ?_ | refine zAi ?_) | ((with_reducible refine zI ?_ ?_); (· exact rfl)) | ((with_reducible refine zF ?_ ?_); (· exact rfl))))
  ·have e1 := zED hlt h hb
   exact zV (by (exact zP.cons (by exact zf.tmp rfl) zP.nil)) () trivial (by rw [e1]; rfl) (fun _ h => h.sub (by (repeat (first | exact oK1 _ | (refine oK2 (by (repeat (first | exact tK1 _ _ | apply tK2))) ?_)))))
  ·refine ze (i + 1) ⟨by omega, fun j y hj hy => ?_⟩ (by omega) (by (first | exact lK1 | (repeat (first | exact lK1 | (refine zK rfl ?_))))) (by (repeat (first | exact oK1 _ | (refine oK2 (by (repeat (first | exact tK1 _ _ | apply tK2))) ?_))))
   by_cases e : j = i
   ·subst e; rw [hx] at hy; cases hy; exact h
   ·exact hb j y (by omega) hy
 ·obtain rfl : i = l.length := by omega
  have e1 := zDY (p := p) (l := l) (fun y hy => by
   obtain ⟨j, hj⟩ := List.mem_iff_getElem?.1 hy
   exact hb j y (List.getElem?_eq_some_iff.1 hj).1 hj)
  (repeat' (first | ((with_reducible refine zG ?_); first | refine zC rfl rfl rfl rfl rfl ?_ | (refine zR rfl rfl rfl rfl rfl rfl rfl (fun h => ?_) (fun h => ?_) <;> (dsimp only [cmpP] at h; (try (exfalso; omega))))) | (with_reducible first | refine zH ?_ | refine zB ?_ | refine zD ?_ | refine zA ?_ | refine zX ?_ | refine zk ?_ | refine zT ?_ | refine zW ?_) | ((with_reducible refine zF ?_ ?_); (· exact rfl))))
  exact zV (by (exact zP.cons (by exact zf.tmp rfl) zP.nil)) () trivial (by rw [e1]; rfl) (fun _ h => h.sub (by (repeat (first | exact oK1 _ | (refine oK2 (by (repeat (first | exact tK1 _ _ | apply tK2))) ?_)))))
theorem cp_con (l : List (Int × Int)) (A : Option Addr) (cap : Nat) (kf : FuncId) [zS Tryz.prog kf] (cs : Array Value) (p : (Int × Int) → Bool) (w : World) (hk : zp zAW 2 w A l) (hl : l.length ≤ 1000000)
  (hp : ∀ x W, x ∈ l → Below w.heap.size w W → Gv Tryz.prog kf ([(fun p : Int × Int => Value.agg (zAW p).toArray) x] ++ cs.toList) W (.bool (p x))) :
  Gv Tryz.prog 78 [.slice A l.length cap, .func (.func kf) #[] cs] w (.bool (l.any p)) := by
 unfold Gv
 have hf := zEC p l
 (refine zL (n := 9) Tryz.func78 rfl rfl rfl ?_)
 (repeat' (first | ((with_reducible refine zG ?_); first | refine zE rfl rfl rfl rfl rfl ?_ | refine zC rfl rfl rfl rfl rfl ?_ | (refine zR rfl rfl rfl rfl rfl rfl rfl (fun h => ?_) (fun h => ?_) <;> (dsimp only [cmpP] at h; (try (exfalso; omega)))) | refine zY rfl rfl rfl rfl rfl rfl (fun _ _ q => zMi l A cap kf cs p _ (hk.below q.below) hl (fun x W hx hW => hp x W hx (q.below.trans (hW.mono q.base)))) ?_) | (with_reducible first | refine zH ?_ | refine zB ?_ | refine zD ?_ | refine zA ?_ | refine zX ?_)))
 all_goals exact zV (by (exact zP.cons (by exact zf.tmp rfl) zP.nil)) () trivial (by simp only [resV]; rw [← hf]; simp; omega) (fun _ h => h.sub (by (repeat (first | exact oK1 _ | (refine oK2 (by (repeat (first | exact tK1 _ _ | apply tK2))) ?_)))))
def zKy (n : Int) (u : Hour) : Hour := { u with runs := n }
def zBY (c : Cov) (J : Nat) (n : Int) : Cov := { c with hours := c.hours.set J (zKy n (c.hours.getD J default)) }
theorem zCR {c : Cov} {J : Nat} {n : Int} : (zBY c J n).hours.length = c.hours.length := by simp [zBY]
theorem zHk {c : Cov} {J : Nat} {n : Int} (h : Small c) : Small (zBY c J n) := ⟨h.fit, h.t, h.b, by rw [zCR]; exact h.h⟩
theorem zIz {c : Cov} {J : Nat} {n : Int} (hJ : J < c.hours.length) (h0 : 0 ≤ n) (h1 : n ≤ 60) (h : zCf c) : zCf (zBY c J n) :=
 ⟨h.bed, fun u hu => by
  rcases List.mem_or_eq_of_mem_set hu with hu | rfl
  ·exact h.hour u hu
  ·have := h.hour (c.hours.getD J default) (by rw [zAv (List.getElem?_eq_getElem hJ)]; exact List.getElem_mem hJ)
   simp only [zCc, Bool.and_eq_true, zAJ] at this ⊢
   exact ⟨⟨this.1.1, by simp only [zKy]; omega⟩, this.2⟩, h.wear, h.layer, h.rate, h.limit, h.base, h.beds, by rw [zCR]; exact h.hours⟩
def zHA (c : Cov) (pl : List Sli) (J : Nat) (n : Int) : Bool := !(zCM (zBY c J n) pl zCj).any fun p => decide (p.1 = (J : Int))
theorem zMp (g J : Nat) (p : Int × Int) (w : World) (hg : InC w g 0 [.int .i64 (J : Int)]) : Gv Tryz.prog 79 [.agg (zAW p).toArray, .pointer (some ⟨g, 0, none⟩)] w (.bool (decide (p.1 = (J : Int)))) := by
 unfold Gv zAW
 (refine zL (n := 8) Tryz.func79 rfl rfl rfl ?_)
 (repeat' (first | ((with_reducible refine zG ?_); first | refine zC rfl rfl rfl rfl rfl ?_ | (refine zJ rfl rfl rfl rfl rfl ?_; refine ⟨_, rfl, ?_⟩) | (refine zR rfl rfl rfl rfl rfl rfl rfl (fun h => ?_) (fun h => ?_) <;> (dsimp only [cmpP] at h; (try (exfalso; omega)))) | refine zBZ rfl rfl rfl rfl rfl rfl rfl (by first | decide | omega) ?_ | (refine zAD rfl rfl rfl rfl rfl rfl (fun b => ?_))) | (with_reducible first | refine zH ?_ | refine zB ?_ | refine zD ?_ | refine zA ?_ | refine zX ?_)))
 all_goals exact zV (by (exact zP.cons (by exact zf.tmp rfl) zP.nil)) () trivial (by simp [resV]; omega) (fun _ h => h.sub (by (repeat (first | exact oK1 _ | (refine oK2 (by (repeat (first | exact tK1 _ _ | apply tK2))) ?_)))))
set_option maxHeartbeats 4000000 in
theorem zOZ (c : Cov) (A : Option Addr) (ca : Nat) (B : Option Addr) (cb : Nat) (C : Option Addr) (cc g gp gh gr J n : Nat) (pl : List Sli) (P : Option Addr) (cp : Nat) (w : World) (hr : InC w g 0 (zM c A ca B cb C cc)) (hG : InC w 0 0 zCe) (h : zAq w c A B C) (hs : Small c) (hf : zCf c) (hp : zBK w P pl) (hrl : ∀ s ∈ pl, s.xs.length ≤ 20) (hpl : pl.length = c.hours.length)
  (hgr : InC w gr 0 [.pointer (some ⟨g, 0, none⟩)]) (hgh : InC w gh 0 [.int .i64 (J : Int)]) (hgp : InC w gp 0 [.slice P pl.length cp]) (hJ : J < c.hours.length) (hn : n ≤ 60) :
  Gv Tryz.prog 76 [.int .i64 (n : Int), .pointer (some ⟨gr, 0, none⟩), .pointer (some ⟨gh, 0, none⟩), .pointer (some ⟨gp, 0, none⟩)] w (.bool (zHA c pl J n)) := by
 have h4 := hs.b; have h5 := hs.h
 have hh := h.h
 have hT := fun W C' cc' g' (hW : Below w.heap.size w W) (hx : InC W g' 0 (zM (zBY c J n) A ca B cb C' cc')) (hC : zp zx 5 W C' (zBY c J n).hours) => zFQ (en := zCj) (enF := 58) zGh (zBY c J n) A ca B cb C' cc' g' pl P cp W hx (hG.below hW) ⟨h.t.below hW, h.b.below hW, hC⟩ (zHk hs) (zIz hJ (by omega) (by omega) hf) (hp.below hW) hrl (by rw [zCR]; exact hpl)
 obtain ⟨u, hu⟩ : ∃ u, c.hours[J]? = some u := ⟨_, List.getElem?_eq_getElem hJ⟩
 have hl := zNf (c := zBY c J n) (pl := pl) (en := zCj) h4 (by rw [zCR]; exact h5)
 unfold zHA
 have hcp := fun A2 c2 W (hs2 : zp zAW 2 W A2 (zCM (zBY c J n) pl zCj)) (hW : Below w.heap.size w W) => cp_con (zCM (zBY c J n) pl zCj) A2 c2 79 #[.pointer (some ⟨gh, 0, none⟩)] (fun p => decide (p.1 = (J : Int))) W hs2 (by omega) (fun x W2 _ hW2 => zMp gh J x W2 (hgh.below (hW.trans (hW2.mono hW.size))))
 generalize hth : zCM (zBY c J n) pl zCj = th at *
 unfold zM at *
 rw [zCR] at hT
 unfold Gv
 (refine zL (n := 38) Tryz.func76 rfl rfl rfl ?_)
 (repeat' (first | ((with_reducible refine zG ?_); first | refine zE rfl rfl rfl rfl rfl ?_ | refine zC rfl rfl rfl rfl rfl ?_ | (refine zJ rfl rfl rfl rfl rfl ?_; refine ⟨_, rfl, ?_⟩) | refine zd rfl rfl rfl rfl rfl ?_ | (refine zAR rfl rfl rfl rfl rfl rfl (fun _ _ q => zLr c.hours C cc _ (hh.below q.below) (by omega) (by omega)) ?_; rintro ⟨A', c'⟩ -; dsimp only [List.cons_append, List.nil_append]; refine zJB (Take.here _ _) (by omega) ?_; rintro g' rfl) | (refine zj rfl rfl rfl rfl rfl ?_; refine And.intro rfl (And.intro (by first | decide | exact Nat.le_of_ble_eq_true rfl | (simp; omega)) ⟨_, rfl, ?_⟩)) | (refine zAD rfl rfl rfl rfl rfl rfl (fun b => ?_)) | (refine zA4 rfl rfl rfl rfl rfl ?_; refine ⟨_, rfl, ?_⟩) | refine zA9 rfl rfl rfl rfl rfl ?_) | (with_reducible first | refine zH ?_ | refine zB ?_ | refine zD ?_ | refine zA ?_)))
 have hset : (zBY c J n).hours = c.hours.set J (zKy n u) := by simp only [zBY, zAv hu]
 rw [hset] at hT
 have : zAQ c.hours J u := ⟨hu⟩
 (refine zAo (by kernel_rfl) [[], [I0], [I0, I0], [I0, I0, I0], [I0, I0, I0, I0], [O0, O0, O0, O0, O0], [O0, O0, O0, O0, O0, O0], [I0, I0, I0, I0, I0, I0, I0], [I0, I0, I0, I0, I0, I0, I0, I0], [I0, I0, I0, I0, I0, I0, I0, I0, I0]] (by kernel_rfl) (by kernel_rfl) (by kernel_rfl) ?_)
 (repeat' (first | (((with_reducible refine zC6 ?_ ?_); (· exact rfl); refine ⟨_, fun G => (by (try simp only [fltT, zw, List.nil_append, List.cons_append]); rfl), ?_⟩); first | refine za _ (fun _ => zAm rfl rfl) (fun _ => rfl) rfl (by first | exact fun _ _ _ => rfl | (intro G G' h; simp (decide := true) only [h])) ?_ | refine za _ (fun _ => zAH rfl rfl (by exact rfl)) (fun _ => rfl) rfl (by first | exact fun _ _ _ => rfl | (intro G G' h; simp (decide := true) only [h])) ?_ | (refine zAU rfl ?_; refine za _ (fun _ => zAY rfl rfl) (fun _ => rfl) rfl (by first | exact fun _ _ _ => rfl | (intro G G' h; simp (decide := true) only [h])) ?_) | refine za _ (fun _ => zAt (I := J) rfl rfl rfl rfl (by omega)) (fun _ => rfl) rfl (by exact fun _ _ _ => rfl) ?_ | refine za _ (fun _ => zAc rfl rfl) (fun _ => rfl) rfl (by first | exact fun _ _ _ => rfl | (intro G G' h; simp (decide := true) only [h])) ?_) | ((with_reducible refine zBp ?_ ?_); (· exact rfl))))
 (intro G; simp only [regsT, zw, Pend.zBS, List.nil_append, List.cons_append])
 refine zHo (enc := zx) (j := 2) (z := u) (zKy n u) rfl rfl rfl rfl rfl rfl rfl rfl (by decide) ?_
 (repeat' (first | ((with_reducible refine zG ?_); first | refine zE rfl rfl rfl rfl rfl ?_ | refine zC rfl rfl rfl rfl rfl ?_ | (refine zJ rfl rfl rfl rfl rfl ?_; refine ⟨_, rfl, ?_⟩) | (refine zAR rfl rfl rfl rfl rfl rfl (fun _ _ q => hT _ (some ⟨g', 0, none⟩) c' b q.below (zBG q.own (Below.refl _ _) rfl) ((Own.zMq (by (repeat (first | exact tK1 _ _ | apply tK2))) q.own).here (.sl zx 5 (some ⟨g', 0, none⟩) (c.hours.set J (zKy n u))) (by simp))) ?_; rintro ⟨A2, c2⟩ -; dsimp only [List.cons_append, List.nil_append]) | refine zY rfl rfl rfl rfl rfl rfl (fun _ _ q => hcp _ _ _ (zBF q.own (Below.refl _ _)) q.below) ?_ | refine zAe rfl rfl rfl rfl rfl ?_ | refine zBx rfl rfl rfl rfl rfl rfl ?_) | (with_reducible first | refine zH ?_ | refine zB ?_ | refine zD ?_ | refine zA ?_ | refine zX ?_)))
 all_goals exact zV (by (exact zP.cons (by exact zf.tmp rfl) zP.nil)) () trivial rfl (fun _ _ => Own.nil _ _)
end Go.Proofs.YtdigopgncfhiaaaGreatDoor
namespace Go.Proofs.YtdigopgncfhiaaaGreatDoor
open Go.RowKit
set_option maxRecDepth 20000
def bestN (c : Cov) (pl : List Sli) (J : Nat) : Nat → Int
 | 0 => -1
 | n + 1 => if zHA c pl J n then (n : Int) else bestN c pl J n
def zGK (c : Cov) (pl : List Sli) (h : Int) : Int × Int :=
 if zCG c pl = 0 then (if inB 0 ((c.hours.length : Int) - 1) h = true then (if bestN c pl h.toNat 61 < 0 then (0, 6) else (bestN c pl h.toNat 61, 0)) else (0, 2)) else (0, zCG c pl)
set_option maxHeartbeats 4000000 in
theorem zOG (c : Cov) (A : Option Addr) (ca : Nat) (B : Option Addr) (cb : Nat) (C : Option Addr) (cc : Nat) (pl : List Sli) (P : Option Addr) (cp : Nat) (h : Int) (w : World) (hc : zAq w c A B C) (hs : Small c) (hp : zBK w P pl) (hl : pl.length ≤ 12) (hrl : ∀ s ∈ pl, s.xs.length ≤ 20) (hG : InC w 0 0 zCe) :
  Gv Tryz.prog 37 [zAS c A ca B cb C cc, .slice P pl.length cp, .int .i64 h] w (.tuple #[.int .i64 (zGK c pl h).1, .int .i64 (zGK c pl h).2]) := by
 have hl4 := hs.b; have hl5 := hs.h
 have h1 := fun W (hb : Below w.heap.size w W) => zEB c A ca B cb C cc pl P cp W (hc.below hb) hs (hp.below hb) hl hrl
 have h2 := fun W (hb : Below w.heap.size w W) => zEA c A ca B cb C cc pl P cp W (hc.below hb) hs (hp.below hb) hl hrl
 unfold zAS at h1 h2
 unfold Gv zAS zGK
 by_cases h0 : zCG c pl = 0
 ·rw [if_pos h0]
  obtain ⟨h00, hpl⟩ := zEG h0
  have hf := zBg h00
  have h2 := fun W hb => h2 W hb h00 hpl
  by_cases hin : inB 0 ((c.hours.length : Int) - 1) h = true
  ·rw [if_pos hin]
   obtain ⟨J, rfl, hJ⟩ := zMI hin
   simp only [Int.toNat_natCast]
   have hB := fun W (hb : Below w.heap.size w W) g gp gh gr n (hr : InC W g 0 (zM c A ca B cb C cc)) (hgr : InC W gr 0 [.pointer (some ⟨g, 0, none⟩)]) (hgh : InC W gh 0 [.int .i64 (J : Int)]) (hgp : InC W gp 0 [.slice P pl.length cp]) hn => zOZ c A ca B cb C cc g gp gh gr J n pl P cp W hr (hG.below hb) (hc.below hb) hs hf (hp.below hb) hrl (zB0.1 hpl).1 hgr hgh hgp hJ hn
   unfold zM at h2 hB ⊢
   (refine zL (n := 38) Tryz.func37 rfl rfl rfl ?_)
   (repeat' (first | ((with_reducible refine zG ?_); first | refine zE rfl rfl rfl rfl rfl ?_ | refine zC rfl rfl rfl rfl rfl ?_ | (refine zJ rfl rfl rfl rfl rfl ?_; refine ⟨_, rfl, ?_⟩) | refine zd rfl rfl rfl rfl rfl ?_ | (refine zR rfl rfl rfl rfl rfl rfl rfl (fun h => ?_) (fun h => ?_) <;> (dsimp only [cmpP] at h; (try (exfalso; omega)))) | (refine zAR rfl rfl rfl rfl rfl rfl (fun _ _ q => h2 _ q.below) ?_; rintro g -; dsimp only [List.cons_append, List.nil_append]) | (refine zY rfl rfl rfl rfl rfl rfl (fun _ _ q => hin ▸ iin1 _ _ _ _ _ _ (zAk (enc := encI) (by exact rfl) _ q.below q.own)) ?_) | refine zh rfl rfl rfl rfl rfl rfl ?_ | refine zAe rfl rfl rfl rfl rfl ?_ | refine zCC rfl rfl rfl rfl rfl rfl (IntWalk.i64_in _ (by omega)) ?_ | refine zr rfl rfl rfl rfl rfl ?_ | (refine zj rfl rfl rfl rfl rfl ?_; refine And.intro rfl (And.intro (by first | decide | exact Nat.le_of_ble_eq_true rfl | (simp; omega)) ⟨_, rfl, ?_⟩)) | (refine zt rfl rfl rfl rfl (fun b => ?_)) | (refine zAD rfl rfl rfl rfl rfl rfl (fun b => ?_)) | (refine zz rfl rfl rfl rfl rfl ?_; refine ⟨rfl, _, rfl, fun b => ?_⟩) | refine zBx rfl rfl rfl rfl rfl rfl ?_) | (with_reducible first | refine zH ?_ | refine zB ?_ | refine zD ?_ | refine zA ?_ | refine zU ?_ | refine zQ ?_) | ((with_reducible refine zF ?_ ?_); (· exact rfl))))
   rename_i b3 b4 b5 b8
   refine zq (ι := Nat) [8, 10] rfl (fun k => k ≤ 61 ∧ bestN c pl J 61 = bestN c pl J k) (fun k => [(11, .int .i64 ((k : Int) - 1))]) (fun _ => [.blk b8 [.pointer (some ⟨g, 0, none⟩)], .blk b5 [.int .i64 (J : Int)], .blk b4 [.slice P pl.length cp], .blk g (zM c A ca B cb C cc)]) (fun k => k) 61 ⟨Nat.le_refl _, rfl⟩ (by (first | exact lK1 | (repeat (first | exact lK1 | (refine zK rfl ?_))))) (by (repeat (first | exact oK1 _ | (refine oK2 (by (repeat (first | exact tK1 _ _ | apply tK2))) ?_)))) ?_
   rintro k ⟨hk, hbe⟩
   simp only [zAw, zM, List.cons_append, List.nil_append]
   cases k with
   | zero =>
    (repeat' (first | ((with_reducible refine zG ?_); first | refine zE rfl rfl rfl rfl rfl ?_ | refine zC rfl rfl rfl rfl rfl ?_ | (refine zR rfl rfl rfl rfl rfl rfl rfl (fun h => ?_) (fun h => ?_) <;> (dsimp only [cmpP] at h; (try (exfalso; omega))))) | (with_reducible first | refine zH ?_ | refine zB ?_ | refine zD ?_ | refine zA ?_ | refine zX ?_ | refine zk ?_ | refine zT ?_ | refine zW ?_) | ((with_reducible refine zF ?_ ?_); (· exact rfl))))
    exact zV (by (exact zP.cons (by exact zf.tmp rfl) (zP.cons (by exact zf.tmp rfl) zP.nil))) () trivial (by rw [hbe]; simp [bestN, resV]) (fun _ h => h.sub (by (repeat (first | exact oK1 _ | (refine oK2 (by (repeat (first | exact tK1 _ _ | apply tK2))) ?_)))))
   | succ n =>
    rw [show (((n + 1 : Nat) : Int) - 1) = (n : Int) by omega]
    (repeat' (first | ((with_reducible refine zG ?_); first | refine zE rfl rfl rfl rfl rfl ?_ | refine zC rfl rfl rfl rfl rfl ?_ | (refine zR rfl rfl rfl rfl rfl rfl rfl (fun h => ?_) (fun h => ?_) <;> (dsimp only [cmpP] at h; (try (exfalso; omega)))) | (refine zAG rfl rfl rfl rfl rfl rfl (fun _ _ q => hB _ q.below g b4 b5 b8 n (zBG q.own (Below.refl _ _) rfl) (zBG q.own (Below.refl _ _) rfl) (zBG q.own (Below.refl _ _) rfl) (zBG q.own (Below.refl _ _) rfl) (by omega)) (fun h => ?_) (fun h => ?_) <;> (try (exfalso; omega))) | refine zCC rfl rfl rfl rfl rfl rfl (IntWalk.i64_in _ (by omega)) ?_) | (with_reducible first | refine zH ?_ | refine zB ?_ | refine zD ?_ | refine zA ?_ | refine zX ?_ | refine zU ?_ | refine zZ ?_ | refine zQ ?_ | refine zi ?_ | refine zAi ?_) | ((with_reducible refine zI ?_ ?_); (· exact rfl)) | ((with_reducible refine zF ?_ ?_); (· exact rfl))))
    ·exact zV (by (exact zP.cons (by exact zf.tmp rfl) (zP.cons (by exact zf.tmp rfl) zP.nil))) () trivial (by rw [hbe, show bestN c pl J (n + 1) = (n : Int) from by simp [bestN, h], if_neg (by omega)]; rfl) (fun _ h => h.sub (by (repeat (first | exact oK1 _ | (refine oK2 (by (repeat (first | exact tK1 _ _ | apply tK2))) ?_)))))
    ·exact ze n ⟨by omega, by rw [hbe]; simp [bestN, h]⟩ (by omega) (by (first | exact lK1 | (repeat (first | exact lK1 | (refine zK rfl ?_))))) (by (repeat (first | exact oK1 _ | (refine oK2 (by (repeat (first | exact tK1 _ _ | apply tK2))) ?_))))
  ·rw [if_neg hin]
   unfold zM at h2 ⊢
   (refine zL (n := 38) Tryz.func37 rfl rfl rfl ?_)
   (repeat' (first | ((with_reducible refine zG ?_); first | refine zE rfl rfl rfl rfl rfl ?_ | refine zC rfl rfl rfl rfl rfl ?_ | (refine zJ rfl rfl rfl rfl rfl ?_; refine ⟨_, rfl, ?_⟩) | refine zd rfl rfl rfl rfl rfl ?_ | (refine zR rfl rfl rfl rfl rfl rfl rfl (fun h => ?_) (fun h => ?_) <;> (dsimp only [cmpP] at h; (try (exfalso; omega)))) | (refine zAR rfl rfl rfl rfl rfl rfl (fun _ _ q => h2 _ q.below) ?_; rintro g -; dsimp only [List.cons_append, List.nil_append]) | (refine zY rfl rfl rfl rfl rfl rfl (fun _ _ q => (Bool.eq_false_iff.2 hin) ▸ iin1 _ _ _ _ _ _ (zAk (enc := encI) (by exact rfl) _ q.below q.own)) ?_) | refine zh rfl rfl rfl rfl rfl rfl ?_ | refine zAe rfl rfl rfl rfl rfl ?_ | refine zCC rfl rfl rfl rfl rfl rfl (IntWalk.i64_in _ (by omega)) ?_ | refine zr rfl rfl rfl rfl rfl ?_ | (refine zj rfl rfl rfl rfl rfl ?_; refine And.intro rfl (And.intro (by first | decide | exact Nat.le_of_ble_eq_true rfl | (simp; omega)) ⟨_, rfl, ?_⟩)) | (refine zt rfl rfl rfl rfl (fun b => ?_)) | (refine zAD rfl rfl rfl rfl rfl rfl (fun b => ?_)) | (refine zz rfl rfl rfl rfl rfl ?_; refine ⟨rfl, _, rfl, fun b => ?_⟩)) | (with_reducible first | refine zH ?_ | refine zB ?_ | refine zD ?_ | refine zA ?_ | refine zX ?_ | refine zU ?_ | refine zZ ?_) | ((with_reducible refine zI ?_ ?_); (· exact rfl)) | ((with_reducible refine zF ?_ ?_); (· exact rfl))))
   all_goals exact zV (by (exact zP.cons (by exact zf.tmp rfl) (zP.cons (by exact zf.tmp rfl) zP.nil))) () trivial rfl (fun _ _ => Own.nil _ _)
 ·rw [if_neg h0]
  unfold zM at h1 ⊢
  generalize zCG c pl = e at *
  (refine zL (n := 38) Tryz.func37 rfl rfl rfl ?_)
  (repeat' (first | ((with_reducible refine zG ?_); first | refine zE rfl rfl rfl rfl rfl ?_ | refine zC rfl rfl rfl rfl rfl ?_ | (refine zJ rfl rfl rfl rfl rfl ?_; refine ⟨_, rfl, ?_⟩) | (refine zR rfl rfl rfl rfl rfl rfl rfl (fun h => ?_) (fun h => ?_) <;> (dsimp only [cmpP] at h; (try (exfalso; omega)))) | refine zY rfl rfl rfl rfl rfl rfl (fun _ _ q => h1 _ q.below h0) ?_ | refine zh rfl rfl rfl rfl rfl rfl ?_ | (refine zj rfl rfl rfl rfl rfl ?_; refine And.intro rfl (And.intro (by first | decide | exact Nat.le_of_ble_eq_true rfl | (simp; omega)) ⟨_, rfl, ?_⟩)) | (refine zt rfl rfl rfl rfl (fun b => ?_)) | (refine zAD rfl rfl rfl rfl rfl rfl (fun b => ?_))) | (with_reducible first | refine zH ?_ | refine zB ?_ | refine zD ?_ | refine zA ?_ | refine zX ?_ | refine zZ ?_) | ((with_reducible refine zI ?_ ?_); (· exact rfl))))
  all_goals exact zV (by (exact zP.cons (by exact zf.tmp rfl) (zP.cons (by exact zf.tmp rfl) zP.nil))) () trivial rfl (fun _ _ => Own.nil _ _)
end Go.Proofs.YtdigopgncfhiaaaGreatDoor
namespace Go.Proofs.YtdigopgncfhiaaaGreatDoor
open Go.RowKit
theorem zJ6 {α : Type} {a b : List α} {i : Nat} (h : a.take i = b.take i) (hl : a.length = b.length) (hi : a.length ≤ i) : a = b := by
 rwa [List.take_of_length_le hi, List.take_of_length_le (by omega)] at h
theorem zJ5 {α : Type} {a b : List α} {i : Nat} (h : a.take i = b.take i) (ha : i < a.length) (hb : i < b.length) (he : a[i] = b[i]) : a.take (i + 1) = b.take (i + 1) := by
 rw [List.take_succ_eq_append_getElem ha, List.take_succ_eq_append_getElem hb, h, he]
theorem zI4 {α : Type} {a b : List α} {i : Nat} (ha : i < a.length) (hb : i < b.length) (he : a[i] ≠ b[i]) : a ≠ b := by
 rintro rfl; exact he rfl
end Go.Proofs.YtdigopgncfhiaaaGreatDoor
namespace Go.Proofs.YtdigopgncfhiaaaGreatDoor
open Go.RowKit
set_option maxRecDepth 20000
set_option maxHeartbeats 1000000 in
theorem zJJ (a b : List Int) (A B : Option Addr) (c d : Nat) (w : World) (ha : zp encI 1 w A a) (hb : zp encI 1 w B b) (hla : a.length ≤ 1000000) (hlb : b.length ≤ 1000000) :
  zAa 68 #[.slice A a.length c, .slice B b.length d] w (.bool (decide (a = b))) := by
 unfold zAa
 have HA := Lib.hid ha
 have HB := Lib.hid hb
 clear ha hb
 by_cases hl : a.length = b.length
 ·have hL := Lib.hid hl
  have hlt0 : b.length ≤ a.length := by omega
  have hlt1 : a.length ≤ b.length := by omega
  clear hl
  go_enter Tryz.func68, Tryz.ntmps68
  go_wp2
  go_loopw [5] (fun v wr => ∃ i : Nat, i ≤ a.length ∧ v = .int .i64 i ∧ Below w.heap.size w wr ∧ Hid (a.take i = b.take i)) (fun v _ => a.length - (intOf v).toNat)
  case atStart => exact ⟨0, Nat.zero_le _, rfl, Below.refl _ _, by unfold Hid; simp⟩
  case round =>
   obtain ⟨i, hi, rfl, hBw, hF⟩ := hrel
   by_cases hlt : i < a.length
   ·have hltb : i < b.length := by omega
    obtain ⟨b1, o1, rfl, hb1, hc1⟩ := (HA.out.below hBw).at_ hlt
    obtain ⟨b2, o2, rfl, hb2, hc2⟩ := (HB.out.below hBw).at_ hltb
    have c1 := hc1 0 _ rfl
    have c3 := hc2 0 _ rfl
    simp only [Nat.add_zero, Nat.mul_one] at c1 c3
    clear hc1 hc2
    have hi0 : (0:Int) ≤ i := by omega
    have hi1 : (i:Int) < a.length := by omega
    have hi2 : (i:Int) < b.length := by omega
    by_cases he : a[i] = b[i]
    ·have hq : a[i] = b[i] := he
     have HE := Lib.hid he
     clear he
     go_wp2_with fail
     go_quiet (fail)
     go_wp2
     go_roundw
     case rel => exact ⟨i + 1, by omega, by go_num, below_drewN hBw _, zJ5 hF.out hlt hltb HE.out⟩
     case measure => simp [intOf]; omega
    ·have hq : ¬ a[i] = b[i] := he
     have HE := Lib.hid he
     clear he
     go_wp2_with fail
     go_quiet (fail)
     go_wp2
     go_ret
     exact ⟨zBV (by simp [zI4 hlt hltb HE.out]), below_drewN hBw _⟩
   ·go_wp2
    go_ret
    exact ⟨zBV (by rw [zJ6 hF.out hL.out (by omega)]; simp), hBw⟩
 ·go_enter Tryz.func68, Tryz.ntmps68
  go_wp2
  go_ret
  exact ⟨zBV (by simp; rintro rfl; exact hl rfl), Below.refl _ _⟩
open Go.RowKit
set_option maxRecDepth 20000
end Go.Proofs.YtdigopgncfhiaaaGreatDoor
namespace Go.Proofs.YtdigopgncfhiaaaGreatDoor
open Go.RowKit
set_option maxRecDepth 20000
def zCq (c : Cov) (pl : List Sli) : Bool := decide (20 < c.t.length) || (decide (20 < c.beds.length) || (decide (12 < c.hours.length) || (decide (12 < pl.length) || pl.any fun s => decide (20 < s.xs.length))))
theorem zFU {c : Cov} {pl : List Sli} (h : zCq c pl = false) : c.t.length ≤ 20 ∧ c.beds.length ≤ 20 ∧ c.hours.length ≤ 12 ∧ pl.length ≤ 12 ∧ ∀ s ∈ pl, s.xs.length ≤ 20 := by
 unfold zCq at h
 simp only [Bool.or_eq_false_iff, decide_eq_false_iff_not, List.any_eq_false, decide_eq_true_eq] at h
 obtain ⟨h1, h2, h3, h4, h5⟩ := h
 exact ⟨by omega, by omega, by omega, by omega, fun s hs => by have := h5 s hs; omega⟩
theorem zLa {c : Cov} {pl : List Sli} (h : 20 < c.t.length ∨ 20 < c.beds.length ∨ 12 < c.hours.length ∨ 12 < pl.length) : zCq c pl = true := by
 cases hg : zCq c pl with
 | true => rfl
 | false => have := zFU hg; omega
theorem zLZ {c : Cov} {pl : List Sli} {s : Sli} (hs : s ∈ pl) (h : 20 < s.xs.length) : zCq c pl = true := by
 cases hg : zCq c pl with
 | true => rfl
 | false => have := (zFU hg).2.2.2.2 s hs; omega
theorem zMd {c : Cov} {pl : List Sli} (h1 : c.t.length ≤ 20) (h2 : c.beds.length ≤ 20) (h3 : c.hours.length ≤ 12) (h4 : pl.length ≤ 12) (h5 : ∀ s ∈ pl, s.xs.length ≤ 20) : zCq c pl = false := by
 unfold zCq
 simp only [Bool.or_eq_false_iff, decide_eq_false_iff_not, List.any_eq_false, decide_eq_true_eq]
 exact ⟨by omega, by omega, by omega, by omega, fun s hs => by have := h5 s hs; omega⟩
set_option maxHeartbeats 2000000 in
theorem zK5 (c : Cov) (A : Option Addr) (ca : Nat) (B : Option Addr) (cb : Nat) (C : Option Addr) (cc : Nat) (pl : List Sli) (P : Option Addr) (cp : Nat) (w : World) (hp : zBK w P pl) (hcap : pl.length ≤ cp ∧ cp ≤ maxLen) :
  Gv Tryz.prog 54 [zAS c A ca B cb C cc, .slice P pl.length cp] w (.bool (zCq c pl)) := by
 have hpp := hp.p
 have hgr := fun W => (zOJ A c.t.length ca W).gv
 unfold vT at hgr
 unfold Gv zAS zM
 (refine zL (n := 38) Tryz.func54 rfl rfl rfl ?_)
 (repeat' (first | ((with_reducible refine zG ?_); first | refine zE rfl rfl rfl rfl rfl ?_ | refine zC rfl rfl rfl rfl rfl ?_ | (refine zJ rfl rfl rfl rfl rfl ?_; refine ⟨_, rfl, ?_⟩) | refine zd rfl rfl rfl rfl rfl ?_ | refine zAO rfl rfl rfl rfl rfl rfl ?_ | refine zu rfl rfl rfl ?_ | (refine zR rfl rfl rfl rfl rfl rfl rfl (fun h => ?_) (fun h => ?_) <;> (dsimp only [cmpP] at h; (try (exfalso; omega)))) | (refine zAG rfl rfl rfl rfl rfl rfl (fun _ _ q => hgr _) (fun h => ?_) (fun h => ?_) <;> (try (exfalso; omega))) | refine zr rfl rfl rfl rfl rfl ?_ | (refine zAD rfl rfl rfl rfl rfl rfl (fun b => ?_))) | (with_reducible first | refine zH ?_ | refine zB ?_ | refine zD ?_ | refine zA ?_ | refine zX ?_ | refine zU ?_ | refine zZ ?_ | refine zQ ?_) | ((with_reducible refine zI ?_ ?_); (· exact rfl)) | ((with_reducible refine zF ?_ ?_); (· exact rfl))))
 all_goals (try simp only [decide_eq_true_eq, decide_eq_false_iff_not] at *)
 all_goals first | exact zV (by (exact zP.cons (by exact zf.tmp rfl) zP.nil)) () trivial (by rw [zLa (by omega)]; rfl) (fun _ h => h.sub (by (repeat (first | exact oK1 _ | (refine oK2 (by (repeat (first | exact tK1 _ _ | apply tK2))) ?_))))) | skip
 refine zq (ι := Nat) [1] rfl (fun i => i ≤ pl.length ∧ ∀ j (z : Sli), j < i → pl[j]? = some z → z.xs.length ≤ 20) (fun i => [(5, .int .i64 (i : Int))]) (fun _ => []) (fun i => pl.length - i) 0 ⟨Nat.zero_le _, fun j z h => by omega⟩ (by (first | exact lK1 | (repeat (first | exact lK1 | (refine zK rfl ?_))))) (by (repeat (first | exact oK1 _ | (refine oK2 (by (repeat (first | exact tK1 _ _ | apply tK2))) ?_)))) ?_
 rintro i ⟨hi, hall⟩
 simp only [zAw, List.cons_append, List.nil_append]
 by_cases hlt : i < pl.length
 ·obtain ⟨s, hsi⟩ : ∃ s, pl[i]? = some s := ⟨_, List.getElem?_eq_getElem hlt⟩
  have hsm := List.mem_of_getElem? hsi
  obtain ⟨bb, o, rfl, hblt, hc⟩ := hpp.at_ hlt
  have : InS w bb o zBN 1 pl := ⟨hpp⟩
  have : zAQ pl i s := ⟨hsi⟩
  have hy := fun h => zLZ (c := c) hsm h
  obtain ⟨sA, xs, sc⟩ := s
  simp only at hy
  (repeat' (first | ((with_reducible refine zG ?_); first | refine zE rfl rfl rfl rfl rfl ?_ | refine zC rfl rfl rfl rfl rfl ?_ | (refine zJ rfl rfl rfl rfl rfl ?_; refine ⟨_, rfl, ?_⟩) | (refine zR rfl rfl rfl rfl rfl rfl rfl (fun h => ?_) (fun h => ?_) <;> (dsimp only [cmpP] at h; (try (exfalso; omega)))) | refine zg rfl rfl rfl rfl rfl rfl (by omega) ?_ | refine zb rfl rfl rfl rfl rfl rfl rfl (by omega) ?_ | refine zr rfl rfl rfl rfl rfl ?_) | (with_reducible first | refine zH ?_ | refine zB ?_ | refine zD ?_ | refine zA ?_ | refine zX ?_ | refine zU ?_ | refine zZ ?_ | refine zQ ?_ | refine zi ?_ | refine zAi ?_) | ((with_reducible refine zI ?_ ?_); (· exact rfl)) | ((with_reducible refine zF ?_ ?_); (· exact rfl))))
  ·exact zV (by (exact zP.cons (by exact zf.tmp rfl) zP.nil)) () trivial (by rw [hy (by omega)]; rfl) (fun _ h => h.sub (by (repeat (first | exact oK1 _ | (refine oK2 (by (repeat (first | exact tK1 _ _ | apply tK2))) ?_)))))
  ·exact ze (i + 1) ⟨by omega, fun j z hj hz => by
    by_cases e : j = i
    ·subst e; rw [hsi] at hz; cases hz; simp only; omega
    ·exact hall j z (by omega) hz⟩ (by omega) (by (first | exact lK1 | (repeat (first | exact lK1 | (refine zK rfl ?_))))) (by (repeat (first | exact oK1 _ | (refine oK2 (by (repeat (first | exact tK1 _ _ | apply tK2))) ?_))))
 ·obtain rfl : i = pl.length := by omega
  have hg : zCq c pl = false := zMd (by omega) (by omega) (by omega) (by omega) (fun s hs => by
   obtain ⟨j, hj⟩ := List.mem_iff_getElem?.1 hs
   exact hall j s (List.getElem?_eq_some_iff.1 hj).1 hj)
  (repeat' (first | ((with_reducible refine zG ?_); first | refine zE rfl rfl rfl rfl rfl ?_ | refine zC rfl rfl rfl rfl rfl ?_ | (refine zR rfl rfl rfl rfl rfl rfl rfl (fun h => ?_) (fun h => ?_) <;> (dsimp only [cmpP] at h; (try (exfalso; omega)))) | refine zr rfl rfl rfl rfl rfl ?_) | (with_reducible first | refine zH ?_ | refine zB ?_ | refine zD ?_ | refine zA ?_ | refine zX ?_ | refine zk ?_ | refine zT ?_ | refine zW ?_) | ((with_reducible refine zF ?_ ?_); (· exact rfl))))
  exact zV (by (exact zP.cons (by exact zf.tmp rfl) zP.nil)) () trivial (by rw [hg]; rfl) (fun _ h => h.sub (by (repeat (first | exact oK1 _ | (refine oK2 (by (repeat (first | exact tK1 _ _ | apply tK2))) ?_)))))
end Go.Proofs.YtdigopgncfhiaaaGreatDoor
namespace Go.Proofs.YtdigopgncfhiaaaGreatDoor
open Go.RowKit
set_option maxRecDepth 20000
def Ent.rows (l : List Sli) : Ent := ⟨fun b => ∃ s ∈ l, ∃ o, s.A = some ⟨b, o, none⟩, fun w => ∀ s ∈ l, zp encI 1 w s.A s.xs, fun w w' hs h hp s hm => (Ent.sl encI 1 s.A s.xs).loc w w' hs (fun b hb => h b ⟨s, hm, hb⟩) (hp s hm)⟩
theorem Own.rows_nil {base : Nat} {w : World} {H : List Ent} (h : Own base w H) : Own base w (.rows [] :: H) :=
 ⟨fun e he => by
  rcases List.mem_cons.1 he with rfl | he
  ·intro s hs; cases hs
  ·exact h.here e he, fun e he b hb => by
  rcases List.mem_cons.1 he with rfl | he
  ·obtain ⟨s, hs, _⟩ := hb; cases hs
  ·exact h.foot e he b hb, List.pairwise_cons.2 ⟨(fun f _ b hb => by obtain ⟨s, hs, _⟩ := hb; cases hs), h.apart⟩⟩
theorem Own.zH6 {base : Nat} {w : World} {H : List Ent} {A : Option Addr} {xs : List Int} {c : Nat} {l : List Sli} (h : Own base w (.sl encI 1 A xs :: .rows l :: H)) : Own base w (.rows (l ++ [⟨A, xs, c⟩]) :: H) := by
 obtain ⟨a1, a2⟩ := List.pairwise_cons.1 h.apart
 obtain ⟨a3, a4⟩ := List.pairwise_cons.1 a2
 refine ⟨fun e he => ?_, fun e he b hb => ?_, List.pairwise_cons.2 ⟨fun f hf b hb hb' => ?_, a4⟩⟩
 ·rcases List.mem_cons.1 he with rfl | he
  ·intro s hs
   rcases List.mem_append.1 hs with hs | hs
   ·exact (h.here (.rows l) (by simp) : ∀ s ∈ l, zp encI 1 w s.A s.xs) s hs
   ·simp only [List.mem_singleton] at hs; subst hs
    exact h.here (.sl encI 1 A xs) (by simp)
  ·exact h.here e (by simp [he])
 ·rcases List.mem_cons.1 he with rfl | he
  ·obtain ⟨s, hs, hb⟩ := hb
   rcases List.mem_append.1 hs with hs | hs
   ·exact h.foot (.rows l) (by simp) b ⟨s, hs, hb⟩
   ·simp only [List.mem_singleton] at hs; subst hs
    exact h.foot (.sl encI 1 A xs) (by simp) b hb
  ·exact h.foot e (by simp [he]) b hb
 ·obtain ⟨s, hs, hb⟩ := hb
  rcases List.mem_append.1 hs with hs | hs
  ·exact a3 f hf b ⟨s, hs, hb⟩ hb'
  ·simp only [List.mem_singleton] at hs; subst hs
   exact a1 f (by simp [hf]) b hb hb'
theorem elem_sl : zIx Tryz.prog 34 38 1 24 (.slice none 0 0) :=
 ⟨by rfl, by exact ⟨_, rfl, rfl, rfl, rfl⟩, by decide, by decide⟩
instance elI_sl : ElI Tryz.prog 34 38 1 24 := ⟨⟨_, elem_sl⟩⟩
theorem zKR {pl pl' : List Sli} (h : pl.map Sli.xs = pl'.map Sli.xs) (i : Nat) : (pl.getD i default).xs = (pl'.getD i default).xs := by
 have e : ∀ l : List Sli, (l.getD i default).xs = (l.map Sli.xs).getD i [] := fun l => by
  simp only [List.getD_eq_getElem?_getD, List.getElem?_map]
  cases l[i]? <;> rfl
 rw [e, e, h]
theorem zEX {c : Cov} {pl pl' : List Sli} (h : pl.map Sli.xs = pl'.map Sli.xs) {z : Bed} {i : Int} : ∀ k, thickN c pl z i k = thickN c pl' z i k
 | 0 => rfl
 | k + 1 => by simp only [thickN]; rw [zEX h k, zKR h]
theorem zKG {c : Cov} {pl pl' : List Sli} (h : pl.map Sli.xs = pl'.map Sli.xs) : zB1 c pl = zB1 c pl' := by
 have hl : pl.length = pl'.length := by have := congrArg List.length h; simpa using this
 unfold zB1
 rw [hl]
 congr 2
 funext i
 unfold zGE
 rw [zKR h]
theorem zB4 {c : Cov} {pl pl' : List Sli} (h : pl.map Sli.xs = pl'.map Sli.xs) : zCG c pl = zCG c pl' := by unfold zCG; rw [zKG h]
theorem zJ3 {c : Cov} {pl pl' : List Sli} (h : pl.map Sli.xs = pl'.map Sli.xs) {i k : Int} : zEW c pl i k = zEW c pl' i k := by unfold zEW; rw [zB4 h, zEX h]
theorem zI0 {c : Cov} {pl pl' : List Sli} (h : pl.map Sli.xs = pl'.map Sli.xs) {en : Sp → Sp → Int} : zCJ c pl en = zCJ c pl' en := by
 funext z i k
 unfold zCJ; rw [zEX h]
theorem zDf {c : Cov} {pl pl' : List Sli} (h : pl.map Sli.xs = pl'.map Sli.xs) {en : Sp → Sp → Int} : zCM c pl en = zCM c pl' en := by unfold zCM; rw [zI0 h]
theorem zKf {c : Cov} {pl pl' : List Sli} (h : pl.map Sli.xs = pl'.map Sli.xs) {J : Nat} {n : Int} : zHA c pl J n = zHA c pl' J n := by unfold zHA; rw [zDf h]
theorem zHX {c : Cov} {pl pl' : List Sli} (h : pl.map Sli.xs = pl'.map Sli.xs) {J : Nat} : ∀ k, bestN c pl J k = bestN c pl' J k
 | 0 => rfl
 | k + 1 => by simp only [bestN, zKf h, zHX h k]
theorem zLL {c : Cov} {pl pl' : List Sli} (h : pl.map Sli.xs = pl'.map Sli.xs) {k : Int} : zGK c pl k = zGK c pl' k := by unfold zGK; rw [zB4 h, zHX h]
end Go.Proofs.YtdigopgncfhiaaaGreatDoor
namespace Go.Proofs.YtdigopgncfhiaaaGreatDoor
open Go.RowKit
set_option maxRecDepth 20000
set_option maxHeartbeats 2000000 in
theorem zI3 (a m : List Sli) (A : Option Addr) (ca : Nat) (B : Option Addr) (cb : Nat) (w : World) (ha : zBK w A a) (hb : zBK w B m) (hab : a.map Sli.xs = m.map Sli.xs) (hl : a.length ≤ 1000) (hrl : ∀ s ∈ m, s.xs.length ≤ 1000) :
  Gv Tryz.prog 53 [.slice A a.length ca, .slice B m.length cb] w (.bool true) := by
 have hlen : a.length = m.length := by have := congrArg List.length hab; simpa using this
 have hap := ha.p; have hbp := hb.p
 have hS : ∀ (x : List Int) (X : Option Addr) (cx : Nat) (Y : Option Addr) (cy : Nat) W, zp encI 1 W X x → zp encI 1 W Y x → x.length ≤ 1000 → Gv Tryz.prog 27 [.slice X x.length cx, .slice Y x.length cy] W (.bool true) := by
  intro x X cx Y cy W h1 h2 h3
  have hs := fun W' (hW : Below W.heap.size W W') => (zJJ x x X Y cx cy W' (h1.below hW) (h2.below hW) (by omega) (by omega)).gv
  simp only [decide_true] at hs
  unfold Gv
  (refine zL (n := 8) Tryz.func27 rfl rfl rfl ?_)
  (repeat' (first | ((with_reducible refine zG ?_); first | refine zE rfl rfl rfl rfl rfl ?_ | refine zC rfl rfl rfl rfl rfl ?_ | refine zY rfl rfl rfl rfl rfl rfl (fun _ _ q => hs _ q.below) ?_) | (with_reducible first | refine zH ?_ | refine zB ?_ | refine zD ?_ | refine zA ?_ | refine zX ?_)))
  all_goals exact zV (by (exact zP.cons (by exact zf.tmp rfl) zP.nil)) () trivial rfl (fun _ _ => Own.nil _ _)
 unfold Gv
 (refine zL (n := 27) Tryz.func53 rfl rfl rfl ?_)
 (repeat' (first | ((with_reducible refine zG ?_); first | refine zE rfl rfl rfl rfl rfl ?_ | refine zC rfl rfl rfl rfl rfl ?_ | (refine zR rfl rfl rfl rfl rfl rfl rfl (fun h => ?_) (fun h => ?_) <;> (dsimp only [cmpP] at h; (try (exfalso; omega)))) | refine zr rfl rfl rfl rfl rfl ?_) | (with_reducible first | refine zH ?_ | refine zB ?_ | refine zD ?_ | refine zA ?_ | refine zU ?_ | refine zQ ?_) | ((with_reducible refine zF ?_ ?_); (· exact rfl))))
 refine zq (ι := Nat) [0, 1] rfl (fun i => i ≤ a.length) (fun i => [(5, .int .i64 (i : Int))]) (fun _ => []) (fun i => a.length - i) 0 (Nat.zero_le _) (by (first | exact lK1 | (repeat (first | exact lK1 | (refine zK rfl ?_))))) (by (repeat (first | exact oK1 _ | (refine oK2 (by (repeat (first | exact tK1 _ _ | apply tK2))) ?_)))) ?_
 rintro i hi
 simp only [zAw, List.cons_append, List.nil_append]
 by_cases hlt : i < a.length
 ·obtain ⟨s, hsi⟩ : ∃ s, a[i]? = some s := ⟨_, List.getElem?_eq_getElem hlt⟩
  obtain ⟨u, hui⟩ : ∃ u, m[i]? = some u := ⟨_, List.getElem?_eq_getElem (by omega)⟩
  have hxs : s.xs = u.xs := by
   have := zKR hab i
   rwa [zAv hsi, zAv hui] at this
  have r1 := ha.rows s (List.mem_of_getElem? hsi)
  have r2 := hb.rows u (List.mem_of_getElem? hui)
  have r3 := hrl u (List.mem_of_getElem? hui)
  obtain ⟨b1, o1, rfl, hb1, hc1⟩ := hap.at_ hlt
  obtain ⟨b2, o2, rfl, hb2, hc2⟩ := hbp.at_ (show i < m.length by omega)
  have : InS w b1 o1 zBN 1 a := ⟨hap⟩
  have : InS w b2 o2 zBN 1 m := ⟨hbp⟩
  obtain ⟨sA, xs, sc⟩ := s
  obtain ⟨uA, xs', uc⟩ := u
  simp only at hxs r1 r2 r3
  subst hxs
  have : zAQ a i ⟨sA, xs, sc⟩ := ⟨hsi⟩
  have : zAQ m i ⟨uA, xs, uc⟩ := ⟨hui⟩
  (repeat' (first | ((with_reducible refine zG ?_); first | refine zE rfl rfl rfl rfl rfl ?_ | (refine zR rfl rfl rfl rfl rfl rfl rfl (fun h => ?_) (fun h => ?_) <;> (dsimp only [cmpP] at h; (try (exfalso; omega)))) | refine zr rfl rfl rfl rfl rfl ?_) | (with_reducible first | refine zH ?_ | refine zB ?_ | refine zD ?_ | refine zA ?_ | refine zU ?_ | refine zQ ?_) | ((with_reducible refine zI ?_ ?_); (· exact rfl))))
  (refine zBv (by kernel_rfl) (by kernel_rfl) (by kernel_rfl) ?_)
  (repeat' (first | ((with_reducible refine zCb ?_); first | refine zl (zAm rfl rfl) rfl rfl rfl ?_ | refine zl (zAH rfl rfl (by exact rfl)) rfl rfl rfl ?_ | refine zl (zAt (I := i) rfl rfl rfl (by omega) (by first | omega | (dsimp only; omega))) rfl rfl rfl ?_ | refine zFH rfl rfl rfl rfl rfl rfl (fun _ _ q => hS xs _ _ _ _ _ (r1.below q.below) (r2.below q.below) r3) ?_ | refine zl (e_not rfl rfl) rfl rfl rfl ?_) | (with_reducible refine zDj ?_)))
  (repeat' (first | ((with_reducible refine zG ?_); first | refine zE rfl rfl rfl rfl rfl ?_ | refine zC rfl rfl rfl rfl rfl ?_ | refine zg rfl rfl rfl rfl rfl rfl (by omega) ?_) | (with_reducible first | refine zB ?_ | refine zD ?_ | refine zA ?_ | refine zU ?_ | refine zi ?_) | ((with_reducible refine zF ?_ ?_); (· exact rfl))))
  exact ze (i + 1) (by omega) (by omega) (by (first | exact lK1 | (repeat (first | exact lK1 | (refine zK rfl ?_))))) (by (repeat (first | exact oK1 _ | (refine oK2 (by (repeat (first | exact tK1 _ _ | apply tK2))) ?_))))
 ·obtain rfl : i = a.length := by omega
  (repeat' (first | ((with_reducible refine zG ?_); first | refine zE rfl rfl rfl rfl rfl ?_ | refine zC rfl rfl rfl rfl rfl ?_ | (refine zR rfl rfl rfl rfl rfl rfl rfl (fun h => ?_) (fun h => ?_) <;> (dsimp only [cmpP] at h; (try (exfalso; omega)))) | refine zr rfl rfl rfl rfl rfl ?_) | (with_reducible first | refine zH ?_ | refine zB ?_ | refine zD ?_ | refine zA ?_ | refine zX ?_ | refine zk ?_ | refine zT ?_ | refine zW ?_) | ((with_reducible refine zF ?_ ?_); (· exact rfl))))
  exact zV (by (exact zP.cons (by exact zf.tmp rfl) zP.nil)) () trivial rfl (fun _ _ => Own.nil _ _)
end Go.Proofs.YtdigopgncfhiaaaGreatDoor
namespace Go.Proofs.YtdigopgncfhiaaaGreatDoor
open Go.ChangeShapes Go.WideShapes Go.ChangeAt Go.RowKit
section
variable {H : Type} {enc : TypeId × Value → H} {w : World} {sp : Nat → Bool} {held : Bool} {n : Nat} {cs : List Value} {x : DataW H × List MemPlace}
theorem rd_bed (h : DataW.trod enc Tryz.prog w 0 sp held n 73 cs = some x) : ∃ s : Bed, cs = zAx s ∧ True := by
 have hl := zIF Tryz.underlying73 h (k := 3) (by kernel_rfl)
 obtain ⟨n0, y0, h0⟩ := zAg Tryz.underlying73 h (j := 0) rfl rfl (k := 2) (by kernel_rfl)
 obtain ⟨n1, y1, h1⟩ := zAg Tryz.underlying73 h (j := 1) rfl rfl (k := 1) (by kernel_rfl)
 obtain ⟨a, e0, f0⟩ := zID h0
 obtain ⟨b, e1, f1⟩ := zDu Tryz.underlying3 h1
 match cs, hl with
 | [c0, c1, c2], _ =>
  simp [zA3] at e0 e1
  exact ⟨⟨a, b⟩, by simp [zAx, e0, e1], trivial⟩
theorem rd_hour (h : DataW.trod enc Tryz.prog w 0 sp held n 67 cs = some x) : ∃ s : Hour, cs = zx s ∧ True := by
 have hl := zIF Tryz.underlying67 h (k := 5) (by kernel_rfl)
 obtain ⟨n0, y0, h0⟩ := zAg Tryz.underlying67 h (j := 0) rfl rfl (k := 2) (by kernel_rfl)
 obtain ⟨n1, y1, h1⟩ := zAg Tryz.underlying67 h (j := 1) rfl rfl (k := 1) (by kernel_rfl)
 obtain ⟨n2, y2, h2⟩ := zAg Tryz.underlying67 h (j := 2) rfl rfl (k := 1) (by kernel_rfl)
 obtain ⟨n3, y3, h3⟩ := zAg Tryz.underlying67 h (j := 3) rfl rfl (k := 1) (by kernel_rfl)
 obtain ⟨a, e0, f0⟩ := zID h0
 obtain ⟨b, e1, f1⟩ := zDu Tryz.underlying3 h1
 obtain ⟨c, e2, f2⟩ := zDu Tryz.underlying3 h2
 obtain ⟨d, e3, _⟩ := DataW.trod_bool Tryz.underlying4 h3
 match cs, hl with
 | [c0, c1, c2, c3, c4], _ =>
  simp [zA3] at e0 e1 e2 e3
  exact ⟨⟨a, b, c, d⟩, by simp [zx, e0, e1, e2, e3], trivial⟩
end
theorem gLimits : Tryz.prog.globalNamed "kreisel/ice.limits" = some 0 := by kernel_rfl
theorem tLimits : (Tryz.prog.globals[0]?).map (·.type) = some 209 := by kernel_rfl
set_option maxRecDepth 100000 in
theorem zNw {W : World} (h : laidMetH Tryz.prog [("kreisel/ice.limits", Rows.laid_kreisel_ice_limits)] W) : InC W 0 0 zCe := by
 obtain ⟨g, t, cs, fuel, p, hg, ht, hv, hd⟩ := h.funcs (List.mem_singleton.2 rfl)
 obtain rfl := Option.some.inj (gLimits.symm.trans hg)
 obtain rfl := Option.some.inj (tLimits.symm.trans ht)
 have hd' : DataW.trod (funcToken Tryz.prog) Tryz.prog W 0 (fun _ => true) true fuel 209 cs.toList = some (.agg [.agg [.held [107, 114, 101, 105, 115, 101, 108, 47, 105, 99, 101, 46, 108, 105, 109, 105, 116, 115, 36, 49], .held [107, 114, 101, 105, 115, 101, 108, 47, 105, 99, 101, 46, 108, 105, 109, 105, 116, 115, 36, 50]], .agg [.held [107, 114, 101, 105, 115, 101, 108, 47, 105, 99, 101, 46, 108, 105, 109, 105, 116, 115, 36, 51], .held [107, 114, 101, 105, 115, 101, 108, 47, 105, 99, 101, 46, 108, 105, 109, 105, 116, 115, 36, 52]]], p) := hd
 have c192 : Tryz.prog.cellsOf 208 = 2 := by kernel_rfl
 have c193 : Tryz.prog.cellsOf 209 = 4 := by kernel_rfl
 have c142 : Tryz.prog.cellsOf 206 = 1 := by kernel_rfl
 have c68 : Tryz.prog.cellsOf 104 = 1 := by kernel_rfl
 obtain ⟨xs, m, rfl, ex, hlen, hl, hel⟩ := DataW.trod_array Tryz.underlying209 hd'
 rw [c193] at hlen
 have hcell := fun j => World.var?_cell hg hv j
 obtain ⟨l⟩ := cs
 simp only at hlen hel
 match xs, hl with
 | [x0, x1], _ =>
  match l, hlen with
  | [a0, a1, a2, a3], _ =>
   have h0 := hel 0 (by omega)
   have h1 := hel 1 (by omega)
   rw [c192] at h0 h1
   simp only [Nat.zero_mul, Nat.one_mul, List.drop_zero, List.take_succ_cons, List.take_zero, List.drop_succ_cons, List.getElem?_cons_zero, List.getElem?_cons_succ] at h0 h1
   simp only [List.map_cons, List.map_nil, Prod.mk.injEq, DataW.agg.injEq, List.cons.injEq, and_true] at ex
   obtain ⟨⟨e0, e1⟩, _⟩ := ex
   obtain ⟨x0a, x0b⟩ := x0
   obtain ⟨x1a, x1b⟩ := x1
   simp only at e0 e1
   subst e0 e1
   obtain ⟨ys, n0, _, ey, _, hy, hf⟩ := DataW.trod_struct Tryz.underlying208 h0
   obtain ⟨zs, n1, _, ez, _, hz, hk⟩ := DataW.trod_struct Tryz.underlying208 h1
   match ys, hy, zs, hz with
   | [y0, y1], _, [z0, z1], _ =>
    have f0 := hf 0 _ rfl
    have f1 := hf 1 _ rfl
    have k0 := hk 0 _ rfl
    have k1 := hk 1 _ rfl
    simp only [c142, c68, List.drop_zero, List.take_succ_cons, List.take_zero, List.drop_succ_cons, List.getElem?_cons_zero, List.getElem?_cons_succ] at f0 f1 k0 k1
    simp only [List.map_cons, List.map_nil, Prod.mk.injEq, DataW.agg.injEq, List.cons.injEq, and_true] at ey ez
    obtain ⟨⟨ey0, ey1⟩, _⟩ := ey
    obtain ⟨⟨ez0, ez1⟩, _⟩ := ez
    obtain ⟨y0a, y0b⟩ := y0
    obtain ⟨y1a, y1b⟩ := y1
    obtain ⟨z0a, z0b⟩ := z0
    obtain ⟨z1a, z1b⟩ := z1
    simp only at ey0 ey1 ez0 ez1
    subst ey0 ey1 ez0 ez1
    obtain rfl := func_of_trod (f0 := 180) Tryz.underlying206 (by kernel_rfl) f0
    obtain rfl := func_of_trod (f0 := 181) Tryz.underlying104 (by kernel_rfl) f1
    obtain rfl := func_of_trod (f0 := 182) Tryz.underlying206 (by kernel_rfl) k0
    obtain rfl := func_of_trod (f0 := 183) Tryz.underlying104 (by kernel_rfl) k1
    refine ⟨fun j v hj => ?_⟩
    rw [Nat.zero_add, hcell j]
    simpa [zCe] using hj
end Go.Proofs.YtdigopgncfhiaaaGreatDoor
