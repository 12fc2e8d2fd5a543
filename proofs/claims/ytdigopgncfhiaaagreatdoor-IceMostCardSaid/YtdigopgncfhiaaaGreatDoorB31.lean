/- B31 -/
import Derived.Test.YtdigopgncfhiaaaGreatDoorB30
import Derived.Test.YtdigopgncfhiaaaGreatDoorB27
import Derived.Test.YtdigopgncfhiaaaGreatDoorB25
set_option linter.unusedSimpArgs false
set_option linter.unusedVariables false
namespace Go.Proofs.YtdigopgncfhiaaaGreatDoor
open Go.RowKit
set_option maxRecDepth 20000
theorem errI_of {c : Cov} (hv : valid c.t = true) (h : zDY c) : zAl c = 0 := by
 have : zDO c = true := zCB.2 ⟨h.beds, h.hours, List.all_eq_true.2 fun z hz => h.bed z hz, List.all_eq_true.2 fun z hz => h.hour z hz, h.wear, h.layer, h.rate, h.limit, h.base⟩
 unfold zAl
 rw [if_pos hv, if_pos this]
theorem errI_val {c : Cov} (h : zAl c = 0) : valid c.t = true := by
 cases hv : valid c.t with
 | true => rfl
 | false => unfold zAl at h; rw [hv] at h; simp at h
theorem zMt {c : Cov} {pl : List Sli} (h : zAl c = 0) (hp : zBY c pl = true) : zB2 c pl = 0 := by unfold zB2; rw [if_pos h, hp]; rfl
theorem zKg {c : Cov} {pl : List Sli} {k : Nat} {n : Int} (hk : k < c.hours.length) (h : zBY c pl = true) : zBY (zAO c k n) pl = true := by
 obtain ⟨h1, h2⟩ := zBR.1 h
 refine zBR.2 ⟨by rw [zBL]; exact h1, fun i u s hu hs => ?_⟩
 have hi := (List.getElem?_eq_some_iff.1 hu).1
 rw [zBL] at hi
 have h3 := h2 i (c.hours[i]) s (List.getElem?_eq_getElem hi) hs
 by_cases e : k = i
 ·subst e
  have e2 : u = zFa n c.hours[k] := by
   have : (zAO c k n).hours[k]? = some (zFa n (c.hours.getD k default)) := List.getElem?_set_self hk
   rw [this] at hu
   rw [← Option.some.inj hu, zA0 (List.getElem?_eq_getElem hk)]
  rw [e2]; exact h3
 ·have : (zAO c k n).hours[i]? = c.hours[i]? := List.getElem?_set_ne e
  rw [this, List.getElem?_eq_getElem hi] at hu
  cases hu; exact h3
theorem zJZ {c : Cov} {pl : List Sli} {J : Nat} : ∀ {m : Nat} {n : Nat}, bestN c pl J m = (n : Int) → zDW c pl J n = true ∧ n < m ∧ ∀ j, n < j → j < m → zDW c pl J j = false
 | 0, n, h => by simp only [bestN] at h; omega
 | m + 1, n, h => by
  simp only [bestN] at h
  split at h
  ·rename_i hb
   obtain rfl : m = n := by omega
   exact ⟨hb, by omega, fun j h1 h2 => by omega⟩
  ·rename_i hb
   obtain ⟨h1, h2, h3⟩ := zJZ h
   refine ⟨h1, by omega, fun j h4 h5 => ?_⟩
   by_cases e : j = m
   ·subst e; simpa using hb
   ·exact h3 j h4 (by omega)
theorem zIX {c : Cov} {pl : List Sli} {J : Nat} : ∀ {m : Nat}, bestN c pl J m < 0 → ∀ j, j < m → zDW c pl J j = false
 | 0, _, j, hj => by omega
 | m + 1, h, j, hj => by
  simp only [bestN] at h
  split at h
  ·omega
  ·rename_i hb
   by_cases e : j = m
   ·subst e; simpa using hb
   ·exact zIX h j (by omega)
set_option maxHeartbeats 4000000 in
theorem zIp (c : Cov) (A : Option Addr) (ca : Nat) (B : Option Addr) (cb : Nat) (C : Option Addr) (cc b1 b2 b3 k n : Nat) (xss : List (List Int)) (P : Option Addr) (cp : Nat) (w : World) (h1 : InC w b1 0 (zM c A ca B cb C cc)) (h2 : InC w b2 0 [.int .i64 (k : Int)]) (h3 : InC w b3 0 [.slice P xss.length cp]) (hG : InC w 0 0 zCT) (hc : zAd w c A B C) (hs : Small c) (h0 : zAl c = 0) (hp : ∃ pl : List Sli, pl.map Sli.xs = (zBQ xss).map Sli.xs ∧ zBB w P pl) (hl : xss.length ≤ 12) (hr : ∀ r ∈ xss, r.length ≤ 20) (hpl : zBY c (zBQ xss) = true) (hk : k < c.hours.length) (hn : n ≤ 60) :
  Gv Tryz.prog 38 [.int .i64 (n : Int), .pointer (some ⟨b1, 0, none⟩), .pointer (some ⟨b2, 0, none⟩), .pointer (some ⟨b3, 0, none⟩)] w (.bool (!zDW c (zBQ xss) k n)) := by
 have h4 := hs.b; have h5 := hs.h; have h6 := hs.t
 have hf := zBw h0
 have hT := fun W (hW : Below w.heap.size w W) => Two.zNF c A ca B cb C cc W (hc.below hW) (by omega) (by omega) (by omega)
 have hf2 := zFY (c := c) (J := k) (n := (n : Int)) hk (by omega) (by omega) hf
 have he := zMt (errI_of (c := zAO c k n) (show valid (zAO c k n).t = true from errI_val (c := c) h0) hf2) (zKg (n := (n : Int)) hk hpl)
 have hTh := fun W A3 m3 A6 m6 gh m9 (hC : zAd W (zAO c k n) A3 A6 (some ⟨gh, 0, none⟩)) hp (hG : InC W 0 0 zCT) => iThinP (zAO c k n) A3 m3 A6 m6 (some ⟨gh, 0, none⟩) m9 xss P cp W hC (zEh hs) hp hl hr hG
 have hth : zEk (zAO c k n) (zBQ xss) = zCC (zAO c k n) (zBQ xss) zCG := by unfold zEk; rw [if_pos he]
 rw [hth, he] at hTh
 have hp2 := fun W (hW : Below w.heap.size w W) => show ∃ pl : List Sli, pl.map Sli.xs = (zBQ xss).map Sli.xs ∧ zBB W P pl from by obtain ⟨pl, e, h⟩ := hp; exact ⟨pl, e, h.below hW⟩
 unfold zDW
 have hll := zIx (c := zAO c k n) (pl := zBQ xss) (en := zCG) (by exact h4) (by rw [zBL]; exact h5)
 generalize zCC (zAO c k n) (zBQ xss) zCG = th at *
 obtain ⟨u, hu⟩ : ∃ u, c.hours[k]? = some u := ⟨_, List.getElem?_eq_getElem hk⟩
 have : zAT c.hours k u := ⟨hu⟩
 have hset : (zAO c k n).hours = c.hours.set k (zFa n u) := by simp only [zAO, zA0 hu]
 rw [Bool.not_not]
 simp only [zAL] at hT hTh
 unfold zM at h1 hT hTh
 rw [zBL] at hTh
 unfold Gv
 (refine zI (n := 38) Tryz.func38 rfl rfl rfl ?_)
 (repeat' (first | ((with_reducible refine zF ?_); first | refine zE rfl rfl rfl rfl rfl ?_ | refine zC rfl rfl rfl rfl rfl ?_ | (refine zK rfl rfl rfl rfl rfl ?_; refine ⟨_, rfl, ?_⟩) | refine zc rfl rfl rfl rfl rfl ?_ | (refine zAP rfl rfl rfl rfl rfl rfl (fun _ _ q => hT _ q.below) ?_; rintro ⟨⟨A3, m3⟩, ⟨A6, m6⟩, A9, m9⟩ -; dsimp only [List.cons_append, List.nil_append]) | (refine zf rfl rfl rfl rfl rfl ?_; refine And.intro rfl (And.intro (by first | decide | exact Nat.le_of_ble_eq_true rfl | (simp; omega)) ⟨_, rfl, ?_⟩)) | (refine zn rfl rfl rfl rfl (fun b => ?_))) | (with_reducible first | refine zH ?_ | refine zB ?_ | refine zD ?_ | refine zA ?_)))
 refine zGd (enc := zy) (xs := c.hours) (by (repeat (first | exact tK1 _ _ | apply tK2))) (by omega) ?_
 rintro gh rfl
 (repeat' (first | ((with_reducible refine zF ?_); first | refine zE rfl rfl rfl rfl rfl ?_ | refine zC rfl rfl rfl rfl rfl ?_ | (refine zK rfl rfl rfl rfl rfl ?_; refine ⟨_, rfl, ?_⟩) | refine zc rfl rfl rfl rfl rfl ?_ | refine zd (I := k) rfl rfl rfl rfl rfl rfl rfl (by omega) ?_ | refine zF3 (enc := zy) (k := 5) (i := k) (j := 2) (z := u) (zFa n u) rfl rfl rfl rfl rfl rfl rfl rfl (by decide) ?_ | (refine zAP rfl rfl rfl rfl rfl rfl (fun _ _ q => hTh _ _ _ _ _ _ _ ⟨(zBG q.own (Below.refl _ _)), zDH q.own (by (repeat (first | exact tK1 _ _ | apply tK2))), by rw [hset]; exact arr_at (q.own.here (.arr zy 5 gh (c.hours.set k (zFa n u))) (Take.mem (by (repeat (first | exact tK1 _ _ | apply tK2)))))⟩ (hp2 _ q.below) (hG.below q.below)) ?_; rintro ⟨T1, tc1⟩ -; dsimp only [List.cons_append, List.nil_append]) | refine zi rfl rfl rfl rfl rfl rfl ?_ | refine zq rfl rfl rfl rfl rfl ?_) | (with_reducible first | refine zH ?_ | refine zB ?_ | refine zD ?_ | refine zA ?_ | refine zQ ?_)))
 refine zu (ι := Nat) [2, 8, 25, 26] rfl (fun i => i ≤ th.length ∧ ∀ j p, j < i → th[j]? = some p → p.1 ≠ (k : Int)) (fun i => [(27, .int .i64 (i : Int))]) (fun _ => [.sl zAR 2 T1 th]) (fun i => th.length - i) 0 ⟨Nat.zero_le _, fun j p h => absurd h (by omega)⟩ (by (first | exact lK1 | (repeat (first | exact lK1 | (refine zL rfl ?_))))) (by (repeat (first | exact oK1 _ | (refine oK2 (by (repeat (first | exact tK1 _ _ | apply tK2))) ?_)))) ?_
 rintro i ⟨hi, hal⟩
 simp only [zAx, List.cons_append, List.nil_append]
 by_cases hil : i < th.length
 ·obtain ⟨p, hp9⟩ : ∃ p, th[i]? = some p := ⟨_, List.getElem?_eq_getElem hil⟩
  refine u_slS (enc := zAR) (A := T1) (by (repeat (first | exact tK1 _ _ | apply tK2))) (by omega) ?_
  rintro b9 o9 rfl
  have : zAT th i p := ⟨hp9⟩
  obtain ⟨p1, p2⟩ := p
  (repeat' (first | ((with_reducible refine zF ?_); first | refine zE rfl rfl rfl rfl rfl ?_ | refine zC rfl rfl rfl rfl rfl ?_ | (refine zK rfl rfl rfl rfl rfl ?_; refine ⟨_, rfl, ?_⟩) | (refine zT rfl rfl rfl rfl rfl rfl rfl (fun h => ?_) (fun h => ?_) <;> (dsimp only [cmpP] at h; (try (exfalso; omega)))) | refine zj rfl rfl rfl rfl rfl rfl (by omega) ?_ | refine zd rfl rfl rfl rfl rfl rfl rfl (by omega) ?_ | refine zBP rfl rfl rfl rfl rfl rfl rfl (by first | decide | omega) ?_ | (refine zf rfl rfl rfl rfl rfl ?_; refine And.intro rfl (And.intro (by first | decide | exact Nat.le_of_ble_eq_true rfl | (simp; omega)) ⟨_, rfl, ?_⟩)) | (refine zn rfl rfl rfl rfl (fun b => ?_))) | (with_reducible first | refine zH ?_ | refine zB ?_ | refine zD ?_ | refine zA ?_ | refine zX ?_ | refine zU ?_ | refine zZ ?_ | refine zQ ?_ | refine zk ?_ | refine zAi ?_) | ((with_reducible refine zJ ?_ ?_); (· exact rfl)) | ((with_reducible refine zG ?_ ?_); (· exact rfl))))
  ·exact zS (by (exact zN.cons (by exact zg.tmp rfl) zN.nil)) () trivial (by
    have : (th.any fun q => decide (q.1 = (k : Int))) = true := List.any_eq_true.2 ⟨(p1, p2), List.mem_of_getElem? hp9, by simpa using h⟩
    rw [this]; rfl) (fun _ h => h.sub (by (repeat (first | exact oK1 _ | (refine oK2 (by (repeat (first | exact tK1 _ _ | apply tK2))) ?_)))))
  ·have hne : p1 ≠ (k : Int) := h
   exact ze (ι := Nat) (i + 1) (by exact ⟨by omega, fun j q hj hq => by
    by_cases e : j = i
    ·subst e; rw [hp9] at hq; cases hq; exact hne
    ·exact hal j q (by omega) hq⟩) (by omega) (by (first | exact lK1 | (repeat (first | exact lK1 | (refine zL rfl ?_))))) (by (repeat (first | exact oK1 _ | (refine oK2 (by (repeat (first | exact tK1 _ _ | apply tK2))) ?_))))
 ·obtain rfl : i = th.length := by omega
  have e : (th.any fun q => decide (q.1 = (k : Int))) = false := by
   rw [List.any_eq_false]
   intro q hq
   obtain ⟨j, hj⟩ := List.getElem?_of_mem hq
   have := hal j q (List.getElem?_eq_some_iff.1 hj).1 hj
   simpa using this
  rw [e]
  (repeat' (first | ((with_reducible refine zF ?_); first | refine zE rfl rfl rfl rfl rfl ?_ | refine zC rfl rfl rfl rfl rfl ?_ | (refine zT rfl rfl rfl rfl rfl rfl rfl (fun h => ?_) (fun h => ?_) <;> (dsimp only [cmpP] at h; (try (exfalso; omega))))) | (with_reducible first | refine zH ?_ | refine zB ?_ | refine zD ?_ | refine zA ?_ | refine zX ?_ | refine zl ?_ | refine zV ?_ | refine zY ?_) | ((with_reducible refine zG ?_ ?_); (· exact rfl))))
  exact zS (by (exact zN.cons (by exact zg.tmp rfl) zN.nil)) () trivial rfl (fun _ _ => Own.nil _ _)
set_option maxHeartbeats 4000000 in
theorem zK7 (c : Cov) (A : Option Addr) (ca : Nat) (B : Option Addr) (cb : Nat) (C : Option Addr) (cc : Nat) (ch : List Int) (D : Option Addr) (cd : Nat) (a : Int) (w : World) (hc : zAd w c A B C) (hfit : zGY c.t) (hD : zt encU 1 w D ch) (hfu : FitW ch) (ha : 0 ≤ a ∧ a ≤ 255) (hG : InC w 0 0 zCT) :
  Gv Tryz.prog 9 [zAL c A ca B cb C cc, .slice D ch.length cd, .int .u8 a] w (.bool true) := by
 have hAl := fun W (hW : Below w.heap.size w W) => zMD W (hG.below hW)
 have hR := fun W (hW : Below w.heap.size w W) => zL1 c A ca B cb C cc W (hc.below hW) hfit
 cases hr : zGo c
 ·rw [hr] at hR
  unfold zAL zM at hR ⊢
  unfold Gv
  (refine zI (n := 73) Tryz.func9 rfl rfl rfl ?_)
  (repeat' (first | ((with_reducible refine zF ?_); first | refine zE rfl rfl rfl rfl rfl ?_ | refine zC rfl rfl rfl rfl rfl ?_ | (refine zK rfl rfl rfl rfl rfl ?_; refine ⟨_, rfl, ?_⟩) | refine zW rfl rfl rfl rfl rfl rfl (fun _ _ q => hAl _ q.below) ?_ | refine zW rfl rfl rfl rfl rfl rfl (fun _ _ q => hR _ q.below) ?_ | refine zAb rfl rfl rfl rfl rfl ?_ | (refine zAB rfl rfl rfl rfl rfl rfl (fun b => ?_))) | (with_reducible first | refine zH ?_ | refine zB ?_ | refine zD ?_ | refine zA ?_ | refine zX ?_ | refine zU ?_ | refine zZ ?_) | ((with_reducible refine zJ ?_ ?_); (· exact rfl)) | ((with_reducible refine zG ?_ ?_); (· exact rfl))))
  all_goals exact zS (by (exact zN.cons (by exact zg.tmp rfl) zN.nil)) () trivial rfl (fun _ _ => Own.nil _ _)
 ·rw [hr] at hR
  have hs := zJs hr hfit
  have h0 := (zHz.1 hr).2
  have hf := zBw h0
  have h4 := hs.b; have h5 := hs.h
  have hh1 := hf.hours
  rw [zAF] at hh1
  have hpl := drawn_ok (ch := ch) (f := 0) hf
  have hDr := fun W (hW : Below w.heap.size w W) => zL7 c A ca B cb C cc ch D cd 0 W (hc.below hW) hs (hD.below hW) hfu (by omega)
  have hl : (zCL c ch 0).length = c.hours.length := zBe
  have hrow : ∀ r ∈ zCL c ch 0, r.length ≤ 20 := fun r hr => Nat.le_trans (zMN r hr) h4
  have hk0 := zMt h0 hpl
  generalize zCL c ch 0 = xss at *
  obtain ⟨k, hk⟩ : ∃ k : Nat, a % (c.hours.length : Int) = (k : Int) := ⟨(a % (c.hours.length : Int)).toNat, by have := Int.emod_nonneg a (b := (c.hours.length : Int)) (by omega); omega⟩
  have hkl : k < c.hours.length := by have := Int.emod_lt_of_pos a (b := (c.hours.length : Int)) (by omega); omega
  have hM := fun W (hW : Below w.heap.size w W) P cp hp => iMostP c A ca B cb C cc xss P cp W (hc.below hW) hs hp (by omega) hrow (k : Int) (hG.below hW)
  have hmT : zEu c (zBQ xss) (k : Int) = if bestN c (zBQ xss) k 61 < 0 then (0, 6) else (bestN c (zBQ xss) k 61, 0) := by
   unfold zEu
   rw [if_pos hk0, if_pos (by rw [zAF]; omega)]; rfl
  have hb9 := zLT (c := c) (pl := zBQ xss) (J := k) 61
  have hTm := fun W (hW : Below w.heap.size w W) b1 b2 b3 P cp n h1 h2 h3 hp hn => zIp c A ca B cb C cc b1 b2 b3 k n xss P cp W h1 h2 h3 (hG.below hW) (hc.below hW) hs h0 hp (by omega) hrow hpl hkl hn
  have hbn := zIX (c := c) (pl := zBQ xss) (J := k) (m := 61)
  have hby := fun n => zJZ (c := c) (pl := zBQ xss) (J := k) (m := 61) (n := n)
  rw [hmT] at hM
  rw [hl] at hM hTm
  generalize bestN c (zBQ xss) k 61 = bn at *
  unfold zAL at hR hDr hM
  unfold zM at hR hDr hM hTm
  unfold Gv zAL zM
  by_cases hneg : bn < 0
  ·rw [if_pos hneg] at hM
   have hq := hbn hneg 0 (by omega)
   have hT0 := fun W hW b1 b2 b3 P cp h1 h2 h3 hp => hTm W hW b1 b2 b3 P cp 0 h1 h2 h3 hp (by omega)
   rw [hq] at hT0
   simp only [Int.natCast_zero] at hT0
   (refine zI (n := 73) Tryz.func9 rfl rfl rfl ?_)
   (repeat' (first | ((with_reducible refine zF ?_); first | refine zE rfl rfl rfl rfl rfl ?_ | refine zC rfl rfl rfl rfl rfl ?_ | (refine zK rfl rfl rfl rfl rfl ?_; refine ⟨_, rfl, ?_⟩) | refine zc rfl rfl rfl rfl rfl ?_ | refine zW rfl rfl rfl rfl rfl rfl (fun _ _ q => hAl _ q.below) ?_ | refine zW rfl rfl rfl rfl rfl rfl (fun _ _ q => hR _ q.below) ?_ | (refine zAP rfl rfl rfl rfl rfl rfl (fun _ _ q => hDr _ q.below) ?_; rintro ⟨pg, pn, P, cp⟩ -; dsimp only [List.cons_append, List.nil_append]) | refine zAb rfl rfl rfl rfl rfl ?_ | refine zq rfl rfl rfl rfl rfl ?_ | (refine zf rfl rfl rfl rfl rfl ?_; refine And.intro rfl (And.intro (by first | decide | exact Nat.le_of_ble_eq_true rfl | (simp; omega)) ⟨_, rfl, ?_⟩)) | (refine zn rfl rfl rfl rfl (fun b => ?_)) | (refine zAB rfl rfl rfl rfl rfl rfl (fun b => ?_)) | refine zE6 rfl rfl rfl rfl rfl (IntWalk.i64_in _ (by omega)) ?_ | refine u_rem rfl rfl rfl rfl rfl rfl (by omega) (by omega) ?_) | (with_reducible first | refine zH ?_ | refine zB ?_ | refine zD ?_ | refine zA ?_ | refine zU ?_) | ((with_reducible refine zG ?_ ?_); (· exact rfl))))
   rw [hk]
   (repeat' (first | ((with_reducible refine zF ?_); first | refine zE rfl rfl rfl rfl rfl ?_ | refine zC rfl rfl rfl rfl rfl ?_ | refine zAm rfl rfl rfl rfl rfl rfl ?_ | (refine zT rfl rfl rfl rfl rfl rfl rfl (fun h => ?_) (fun h => ?_) <;> (dsimp only [cmpP] at h; (try (exfalso; omega)))) | refine zW rfl rfl rfl rfl rfl rfl (fun _ _ q => hM _ q.below _ _ (zBj q.own (by (repeat (first | exact tK1 _ _ | apply tK2))))) ?_ | refine zW rfl rfl rfl rfl rfl rfl (fun _ _ q => hT0 _ q.below _ _ _ _ _ (zAI q.own (Below.refl _ _) rfl) (zAI q.own (Below.refl _ _) rfl) (zAI q.own (Below.refl _ _) rfl) (zBj q.own (by (repeat (first | exact tK1 _ _ | apply tK2))))) ?_ | refine zi rfl rfl rfl rfl rfl rfl ?_ | refine zBO rfl rfl rfl rfl rfl rfl ?_) | (with_reducible first | refine zH ?_ | refine zB ?_ | refine zD ?_ | refine zA ?_ | refine zX ?_ | refine zZ ?_) | ((with_reducible refine zJ ?_ ?_); (· exact rfl))))
   all_goals exact zS (by (exact zN.cons (by exact zg.tmp rfl) zN.nil)) () trivial rfl (fun _ _ => Own.nil _ _)
  ·rw [if_neg hneg] at hM
   obtain ⟨n, rfl⟩ : ∃ n : Nat, bn = (n : Int) := ⟨bn.toNat, by omega⟩
   obtain ⟨q1, q2, q3⟩ := hby n rfl
   have hT0 := fun W hW b1 b2 b3 P cp h1 h2 h3 hp => hTm W hW b1 b2 b3 P cp n h1 h2 h3 hp (by omega)
   rw [q1] at hT0
   by_cases h60 : n = 60
   ·subst h60
    (refine zI (n := 73) Tryz.func9 rfl rfl rfl ?_)
    (repeat' (first | ((with_reducible refine zF ?_); first | refine zE rfl rfl rfl rfl rfl ?_ | refine zC rfl rfl rfl rfl rfl ?_ | (refine zK rfl rfl rfl rfl rfl ?_; refine ⟨_, rfl, ?_⟩) | refine zc rfl rfl rfl rfl rfl ?_ | refine zW rfl rfl rfl rfl rfl rfl (fun _ _ q => hAl _ q.below) ?_ | refine zW rfl rfl rfl rfl rfl rfl (fun _ _ q => hR _ q.below) ?_ | (refine zAP rfl rfl rfl rfl rfl rfl (fun _ _ q => hDr _ q.below) ?_; rintro ⟨pg, pn, P, cp⟩ -; dsimp only [List.cons_append, List.nil_append]) | refine zAb rfl rfl rfl rfl rfl ?_ | refine zq rfl rfl rfl rfl rfl ?_ | (refine zf rfl rfl rfl rfl rfl ?_; refine And.intro rfl (And.intro (by first | decide | exact Nat.le_of_ble_eq_true rfl | (simp; omega)) ⟨_, rfl, ?_⟩)) | (refine zn rfl rfl rfl rfl (fun b => ?_)) | (refine zAB rfl rfl rfl rfl rfl rfl (fun b => ?_)) | refine zE6 rfl rfl rfl rfl rfl (IntWalk.i64_in _ (by omega)) ?_ | refine u_rem rfl rfl rfl rfl rfl rfl (by omega) (by omega) ?_) | (with_reducible first | refine zH ?_ | refine zB ?_ | refine zD ?_ | refine zA ?_ | refine zU ?_) | ((with_reducible refine zG ?_ ?_); (· exact rfl))))
    rw [hk]
    (repeat' (first | ((with_reducible refine zF ?_); first | refine zE rfl rfl rfl rfl rfl ?_ | refine zC rfl rfl rfl rfl rfl ?_ | refine zAm rfl rfl rfl rfl rfl rfl ?_ | refine zAA rfl rfl rfl ?_ | (refine zT rfl rfl rfl rfl rfl rfl rfl (fun h => ?_) (fun h => ?_) <;> (dsimp only [cmpP] at h; (try (exfalso; omega)))) | refine zW rfl rfl rfl rfl rfl rfl (fun _ _ q => hM _ q.below _ _ (zBj q.own (by (repeat (first | exact tK1 _ _ | apply tK2))))) ?_ | refine zW rfl rfl rfl rfl rfl rfl (fun _ _ q => hT0 _ q.below _ _ _ _ _ (zAI q.own (Below.refl _ _) rfl) (zAI q.own (Below.refl _ _) rfl) (zAI q.own (Below.refl _ _) rfl) (zBj q.own (by (repeat (first | exact tK1 _ _ | apply tK2))))) ?_ | refine zi rfl rfl rfl rfl rfl rfl ?_ | refine zAb rfl rfl rfl rfl rfl ?_ | refine zBO rfl rfl rfl rfl rfl rfl ?_) | (with_reducible first | refine zH ?_ | refine zB ?_ | refine zD ?_ | refine zA ?_ | refine zX ?_ | refine zU ?_) | ((with_reducible refine zG ?_ ?_); (· exact rfl))))
    all_goals exact zS (by (exact zN.cons (by exact zg.tmp rfl) zN.nil)) () trivial rfl (fun _ _ => Own.nil _ _)
   ·have q4 := q3 (n + 1) (by omega) (by omega)
    have hT1 := fun W hW b1 b2 b3 P cp h1 h2 h3 hp => hTm W hW b1 b2 b3 P cp (n + 1) h1 h2 h3 hp (by omega)
    rw [q4] at hT1
    (refine zI (n := 73) Tryz.func9 rfl rfl rfl ?_)
    (repeat' (first | ((with_reducible refine zF ?_); first | refine zE rfl rfl rfl rfl rfl ?_ | refine zC rfl rfl rfl rfl rfl ?_ | (refine zK rfl rfl rfl rfl rfl ?_; refine ⟨_, rfl, ?_⟩) | refine zc rfl rfl rfl rfl rfl ?_ | refine zW rfl rfl rfl rfl rfl rfl (fun _ _ q => hAl _ q.below) ?_ | refine zW rfl rfl rfl rfl rfl rfl (fun _ _ q => hR _ q.below) ?_ | (refine zAP rfl rfl rfl rfl rfl rfl (fun _ _ q => hDr _ q.below) ?_; rintro ⟨pg, pn, P, cp⟩ -; dsimp only [List.cons_append, List.nil_append]) | refine zAb rfl rfl rfl rfl rfl ?_ | refine zq rfl rfl rfl rfl rfl ?_ | (refine zf rfl rfl rfl rfl rfl ?_; refine And.intro rfl (And.intro (by first | decide | exact Nat.le_of_ble_eq_true rfl | (simp; omega)) ⟨_, rfl, ?_⟩)) | (refine zn rfl rfl rfl rfl (fun b => ?_)) | (refine zAB rfl rfl rfl rfl rfl rfl (fun b => ?_)) | refine zE6 rfl rfl rfl rfl rfl (IntWalk.i64_in _ (by omega)) ?_ | refine u_rem rfl rfl rfl rfl rfl rfl (by omega) (by omega) ?_) | (with_reducible first | refine zH ?_ | refine zB ?_ | refine zD ?_ | refine zA ?_ | refine zU ?_) | ((with_reducible refine zG ?_ ?_); (· exact rfl))))
    rw [hk]
    (repeat' (first | ((with_reducible refine zF ?_); first | refine zE rfl rfl rfl rfl rfl ?_ | refine zC rfl rfl rfl rfl rfl ?_ | refine zAm rfl rfl rfl rfl rfl rfl ?_ | (refine zT rfl rfl rfl rfl rfl rfl rfl (fun h => ?_) (fun h => ?_) <;> (dsimp only [cmpP] at h; (try (exfalso; omega)))) | refine zW rfl rfl rfl rfl rfl rfl (fun _ _ q => hM _ q.below _ _ (zBj q.own (by (repeat (first | exact tK1 _ _ | apply tK2))))) ?_ | refine zW rfl rfl rfl rfl rfl rfl (fun _ _ q => hT0 _ q.below _ _ _ _ _ (zAI q.own (Below.refl _ _) rfl) (zAI q.own (Below.refl _ _) rfl) (zAI q.own (Below.refl _ _) rfl) (zBj q.own (by (repeat (first | exact tK1 _ _ | apply tK2))))) ?_ | refine zW rfl rfl rfl rfl rfl rfl (fun _ _ q => hT1 _ q.below _ _ _ _ _ (zAI q.own (Below.refl _ _) rfl) (zAI q.own (Below.refl _ _) rfl) (zAI q.own (Below.refl _ _) rfl) (zBj q.own (by (repeat (first | exact tK1 _ _ | apply tK2))))) ?_ | refine zi rfl rfl rfl rfl rfl rfl ?_ | refine zAb rfl rfl rfl rfl rfl ?_ | refine zj rfl rfl rfl rfl rfl rfl (by omega) ?_ | refine zBO rfl rfl rfl rfl rfl rfl ?_) | (with_reducible first | refine zH ?_ | refine zB ?_ | refine zD ?_ | refine zA ?_ | refine zX ?_ | refine zU ?_) | ((with_reducible refine zG ?_ ?_); (· exact rfl))))
    all_goals exact zS (by (exact zN.cons (by exact zg.tmp rfl) zN.nil)) () trivial rfl (fun _ _ => Own.nil _ _)
end Go.Proofs.YtdigopgncfhiaaaGreatDoor
