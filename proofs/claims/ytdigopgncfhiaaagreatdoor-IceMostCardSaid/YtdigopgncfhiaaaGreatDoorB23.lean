/- B23 -/
import Derived.Test.YtdigopgncfhiaaaGreatDoorB22
import Derived.Test.YtdigopgncfhiaaaGreatDoorB7
import Derived.Test.YtdigopgncfhiaaaGreatDoorB1
set_option linter.unusedSimpArgs false
set_option linter.unusedVariables false
namespace Go.Proofs.YtdigopgncfhiaaaGreatDoor.Two
open Go.RowKit
set_option maxRecDepth 20000
set_option maxHeartbeats 8000000 in
theorem zNh (c : Cov) (A : Option Addr) (ca : Nat) (B : Option Addr) (cb : Nat) (C : Option Addr) (cc : Nat) (w : World) (h : zAd w c A B C) (hs : Small c) (hG : InC w 0 0 zCT) (h0 : zAl c = 0) (hcan : zG2 (zBo c) (zFt c) (zBT c) = true) :
  Ret Tryz.prog 25 [zAL c A ca B cb C cc] w (fun p : Nat × List (zr Int) => .tuple #[.slice (some ⟨p.1, 0, none⟩) c.hours.length c.hours.length, .int .i64 0]) (fun p => [.zAw zm (rowOf encI 1 3) p.1 p.2]) (fun p => p.2.map (·.xs) = (zDe c).1) := by
 have h4 := hs.b; have h5 := hs.h
 have hb := h.b; have hh := h.h
 have hf := zBw h0
 have hh1 := hf.hours
 rw [zAF] at hh1
 have h1 := fun W (hb : Below w.heap.size w W) => zDM c A ca B cb C cc W (h.below hb) hs h0
 have h2 := fun W (hb : Below w.heap.size w W) g (hr : InC W g 0 (zM c A ca B cb C cc)) => Two.zEw c A ca B cb C cc g W hr (hG.below hb) (h.below hb) hs hf
 have hP : (zDe c).1 = (zCk c.beds.length c.hours.length (zBM c)).out := by unfold zDe; rw [if_pos h0, if_pos hcan]
 have hcr : ∀ u ∈ c.hours, 0 ≤ u.crew ∧ u.crew ≤ 1000 := fun u hu => by
  have h9 := hf.hour u hu
  unfold zCK at h9
  simp only [Bool.and_eq_true, zAF] at h9
  omega
 have ok0 := zE9 hf hs hcr
 have hbl : 0 < c.beds.length := by
  have hv : valid c.t = true := by
   cases hv : valid c.t with
   | true => rfl
   | false => unfold zAl at h0; rw [hv] at h0; simp at h0
  have := (zDu hv).1
  have := hf.beds
  omega
 rw [hP]
 unfold zAL at h1 ⊢
 unfold zM at h1 h2 ⊢
 (refine zI (n := 140) Tryz.func25 rfl rfl rfl ?_)
 (repeat' (first | ((with_reducible refine zF ?_); first | refine zE rfl rfl rfl rfl rfl ?_ | refine zC rfl rfl rfl rfl rfl ?_ | (refine zK rfl rfl rfl rfl rfl ?_; refine ⟨_, rfl, ?_⟩) | (refine zT rfl rfl rfl rfl rfl rfl rfl (fun h => ?_) (fun h => ?_) <;> (dsimp only [cmpP] at h; (try (exfalso; omega)))) | (refine zAP rfl rfl rfl rfl rfl rfl (fun _ _ q => h1 _ q.below) ?_; rintro g -; dsimp only [List.cons_append, List.nil_append]) | (refine zAP rfl rfl rfl rfl rfl rfl (fun _ _ q => h2 _ q.below g (zAI q.own (Below.refl _ _) rfl)) ?_; rintro ⟨⟨gn, L⟩, ⟨gm, M⟩, gh⟩ ⟨hL, hM⟩; dsimp only [List.cons_append, List.nil_append]) | refine zi rfl rfl rfl rfl rfl rfl ?_ | (refine zf rfl rfl rfl rfl rfl ?_; refine And.intro rfl (And.intro (by first | decide | exact Nat.le_of_ble_eq_true rfl | (simp; omega)) ⟨_, rfl, ?_⟩)) | (refine zn rfl rfl rfl rfl (fun b => ?_)) | (refine zAB rfl rfl rfl rfl rfl rfl (fun b => ?_))) | (with_reducible first | refine zH ?_ | refine zB ?_ | refine zD ?_ | refine zA ?_ | refine zU ?_) | ((with_reducible refine zG ?_ ?_); (· exact rfl))))
 simp only at hL hM
 have hca := fun (W : World) (a1 : zCc encI 1 W (some ⟨gn, 0, none⟩) L) (a2 : zCc zAr 1 W (some ⟨gm, 0, none⟩) M) (a3 : zt encI 1 W (some ⟨gh, 0, none⟩) (zBT c)) => zGw ok0 hL hM (by omega) (by omega) (by omega) hbl _ _ _ c.beds.length c.beds.length c.hours.length W a1 a2 a3
 rw [show zG2 (zBM c).nds (zBM c).may (zBM c).hands = true from hcan] at hca
 unfold zA5 at hca
 (repeat' (first | ((with_reducible refine zF ?_); first | refine zE rfl rfl rfl rfl rfl ?_ | refine zC rfl rfl rfl rfl rfl ?_ | (refine zK rfl rfl rfl rfl rfl ?_; refine ⟨_, rfl, ?_⟩) | refine zc rfl rfl rfl rfl rfl ?_ | refine zW rfl rfl rfl rfl rfl rfl (fun _ _ q => hca _ (zCZ q.own (by (repeat (first | exact tK1 _ _ | apply tK2)))) (zCZ q.own (by (repeat (first | exact tK1 _ _ | apply tK2)))) (zDH q.own (by (repeat (first | exact tK1 _ _ | apply tK2))))) ?_ | refine zJg rfl rfl rfl rfl rfl rfl rfl rfl rfl rfl rfl (by omega) (fun go => ?_) | refine zAb rfl rfl rfl rfl rfl ?_ | refine zq rfl rfl rfl rfl rfl ?_) | (with_reducible first | refine zH ?_ | refine zB ?_ | refine zD ?_ | refine zA ?_ | refine zU ?_ | refine zQ ?_) | ((with_reducible refine zG ?_ ?_); (· exact rfl))))
 rename_i b1
 obtain ⟨b6, hb6⟩ : ∃ x, x = b := ⟨_, rfl⟩
 subst hb6
 refine zHd (enc := encI) (k := 1) (e := 3) (Take.here _ _) ?_
 refine zu (ι := PM) [1, 6, 7, 32] rfl (fun q => q.k ≤ c.hours.length ∧ PMat q (zCk c.beds.length q.k (zBM c))) (fun q => [(33, .int .i64 (q.k : Int))]) (fun q => [.zAw zm (rowOf encI 1 3) gn q.nd, .zAw zm (rowOf zAr 1 4) gm q.my, .row encI 1 3 (.slice (some ⟨gh, 0, none⟩) c.hours.length c.hours.length) ((zCk c.beds.length q.k (zBM c)).hands), .zAw zm (rowOf encI 1 3) go q.ot, .blk b1 (zM c A ca B cb C cc), .blk b6 (zA5 (some ⟨gn, 0, none⟩) c.beds.length c.beds.length (some ⟨gm, 0, none⟩) c.beds.length c.beds.length (some ⟨gh, 0, none⟩) c.hours.length c.hours.length)]) (fun q => c.hours.length - q.k) ⟨0, L, M, List.replicate c.hours.length zAh⟩ ⟨Nat.zero_le _, hL, hM, by simp [zCk, zBM, zAh]⟩ (by (first | exact lK1 | (repeat (first | exact lK1 | (refine zL rfl ?_))))) (by (repeat (first | exact oK1 _ | (refine oK2 (by (repeat (first | exact tK1 _ _ | apply tK2))) ?_)))) ?_
 clear hca hL hM L M
 rintro ⟨y, L, M, O⟩ ⟨hy, hL, hM, hO⟩
 simp only at hy hL hM hO
 simp only [zAx, zM, zA5, List.cons_append, List.nil_append]
 by_cases hyl : y < c.hours.length
 ·have okh := zIM ok0 y hy
  (repeat' (first | ((with_reducible refine zF ?_); first | refine zE rfl rfl rfl rfl rfl ?_ | refine zC rfl rfl rfl rfl rfl ?_ | (refine zK rfl rfl rfl rfl rfl ?_; refine ⟨_, rfl, ?_⟩) | refine zc rfl rfl rfl rfl rfl ?_ | (refine zT rfl rfl rfl rfl rfl rfl rfl (fun h => ?_) (fun h => ?_) <;> (dsimp only [cmpP] at h; (try (exfalso; omega)))) | refine zq rfl rfl rfl rfl rfl ?_) | (with_reducible first | refine zH ?_ | refine zB ?_ | refine zD ?_ | refine zA ?_ | refine zU ?_ | refine zQ ?_) | ((with_reducible refine zJ ?_ ?_); (· exact rfl))))
  refine zu (ι := PM) [1, 6, 7, 8, 32, 33, 38] rfl (fun q => q.k ≤ c.beds.length ∧ PMat q (stepsP y q.k (zCk c.beds.length y (zBM c)))) (fun q => [(39, .int .i64 (q.k : Int))]) (fun q => [.zAw zm (rowOf encI 1 3) gn q.nd, .zAw zm (rowOf zAr 1 4) gm q.my, .row encI 1 3 (.slice (some ⟨gh, 0, none⟩) c.hours.length c.hours.length) ((stepsP y q.k (zCk c.beds.length y (zBM c))).hands), .zAw zm (rowOf encI 1 3) go q.ot, .blk b1 (zM c A ca B cb C cc), .blk b6 (zA5 (some ⟨gn, 0, none⟩) c.beds.length c.beds.length (some ⟨gm, 0, none⟩) c.beds.length c.beds.length (some ⟨gh, 0, none⟩) c.hours.length c.hours.length)]) (fun q => c.beds.length - q.k) ⟨0, L, M, O⟩ ⟨Nat.zero_le _, hL, hM, hO⟩ (by (first | exact lK1 | (repeat (first | exact lK1 | (refine zL rfl ?_))))) (by (repeat (first | exact oK1 _ | (refine oK2 (by (repeat (first | exact tK1 _ _ | apply tK2))) ?_)))) ?_
  clear hL hM hO L M O
  rintro ⟨i, L, M, O⟩ ⟨hi, hL, hM, hO⟩
  simp only at hi hL hM hO
  simp only [zAx, zM, zA5, List.cons_append, List.nil_append]
  by_cases hil : i < c.beds.length
  ·have oki := zHm okh hyl i hi
   have hnext : stepsP y (i + 1) (zCk c.beds.length y (zBM c)) = zDb y i (stepsP y i (zCk c.beds.length y (zBM c))) := rfl
   generalize stepsP y i (zCk c.beds.length y (zBM c)) = st at *
   have hLl : L.length = c.beds.length := by have := congrArg List.length hL; rw [oki.nl] at this; simpa using this
   have hMl : M.length = c.beds.length := by have := congrArg List.length hM; rw [oki.ml] at this; simpa using this
   have hHl := oki.hl
   obtain ⟨s, hs1⟩ : ∃ s, L[i]? = some s := ⟨_, List.getElem?_eq_getElem (by omega)⟩
   obtain ⟨t, ht1⟩ : ∃ t, M[i]? = some t := ⟨_, List.getElem?_eq_getElem (by omega)⟩
   have hsr : NRow c.hours.length s.xs := oki.nr _ (by rw [← hL]; exact List.mem_map_of_mem (List.mem_of_getElem? hs1))
   have htl : t.xs.length = c.hours.length := oki.mr _ (by rw [← hM]; exact List.mem_map_of_mem (List.mem_of_getElem? ht1))
   have gs1 : st.nds.getD i [] = s.xs := by rw [← hL]; exact getD_map hs1
   have gt1 : st.may.getD i [] = t.xs := by rw [← hM]; exact getD_map ht1
   have hsl := hsr.len
   have htk : zHi st y i = (t.xs.getD y false && (decide (0 < st.hands.getD y 0) && decide (0 < Flow.zDK s.xs))) := by unfold zHi; rw [gs1, gt1]
   obtain ⟨sA, sx, sc⟩ := s
   obtain ⟨tA, tx, tc⟩ := t
   simp only at hsr htl gs1 gt1 hsl htk
   (repeat' (first | ((with_reducible refine zF ?_); first | refine zE rfl rfl rfl rfl rfl ?_ | refine zC rfl rfl rfl rfl rfl ?_ | (refine zK rfl rfl rfl rfl rfl ?_; refine ⟨_, rfl, ?_⟩) | refine zc rfl rfl rfl rfl rfl ?_ | (refine zT rfl rfl rfl rfl rfl rfl rfl (fun h => ?_) (fun h => ?_) <;> (dsimp only [cmpP] at h; (try (exfalso; omega)))) | refine zd rfl rfl rfl rfl rfl rfl rfl (by omega) ?_) | (with_reducible first | refine zH ?_ | refine zB ?_ | refine zD ?_ | refine zA ?_ | refine zU ?_ | refine zQ ?_) | ((with_reducible refine zJ ?_ ?_); (· exact rfl))))
   refine zCO i hs1 (by (repeat (first | exact tK1 _ _ | apply tK2))) ?_
   refine zGe (A := sA) (xs := sx) (k := 1) (e := 3) (enc := encI) (m := sx.length) (c := sc) (Take.there _ (Take.here _ _)) (by omega) ?_
   rintro gs rfl
   refine zCO i ht1 (by (repeat (first | exact tK1 _ _ | apply tK2))) ?_
   refine zGe (A := tA) (xs := tx) (k := 1) (e := 4) (enc := zAr) (m := tx.length) (c := tc) (Take.there _ (Take.here _ _)) (by omega) ?_
   rintro gt rfl
   simp only [rowOf]
   have : zAT (L.set i ⟨some ⟨gs, 0, none⟩, sx, sc⟩) i ⟨some ⟨gs, 0, none⟩, sx, sc⟩ := ⟨List.getElem?_set_self (by omega)⟩
   have : zAT (M.set i ⟨some ⟨gt, 0, none⟩, tx, tc⟩) i ⟨some ⟨gt, 0, none⟩, tx, tc⟩ := ⟨List.getElem?_set_self (by omega)⟩
   have hmaxc := fun W hA => zJx sx (some ⟨gs, 0, none⟩) sc W hA (by omega) (by omega)
   have : zAT tx y (tx.getD y false) := ⟨by rw [Flow.zAc (by omega)]; simp⟩
   have : zAT st.hands y (st.hands.getD y 0) := ⟨by rw [Flow.zAc (by omega)]; simp⟩
   generalize hz : tx.getD y false = z at *
   generalize hk : st.hands.getD y 0 = kk at *
   generalize hmm : Flow.zDK sx = mm at *
   cases z
   ·(repeat' (first | ((with_reducible refine zF ?_); first | refine zE rfl rfl rfl rfl rfl ?_ | refine zC rfl rfl rfl rfl rfl ?_ | (refine zK rfl rfl rfl rfl rfl ?_; refine ⟨_, rfl, ?_⟩) | refine zc rfl rfl rfl rfl rfl ?_ | refine zAm rfl rfl rfl rfl rfl rfl ?_ | refine zAA rfl rfl rfl ?_ | refine zCr (enc := zAr) (i := y) false rfl rfl rfl rfl rfl rfl rfl rfl (by omega) ?_ | refine zd (I := y) rfl rfl rfl rfl rfl rfl rfl (by dsimp only; omega) ?_ | refine zAb rfl rfl rfl rfl rfl ?_ | refine zj rfl rfl rfl rfl rfl rfl (by omega) ?_ | refine zd rfl rfl rfl rfl rfl rfl rfl (by omega) ?_) | (with_reducible first | refine zH ?_ | refine zB ?_ | refine zD ?_ | refine zA ?_ | refine zl ?_ | refine zV ?_ | refine zY ?_) | ((with_reducible refine zJ ?_ ?_); (· exact rfl))))
    have hstep : zDb y i st = ⟨st.nds, zEU st y i, st.hands, st.out⟩ := by unfold zDb; rw [htk, if_neg (by simp)]
    refine zEL i (tx.set y false) (by simp) ht1 (by (repeat (first | exact tK1 _ _ | apply tK2))) (by (repeat (first | exact tK1 _ _ | apply tK2))) (by (repeat (first | exact tK1 _ _ | apply tK2))) ?_
    refine zFl i (re := rowOf encI 1 3) hs1 (by (repeat (first | exact tK1 _ _ | apply tK2))) (by (repeat (first | exact tK1 _ _ | apply tK2))) (by (repeat (first | exact tK1 _ _ | apply tK2))) ?_
    refine ze (ι := PM) ⟨i + 1, L, M.set i ⟨some ⟨gt, 0, none⟩, tx.set y false, tc⟩, O⟩ (by
     refine ⟨by simp only; omega, ?_⟩
     simp only
     rw [hnext, hstep]
     exact ⟨hL, by simp only; rw [List.map_set, hM]; unfold zEU; rw [gt1], hO⟩) (by simp only; omega) (by (first | exact lK1 | (repeat (first | exact lK1 | (refine zL rfl ?_))))) (by simp only [hnext, hstep]; (repeat (first | exact oK1 _ | (refine oK2 (by (repeat (first | exact tK1 _ _ | apply tK2))) ?_))))
   ·by_cases hk0 : 0 < kk
    ·by_cases hm0 : 0 < mm
     ·have htk1 : zHi st y i = true := by rw [htk]; simp [hk0, hm0]
      have hn1 := oki.zMl hil
      have hm1 := oki.zMm (h := y) hil
      have hh1' := oki.zJO hyl htk1
      have hkb := oki.hr kk (by rw [← hk, Flow.zAc (by omega)]; exact List.getElem_mem _)
      (repeat' (first | ((with_reducible refine zF ?_); first | refine zE rfl rfl rfl rfl rfl ?_ | refine zC rfl rfl rfl rfl rfl ?_ | (refine zK rfl rfl rfl rfl rfl ?_; refine ⟨_, rfl, ?_⟩) | refine zc rfl rfl rfl rfl rfl ?_ | refine zAm rfl rfl rfl rfl rfl rfl ?_ | (refine zT rfl rfl rfl rfl rfl rfl rfl (fun h => ?_) (fun h => ?_) <;> (dsimp only [cmpP] at h; (try (exfalso; omega)))) | refine zW rfl rfl rfl rfl rfl rfl (fun _ _ q => hmaxc _ (zDH q.own (by (repeat (first | exact tK1 _ _ | apply tK2))))) ?_ | refine zCr (enc := zAr) (i := y) false rfl rfl rfl rfl rfl rfl rfl rfl (by omega) ?_ | refine zd (I := y) rfl rfl rfl rfl rfl rfl rfl (by dsimp only; omega) ?_ | refine zCV (hd := zm) (i := i) (s := ⟨some ⟨gs, 0, none⟩, sx, sc⟩) zAh rfl rfl rfl rfl rfl (by simp [zm, zAh, Value.cells]) (by (repeat (first | exact tK1 _ _ | apply tK2))) (by omega) ?_ | refine zAb rfl rfl rfl rfl rfl ?_ | refine zd rfl rfl rfl rfl rfl rfl rfl (by omega) ?_ | refine zq rfl rfl rfl rfl rfl ?_) | (with_reducible first | refine zH ?_ | refine zB ?_ | refine zD ?_ | refine zA ?_ | refine zU ?_ | refine zQ ?_) | ((with_reducible refine zG ?_ ?_); (· exact rfl))))
      refine zEL i (tx.set y false) (by simp) ht1 (by (repeat (first | exact tK1 _ _ | apply tK2))) (by (repeat (first | exact tK1 _ _ | apply tK2))) (by (repeat (first | exact tK1 _ _ | apply tK2))) ?_
      refine zDw encI 1 3 ?_
      refine zu (ι := Nat × zr Int) [1, 6, 7, 8, 9, 11, 32, 33, 38, 39, 85, 86] rfl (fun p => p.1 ≤ sx.length ∧ p.2.xs = zC5 (sx.take p.1)) (fun p => [(87, .int .i64 (p.1 : Int))]) (fun p => [rowOf encI 1 3 p.2, .arr zm 1 gn (L.set i p.2), .row encI 1 3 (.slice (some ⟨gs, 0, none⟩) sx.length sc) sx, .all ((L.eraseIdx i).map (rowOf encI 1 3)), .zAw zm (rowOf zAr 1 4) gm (M.set i ⟨some ⟨gt, 0, none⟩, tx.set y false, tc⟩), .row encI 1 3 (.slice (some ⟨gh, 0, none⟩) c.hours.length c.hours.length) st.hands, .zAw zm (rowOf encI 1 3) go O, .blk b1 (zM c A ca B cb C cc), .blk b6 (zA5 (some ⟨gn, 0, none⟩) c.beds.length c.beds.length (some ⟨gm, 0, none⟩) c.beds.length c.beds.length (some ⟨gh, 0, none⟩) c.hours.length c.hours.length)]) (fun p => sx.length - p.1) (0, zAh) ⟨Nat.zero_le _, rfl⟩ (by (first | exact lK1 | (repeat (first | exact lK1 | (refine zL rfl ?_))))) (by unfold zM zA5; simp only [rowOf, zAh, List.length_nil]; (repeat (first | exact oK1 _ | (refine oK2 (by (repeat (first | exact tK1 _ _ | apply tK2))) ?_)))) ?_
      rintro ⟨j, sA2, sx2, sc2⟩ ⟨hj, hsx⟩
      simp only at hj hsx
      simp only [zAx, rowOf, zM, zA5, List.cons_append, List.nil_append]
      by_cases hjl : j < sx.length
      ·obtain ⟨x, hx⟩ : ∃ x, sx[j]? = some x := ⟨_, List.getElem?_eq_getElem hjl⟩
       have : zAT sx j x := ⟨hx⟩
       have hbx := hsr.big x (List.mem_of_getElem? hx)
       have : zAT (L.set i ⟨sA2, sx2, sc2⟩) i ⟨sA2, sx2, sc2⟩ := ⟨List.getElem?_set_self (by omega)⟩
       have hl2 : sx2.length ≤ 12 := by rw [hsx]; simp [zC5]; omega
       have e1 : sx2 ++ [max 0 (x - 1)] = zC5 (sx.take (j + 1)) := by rw [hsx]; unfold zC5; rw [List.take_add_one, hx, List.map_append]; rfl
       (repeat' (first | ((with_reducible refine zF ?_); first | refine zC rfl rfl rfl rfl rfl ?_ | (refine zK rfl rfl rfl rfl rfl ?_; refine ⟨_, rfl, ?_⟩) | (refine zT rfl rfl rfl rfl rfl rfl rfl (fun h => ?_) (fun h => ?_) <;> (dsimp only [cmpP] at h; (try (exfalso; omega)))) | refine zd rfl rfl rfl rfl rfl rfl rfl (by omega) ?_) | (with_reducible first | refine zH ?_ | refine zB ?_ | refine zD ?_ | refine zA ?_ | refine zU ?_ | refine zQ ?_) | ((with_reducible refine zJ ?_ ?_); (· exact rfl))))
       (refine zAt [] [(12, 0, 0, [.row encI 1 3 (.slice sA2 sx2.length sc2) sx2])] [(12, 0, 0)] rfl (show ([12] : List Nat).Nodup by decide) (H0 := [.arr zm 1 gn (L.set i ⟨sA2, sx2, sc2⟩), .row encI 1 3 (.slice (some ⟨gs, 0, none⟩) sx.length sc) sx, .all ((L.eraseIdx i).map (rowOf encI 1 3)), .zAw zm (rowOf zAr 1 4) gm (M.set i ⟨some ⟨gt, 0, none⟩, tx.set y false, tc⟩), .row encI 1 3 (.slice (some ⟨gh, 0, none⟩) c.hours.length c.hours.length) st.hands, .zAw zm (rowOf encI 1 3) go O, .blk b1 [.slice A c.t.length ca, .slice B c.beds.length cb, .slice C c.hours.length cc, .int .i64 c.wear.lo, .int .i64 c.wear.hi, .int .i64 c.layer.lo, .int .i64 c.layer.hi, .int .i64 c.rate, .int .i64 c.limit, .int .i64 c.base], .blk b6 [.slice (some ⟨gn, 0, none⟩) c.beds.length c.beds.length, .slice (some ⟨gm, 0, none⟩) c.beds.length c.beds.length, .slice (some ⟨gh, 0, none⟩) c.hours.length c.hours.length]]) (fun _ h => h.sub (by (repeat (first | exact oK1 _ | (refine oK2 (by (repeat (first | exact tK1 _ _ | apply tK2))) ?_))))) (by kernel_rfl) [[], [I0], [O0, O0], [O0, O0, O0], [I0, O0, O0, O0], [O0, O0, O0, O0, O0], [I0, I0, I0, O0, O0, O0], [I0, I0, I0, I0, O0, O0, O0], [O0, O0, O0, O0, O0, O0, O0, O0], [I0, O0, O0, O0, O0, O0, O0, O0, O0], [I0, I0, O0, O0, O0, O0, O0, O0, O0, O0], [I0, I0, I0, O0, O0, O0, O0, O0, O0, O0, O0], [I0, I0, I0, I0, I0, I0, I0, I0, I0, O0, O0, O0], [I0, I0, I0, I0, I0, I0, I0, I0, I0, I0, I0, I0, I0], [I0, I0, I0, I0, I0, I0, I0, I0, I0, I0, I0, I0, I0, I0]] (by kernel_rfl) (by kernel_rfl) (by kernel_rfl) (by kernel_rfl) (by kernel_rfl) ?_)
       (repeat' (first | (((with_reducible refine zC3 ?_ ?_); (· exact rfl); refine ⟨_, fun G => (by (try simp (decide := true) only [vis, see, fltT, zx, Nat.reduceAdd, Nat.reduceSub, if_true, if_false, List.set_cons_zero, List.set_cons_succ, List.set_nil, List.nil_append, List.cons_append]); rfl), ?_⟩); first | refine za _ (fun _ => zAk rfl rfl) (fun _ => rfl) rfl (by first | exact fun _ _ _ => rfl | (intro G G' h; simp (decide := true) only [h])) ?_ | refine za _ (fun _ => zAD rfl rfl (by exact rfl)) (fun _ => rfl) rfl (by first | exact fun _ _ _ => rfl | (intro G G' h; simp (decide := true) only [h])) ?_ | (refine zAU rfl ?_; refine za _ (fun _ => zAS rfl rfl) (fun _ => rfl) rfl (by first | exact fun _ _ _ => rfl | (intro G G' h; simp (decide := true) only [h])) ?_) | refine za _ (fun _ => e_sub rfl rfl rfl (IntWalk.i64_in _ (by omega))) (fun _ => rfl) rfl (by first | exact fun _ _ _ => rfl | (intro G G' h; simp (decide := true) only [h])) ?_ | refine za _ (fun _ => zAq rfl rfl rfl rfl (by omega)) (fun _ => rfl) rfl (by first | exact fun _ _ _ => rfl | (intro G G' h; simp (decide := true) only [h])) ?_ | refine za _ (fun _ => e_max rfl rfl rfl) (fun _ => rfl) rfl (by first | exact fun _ _ _ => rfl | (intro G G' h; simp (decide := true) only [h])) ?_ | refine zBb rfl (fun _ => rfl) rfl (fun _ => rfl) (by exact rfl) (by exact fun _ => rfl) (by first | exact fun _ _ _ => rfl | (intro G G' h; simp (decide := true) only [h])) ?_) | (refine zEF (enc := encI) (xs := sx2) (vx := .slice sA2 sx2.length sc2) [max 0 (x - 1)] List.mem_cons_self rfl rfl (fun _ => rfl) rfl (fun _ => rfl) (fun _ => rfl) rfl (fun G => (by (try simp (decide := true) only [vis, see, fltT, zx, Nat.reduceAdd, Nat.reduceSub, if_true, if_false, List.set_cons_zero, List.set_cons_succ, List.set_nil, List.nil_append, List.cons_append]); rfl)) (fun _ W hW h => zAf (enc := encI) (by exact rfl) W hW h) ⟨by simp; omega, by decide⟩ ?_) | ((with_reducible refine zBu ?_ ?_); (· exact rfl))))
       intro G
       simp only [regsT, List.nil_append, List.cons_append]
       refine zEi (H' := [.row encI 1 3 (.slice (G 12).A (sx2 ++ [max 0 (x - 1)]).length (G 12).m) (sx2 ++ [max 0 (x - 1)]), .blk (G 11).g (encI (max 0 (x - 1))), .arr zm 1 gn (L.set i ⟨sA2, sx2, sc2⟩), .row encI 1 3 (.slice (some ⟨gs, 0, none⟩) sx.length sc) sx, .all ((L.eraseIdx i).map (rowOf encI 1 3)), .zAw zm (rowOf zAr 1 4) gm (M.set i ⟨some ⟨gt, 0, none⟩, tx.set y false, tc⟩), .row encI 1 3 (.slice (some ⟨gh, 0, none⟩) c.hours.length c.hours.length) st.hands, .zAw zm (rowOf encI 1 3) go O, .blk b1 [.slice A c.t.length ca, .slice B c.beds.length cb, .slice C c.hours.length cc, .int .i64 c.wear.lo, .int .i64 c.wear.hi, .int .i64 c.layer.lo, .int .i64 c.layer.hi, .int .i64 c.rate, .int .i64 c.limit, .int .i64 c.base], .blk b6 [.slice (some ⟨gn, 0, none⟩) c.beds.length c.beds.length, .slice (some ⟨gm, 0, none⟩) c.beds.length c.beds.length, .slice (some ⟨gh, 0, none⟩) c.hours.length c.hours.length]]) (fun _ h => h) ?_
       (repeat' (first | ((with_reducible refine zF ?_); first | refine zE rfl rfl rfl rfl rfl ?_ | refine zCV (hd := zm) (i := i) (s := ⟨sA2, sx2, sc2⟩) ⟨(G 12).A, sx2 ++ [max 0 (x - 1)], (G 12).m⟩ rfl rfl rfl rfl rfl rfl (by (repeat (first | exact tK1 _ _ | apply tK2))) (by omega) ?_ | refine zj rfl rfl rfl rfl rfl rfl (by omega) ?_) | (with_reducible first | refine zB ?_ | refine zD ?_ | refine zA ?_ | refine zk ?_)))
       exact ze (ι := Nat × zr Int) (j + 1, ⟨(G 12).A, sx2 ++ [max 0 (x - 1)], (G 12).m⟩) (by exact ⟨by simp only; omega, e1⟩) (by simp only; omega) (by (first | exact lK1 | (repeat (first | exact lK1 | (refine zL rfl ?_))))) (by (repeat (first | exact oK1 _ | (refine oK2 (by (repeat (first | exact tK1 _ _ | apply tK2))) ?_))))
      ·obtain rfl : j = sx.length := by omega
       rw [List.take_length] at hsx
       subst hsx
       (repeat' (first | ((with_reducible refine zF ?_); first | refine zE rfl rfl rfl rfl rfl ?_ | (refine zK rfl rfl rfl rfl rfl ?_; refine ⟨_, rfl, ?_⟩) | refine zc rfl rfl rfl rfl rfl ?_ | (refine zT rfl rfl rfl rfl rfl rfl rfl (fun h => ?_) (fun h => ?_) <;> (dsimp only [cmpP] at h; (try (exfalso; omega)))) | refine zCP rfl rfl rfl rfl rfl rfl (IntWalk.i64_in _ (by omega)) ?_ | refine zd rfl rfl rfl rfl rfl rfl rfl (by omega) ?_) | (with_reducible first | refine zH ?_ | refine zB ?_ | refine zD ?_ | refine zA ?_ | refine zl ?_ | refine zV ?_ | refine zY ?_) | ((with_reducible refine zG ?_ ?_); (· exact rfl))))
       refine zCN i (re := rowOf encI 1 3) ⟨sA2, zC5 sx, sc2⟩ hs1 (by (repeat (first | exact tK1 _ _ | apply tK2))) (by (repeat (first | exact tK1 _ _ | apply tK2))) (by (repeat (first | exact tK1 _ _ | apply tK2))) ?_
       have ok2 : zDs c.beds.length c.hours.length y i ⟨ndsO st i, zEU st y i, zC1 st y, st.out⟩ := ⟨hn1.1, hm1.1, hh1'.1, oki.ol, hn1.2, hm1.2, hh1'.2, oki.or_⟩
       have eL : (L.set i ⟨sA2, zC5 sx, sc2⟩).map (·.xs) = ndsO st i := by rw [List.map_set, hL]; unfold ndsO; rw [gs1]
       have eM : (M.set i ⟨some ⟨gt, 0, none⟩, tx.set y false, tc⟩).map (·.xs) = zEU st y i := by rw [List.map_set, hM]; unfold zEU; rw [gt1]
       have eH : st.hands.set y (kk - 1) = zC1 st y := by unfold zC1; rw [hk]
       have hca := fun (W : World) a1 a2 a3 => zGw ok2 eL eM (by omega) (by omega) (by omega) hbl (some ⟨gn, 0, none⟩) (some ⟨gm, 0, none⟩) (some ⟨gh, 0, none⟩) c.beds.length c.beds.length c.hours.length W a1 a2 a3
       unfold zA5 at hca
       dsimp only at hca
       cases hcb : zG2 (ndsO st i) (zEU st y i) (zC1 st y) with
       | true =>
        rw [hcb] at hca
        have hOl : O.length = c.hours.length := by have := congrArg List.length hO; rw [oki.ol] at this; simpa using this
        obtain ⟨o, ho1⟩ : ∃ o, O[y]? = some o := ⟨_, List.getElem?_eq_getElem (by omega)⟩
        have go1 : st.out.getD y [] = o.xs := by rw [← hO]; exact getD_map ho1
        have hol := oki.or_ y
        rw [if_neg (by omega), if_pos rfl, go1] at hol
        obtain ⟨oA, ox, oc⟩ := o
        simp only at go1 hol
        have : zAT O y ⟨oA, ox, oc⟩ := ⟨ho1⟩
        have hstep : zDb y i st = ⟨ndsO st i, zEU st y i, zC1 st y, outO st y i⟩ := by unfold zDb; rw [if_pos htk1, if_pos hcb]
        (repeat' (first | ((with_reducible refine zF ?_); first | refine zE rfl rfl rfl rfl rfl ?_ | (refine zK rfl rfl rfl rfl rfl ?_; refine ⟨_, rfl, ?_⟩) | (refine zCr (enc := encI) (i := y) (kk - 1) rfl rfl rfl rfl rfl rfl rfl rfl (by omega) ?_; rw [eH]) | refine zW rfl rfl rfl rfl rfl rfl (fun _ _ q => hca _ (zCZ q.own (by (repeat (first | exact tK1 _ _ | apply tK2)))) (zCZ q.own (by (repeat (first | exact tK1 _ _ | apply tK2)))) (zDH q.own (by (repeat (first | exact tK1 _ _ | apply tK2))))) ?_ | refine zd rfl rfl rfl rfl rfl rfl rfl (by omega) ?_ | (refine zw rfl rfl rfl rfl rfl ?_; refine ⟨rfl, _, rfl, fun b => ?_⟩)) | (with_reducible first | refine zH ?_ | refine zB ?_ | refine zD ?_ | refine zA ?_) | ((with_reducible refine zJ ?_ ?_); (· exact rfl))))
        refine zCO y ho1 (by (repeat (first | exact tK1 _ _ | apply tK2))) ?_
        simp only [rowOf]
        (repeat' (first | ((with_reducible refine zF ?_); first | refine zE rfl rfl rfl rfl rfl ?_ | (refine zBD (enc := encI) [_] rfl rfl rfl rfl rfl (by (repeat (first | exact tK1 _ _ | apply tK2))) rfl rfl (zAf (by exact rfl)) (by refine ⟨?_, by decide⟩; (try simp only [List.length_append, List.length_cons, List.length_nil]); omega) (fun A' c' => ?_)) | refine zCV (hd := zm) (i := y) (s := ⟨oA, ox, oc⟩) ⟨A', ox ++ [(i : Int)], c'⟩ rfl rfl rfl rfl rfl (by simp [zm, Value.cells]) (by (repeat (first | exact tK1 _ _ | apply tK2))) (by omega) ?_ | refine zj rfl rfl rfl rfl rfl rfl (by omega) ?_ | refine zd rfl rfl rfl rfl rfl rfl rfl (by omega) ?_) | (with_reducible first | refine zB ?_ | refine zD ?_ | refine zA ?_ | refine zl ?_ | refine zV ?_ | refine zY ?_)))
        refine zCN y (re := rowOf encI 1 3) ⟨A', ox ++ [(i : Int)], c'⟩ ho1 (by (repeat (first | exact tK1 _ _ | apply tK2))) (by (repeat (first | exact tK1 _ _ | apply tK2))) (by (repeat (first | exact tK1 _ _ | apply tK2))) ?_
        refine ze (ι := PM) ⟨i + 1, L.set i ⟨sA2, zC5 sx, sc2⟩, M.set i ⟨some ⟨gt, 0, none⟩, tx.set y false, tc⟩, O.set y ⟨A', ox ++ [(i : Int)], c'⟩⟩ (by
         refine ⟨by simp only; omega, ?_⟩
         simp only
         rw [hnext, hstep]
         exact ⟨eL, eM, by simp only; rw [List.map_set, hO]; unfold outO; rw [go1]⟩) (by simp only; omega) (by (first | exact lK1 | (repeat (first | exact lK1 | (refine zL rfl ?_))))) (by simp only [hnext, hstep]; (repeat (first | exact oK1 _ | (refine oK2 (by (repeat (first | exact tK1 _ _ | apply tK2))) ?_))))
       | false =>
        rw [hcb] at hca
        have lL : (L.set i ⟨sA2, zC5 sx, sc2⟩).length = c.beds.length := by rw [List.length_set]; exact hLl
        have hs2 : (L.set i ⟨sA2, zC5 sx, sc2⟩)[i]? = some ⟨sA2, zC5 sx, sc2⟩ := List.getElem?_set_self (by omega)
        have eB : (L.set i ⟨sA2, zC5 sx, sc2⟩).set i ⟨some ⟨gs, 0, none⟩, sx, sc⟩ = L := by
         rw [List.set_set]
         obtain ⟨h9, h8⟩ := List.getElem?_eq_some_iff.1 hs1
         rw [← h8]; exact List.set_getElem_self h9
        have eH2 : (zC1 st y).set y (kk - 1 + 1) = st.hands := by
         rw [← eH, List.set_set, Int.sub_add_cancel, ← hk, Flow.zAc (by omega)]; exact List.set_getElem_self _
        have : zAT (zC1 st y) y (kk - 1) := ⟨by rw [← eH]; exact List.getElem?_set_self (by omega)⟩
        have hstep : zDb y i st = ⟨st.nds, zEU st y i, st.hands, st.out⟩ := by unfold zDb; rw [if_pos htk1, if_neg (by rw [hcb]; simp)]
        (repeat' (first | ((with_reducible refine zF ?_); first | refine zE rfl rfl rfl rfl rfl ?_ | (refine zK rfl rfl rfl rfl rfl ?_; refine ⟨_, rfl, ?_⟩) | refine zc rfl rfl rfl rfl rfl ?_ | (refine zCr (enc := encI) (i := y) (kk - 1) rfl rfl rfl rfl rfl rfl rfl rfl (by omega) ?_; rw [eH]) | refine zW rfl rfl rfl rfl rfl rfl (fun _ _ q => hca _ (zCZ q.own (by (repeat (first | exact tK1 _ _ | apply tK2)))) (zCZ q.own (by (repeat (first | exact tK1 _ _ | apply tK2)))) (zDH q.own (by (repeat (first | exact tK1 _ _ | apply tK2))))) ?_ | refine zd rfl rfl rfl rfl rfl rfl rfl (by omega) ?_) | (with_reducible first | refine zH ?_ | refine zB ?_ | refine zD ?_ | refine zA ?_ | refine zU ?_) | ((with_reducible refine zG ?_ ?_); (· exact rfl))))
        refine zCO i hs2 (by (repeat (first | exact tK1 _ _ | apply tK2))) ?_
        (repeat' (first | ((with_reducible refine zF ?_); first | refine zE rfl rfl rfl rfl rfl ?_ | (refine zK rfl rfl rfl rfl rfl ?_; refine ⟨_, rfl, ?_⟩) | refine zc rfl rfl rfl rfl rfl ?_ | refine zCV (hd := zm) (i := i) (s := ⟨sA2, zC5 sx, sc2⟩) ⟨some ⟨gs, 0, none⟩, sx, sc⟩ rfl rfl rfl rfl rfl (by simp [zm, Value.cells]) (by (repeat (first | exact tK1 _ _ | apply tK2))) (by omega) ?_ | (refine zCr (enc := encI) (i := y) (kk - 1 + 1) rfl rfl rfl rfl rfl rfl rfl rfl (by omega) ?_; rw [eH2]) | refine zj rfl rfl rfl rfl rfl rfl (by omega) ?_ | refine zCX rfl rfl rfl rfl rfl rfl (IntWalk.i64_in _ (by omega)) ?_ | refine zd rfl rfl rfl rfl rfl rfl rfl (by omega) ?_) | (with_reducible first | refine zB ?_ | refine zD ?_ | refine zA ?_ | refine zk ?_)))
        refine zCN i (re := rowOf encI 1 3) ⟨some ⟨gs, 0, none⟩, sx, sc⟩ hs2 (by (repeat (first | exact tK1 _ _ | apply tK2))) (by (repeat (first | exact tK1 _ _ | apply tK2))) (by (repeat (first | exact tK1 _ _ | apply tK2))) ?_
        rw [eB]
        refine ze (ι := PM) ⟨i + 1, L, M.set i ⟨some ⟨gt, 0, none⟩, tx.set y false, tc⟩, O⟩ (by
         refine ⟨by simp only; omega, ?_⟩
         simp only
         rw [hnext, hstep]
         exact ⟨hL, eM, hO⟩) (by simp only; omega) (by (first | exact lK1 | (repeat (first | exact lK1 | (refine zL rfl ?_))))) (by simp only [hnext, hstep]; (repeat (first | exact oK1 _ | (refine oK2 (by (repeat (first | exact tK1 _ _ | apply tK2))) ?_))))
     ·(repeat' (first | ((with_reducible refine zF ?_); first | refine zE rfl rfl rfl rfl rfl ?_ | refine zC rfl rfl rfl rfl rfl ?_ | (refine zK rfl rfl rfl rfl rfl ?_; refine ⟨_, rfl, ?_⟩) | refine zc rfl rfl rfl rfl rfl ?_ | refine zAm rfl rfl rfl rfl rfl rfl ?_ | (refine zT rfl rfl rfl rfl rfl rfl rfl (fun h => ?_) (fun h => ?_) <;> (dsimp only [cmpP] at h; (try (exfalso; omega)))) | refine zW rfl rfl rfl rfl rfl rfl (fun _ _ q => hmaxc _ (zDH q.own (by (repeat (first | exact tK1 _ _ | apply tK2))))) ?_ | refine zCr (enc := zAr) (i := y) false rfl rfl rfl rfl rfl rfl rfl rfl (by omega) ?_ | refine zd (I := y) rfl rfl rfl rfl rfl rfl rfl (by dsimp only; omega) ?_ | refine zAb rfl rfl rfl rfl rfl ?_ | refine zj rfl rfl rfl rfl rfl rfl (by omega) ?_ | refine zd rfl rfl rfl rfl rfl rfl rfl (by omega) ?_) | (with_reducible first | refine zH ?_ | refine zB ?_ | refine zD ?_ | refine zA ?_ | refine zl ?_ | refine zV ?_ | refine zY ?_) | ((with_reducible refine zJ ?_ ?_); (· exact rfl))))
      have hstep : zDb y i st = ⟨st.nds, zEU st y i, st.hands, st.out⟩ := by unfold zDb; rw [htk, if_neg (by simp; omega)]
      refine zEL i (tx.set y false) (by simp) ht1 (by (repeat (first | exact tK1 _ _ | apply tK2))) (by (repeat (first | exact tK1 _ _ | apply tK2))) (by (repeat (first | exact tK1 _ _ | apply tK2))) ?_
      refine zFl i (re := rowOf encI 1 3) hs1 (by (repeat (first | exact tK1 _ _ | apply tK2))) (by (repeat (first | exact tK1 _ _ | apply tK2))) (by (repeat (first | exact tK1 _ _ | apply tK2))) ?_
      refine ze (ι := PM) ⟨i + 1, L, M.set i ⟨some ⟨gt, 0, none⟩, tx.set y false, tc⟩, O⟩ (by
       refine ⟨by simp only; omega, ?_⟩
       simp only
       rw [hnext, hstep]
       exact ⟨hL, by simp only; rw [List.map_set, hM]; unfold zEU; rw [gt1], hO⟩) (by simp only; omega) (by (first | exact lK1 | (repeat (first | exact lK1 | (refine zL rfl ?_))))) (by simp only [hnext, hstep]; (repeat (first | exact oK1 _ | (refine oK2 (by (repeat (first | exact tK1 _ _ | apply tK2))) ?_))))
    ·(repeat' (first | ((with_reducible refine zF ?_); first | refine zE rfl rfl rfl rfl rfl ?_ | refine zC rfl rfl rfl rfl rfl ?_ | (refine zK rfl rfl rfl rfl rfl ?_; refine ⟨_, rfl, ?_⟩) | refine zc rfl rfl rfl rfl rfl ?_ | refine zAm rfl rfl rfl rfl rfl rfl ?_ | refine zAA rfl rfl rfl ?_ | (refine zT rfl rfl rfl rfl rfl rfl rfl (fun h => ?_) (fun h => ?_) <;> (dsimp only [cmpP] at h; (try (exfalso; omega)))) | refine zCr (enc := zAr) (i := y) false rfl rfl rfl rfl rfl rfl rfl rfl (by omega) ?_ | refine zd (I := y) rfl rfl rfl rfl rfl rfl rfl (by dsimp only; omega) ?_ | refine zAb rfl rfl rfl rfl rfl ?_ | refine zj rfl rfl rfl rfl rfl rfl (by omega) ?_ | refine zd rfl rfl rfl rfl rfl rfl rfl (by omega) ?_) | (with_reducible first | refine zH ?_ | refine zB ?_ | refine zD ?_ | refine zA ?_ | refine zl ?_ | refine zV ?_ | refine zY ?_) | ((with_reducible refine zJ ?_ ?_); (· exact rfl))))
     have hstep : zDb y i st = ⟨st.nds, zEU st y i, st.hands, st.out⟩ := by unfold zDb; rw [htk, if_neg (by simp; omega)]
     refine zEL i (tx.set y false) (by simp) ht1 (by (repeat (first | exact tK1 _ _ | apply tK2))) (by (repeat (first | exact tK1 _ _ | apply tK2))) (by (repeat (first | exact tK1 _ _ | apply tK2))) ?_
     refine zFl i (re := rowOf encI 1 3) hs1 (by (repeat (first | exact tK1 _ _ | apply tK2))) (by (repeat (first | exact tK1 _ _ | apply tK2))) (by (repeat (first | exact tK1 _ _ | apply tK2))) ?_
     refine ze (ι := PM) ⟨i + 1, L, M.set i ⟨some ⟨gt, 0, none⟩, tx.set y false, tc⟩, O⟩ (by
      refine ⟨by simp only; omega, ?_⟩
      simp only
      rw [hnext, hstep]
      exact ⟨hL, by simp only; rw [List.map_set, hM]; unfold zEU; rw [gt1], hO⟩) (by simp only; omega) (by (first | exact lK1 | (repeat (first | exact lK1 | (refine zL rfl ?_))))) (by simp only [hnext, hstep]; (repeat (first | exact oK1 _ | (refine oK2 (by (repeat (first | exact tK1 _ _ | apply tK2))) ?_))))
  ·obtain rfl : i = c.beds.length := by omega
   (repeat' (first | ((with_reducible refine zF ?_); first | refine zE rfl rfl rfl rfl rfl ?_ | (refine zT rfl rfl rfl rfl rfl rfl rfl (fun h => ?_) (fun h => ?_) <;> (dsimp only [cmpP] at h; (try (exfalso; omega)))) | refine zj rfl rfl rfl rfl rfl rfl (by omega) ?_) | (with_reducible first | refine zH ?_ | refine zB ?_ | refine zD ?_ | refine zA ?_ | refine zl ?_ | refine zk ?_ | refine zV ?_ | refine zY ?_) | ((with_reducible refine zG ?_ ?_); (· exact rfl))))
   exact ze (ι := PM) ⟨y + 1, L, M, O⟩ (by exact ⟨by simp only; omega, hL, hM, hO⟩) (by simp only; omega) (by (first | exact lK1 | (repeat (first | exact lK1 | (refine zL rfl ?_))))) (by (repeat (first | exact oK1 _ | (refine oK2 (by (repeat (first | exact tK1 _ _ | apply tK2))) ?_))))
 ·obtain rfl : y = c.hours.length := by omega
  (repeat' (first | ((with_reducible refine zF ?_); first | refine zE rfl rfl rfl rfl rfl ?_ | refine zC rfl rfl rfl rfl rfl ?_ | (refine zT rfl rfl rfl rfl rfl rfl rfl (fun h => ?_) (fun h => ?_) <;> (dsimp only [cmpP] at h; (try (exfalso; omega))))) | (with_reducible first | refine zH ?_ | refine zB ?_ | refine zD ?_ | refine zA ?_ | refine zX ?_ | refine zl ?_ | refine zV ?_ | refine zY ?_) | ((with_reducible refine zG ?_ ?_); (· exact rfl))))
  exact zS (by (exact zN.cons (by exact zg.tmp rfl) (zN.cons (by exact zg.tmp rfl) zN.nil))) (go, O) hO (by simp [resV]) (fun _ h => h.sub (by (repeat (first | exact oK1 _ | (refine oK2 (by (repeat (first | exact tK1 _ _ | apply tK2))) ?_)))))
end Go.Proofs.YtdigopgncfhiaaaGreatDoor.Two
namespace Go.Proofs.YtdigopgncfhiaaaGreatDoor
open Go.RowKit
set_option maxRecDepth 20000
theorem zLV {c : Cov} (h0 : zAl c = 0) : 0 < c.beds.length := by
 have hv : valid c.t = true := by
  cases hv : valid c.t with
  | true => rfl
  | false => unfold zAl at h0; rw [hv] at h0; simp at h0
 have := (zDu hv).1
 have := (zBw h0).beds
 omega
theorem zKB {c : Cov} (hf : zDY c) : ∀ u ∈ c.hours, 0 ≤ u.crew ∧ u.crew ≤ 1000 := fun u hu => by
 have h9 := hf.hour u hu
 unfold zCK at h9
 simp only [Bool.and_eq_true, zAF] at h9
 omega
set_option maxHeartbeats 2000000 in
theorem zL2 (c : Cov) (A : Option Addr) (ca : Nat) (B : Option Addr) (cb : Nat) (C : Option Addr) (cc : Nat) (w : World) (h : zAd w c A B C) (hs : Small c) (hG : InC w 0 0 zCT) (h0 : zAl c = 0) (hcan : zG2 (zBo c) (zFt c) (zBT c) = false) :
  Gv Tryz.prog 25 [zAL c A ca B cb C cc] w (.tuple #[.slice none 0 0, .int .i64 8]) := by
 have h4 := hs.b; have h5 := hs.h
 have hf := zBw h0
 have hh1 := hf.hours
 rw [zAF] at hh1
 have h1 := fun W (hb : Below w.heap.size w W) => zDM c A ca B cb C cc W (h.below hb) hs h0
 have h2 := fun W (hb : Below w.heap.size w W) g (hr : InC W g 0 (zM c A ca B cb C cc)) => Two.zEw c A ca B cb C cc g W hr (hG.below hb) (h.below hb) hs hf
 have ok0 := zE9 hf hs (zKB hf)
 have hbl := zLV h0
 unfold Gv
 unfold zAL at h1 ⊢
 unfold zM at h1 h2 ⊢
 (refine zI (n := 140) Tryz.func25 rfl rfl rfl ?_)
 (repeat' (first | ((with_reducible refine zF ?_); first | refine zE rfl rfl rfl rfl rfl ?_ | refine zC rfl rfl rfl rfl rfl ?_ | (refine zK rfl rfl rfl rfl rfl ?_; refine ⟨_, rfl, ?_⟩) | (refine zT rfl rfl rfl rfl rfl rfl rfl (fun h => ?_) (fun h => ?_) <;> (dsimp only [cmpP] at h; (try (exfalso; omega)))) | (refine zAP rfl rfl rfl rfl rfl rfl (fun _ _ q => h1 _ q.below) ?_; rintro g -; dsimp only [List.cons_append, List.nil_append]) | (refine zAP rfl rfl rfl rfl rfl rfl (fun _ _ q => h2 _ q.below g (zAI q.own (Below.refl _ _) rfl)) ?_; rintro ⟨⟨gn, L⟩, ⟨gm, M⟩, gh⟩ ⟨hL, hM⟩; dsimp only [List.cons_append, List.nil_append]) | refine zi rfl rfl rfl rfl rfl rfl ?_ | (refine zf rfl rfl rfl rfl rfl ?_; refine And.intro rfl (And.intro (by first | decide | exact Nat.le_of_ble_eq_true rfl | (simp; omega)) ⟨_, rfl, ?_⟩)) | (refine zn rfl rfl rfl rfl (fun b => ?_)) | (refine zAB rfl rfl rfl rfl rfl rfl (fun b => ?_))) | (with_reducible first | refine zH ?_ | refine zB ?_ | refine zD ?_ | refine zA ?_ | refine zU ?_) | ((with_reducible refine zG ?_ ?_); (· exact rfl))))
 simp only at hL hM
 have hca := fun (W : World) (a1 : zCc encI 1 W (some ⟨gn, 0, none⟩) L) (a2 : zCc zAr 1 W (some ⟨gm, 0, none⟩) M) (a3 : zt encI 1 W (some ⟨gh, 0, none⟩) (zBT c)) => zGw ok0 hL hM (by omega) (by omega) (by omega) hbl _ _ _ c.beds.length c.beds.length c.hours.length W a1 a2 a3
 rw [show zG2 (zBM c).nds (zBM c).may (zBM c).hands = false from hcan] at hca
 unfold zA5 at hca
 (repeat' (first | ((with_reducible refine zF ?_); first | refine zC rfl rfl rfl rfl rfl ?_ | refine zW rfl rfl rfl rfl rfl rfl (fun _ _ q => hca _ (zCZ q.own (by (repeat (first | exact tK1 _ _ | apply tK2)))) (zCZ q.own (by (repeat (first | exact tK1 _ _ | apply tK2)))) (zDH q.own (by (repeat (first | exact tK1 _ _ | apply tK2))))) ?_ | refine zAb rfl rfl rfl rfl rfl ?_) | (with_reducible first | refine zH ?_ | refine zB ?_ | refine zD ?_ | refine zA ?_ | refine zX ?_ | refine zZ ?_) | ((with_reducible refine zJ ?_ ?_); (· exact rfl))))
 exact zS (by (exact zN.cons (by exact zg.tmp rfl) (zN.cons (by exact zg.tmp rfl) zN.nil))) () trivial rfl (fun _ _ => Own.nil _ _)
end Go.Proofs.YtdigopgncfhiaaaGreatDoor
namespace Go.Proofs.YtdigopgncfhiaaaGreatDoor
open Go.RowKit
theorem zGP {α : Type} (l : List α) (i j : Nat) (hi : i ≤ j) (hj : j < l.length) : l.extract i (j + 1) = l.extract i j ++ [l[j]] := by
 simp only [List.extract_eq_take_drop]
 rw [show j + 1 - i = (j - i) + 1 by omega, List.take_succ_eq_append_getElem (by simp; omega)]
 simp [show i + (j - i) = j by omega]
theorem zHj (l : List Sp) (x : Sp) : zG7 (l ++ [x]) = zBg (zG7 l) x := by simp [zG7]
theorem zDz {t : List St} {i j : Nat} (hi : i ≤ j) (hj : j < t.length) : zb t i (j + 1) = zBg (zb t i j) t[j].long := by
 unfold zb
 rw [zGP _ _ _ hi (by simpa [longs] using hj), zHj]; simp [longs]
theorem zD7 {t : List St} {i j : Nat} (hi : i ≤ j) (hj : j < t.length) : zAC t i (j + 1) = zBg (zAC t i j) t[j].fall := by
 unfold zAC
 rw [zGP _ _ _ hi (by simpa [falls] using hj), zHj]; simp [falls]
theorem zCj (t : List St) (i : Nat) : zb t i i = ⟨0, 0⟩ := by simp [zb, zG7, List.extract_eq_take_drop]
theorem zCm (t : List St) (i : Nat) : zAC t i i = ⟨0, 0⟩ := by simp [zAC, zG7, List.extract_eq_take_drop]
theorem zMT {t : List St} (h : ∀ s ∈ t, Okay s) : ∀ {i j : Nat}, i ≤ j → j ≤ t.length →
    0 ≤ (zb t i j).lo ∧ (zb t i j).lo ≤ (zb t i j).hi ∧ (zb t i j).hi ≤ 30000 * (j - i : Int) ∧
    0 ≤ (zAC t i j).lo ∧ (zAC t i j).lo ≤ (zAC t i j).hi ∧ (zAC t i j).hi ≤ 5000 * (j - i : Int) := by
  intro i j hij
  induction j with
  | zero => intro _; obtain rfl : i = 0 := by omega
            simp [zCj, zCm]
  | succ j ih =>
    intro hj
    by_cases hji : i = j + 1
    · subst hji; simp [zCj, zCm]
    · have := ih (by omega) (by omega)
      have ho := h t[j] (List.getElem_mem (by omega))
      rw [zDz (by omega) (by omega), zD7 (by omega) (by omega)]
      have := ho.l0; have := ho.l1; have := ho.l2; have := ho.f0; have := ho.f1; have := ho.f2
      simp only [zBg]
      omega
end Go.Proofs.YtdigopgncfhiaaaGreatDoor
