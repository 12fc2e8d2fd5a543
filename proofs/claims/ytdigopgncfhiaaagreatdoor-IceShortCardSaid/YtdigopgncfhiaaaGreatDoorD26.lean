/- D26 -/
import Derived.Test.YtdigopgncfhiaaaGreatDoorD25
import Derived.Test.YtdigopgncfhiaaaGreatDoorD14
import Derived.Test.YtdigopgncfhiaaaGreatDoorD18
import Derived.Test.YtdigopgncfhiaaaGreatDoorD19
import Derived.Test.YtdigopgncfhiaaaGreatDoorD11
import Derived.Test.YtdigopgncfhiaaaGreatDoorD12
set_option linter.unusedSimpArgs false
set_option linter.unusedVariables false
namespace Go.Proofs.YtdigopgncfhiaaaGreatDoor
open Go.RowKit
set_option maxRecDepth 20000
set_option maxHeartbeats 8000000 in
theorem zId (c : Cov) (A : Option Addr) (ca : Nat) (B : Option Addr) (cb : Nat) (C : Option Addr) (cc : Nat) (w : World) (h : zAq w c A B C) (hs : Small c) (hG : InC w 0 0 zCe) :
  zDF encI 1 (zC8 c).2.1 (fun v => .tuple #[.int .i64 (zC8 c).1, v, .int .i64 (zC8 c).2.2]) Tryz.prog 32 [zAS c A ca B cb C cc] w := by
 have h4 := hs.b; have h5 := hs.h
 refine Ret.newsl ?_
 by_cases h0 : zAh c = 0
 ·have hf := zBg h0
  have hh1 := hf.hours
  rw [zAJ] at hh1
  have h1 := fun W (hb : Below w.heap.size w W) => zDU c A ca B cb C cc W (h.below hb) hs h0
  have h2 := fun W (hb : Below w.heap.size w W) g (hr : InC W g 0 (zM c A ca B cb C cc)) => Two.zEz c A ca B cb C cc g W hr (hG.below hb) (h.below hb) hs hf
  have ok0 := zFB hf hs (zFX hf)
  have hX : zC8 c = shortF c c.hours.length 0 := by unfold zC8; rw [if_pos h0]
  rw [hX]
  have hhl : (zAA c).length = c.hours.length := by simp [zAA]
  unfold zAS at h1 ⊢
  unfold zM at h1 h2 ⊢
  (refine zL (n := 72) Tryz.func32 rfl rfl rfl ?_)
  (repeat' (first | ((with_reducible refine zG ?_); first | refine zE rfl rfl rfl rfl rfl ?_ | refine zC rfl rfl rfl rfl rfl ?_ | (refine zJ rfl rfl rfl rfl rfl ?_; refine ⟨_, rfl, ?_⟩) | refine zd rfl rfl rfl rfl rfl ?_ | (refine zR rfl rfl rfl rfl rfl rfl rfl (fun h => ?_) (fun h => ?_) <;> (dsimp only [cmpP] at h; (try (exfalso; omega)))) | (refine zAR rfl rfl rfl rfl rfl rfl (fun _ _ q => h1 _ q.below) ?_; rintro g -; dsimp only [List.cons_append, List.nil_append]) | (refine zAR rfl rfl rfl rfl rfl rfl (fun _ _ q => h2 _ q.below g (zBG q.own (Below.refl _ _) rfl)) ?_; rintro ⟨⟨gn, L⟩, ⟨gm, M⟩, gh⟩ ⟨hL, hM⟩; dsimp only [List.cons_append, List.nil_append]) | refine zh rfl rfl rfl rfl rfl rfl ?_ | refine zr rfl rfl rfl rfl rfl ?_ | (refine zj rfl rfl rfl rfl rfl ?_; refine And.intro rfl (And.intro (by first | decide | exact Nat.le_of_ble_eq_true rfl | (simp; omega)) ⟨_, rfl, ?_⟩)) | (refine zt rfl rfl rfl rfl (fun b => ?_)) | (refine zAD rfl rfl rfl rfl rfl rfl (fun b => ?_))) | (with_reducible first | refine zH ?_ | refine zB ?_ | refine zD ?_ | refine zA ?_ | refine zU ?_ | refine zQ ?_) | ((with_reducible refine zF ?_ ?_); (· exact rfl))))
  simp only at hL hM
  have hro : zDx L M (zAA c) := zJO ok0 hL hM (by omega) (by omega)
  have hLl : L.length = c.beds.length := by have := congrArg List.length hL; rw [zBc] at this; simpa using this
  have hMl : M.length = c.beds.length := by have := congrArg List.length hM; simpa [zCa] using this
  have hLr : ∀ s ∈ L, s.xs.length = c.hours.length := fun s hs => zFt _ (by rw [← hL]; exact List.mem_map_of_mem hs)
  have hMr : ∀ s ∈ M, s.xs.length = c.hours.length := fun s hs => ok0.mr _ (by show _ ∈ zCa c; rw [← hM]; exact List.mem_map_of_mem hs)
  rename_i b1
  obtain ⟨b6, hb6⟩ : ∃ x, x = b := ⟨_, rfl⟩
  subst hb6
  refine zq (ι := Nat) [1, 6, 26] rfl (fun y => y ≤ c.hours.length ∧ shortF c c.hours.length 0 = shortF c (c.hours.length - y) y) (fun y => [(27, .int .i64 (y : Int))]) (fun y => [.zA1 zn (rowOf encI 1 3) gn L, .zA1 zn (rowOf zAr 1 4) gm M, .row encI 1 3 (.slice (some ⟨gh, 0, none⟩) c.hours.length c.hours.length) (zAA c), .blk b1 (zM c A ca B cb C cc), .blk b6 (zA5 (some ⟨gn, 0, none⟩) c.beds.length c.beds.length (some ⟨gm, 0, none⟩) c.beds.length c.beds.length (some ⟨gh, 0, none⟩) c.hours.length c.hours.length)]) (fun y => c.hours.length - y) 0 ⟨Nat.zero_le _, rfl⟩ (by (first | exact lK1 | (repeat (first | exact lK1 | (refine zK rfl ?_))))) (by (repeat (first | exact oK1 _ | (refine oK2 (by (repeat (first | exact tK1 _ _ | apply tK2))) ?_)))) ?_
  rintro y ⟨hy, hF⟩
  simp only [zAw, zM, zA5, List.cons_append, List.nil_append]
  by_cases hyl : y < c.hours.length
  ·have hp : 2 ^ y ≤ 2 ^ 12 := Nat.pow_le_pow_right (by omega) (by omega)
   have hsh := fun W (a1 : zCd encI 1 W (some ⟨gn, 0, none⟩) L) (a2 : zCd zAr 1 W (some ⟨gm, 0, none⟩) M) (a3 : zp encI 1 W (some ⟨gh, 0, none⟩) (zAA c)) m (hm : m < 1000000) => zMQ L (some ⟨gn, 0, none⟩) c.beds.length M (some ⟨gm, 0, none⟩) c.beds.length (zAA c) (some ⟨gh, 0, none⟩) c.hours.length y m W a1 a2 a3 hro hm (fun s hs => by rw [hLr s hs]; exact hyl) (fun s hs => by rw [hMr s hs]; exact hyl) (by omega)
   rw [hL, hM, hLl, hMl, hhl] at hsh
   have hsB : ∀ m, decide (0 < zC9 (zAP c) (zCa c) (zAA c) y m) = zCK c y m := fun _ => rfl
   simp only [hsB] at hsh
   unfold zA5 at hsh
   generalize hP : 2 ^ y = N at hp
   (repeat' (first | ((with_reducible refine zG ?_); first | refine zE rfl rfl rfl rfl rfl ?_ | refine zC rfl rfl rfl rfl rfl ?_ | (refine zR rfl rfl rfl rfl rfl rfl rfl (fun h => ?_) (fun h => ?_) <;> (dsimp only [cmpP] at h; (try (exfalso; omega)))) | refine zAL rfl rfl rfl (e_shl1 rfl rfl rfl (by omega)) ?_) | (with_reducible first | refine zH ?_ | refine zB ?_ | refine zD ?_ | refine zA ?_ | refine zU ?_ | refine zQ ?_) | ((with_reducible refine zI ?_ ?_); (· exact rfl))))
   refine zD2 (α := zy Int) zn 1 38 ?_
   refine u_allNil (rowOf encI 1 3) ?_
   refine zq (ι := Nat × Option Addr × Nat × List (zy Int)) [1, 6, 7, 26, 27, 31] rfl (fun p => p.1 ≤ N ∧ p.2.2.2.map (·.xs) = zCH c y p.1) (fun p => [(32, .int .i64 (p.1 : Int)), (8, .slice p.2.1 p.2.2.2.length p.2.2.1)]) (fun p => [.row zn 1 38 (.slice p.2.1 p.2.2.2.length p.2.2.1) p.2.2.2, .all (p.2.2.2.map (rowOf encI 1 3)), .zA1 zn (rowOf encI 1 3) gn L, .zA1 zn (rowOf zAr 1 4) gm M, .row encI 1 3 (.slice (some ⟨gh, 0, none⟩) c.hours.length c.hours.length) (zAA c), .blk b1 (zM c A ca B cb C cc), .blk b6 (zA5 (some ⟨gn, 0, none⟩) c.beds.length c.beds.length (some ⟨gm, 0, none⟩) c.beds.length c.beds.length (some ⟨gh, 0, none⟩) c.hours.length c.hours.length)]) (fun p => N - p.1) (0, none, 0, []) ⟨Nat.zero_le _, rfl⟩ (by (first | exact lK1 | (repeat (first | exact lK1 | (refine zK rfl ?_))))) (by (repeat (first | exact oK1 _ | (refine oK2 (by (repeat (first | exact tK1 _ _ | apply tK2))) ?_)))) ?_
   rintro ⟨k, A1, c1, S⟩ ⟨hk, hS⟩
   simp only at hk hS
   simp only [zAw, zM, zA5, List.cons_append, List.nil_append]
   have hSl : S.length ≤ k := by have := congrArg List.length hS; have := zNn c y k; simp at *; omega
   have hSr : ∀ s ∈ S, s.xs.length ≤ 12 := fun s hs => by
    have h9 : s.xs ∈ zCH c y k := by rw [← hS]; exact List.mem_map_of_mem hs
    obtain ⟨m, _, e⟩ := List.mem_map.1 h9
    rw [← e]
    have := zH3 m y
    omega
   by_cases hkl : k < N
   ·have hs1 := fun W a1 a2 a3 => hsh W a1 a2 a3 k (by omega)
    cases hz : zCK c y k with
    | false =>
     rw [hz] at hs1
     (repeat' (first | ((with_reducible refine zG ?_); first | refine zE rfl rfl rfl rfl rfl ?_ | refine zC rfl rfl rfl rfl rfl ?_ | (refine zJ rfl rfl rfl rfl rfl ?_; refine ⟨_, rfl, ?_⟩) | (refine zR rfl rfl rfl rfl rfl rfl rfl (fun h => ?_) (fun h => ?_) <;> (dsimp only [cmpP] at h; (try (exfalso; omega)))) | refine zY rfl rfl rfl rfl rfl rfl (fun _ _ q => hs1 _ (zCW q.own (by (repeat (first | exact tK1 _ _ | apply tK2)))) (zCW q.own (by (repeat (first | exact tK1 _ _ | apply tK2)))) (zDt q.own (by (repeat (first | exact tK1 _ _ | apply tK2))))) ?_ | refine zAe rfl rfl rfl rfl rfl ?_ | refine zg rfl rfl rfl rfl rfl rfl (by omega) ?_) | (with_reducible first | refine zH ?_ | refine zB ?_ | refine zD ?_ | refine zA ?_ | refine zU ?_ | refine zQ ?_ | refine zk ?_ | refine zT ?_ | refine zW ?_) | ((with_reducible refine zI ?_ ?_); (· exact rfl))))
     exact ze (ι := Nat × Option Addr × Nat × List (zy Int)) (k + 1, A1, c1, S) (by exact ⟨by simp only; omega, by simp only; rw [setsX_no hz]; exact hS⟩) (by simp only; omega) (by (first | exact lK1 | (repeat (first | exact lK1 | (refine zK rfl ?_))))) (by (repeat (first | exact oK1 _ | (refine oK2 (by (repeat (first | exact tK1 _ _ | apply tK2))) ?_))))
    | true =>
     rw [hz] at hs1
     (repeat' (first | ((with_reducible refine zG ?_); first | refine zE rfl rfl rfl rfl rfl ?_ | refine zC rfl rfl rfl rfl rfl ?_ | (refine zJ rfl rfl rfl rfl rfl ?_; refine ⟨_, rfl, ?_⟩) | (refine zR rfl rfl rfl rfl rfl rfl rfl (fun h => ?_) (fun h => ?_) <;> (dsimp only [cmpP] at h; (try (exfalso; omega)))) | refine zY rfl rfl rfl rfl rfl rfl (fun _ _ q => hs1 _ (zCW q.own (by (repeat (first | exact tK1 _ _ | apply tK2)))) (zCW q.own (by (repeat (first | exact tK1 _ _ | apply tK2)))) (zDt q.own (by (repeat (first | exact tK1 _ _ | apply tK2))))) ?_ | (refine zAR rfl rfl rfl rfl rfl rfl (fun _ _ q => ones_any _ _) ?_; rintro m0 hm0; dsimp only [List.cons_append, List.nil_append]) | refine zJE rfl rfl rfl rfl rfl (fun _ => ?_) | refine zNb encI rfl rfl rfl rfl rfl rfl rfl rfl rfl rfl (by omega) (fun gl => ?_) | refine zAe rfl rfl rfl rfl rfl ?_) | (with_reducible first | refine zH ?_ | refine zB ?_ | refine zD ?_ | refine zA ?_ | refine zU ?_ | refine zQ ?_) | ((with_reducible refine zI ?_ ?_); (· exact rfl)) | ((with_reducible refine zF ?_ ?_); (· exact rfl))))
     refine zq (ι := Nat × Option Addr × Nat) [1, 6, 7, 8, 9, 26, 27, 31, 32, 44] rfl (fun p => p.1 ≤ y) (fun p => [(45, .int .i64 (p.1 : Int)), (10, .slice p.2.1 (zDG k p.1).length p.2.2)]) (fun p => [.row encI 1 3 (.slice p.2.1 (zDG k p.1).length p.2.2) (zDG k p.1), .row zn 1 38 (.slice A1 S.length c1) S, .all (S.map (rowOf encI 1 3)), .zA1 zn (rowOf encI 1 3) gn L, .zA1 zn (rowOf zAr 1 4) gm M, .row encI 1 3 (.slice (some ⟨gh, 0, none⟩) c.hours.length c.hours.length) (zAA c), .blk b1 (zM c A ca B cb C cc), .blk b6 (zA5 (some ⟨gn, 0, none⟩) c.beds.length c.beds.length (some ⟨gm, 0, none⟩) c.beds.length c.beds.length (some ⟨gh, 0, none⟩) c.hours.length c.hours.length)]) (fun p => y - p.1) (0, some ⟨gl, 0, none⟩, m0) (Nat.zero_le _) (by (first | exact lK1 | (repeat (first | exact lK1 | (refine zK rfl ?_))))) (by (repeat (first | exact oK1 _ | (refine oK2 (by (repeat (first | exact tK1 _ _ | apply tK2))) ?_)))) ?_
     rintro ⟨j, A2, c2⟩ hj
     simp only at hj
     simp only [zAw, zM, zA5, List.cons_append, List.nil_append]
     have hsl := zH3 k j
     by_cases hjl : j < y
     ·have hle : k >>> j ≤ k := Nat.shiftRight_le k j
      have hb1 := zKd (m := k) (h := j)
      cases hbit : k.testBit j with
      | true =>
       have h9 : (k >>> j) % 2 = 1 := by rw [hbit] at hb1; exact of_decide_eq_true hb1.symm
       have e1 := zKv hbit
       (repeat' (first | ((with_reducible refine zG ?_); first | refine zE rfl rfl rfl rfl rfl ?_ | refine zC rfl rfl rfl rfl rfl ?_ | (refine zR rfl rfl rfl rfl rfl rfl rfl (fun h => ?_) (fun h => ?_) <;> (dsimp only [cmpP] at h; (try (exfalso; omega)))) | refine zAL rfl rfl rfl (e_shr rfl rfl rfl (by omega)) ?_ | refine zAL rfl rfl rfl (zKV rfl rfl rfl (by omega)) ?_ | (refine zBi (enc := encI) [_] rfl rfl rfl rfl rfl (by (repeat (first | exact tK1 _ _ | apply tK2))) rfl rfl (zAk (by exact rfl)) (by refine ⟨?_, by decide⟩; (try simp only [List.length_append, List.length_cons, List.length_nil]); omega) (fun A' c' => ?_)) | refine zg rfl rfl rfl rfl rfl rfl (by omega) ?_ | (refine zz rfl rfl rfl rfl rfl ?_; refine ⟨rfl, _, rfl, fun b => ?_⟩)) | (with_reducible first | refine zH ?_ | refine zB ?_ | refine zD ?_ | refine zA ?_ | refine zU ?_ | refine zQ ?_ | refine zi ?_) | ((with_reducible refine zI ?_ ?_); (· exact rfl))))
       refine ze (ι := Nat × Option Addr × Nat) (j + 1, A', c') (by simp only; omega) (by simp only; omega) (by simp only [e1]; (first | exact lK1 | (repeat (first | exact lK1 | (refine zK rfl ?_))))) ?_
       simp only [e1]
       (repeat (first | exact oK1 _ | (refine oK2 (by (repeat (first | exact tK1 _ _ | apply tK2))) ?_)))
      | false =>
       have h9 : (k >>> j) % 2 = 0 := by
        rw [hbit] at hb1
        exact (Nat.mod_two_eq_zero_or_one (k >>> j)).resolve_right (of_decide_eq_false hb1.symm)
       have e1 := zM2 hbit
       (repeat' (first | ((with_reducible refine zG ?_); first | refine zE rfl rfl rfl rfl rfl ?_ | refine zC rfl rfl rfl rfl rfl ?_ | (refine zR rfl rfl rfl rfl rfl rfl rfl (fun h => ?_) (fun h => ?_) <;> (dsimp only [cmpP] at h; (try (exfalso; omega)))) | refine zAL rfl rfl rfl (e_shr rfl rfl rfl (by omega)) ?_ | refine zAL rfl rfl rfl (zKV rfl rfl rfl (by omega)) ?_ | refine zg rfl rfl rfl rfl rfl rfl (by omega) ?_) | (with_reducible first | refine zH ?_ | refine zB ?_ | refine zD ?_ | refine zA ?_ | refine zU ?_ | refine zQ ?_ | refine zi ?_) | ((with_reducible refine zI ?_ ?_); (· exact rfl)) | ((with_reducible refine zF ?_ ?_); (· exact rfl))))
       refine ze (ι := Nat × Option Addr × Nat) (j + 1, A2, c2) (by simp only; omega) (by simp only; omega) (by simp only [e1]; (first | exact lK1 | (repeat (first | exact lK1 | (refine zK rfl ?_))))) ?_
       simp only [e1]
       (repeat (first | exact oK1 _ | (refine oK2 (by (repeat (first | exact tK1 _ _ | apply tK2))) ?_)))
     ·obtain rfl : j = y := by omega
      generalize hSL : zDG k j = sl at *
      (repeat' (first | ((with_reducible refine zG ?_); first | refine zE rfl rfl rfl rfl rfl ?_ | refine zC rfl rfl rfl rfl rfl ?_ | (refine zR rfl rfl rfl rfl rfl rfl rfl (fun h => ?_) (fun h => ?_) <;> (dsimp only [cmpP] at h; (try (exfalso; omega)))) | (refine zBi (enc := zn) [(⟨A2, sl, c2⟩ : zy Int)] rfl rfl rfl rfl rfl (by (repeat (first | exact tK1 _ _ | apply tK2))) rfl rfl (zAk (by exact rfl)) (by refine ⟨?_, by decide⟩; (try simp only [List.length_append, List.length_cons, List.length_nil]); omega) (fun A' c' => ?_)) | refine zg rfl rfl rfl rfl rfl rfl (by omega) ?_ | (refine zz rfl rfl rfl rfl rfl ?_; refine ⟨rfl, _, rfl, fun b => ?_⟩)) | (with_reducible first | refine zH ?_ | refine zB ?_ | refine zD ?_ | refine zA ?_ | refine zk ?_ | refine zi ?_ | refine zT ?_ | refine zW ?_) | ((with_reducible refine zF ?_ ?_); (· exact rfl))))
      refine zNd (f := rowOf encI 1 3) (L := S) (s := ⟨A2, sl, c2⟩) (by (repeat (first | exact tK1 _ _ | apply tK2))) (by (repeat (first | exact tK1 _ _ | apply tK2))) ?_
      refine ze (ι := Nat × Option Addr × Nat × List (zy Int)) (k + 1, A', c', S ++ [⟨A2, sl, c2⟩]) (by
       refine ⟨by simp only; omega, ?_⟩
       simp only
       rw [zNm hz, List.map_append, hS, hSL]
       rfl) (by simp only; omega) (by (first | exact lK1 | (repeat (first | exact lK1 | (refine zK rfl ?_))))) (by (repeat (first | exact oK1 _ | (refine oK2 (by (repeat (first | exact tK1 _ _ | apply tK2))) ?_))))
   ·obtain rfl : k = N := by omega
    by_cases hpos : 0 < S.length
    ·have hmn : zGL (zCH c y (2 ^ y)) = some (minS S).xs := by rw [hP, ← hS]; exact minS_xs hpos
     have hF2 : shortF c c.hours.length 0 = ((y : Int), (minS S).xs, 0) := by
      rw [hF, show c.hours.length - y = (c.hours.length - y - 1) + 1 by omega]; exact zHF hmn
     rw [hF2]
     have hfi := fun W aT => zJn S A1 c1 W aT (by omega) (fun s hs => by have := hSr s hs; omega)
     rw [decide_eq_true hpos] at hfi
     (repeat' (first | ((with_reducible refine zG ?_); first | refine zE rfl rfl rfl rfl rfl ?_ | refine zC rfl rfl rfl rfl rfl ?_ | (refine zR rfl rfl rfl rfl rfl rfl rfl (fun h => ?_) (fun h => ?_) <;> (dsimp only [cmpP] at h; (try (exfalso; omega)))) | refine zY rfl rfl rfl rfl rfl rfl (fun _ _ q => hfi _ (zKr q.own (by (repeat (first | exact tK1 _ _ | apply tK2))) (by (repeat (first | exact tK1 _ _ | apply tK2))))) ?_ | refine zh rfl rfl rfl rfl rfl rfl ?_) | (with_reducible first | refine zH ?_ | refine zB ?_ | refine zD ?_ | refine zA ?_ | refine zX ?_ | refine zZ ?_ | refine zk ?_ | refine zAi ?_ | refine zT ?_ | refine zW ?_) | ((with_reducible refine zI ?_ ?_); (· exact rfl)) | ((with_reducible refine zF ?_ ?_); (· exact rfl))))
     exact zV (by (exact zP.cons (by exact zf.tmp rfl) (zP.cons (by exact zf.tmp rfl) (zP.cons (by exact zf.tmp rfl) zP.nil)))) ((minS S).A, (minS S).c) trivial rfl (fun _ h => ((zLE (f := rowOf encI 1 3) (minS_in hpos) (by (repeat (first | exact tK1 _ _ | apply tK2))) h).zFq (xs := (minS S).xs) (by (repeat (first | exact tK1 _ _ | apply tK2)))).sub (by (repeat (first | exact oK1 _ | (refine oK2 (by (repeat (first | exact tK1 _ _ | apply tK2))) ?_)))))
    ·obtain rfl : S = [] := List.eq_nil_of_length_eq_zero (by omega)
     have hmn : zGL (zCH c y (2 ^ y)) = none := by rw [hP, ← hS]; rfl
     have hF2 : shortF c (c.hours.length - y) y = shortF c (c.hours.length - (y + 1)) (y + 1) := by
      rw [show c.hours.length - y = (c.hours.length - (y + 1)) + 1 by omega]; exact zHG hmn
     have hfi := fun W aT => zJn [] A1 c1 W aT (by simp) (fun s hs => by cases hs)
     rw [show minS [] = zAp from rfl] at hfi
     (repeat' (first | ((with_reducible refine zG ?_); first | refine zE rfl rfl rfl rfl rfl ?_ | refine zC rfl rfl rfl rfl rfl ?_ | (refine zR rfl rfl rfl rfl rfl rfl rfl (fun h => ?_) (fun h => ?_) <;> (dsimp only [cmpP] at h; (try (exfalso; omega)))) | refine zY rfl rfl rfl rfl rfl rfl (fun _ _ q => hfi _ (zKr (L := []) q.own (by (repeat (first | exact tK1 _ _ | apply tK2))) (by (repeat (first | exact tK1 _ _ | apply tK2))))) ?_ | refine zh rfl rfl rfl rfl rfl rfl ?_ | refine zg rfl rfl rfl rfl rfl rfl (by omega) ?_) | (with_reducible first | refine zH ?_ | refine zB ?_ | refine zD ?_ | refine zA ?_ | refine zU ?_ | refine zk ?_ | refine zi ?_ | refine zT ?_ | refine zW ?_) | ((with_reducible refine zF ?_ ?_); (· exact rfl))))
     exact ze (ι := Nat) (y + 1) (by exact ⟨by omega, by rw [hF, hF2]⟩) (by omega) (by (first | exact lK1 | (repeat (first | exact lK1 | (refine zK rfl ?_))))) (by (repeat (first | exact oK1 _ | (refine oK2 (by (repeat (first | exact tK1 _ _ | apply tK2))) ?_))))
  ·obtain rfl : y = c.hours.length := by omega
   have hF2 : shortF c c.hours.length 0 = (0, [], 6) := by rw [hF, Nat.sub_self]; rfl
   rw [hF2]
   (repeat' (first | ((with_reducible refine zG ?_); first | refine zC rfl rfl rfl rfl rfl ?_ | (refine zR rfl rfl rfl rfl rfl rfl rfl (fun h => ?_) (fun h => ?_) <;> (dsimp only [cmpP] at h; (try (exfalso; omega))))) | (with_reducible first | refine zH ?_ | refine zB ?_ | refine zD ?_ | refine zA ?_ | refine zX ?_ | refine zk ?_ | refine zT ?_ | refine zW ?_) | ((with_reducible refine zF ?_ ?_); (· exact rfl))))
   exact zV (by (exact zP.cons (by exact zf.tmp rfl) (zP.cons (by exact zf.tmp rfl) (zP.cons (by exact zf.tmp rfl) zP.nil)))) (none, 0) trivial rfl (fun _ h => zGn h)
 ·have h1 := fun W (hb : Below w.heap.size w W) => zE0 c A ca B cb C cc W (h.below hb) hs h0
  have hX : zC8 c = (0, [], zAh c) := by unfold zC8; rw [if_neg h0]
  rw [hX]
  unfold zAS at h1 ⊢
  generalize zAh c = e at *
  unfold zM at h1 ⊢
  (refine zL (n := 72) Tryz.func32 rfl rfl rfl ?_)
  (repeat' (first | ((with_reducible refine zG ?_); first | refine zE rfl rfl rfl rfl rfl ?_ | refine zC rfl rfl rfl rfl rfl ?_ | (refine zJ rfl rfl rfl rfl rfl ?_; refine ⟨_, rfl, ?_⟩) | (refine zR rfl rfl rfl rfl rfl rfl rfl (fun h => ?_) (fun h => ?_) <;> (dsimp only [cmpP] at h; (try (exfalso; omega)))) | refine zY rfl rfl rfl rfl rfl rfl (fun _ _ q => h1 _ q.below) ?_ | refine zh rfl rfl rfl rfl rfl rfl ?_ | (refine zAD rfl rfl rfl rfl rfl rfl (fun b => ?_))) | (with_reducible first | refine zH ?_ | refine zB ?_ | refine zD ?_ | refine zA ?_ | refine zX ?_ | refine zZ ?_) | ((with_reducible refine zI ?_ ?_); (· exact rfl))))
  exact zV (by (exact zP.cons (by exact zf.tmp rfl) (zP.cons (by exact zf.tmp rfl) (zP.cons (by exact zf.tmp rfl) zP.nil)))) (none, 0) trivial rfl (fun _ h => zGn h)
end Go.Proofs.YtdigopgncfhiaaaGreatDoor
namespace Go.Proofs.YtdigopgncfhiaaaGreatDoor
open Go.RowKit
set_option maxRecDepth 20000
def zJw (L F : List (zy Int)) (q k : Nat) : Prop := F.length = L.length ∧ ∀ (i : Nat) (s : zy Int), i < k → L[i]? = some s → ∃ f : zy Int, F[i]? = some f ∧ f.xs = s.xs.take q ∧ ∀ W, zp encI 1 W s.A s.xs → zp encI 1 W f.A f.xs
theorem zJw.zero {L : List (zy Int)} {q : Nat} : zJw L (List.replicate L.length zAp) q 0 := ⟨by simp, fun i s h => absurd h (by omega)⟩
theorem zJw.at_ {L F : List (zy Int)} {q i : Nat} {f : zy Int} (h : zJw L F q L.length) (hf : F[i]? = some f) : ∃ s, L[i]? = some s ∧ f.xs = s.xs.take q ∧ ∀ W, zp encI 1 W s.A s.xs → zp encI 1 W f.A f.xs := by
 have hi : i < L.length := by rw [← h.1]; exact (List.getElem?_eq_some_iff.1 hf).1
 obtain ⟨g, hg, h2⟩ := h.2 i L[i] hi (List.getElem?_eq_getElem hi)
 rw [hf] at hg; cases hg
 exact ⟨L[i], List.getElem?_eq_getElem hi, h2⟩
theorem zJw.xs {L F : List (zy Int)} {q : Nat} (h : zJw L F q L.length) : F.map (·.xs) = (L.map (·.xs)).map fun r => r.take q := by
 refine List.ext_getElem? fun i => ?_
 rw [List.getElem?_map, List.getElem?_map, List.getElem?_map]
 cases hf : F[i]? with
 | none =>
  have : L[i]? = none := List.getElem?_eq_none (by rw [← h.1]; exact List.getElem?_eq_none_iff.1 hf)
  rw [this]; rfl
 | some f =>
  obtain ⟨s, hs, e, _⟩ := h.at_ hf
  rw [hs]; simp [e]
end Go.Proofs.YtdigopgncfhiaaaGreatDoor
namespace Go.Proofs.YtdigopgncfhiaaaGreatDoor
open Go.RowKit
set_option maxRecDepth 20000
theorem Ret.conv {α β : Type} {P : Program} {f : FuncId} {args : List Value} {w : World} {V : α → Value} {E : α → List Ent} {p : α → Prop} {V' : β → Value} {E' : β → List Ent} {p' : β → Prop} (h : Ret P f args w V E p) (hc : ∀ x, p x → ∃ y, p' y ∧ V x = V' y ∧ ∀ w', Own w.heap.size w' (E x) → Own w.heap.size w' (E' y)) : Ret P f args w V' E' p' := by
 refine Ret.of (Calls.mono h.calls fun e w' q => ?_)
 obtain ⟨x, hp, he, hb, hE⟩ := q
 obtain ⟨y, hp', hV, hO⟩ := hc x hp
 exact ⟨y, hp', by rw [he, hV], hb, hO w' hE⟩
def zy.sli (s : zy Int) : Sli := ⟨s.A, s.xs, s.c⟩
theorem sli_xs (L : List (zy Int)) : (L.map zy.sli).map Sli.xs = L.map (·.xs) := by rw [List.map_map]; rfl
theorem own_plan {g e base : Nat} {L : List (zy Int)} {w : World} {H : List Ent} (h : Own base w (.zA1 zn (rowOf encI 1 e) g L :: H)) : Own base w [.sl zBN 1 (some ⟨g, 0, none⟩) (L.map zy.sli), .rows (L.map zy.sli)] := by
 have h1 : Own base w ((.arr zn 1 g L :: L.map (rowOf encI 1 e)) ++ H) := zBH.2 h
 have ht := zCW h (Take.here _ _)
 have hr : ∀ s ∈ L.map zy.sli, ∃ z ∈ L, s = z.sli := fun s hs => by
  obtain ⟨z, hz, rfl⟩ := List.mem_map.1 hs
  exact ⟨z, hz, rfl⟩
 have hrow : ∀ z ∈ L, rowOf encI 1 e z ∈ ((.arr zn 1 g L :: L.map (rowOf encI 1 e)) ++ H) := fun z hz => by
  simp only [List.cons_append, List.mem_cons, List.mem_append, List.mem_map]
  exact .inr (.inl ⟨z, hz, rfl⟩)
 have hS : ∀ (z : zy Int) (b o : Nat), z.A = some ⟨b, o, none⟩ → (rowOf encI 1 e z).S b := fun z b o hA => by
  show (Value.slice z.A z.xs.length z.c).ownBlock = some b
  rw [hA]; rfl
 refine ⟨fun f hf => ?_, fun f hf b hb => ?_, ?_⟩
 ·simp only [List.mem_cons, List.not_mem_nil, or_false] at hf
  rcases hf with rfl | rfl
  ·intro i x hx
   rw [List.getElem?_map] at hx
   cases hl : L[i]? with
   | none => rw [hl] at hx; cases hx
   | some y =>
    rw [hl] at hx
    simp at hx
    subst hx
    exact ht.p i y hl
  ·intro s hs
   obtain ⟨z, hz, rfl⟩ := hr s hs
   exact ht.rows z hz
 ·simp only [List.mem_cons, List.not_mem_nil, or_false] at hf
  rcases hf with rfl | rfl
  ·obtain ⟨o, ho⟩ := hb
   cases ho
   exact h1.foot (.arr zn 1 g L) (by simp) g rfl
  ·obtain ⟨s, hs, o, ho⟩ := hb
   obtain ⟨z, hz, rfl⟩ := hr s hs
   exact h1.foot _ (hrow z hz) b (hS z b o ho)
 ·refine List.Pairwise.cons (fun f hf b hb hb' => ?_) (List.Pairwise.cons (fun f hf => by cases hf) List.Pairwise.nil)
  simp only [List.mem_singleton] at hf
  subst hf
  obtain ⟨o, ho⟩ := hb
  cases ho
  obtain ⟨s, hs, o, ho⟩ := hb'
  obtain ⟨z, hz, rfl⟩ := hr s hs
  have h2 := List.pairwise_cons.1 h1.apart
  exact h2.1 (rowOf encI 1 e z) (List.mem_append.2 (.inl (List.mem_map.2 ⟨z, hz, rfl⟩))) g rfl (hS z g o ho)
theorem zHO {base : Nat} {w : World} : Own base w [.sl zBN 1 none [], .rows []] := by
 refine ⟨fun f hf => ?_, fun f hf b hb => ?_, ?_⟩
 ·simp only [List.mem_cons, List.not_mem_nil, or_false] at hf
  rcases hf with rfl | rfl
  ·intro i x hx; cases hx
  ·intro s hs; cases hs
 ·simp only [List.mem_cons, List.not_mem_nil, or_false] at hf
  rcases hf with rfl | rfl
  ·obtain ⟨o, ho⟩ := hb; cases ho
  ·obtain ⟨s, hs, _⟩ := hb; cases hs
 ·exact List.Pairwise.cons (fun f hf b hb hb' => by obtain ⟨o, ho⟩ := hb; cases ho) (List.Pairwise.cons (fun f hf => by cases hf) List.Pairwise.nil)
theorem minX_mem : ∀ {l : List (List Int)} {m : List Int}, zGL l = some m → m ∈ l
 | [], m, h => by cases h
 | s :: r, m, h => by
  have key : ∀ (r : List (List Int)) (s : List Int), r.foldl zIT s = s ∨ r.foldl zIT s ∈ r := by
   intro r
   induction r with
   | nil => intro s; exact .inl rfl
   | cons x r ih =>
    intro s
    simp only [List.foldl_cons]
    rcases ih (zIT s x) with h | h
    ·rw [h]; unfold zIT; split
     ·exact .inr List.mem_cons_self
     ·exact .inl rfl
    ·exact .inr (List.mem_cons_of_mem _ h)
  cases h
  rcases key r s with h | h
  ·rw [h]; exact List.mem_cons_self
  ·exact List.mem_cons_of_mem _ h
theorem zNq {c : Cov} (h : zAh c ≠ 0) : zCz c = ([], zAh c) := by unfold zCz; rw [if_neg h]
theorem zIK {c : Cov} (h : zAh c = 0) (h2 : zF0 (zAP c) (zCa c) (zAA c) = false) : zCz c = ([], 8) := by unfold zCz; rw [if_pos h, h2]; rfl
theorem zGG {c : Cov} (h : zAh c = 0) (h2 : zF0 (zAP c) (zCa c) (zAA c) = true) : zCz c = ((zCp c.beds.length c.hours.length (zBM c)).out, 0) := by unfold zCz; rw [if_pos h, h2]; rfl
theorem zG2 (c : Cov) (A : Option Addr) (ca : Nat) (B : Option Addr) (cb : Nat) (C : Option Addr) (cc : Nat) (w : World) (h : zAq w c A B C) (hs : Small c) (hG : InC w 0 0 zCe) :
  Ret Tryz.prog 25 [zAS c A ca B cb C cc] w (fun p : (Option Addr × Nat) × List Sli => .tuple #[.slice p.1.1 p.2.length p.1.2, .int .i64 (zCz c).2]) (fun p => [.sl zBN 1 p.1.1 p.2, .rows p.2]) (fun p => p.2.map Sli.xs = (zCz c).1) := by
 by_cases h0 : zAh c = 0
 ·cases hc : zF0 (zAP c) (zCa c) (zAA c) with
  | true =>
   have hl : (zCz c).1.length = c.hours.length := by
    have hf := zBg h0
    rw [zGG h0 hc]
    exact (zIe (zFB hf hs (zFX hf)) c.hours.length (Nat.le_refl _)).ol
   refine (Two.zOB c A ca B cb C cc w h hs hG h0 hc).conv fun p hp => ⟨((some ⟨p.1, 0, none⟩, c.hours.length), p.2.map zy.sli), by simp only; rw [sli_xs]; exact hp, ?_, fun w' => own_plan⟩
   have : p.2.length = c.hours.length := by have := congrArg List.length hp; rw [hl] at this; simpa using this
   simp only [List.length_map, this]
   rw [zGG h0 hc]
  | false =>
   have h1 := zMS c A ca B cb C cc w h hs hG h0 hc
   unfold Gv at h1
   rw [zIK h0 hc]
   exact h1.conv fun _ _ => ⟨((none, 0), []), rfl, rfl, fun w' _ => zHO⟩
 ·have h1 := zOA c A ca B cb C cc w h hs h0
  unfold Gv at h1
  rw [zNq h0]
  exact h1.conv fun _ _ => ⟨((none, 0), []), rfl, rfl, fun w' _ => zHO⟩
end Go.Proofs.YtdigopgncfhiaaaGreatDoor
namespace Go.Proofs.YtdigopgncfhiaaaGreatDoor
variable {ro : Option Nat}
open Go.RowKit
set_option maxRecDepth 20000
def runE : List St := [⟨3, ⟨4000, 4100⟩, ⟨400, 420⟩, ⟨0, 0⟩, 0, 0⟩, ⟨5, ⟨2000, 2200⟩, ⟨150, 160⟩, ⟨1500, 1600⟩, 1, 0⟩, ⟨8, ⟨3000, 3000⟩, ⟨300, 330⟩, ⟨0, 0⟩, 0, 0⟩]
def zBW (crew : Int) : Cov := ⟨runE, [⟨⟨300, 310⟩, 1⟩, ⟨⟨290, 300⟩, 2⟩, ⟨⟨300, 300⟩, 0⟩], [⟨⟨2, 3⟩, 10, 2, true⟩, ⟨⟨4, 5⟩, 0, crew, true⟩, ⟨⟨1, 2⟩, 12, 2, false⟩], ⟨1, 2⟩, ⟨20, 25⟩, 3, 260, 200⟩
def zFZ : List (List Int) := [[0, 1], [1, 2], []]
theorem zFR (a b : Int) (w : World) : Gv Tryz.prog 36 [.int .i64 a, .int .i64 b] w (.agg #[.int .i64 a, .int .i64 b]) := by
 unfold Gv
 (refine zL (n := 8) Tryz.func36 rfl rfl rfl ?_)
 (repeat' (first | ((with_reducible refine zG ?_); first | refine zE rfl rfl rfl rfl rfl ?_ | (refine zj rfl rfl rfl rfl rfl ?_; refine And.intro rfl (And.intro (by first | decide | exact Nat.le_of_ble_eq_true rfl | (simp; omega)) ⟨_, rfl, ?_⟩)) | (refine zt rfl rfl rfl rfl (fun b => ?_)) | (refine zA4 rfl rfl rfl rfl rfl ?_; refine ⟨_, rfl, ?_⟩)) | (with_reducible first | refine zH ?_ | refine zB ?_ | refine zD ?_ | refine zA ?_ | refine zX ?_)))
 exact zV (by (exact zP.cons (by exact res1c rfl (by exact rfl)) zP.nil)) () trivial rfl (fun _ _ => Own.nil _ _)
theorem irun_any (w : World) : Ret Tryz.prog 89 [] w (fun g : Nat => .agg #[.slice (some ⟨g, 0, none⟩) 3 3]) (fun g => [.sl zBU 9 (some ⟨g, 0, none⟩) runE]) (fun _ => True) := by
 (refine zL (n := 13) Tryz.func89 rfl rfl rfl ?_)
 (repeat' (first | ((with_reducible refine zG ?_); first | refine zY rfl rfl rfl rfl rfl rfl (fun _ _ q => zFR _ _ _) ?_ | (refine zj rfl rfl rfl rfl rfl ?_; refine And.intro rfl (And.intro (by first | decide | exact Nat.le_of_ble_eq_true rfl | (simp; omega)) ⟨_, rfl, ?_⟩)) | (refine zt rfl rfl rfl rfl (fun b => ?_)) | (refine zA4 rfl rfl rfl rfl rfl ?_; refine ⟨_, rfl, ?_⟩) | (refine zz rfl rfl rfl rfl rfl ?_; refine ⟨rfl, _, rfl, fun b => ?_⟩)) | (with_reducible first | refine zH ?_ | refine zB ?_ | refine zD ?_ | refine zA ?_ | refine zX ?_)))
 exact zV (by (exact zP.cons (by exact res1c rfl (by exact rfl)) zP.nil)) b trivial rfl (fun _ h => (Own.zG9 (enc := zBU) (xs := runE) (b := b) (by (repeat (first | exact tK1 _ _ | apply tK2))) h).sub (by (repeat (first | exact oK1 _ | (refine oK2 (by (repeat (first | exact tK1 _ _ | apply tK2))) ?_)))))
theorem zNt {α : Type} (enc : α → List Value) (k : Nat) {base : Nat} {w : World} {H : List Ent} (h : Own base w H) : Own base w (.sl enc k none ([] : List α) :: H) := by
 refine ⟨fun e he => ?_, fun e he b hb => ?_, List.pairwise_cons.2 ⟨fun e _ b hb => (by obtain ⟨o, ho⟩ := hb; cases ho), h.apart⟩⟩
 ·rcases List.mem_cons.1 he with rfl | he
  ·intro i x hx; cases hx
  ·exact h.here e he
 ·rcases List.mem_cons.1 he with rfl | he
  ·obtain ⟨o, ho⟩ := hb; cases ho
  ·exact h.foot e he b hb
def Ent.zGH (g n : Nat) (A : Option Addr) (xss : List (List Int)) : Ent :=
 ⟨fun b => g ≤ b ∧ b < g + n, fun w => ∃ pl : List Sli, pl.map Sli.xs = xss ∧ zBK w A pl ∧ (∀ s ∈ pl, ∀ b o, s.A = some ⟨b, o, none⟩ → g ≤ b ∧ b < g + n) ∧ ∀ b o, A = some ⟨b, o, none⟩ → g ≤ b ∧ b < g + n,
  fun w w' hs h ⟨pl, h1, h2, h3, h4⟩ => ⟨pl, h1, ⟨(Ent.sl zBN 1 A pl).loc w w' hs (fun b hb => by obtain ⟨o, ho⟩ := hb; exact h b (h4 b o ho)) h2.p, (Ent.rows pl).loc w w' hs (fun b hb => by obtain ⟨s, hs, o, ho⟩ := hb; exact h b (h3 s hs b o ho)) h2.rows⟩, h3, h4⟩⟩
theorem zJU {w w' : World} {A : Option Addr} {pl : List Sli} {xss : List (List Int)} (hx : pl.map Sli.xs = xss) (hs : w.heap.size ≤ w'.heap.size) (h : Own w.heap.size w' [.sl zBN 1 A pl, .rows pl]) : Own w.heap.size w' [.zGH w.heap.size (w'.heap.size - w.heap.size) A xss] := by
 refine ⟨fun e he => ?_, fun e he b hb => ?_, List.pairwise_singleton _ _⟩
 ·simp only [List.mem_singleton] at he
  subst he
  refine ⟨pl, hx, ⟨h.here (.sl zBN 1 A pl) (by simp), h.here (.rows pl) (by simp)⟩, fun s hs b o ho => ?_, fun b o ho => ?_⟩
  ·have := h.foot (.rows pl) (by simp) b ⟨s, hs, o, ho⟩; omega
  ·have := h.foot (.sl zBN 1 A pl) (by simp) b ⟨o, ho⟩; omega
 ·simp only [List.mem_singleton] at he
  subst he
  obtain ⟨h1, h2⟩ := hb
  omega
theorem Ret.zGH {P : Program} {f : FuncId} {args : List Value} {w : World} {V : Value → Value} {xss : List (List Int)} (h : Ret P f args w (fun p : (Option Addr × Nat) × List Sli => V (.slice p.1.1 p.2.length p.1.2)) (fun p => [.sl zBN 1 p.1.1 p.2, .rows p.2]) (fun p => p.2.map Sli.xs = xss)) :
  Ret P f args w (fun z : Nat × Nat × Option Addr × Nat => V (.slice z.2.2.1 xss.length z.2.2.2)) (fun z => [.zGH z.1 z.2.1 z.2.2.1 xss]) (fun _ => True) := by
 refine Ret.of (Calls.mono h.calls fun e w' q => ?_)
 obtain ⟨x, hp, he, hb, hE⟩ := q
 refine ⟨(w.heap.size, w'.heap.size - w.heap.size, x.1.1, x.1.2), trivial, ?_, hb, zJU hp hb.size hE⟩
 have : x.2.length = xss.length := by rw [← hp, List.length_map]
 rw [he]; simp only [this]
theorem zKM (w : World) : Ret Tryz.prog 45 [] w (fun z : Nat × Nat × Option Addr => .slice z.2.2 3 3) (fun z => [.zGH z.1 z.2.1 z.2.2 zFZ]) (fun _ => True) := by
 have h1 : Ret Tryz.prog 45 [] w (fun p : Option Addr × List Sli => .slice p.1 3 3) (fun p => [.sl zBN 1 p.1 p.2, .rows p.2]) (fun p => p.2.map Sli.xs = zFZ) := by
  (refine zL (n := 4) Tryz.func45 rfl rfl rfl ?_)
  (repeat' (first | ((with_reducible refine zG ?_); first | refine zC rfl rfl rfl rfl rfl ?_ | (refine zz rfl rfl rfl rfl rfl ?_; refine ⟨rfl, _, rfl, fun b => ?_⟩)) | (with_reducible first | refine zH ?_ | refine zB ?_ | refine zD ?_ | refine zA ?_ | refine zX ?_)))
  rename_i b1 b2
  exact zV (by (exact zP.cons (by exact zf.tmp rfl) zP.nil)) (some ⟨b, 0, none⟩, [⟨some ⟨b1, 0, none⟩, [0, 1], 2⟩, ⟨some ⟨b2, 0, none⟩, [1, 2], 2⟩, ⟨none, [], 0⟩]) rfl rfl (fun w' h => by
   have h2 := Own.zG9 (enc := zBN) (k := 1) (b := b) (xs := [⟨some ⟨b1, 0, none⟩, [0, 1], 2⟩, ⟨some ⟨b2, 0, none⟩, [1, 2], 2⟩, ⟨none, [], 0⟩]) (by (repeat (first | exact tK1 _ _ | apply tK2))) h
   have h3 := Own.zG9 (enc := encI) (k := 1) (b := b1) (xs := [0, 1]) (by (repeat (first | exact tK1 _ _ | apply tK2))) h2
   have h4 := (Own.rows_nil h3).sub (H' := [.sl encI 1 (some ⟨b1, 0, none⟩) [0, 1], .rows [], .sl zBN 1 (some ⟨b, 0, none⟩) [⟨some ⟨b1, 0, none⟩, [0, 1], 2⟩, ⟨some ⟨b2, 0, none⟩, [1, 2], 2⟩, ⟨none, [], 0⟩], .blk b2 [.int .i64 1, .int .i64 2]]) (by (repeat (first | exact oK1 _ | (refine oK2 (by (repeat (first | exact tK1 _ _ | apply tK2))) ?_))))
   have h5 := Own.zH6 (c := 2) h4
   have h6 := (Own.zG9 (enc := encI) (k := 1) (b := b2) (xs := [1, 2]) (by (repeat (first | exact tK1 _ _ | apply tK2))) h5)
   have h7 := Own.zH6 (c := 2) (h6.sub (H' := [.sl encI 1 (some ⟨b2, 0, none⟩) [1, 2], .rows _, .sl zBN 1 (some ⟨b, 0, none⟩) [⟨some ⟨b1, 0, none⟩, [0, 1], 2⟩, ⟨some ⟨b2, 0, none⟩, [1, 2], 2⟩, ⟨none, [], 0⟩]]) (by (repeat (first | exact oK1 _ | (refine oK2 (by (repeat (first | exact tK1 _ _ | apply tK2))) ?_)))))
   have h8 := Own.zH6 (c := 0) (zNt encI 1 h7)
   exact h8.sub (by (repeat (first | exact oK1 _ | (refine oK2 (by (repeat (first | exact tK1 _ _ | apply tK2))) ?_)))))
 refine Ret.of (Calls.mono h1.calls fun e w' q => ?_)
 obtain ⟨x, hp, he, hb, hE⟩ := q
 exact ⟨(w.heap.size, w'.heap.size - w.heap.size, x.1), trivial, he, hb, zJU hp hb.size hE⟩
def zCX (xss : List (List Int)) : List Sli := xss.map fun x => ⟨none, x, 0⟩
theorem zM1 (xss : List (List Int)) : (zCX xss).map Sli.xs = xss := by simp [zCX, List.map_map, Function.comp_def]
theorem zD4 {g n : Nat} {A : Option Addr} {xss : List (List Int)} {base : Nat} {w : World} {H H' : List Ent} (h : Own base w H) (ht : Take H (.zGH g n A xss) H') : ∃ pl : List Sli, pl.map Sli.xs = (zCX xss).map Sli.xs ∧ zBK w A pl := by
 obtain ⟨pl, h1, h2, _, _⟩ := h.here _ ht.mem
 exact ⟨pl, by rw [h1, zM1], h2⟩
theorem zCi {pl : List Sli} {xss : List (List Int)} (h : pl.map Sli.xs = (zCX xss).map Sli.xs) : pl.length = xss.length := by
 have := congrArg List.length h
 simpa [zCX] using this
theorem zE6 {pl : List Sli} {xss : List (List Int)} {k : Nat} (h : pl.map Sli.xs = (zCX xss).map Sli.xs) (hr : ∀ r ∈ xss, r.length ≤ k) : ∀ s ∈ pl, s.xs.length ≤ k := fun s hs => by
 rw [zM1] at h
 exact hr _ (by rw [← h]; exact List.mem_map_of_mem hs)
end Go.Proofs.YtdigopgncfhiaaaGreatDoor
namespace Go.Proofs.YtdigopgncfhiaaaGreatDoor
variable {ro : Option Nat}
open Go.RowKit
set_option maxRecDepth 20000
instance encI_u : zBu encU 1 := ⟨fun _ => rfl, fun x => by simp [encU, Value.oneCell']⟩
end Go.Proofs.YtdigopgncfhiaaaGreatDoor
namespace Go.Proofs.YtdigopgncfhiaaaGreatDoor
open Go.ChangeShapes Go.WideShapes Go.ChangeAt Go.RowKit
section
variable {H : Type} {enc : TypeId × Value → H} {w : World} {held : Bool}
set_option maxRecDepth 20000 in
theorem zNv {base : Nat} {r : Reach} {v : Value} {dd : DataW H} {p : List MemPlace} (hv : Value.okWide Tryz.prog w r base 30 v) (h : DataW.Trod enc Tryz.prog w 0 (fun _ => true) held 30 v dd p) :
  ∃ (c : Cov) (A : Option Addr) (ca : Nat) (B : Option Addr) (cb : Nat) (C : Option Addr) (cc : Nat), v = zAS c A ca B cb C cc ∧ zAq w c A B C ∧ zGd c.t ∧ c.hours.length ≤ cc := by
 obtain ⟨cs, rfl, _⟩ := okWide_struct Tryz.underlying30 hv
 obtain ⟨fuel, hf⟩ := h
 have hl := zIF Tryz.underlying30 hf (k := 10) (by kernel_rfl)
 obtain ⟨n0, y0, h0⟩ := zAg Tryz.underlying30 hf (j := 0) rfl rfl (k := 1) (by kernel_rfl)
 obtain ⟨n1, y1, h1⟩ := zAg Tryz.underlying30 hf (j := 1) rfl rfl (k := 1) (by kernel_rfl)
 obtain ⟨n2, y2, h2⟩ := zAg Tryz.underlying30 hf (j := 2) rfl rfl (k := 1) (by kernel_rfl)
 obtain ⟨n3, y3, h3⟩ := zAg Tryz.underlying30 hf (j := 3) rfl rfl (k := 2) (by kernel_rfl)
 obtain ⟨n4, y4, h4⟩ := zAg Tryz.underlying30 hf (j := 4) rfl rfl (k := 2) (by kernel_rfl)
 obtain ⟨n5, y5, h5⟩ := zAg Tryz.underlying30 hf (j := 5) rfl rfl (k := 1) (by kernel_rfl)
 obtain ⟨n6, y6, h6⟩ := zAg Tryz.underlying30 hf (j := 6) rfl rfl (k := 1) (by kernel_rfl)
 obtain ⟨n7, y7, h7⟩ := zAg Tryz.underlying30 hf (j := 7) rfl rfl (k := 1) (by kernel_rfl)
 obtain ⟨n8, y8, h8⟩ := zAg Tryz.underlying24 h0 (j := 0) rfl rfl (k := 1) (by kernel_rfl)
 obtain ⟨A, t, ca, e0, s0, f0, _, _⟩ := zIE (en := zBU) (k := 9) (ok := FitSt) Tryz.underlying22 (by kernel_rfl) (by omega) (fun _ => rfl) (fun _ _ _ h => rd_st h) h8
 obtain ⟨B, be, cb, e1, s1, _, _, _⟩ := zIE (en := zAx) (k := 3) (ok := fun _ => True) Tryz.underlying25 (by kernel_rfl) (by omega) (fun _ => rfl) (fun _ _ _ h => rd_bed h) h1
 obtain ⟨C, ho, cc, e2, s2, _, hcc, _⟩ := zIE (en := zx) (k := 5) (ok := fun _ => True) Tryz.underlying26 (by kernel_rfl) (by omega) (fun _ => rfl) (fun _ _ _ h => rd_hour h) h2
 obtain ⟨we, e3, _⟩ := zID h3
 obtain ⟨la, e4, _⟩ := zID h4
 obtain ⟨ra, e5, _⟩ := zDu Tryz.underlying3 h5
 obtain ⟨li, e6, _⟩ := zDu Tryz.underlying3 h6
 obtain ⟨ba, e7, _⟩ := zDu Tryz.underlying3 h7
 refine ⟨⟨t, be, ho, we, la, ra, li, ba⟩, A, ca, B, cb, C, cc, ?_, ⟨s0, s1, s2⟩, fun s hs => (f0 s hs).2.2.2.2.1, hcc⟩
 obtain ⟨l⟩ := cs
 match l, hl with
 | [c0, c1, c2, c3, c4, c5, c6, c7, c8, c9], _ =>
  simp [Value.cells, zA3] at e0 e1 e2 e3 e4 e5 e6 e7
  simp [zAS, zM, e0, e1, e2, e3, e4, e5, e6, e7]
end
theorem zOU (os : Os) (args : Array Value) : laidMetH Tryz.prog [("kreisel/ice.limits", Rows.laid_kreisel_ice_limits)] ((World.doorLaid Tryz.prog 600 os).forCall (fun _ _ => 0) ⟨#[], args, []⟩).memory :=
 laidMetH_of_parts3 (fuel := 8) (laidMet_of_run' 8 (by kernel_rfl) (by kernel_rfl)) (by kernel_rfl) (by kernel_rfl)
end Go.Proofs.YtdigopgncfhiaaaGreatDoor
namespace Go.Proofs.YtdigopgncfhiaaaGreatDoor
open Go.RowKit
set_option maxRecDepth 20000
def zF7 (c : Cov) (pl : List Sli) : List (Int × Int) := if zCG c pl = 0 then zCM c pl zCj else []
def zH4 (c : Cov) (pl : List Sli) : Int := if zCG c pl = 0 then (if (zCM c pl zCj).length = 0 then 2 else if (zCM c pl zLu).length = 0 then 1 else 0) else 0
set_option maxHeartbeats 2000000 in
theorem zOE (c : Cov) (A : Option Addr) (ca : Nat) (B : Option Addr) (cb : Nat) (C : Option Addr) (cc : Nat) (pl : List Sli) (P : Option Addr) (cp : Nat) (w : World) (hc : zAq w c A B C) (hs : Small c) (hp : zBK w P pl) (hl : pl.length ≤ 12) (hrl : ∀ s ∈ pl, s.xs.length ≤ 20) (hG : InC w 0 0 zCe) :
  Ret Tryz.prog 20 [zAS c A ca B cb C cc, .slice P pl.length cp] w (fun p : Option Addr × Nat => .tuple #[.slice p.1 (zF7 c pl).length p.2, .int .i64 (zCG c pl)]) (fun p => [.sl zAW 2 p.1 (zF7 c pl)]) (fun _ => True) := by
 have h1 := fun W (hb : Below w.heap.size w W) => zEB c A ca B cb C cc pl P cp W (hc.below hb) hs (hp.below hb) hl hrl
 have h2 := fun W (hb : Below w.heap.size w W) => zEA c A ca B cb C cc pl P cp W (hc.below hb) hs (hp.below hb) hl hrl
 unfold zAS at h1 h2
 unfold zAS zF7
 by_cases h0 : zCG c pl = 0
 ·rw [if_pos h0, h0]
  obtain ⟨h00, hpl⟩ := zEG h0
  have hf := zBg h00
  have h2 := fun W hb => h2 W hb h00 hpl
  have hT := fun W (hb : Below w.heap.size w W) g (hr : InC W g 0 (zM c A ca B cb C cc)) => zFQ (en := zCj) (enF := 58) zGh c A ca B cb C cc g pl P cp W hr (hG.below hb) (hc.below hb) hs hf (hp.below hb) hrl (zB0.1 hpl).1
  unfold zM at h2 hT ⊢
  (refine zL (n := 20) Tryz.func20 rfl rfl rfl ?_)
  (repeat' (first | ((with_reducible refine zG ?_); first | refine zE rfl rfl rfl rfl rfl ?_ | refine zC rfl rfl rfl rfl rfl ?_ | (refine zJ rfl rfl rfl rfl rfl ?_; refine ⟨_, rfl, ?_⟩) | (refine zR rfl rfl rfl rfl rfl rfl rfl (fun h => ?_) (fun h => ?_) <;> (dsimp only [cmpP] at h; (try (exfalso; omega)))) | (refine zAR rfl rfl rfl rfl rfl rfl (fun _ _ q => h2 _ q.below) ?_; rintro g -; dsimp only [List.cons_append, List.nil_append]) | (refine zAR rfl rfl rfl rfl rfl rfl (fun _ _ q => hT _ q.below g (zBG q.own (Below.refl _ _) rfl)) ?_; rintro ⟨A', c'⟩ -; dsimp only [List.cons_append, List.nil_append]) | refine zh rfl rfl rfl rfl rfl rfl ?_ | (refine zAD rfl rfl rfl rfl rfl rfl (fun b => ?_))) | (with_reducible first | refine zH ?_ | refine zB ?_ | refine zD ?_ | refine zA ?_ | refine zX ?_ | refine zU ?_ | refine zZ ?_ | refine zCU ?_) | ((with_reducible refine zI ?_ ?_); (· exact rfl)) | ((with_reducible refine zF ?_ ?_); (· exact rfl))))
  exact zV (by (exact zP.cons (by exact zf.tmp rfl) (zP.cons (by exact zf.tmp rfl) zP.nil))) (A', c') trivial rfl (fun _ h => h.sub (by (repeat (first | exact oK1 _ | (refine oK2 (by (repeat (first | exact tK1 _ _ | apply tK2))) ?_)))))
 ·rw [if_neg h0]
  unfold zM at h1 ⊢
  generalize zCG c pl = e at *
  (refine zL (n := 20) Tryz.func20 rfl rfl rfl ?_)
  (repeat' (first | ((with_reducible refine zG ?_); first | refine zE rfl rfl rfl rfl rfl ?_ | refine zC rfl rfl rfl rfl rfl ?_ | (refine zJ rfl rfl rfl rfl rfl ?_; refine ⟨_, rfl, ?_⟩) | (refine zR rfl rfl rfl rfl rfl rfl rfl (fun h => ?_) (fun h => ?_) <;> (dsimp only [cmpP] at h; (try (exfalso; omega)))) | refine zY rfl rfl rfl rfl rfl rfl (fun _ _ q => h1 _ q.below h0) ?_ | refine zh rfl rfl rfl rfl rfl rfl ?_ | (refine zAD rfl rfl rfl rfl rfl rfl (fun b => ?_))) | (with_reducible first | refine zH ?_ | refine zB ?_ | refine zD ?_ | refine zA ?_ | refine zX ?_ | refine zU ?_ | refine zZ ?_ | refine zCU ?_) | ((with_reducible refine zI ?_ ?_); (· exact rfl)) | ((with_reducible refine zF ?_ ?_); (· exact rfl))))
  all_goals exact zV (by (exact zP.cons (by exact zf.tmp rfl) (zP.cons (by exact zf.tmp rfl) zP.nil))) (none, 0) trivial rfl (fun _ h => (zGn h).sub (by (repeat (first | exact oK1 _ | (refine oK2 (by (repeat (first | exact tK1 _ _ | apply tK2))) ?_)))))
set_option maxHeartbeats 2000000 in
theorem zOF (c : Cov) (A : Option Addr) (ca : Nat) (B : Option Addr) (cb : Nat) (C : Option Addr) (cc : Nat) (pl : List Sli) (P : Option Addr) (cp : Nat) (w : World) (hc : zAq w c A B C) (hs : Small c) (hp : zBK w P pl) (hl : pl.length ≤ 12) (hrl : ∀ s ∈ pl, s.xs.length ≤ 20) (hG : InC w 0 0 zCe) :
  Gv Tryz.prog 21 [zAS c A ca B cb C cc, .slice P pl.length cp] w (.tuple #[.int .u8 (zH4 c pl), .int .i64 (zCG c pl)]) := by
 have h1 := fun W (hb : Below w.heap.size w W) => zEB c A ca B cb C cc pl P cp W (hc.below hb) hs (hp.below hb) hl hrl
 have h2 := fun W (hb : Below w.heap.size w W) => zEA c A ca B cb C cc pl P cp W (hc.below hb) hs (hp.below hb) hl hrl
 unfold zAS at h1 h2
 unfold Gv zAS zH4
 by_cases h0 : zCG c pl = 0
 ·rw [if_pos h0, h0]
  obtain ⟨h00, hpl⟩ := zEG h0
  have hf := zBg h00
  have h2 := fun W hb => h2 W hb h00 hpl
  have hT := fun W (hb : Below w.heap.size w W) g (hr : InC W g 0 (zM c A ca B cb C cc)) => zFQ (en := zCj) (enF := 58) zGh c A ca B cb C cc g pl P cp W hr (hG.below hb) (hc.below hb) hs hf (hp.below hb) hrl (zB0.1 hpl).1
  have hB := fun W (hb : Below w.heap.size w W) g (hr : InC W g 0 (zM c A ca B cb C cc)) => zFQ (en := zLu) (enF := 59) best_any c A ca B cb C cc g pl P cp W hr (hG.below hb) (hc.below hb) hs hf (hp.below hb) hrl (zB0.1 hpl).1
  generalize zCM c pl zCj = l1 at *
  generalize zCM c pl zLu = l2 at *
  unfold zM at h2 hT hB ⊢
  (refine zL (n := 30) Tryz.func21 rfl rfl rfl ?_)
  (repeat' (first | ((with_reducible refine zG ?_); first | refine zE rfl rfl rfl rfl rfl ?_ | refine zC rfl rfl rfl rfl rfl ?_ | (refine zJ rfl rfl rfl rfl rfl ?_; refine ⟨_, rfl, ?_⟩) | (refine zR rfl rfl rfl rfl rfl rfl rfl (fun h => ?_) (fun h => ?_) <;> (dsimp only [cmpP] at h; (try (exfalso; omega)))) | (refine zAR rfl rfl rfl rfl rfl rfl (fun _ _ q => h2 _ q.below) ?_; rintro g -; dsimp only [List.cons_append, List.nil_append]) | (refine zAR rfl rfl rfl rfl rfl rfl (fun _ _ q => hT _ q.below g (zBG q.own (Below.refl _ _) rfl)) ?_; rintro ⟨A', c'⟩ -; dsimp only [List.cons_append, List.nil_append]) | (refine zAR rfl rfl rfl rfl rfl rfl (fun _ _ q => hB _ q.below g (zBG q.own (Below.refl _ _) rfl)) ?_; rintro ⟨A', c'⟩ -; dsimp only [List.cons_append, List.nil_append]) | refine zh rfl rfl rfl rfl rfl rfl ?_ | refine zr rfl rfl rfl rfl rfl ?_ | (refine zAD rfl rfl rfl rfl rfl rfl (fun b => ?_))) | (with_reducible first | refine zH ?_ | refine zB ?_ | refine zD ?_ | refine zA ?_ | refine zX ?_ | refine zU ?_ | refine zZ ?_ | refine zCU ?_ | refine zQ ?_ | refine zk ?_ | refine zi ?_ | refine zAi ?_ | refine zT ?_ | refine zW ?_) | ((with_reducible refine zAl ?_ ?_); (· exact rfl)) | ((with_reducible refine zI ?_ ?_); (· exact rfl)) | ((with_reducible refine zF ?_ ?_); (· exact rfl))))
  all_goals first | exact zV (by (exact zP.cons (by exact zf.tmp rfl) (zP.cons (by exact zf.tmp rfl) zP.nil))) () trivial (by rw [if_pos (by omega)]; rfl) (fun _ h => h.sub (by (repeat (first | exact oK1 _ | (refine oK2 (by (repeat (first | exact tK1 _ _ | apply tK2))) ?_))))) | exact zV (by (exact zP.cons (by exact zf.tmp rfl) (zP.cons (by exact zf.tmp rfl) zP.nil))) () trivial (by rw [if_neg (by omega), if_pos (by omega)]; rfl) (fun _ h => h.sub (by (repeat (first | exact oK1 _ | (refine oK2 (by (repeat (first | exact tK1 _ _ | apply tK2))) ?_))))) | exact zV (by (exact zP.cons (by exact zf.tmp rfl) (zP.cons (by exact zf.tmp rfl) zP.nil))) () trivial (by rw [if_neg (by omega), if_neg (by omega)]; rfl) (fun _ h => h.sub (by (repeat (first | exact oK1 _ | (refine oK2 (by (repeat (first | exact tK1 _ _ | apply tK2))) ?_)))))
 ·rw [if_neg h0]
  unfold zM at h1 ⊢
  generalize zCG c pl = e at *
  (refine zL (n := 30) Tryz.func21 rfl rfl rfl ?_)
  (repeat' (first | ((with_reducible refine zG ?_); first | refine zE rfl rfl rfl rfl rfl ?_ | refine zC rfl rfl rfl rfl rfl ?_ | (refine zJ rfl rfl rfl rfl rfl ?_; refine ⟨_, rfl, ?_⟩) | (refine zR rfl rfl rfl rfl rfl rfl rfl (fun h => ?_) (fun h => ?_) <;> (dsimp only [cmpP] at h; (try (exfalso; omega)))) | refine zY rfl rfl rfl rfl rfl rfl (fun _ _ q => h1 _ q.below h0) ?_ | refine zh rfl rfl rfl rfl rfl rfl ?_ | refine zr rfl rfl rfl rfl rfl ?_ | (refine zAD rfl rfl rfl rfl rfl rfl (fun b => ?_))) | (with_reducible first | refine zH ?_ | refine zB ?_ | refine zD ?_ | refine zA ?_ | refine zX ?_ | refine zU ?_ | refine zZ ?_ | refine zCU ?_ | refine zQ ?_ | refine zk ?_ | refine zi ?_ | refine zAi ?_ | refine zT ?_ | refine zW ?_) | ((with_reducible refine zAl ?_ ?_); (· exact rfl)) | ((with_reducible refine zI ?_ ?_); (· exact rfl)) | ((with_reducible refine zF ?_ ?_); (· exact rfl))))
  all_goals exact zV (by (exact zP.cons (by exact zf.tmp rfl) (zP.cons (by exact zf.tmp rfl) zP.nil))) () trivial rfl (fun _ _ => Own.nil _ _)
end Go.Proofs.YtdigopgncfhiaaaGreatDoor
namespace Go.Proofs.YtdigopgncfhiaaaGreatDoor
open Go.RowKit
set_option maxRecDepth 20000
theorem guardPr : Tryz.prog.eqGuardType Tryz.prog.depth 75 = false := by kernel_rfl
theorem e_nePr {w0 : World} {n : Nat} {d : List Deferred} {R : List (Nat × Value)} {H : List Ent} {o : Oper} {x y : Operand} {a b : Int} {T' : TypeId} (hop : o.op = .binOp .neq 75 x y T') (hx : evR R x = some (.agg #[.int .i64 a, .int .i64 b])) (hy : evR R y = some (.agg #[.int .i64 a, .int .i64 b])) : Ev Tryz.prog w0 n d R H o (.bool false) := fun k w q => by
 have e := zHI 9998 a b a b w
 simp only [decide_true, Bool.and_true] at e
 have g : (eqGuard .neq 75 x y (.agg #[.int .i64 a, .int .i64 b]) (.agg #[.int .i64 a, .int .i64 b])).run Tryz.prog w = .ok () w := run_eqGuard_agg _ _ _ _ _ _ _ guardPr
 unfold execOp; rw [hop]
 simp only [Sem.run_bind, q.ev hx, q.ev hy, g, Result.andThen_ok]
 rw [run_neq_struct, e]; rfl
set_option maxHeartbeats 1000000 in
theorem zI2 (l : List (Int × Int)) (A : Option Addr) (ca : Nat) (B : Option Addr) (cb : Nat) (w : World) (ha : zp zAW 2 w A l) (hb : zp zAW 2 w B l) (hl : l.length ≤ 1000000) :
  Gv Tryz.prog 47 [.slice A l.length ca, .slice B l.length cb] w (.bool true) := by
 unfold Gv
 (refine zL (n := 26) Tryz.func47 rfl rfl rfl ?_)
 (repeat' (first | ((with_reducible refine zG ?_); first | refine zE rfl rfl rfl rfl rfl ?_ | refine zC rfl rfl rfl rfl rfl ?_ | (refine zJ rfl rfl rfl rfl rfl ?_; refine ⟨_, rfl, ?_⟩) | (refine zR rfl rfl rfl rfl rfl rfl rfl (fun h => ?_) (fun h => ?_) <;> (dsimp only [cmpP] at h; (try (exfalso; omega)))) | refine zg rfl rfl rfl rfl rfl rfl (by omega) ?_ | refine zBy rfl rfl rfl rfl rfl rfl (IntWalk.i64_in _ (by omega)) ?_ | refine zb rfl rfl rfl rfl rfl rfl rfl (by omega) ?_ | refine zBZ rfl rfl rfl rfl rfl rfl rfl (by first | decide | omega) ?_ | refine zr rfl rfl rfl rfl rfl ?_) | (with_reducible first | refine zH ?_ | refine zB ?_ | refine zD ?_ | refine zA ?_ | refine zX ?_ | refine zU ?_ | refine zZ ?_ | refine zCU ?_ | refine zQ ?_ | refine zk ?_ | refine zi ?_ | refine zAi ?_ | refine zT ?_ | refine zW ?_) | ((with_reducible refine zAl ?_ ?_); (· exact rfl)) | ((with_reducible refine zI ?_ ?_); (· exact rfl)) | ((with_reducible refine zF ?_ ?_); (· exact rfl))))
 refine zq (ι := Nat) [0, 1] rfl (fun i => i ≤ l.length) (fun i => [(5, .int .i64 (i : Int))]) (fun _ => []) (fun i => l.length - i) 0 (Nat.zero_le _) (by (first | exact lK1 | (repeat (first | exact lK1 | (refine zK rfl ?_))))) (by (repeat (first | exact oK1 _ | (refine oK2 (by (repeat (first | exact tK1 _ _ | apply tK2))) ?_)))) ?_
 rintro i hi
 simp only [zAw, List.cons_append, List.nil_append]
 by_cases hlt : i < l.length
 ·obtain ⟨z, hz⟩ : ∃ z, l[i]? = some z := ⟨_, List.getElem?_eq_getElem hlt⟩
  obtain ⟨b1, o1, rfl, hb1, hc1⟩ := ha.at_ hlt
  obtain ⟨b2, o2, rfl, hb2, hc2⟩ := hb.at_ hlt
  have : InS w b1 o1 zAW 2 l := ⟨ha⟩
  have : InS w b2 o2 zAW 2 l := ⟨hb⟩
  have : zAQ l i z := ⟨hz⟩
  (repeat' (first | ((with_reducible refine zG ?_); first | refine zE rfl rfl rfl rfl rfl ?_ | refine zC rfl rfl rfl rfl rfl ?_ | (refine zJ rfl rfl rfl rfl rfl ?_; refine ⟨_, rfl, ?_⟩) | (refine zR rfl rfl rfl rfl rfl rfl rfl (fun h => ?_) (fun h => ?_) <;> (dsimp only [cmpP] at h; (try (exfalso; omega)))) | refine zg rfl rfl rfl rfl rfl rfl (by omega) ?_ | refine zBy rfl rfl rfl rfl rfl rfl (IntWalk.i64_in _ (by omega)) ?_ | refine zb rfl rfl rfl rfl rfl rfl rfl (by omega) ?_ | refine zBZ rfl rfl rfl rfl rfl rfl rfl (by first | decide | omega) ?_ | refine zr rfl rfl rfl rfl rfl ?_) | (with_reducible first | refine zH ?_ | refine zB ?_ | refine zD ?_ | refine zA ?_ | refine zX ?_ | refine zU ?_ | refine zZ ?_ | refine zCU ?_ | refine zQ ?_ | refine zk ?_ | refine zi ?_ | refine zAi ?_ | refine zT ?_ | refine zW ?_) | ((with_reducible refine zAl ?_ ?_); (· exact rfl)) | ((with_reducible refine zI ?_ ?_); (· exact rfl)) | ((with_reducible refine zF ?_ ?_); (· exact rfl))))
  (refine zBv (by kernel_rfl) (by kernel_rfl) (by kernel_rfl) ?_)
  (repeat' (first | ((with_reducible refine zCb ?_); first | refine zl (zAm rfl rfl) rfl rfl rfl ?_ | refine zl (zAH rfl rfl (by exact rfl)) rfl rfl rfl ?_ | refine zl (zAY rfl rfl) rfl rfl rfl ?_ | refine zl (zDw rfl rfl rfl) rfl rfl rfl ?_ | refine zl (zB5 rfl rfl) rfl rfl rfl ?_ | refine zDI rfl rfl rfl ?_ | (refine zHL rfl rfl rfl rfl rfl rfl rfl (fun h => ?_) (fun h => ?_) <;> (dsimp only [cmpP] at h; (try (exfalso; omega)))) | refine zl (zAt (I := i) rfl rfl rfl (by omega) (by first | omega | (dsimp only; omega))) rfl rfl rfl ?_ | refine zl (e_nePr (a := z.1) (b := z.2) rfl rfl rfl) rfl rfl rfl ?_ | refine zl (zG4 rfl rfl rfl) rfl rfl rfl ?_ | refine zl (e_not rfl rfl) rfl rfl rfl ?_ | refine zl (zKW rfl rfl rfl (by omega)) rfl rfl rfl ?_ | refine zl (zLn rfl rfl rfl (IntWalk.i64_in _ (by omega))) rfl rfl rfl ?_ | refine zl (zLk rfl rfl rfl (IntWalk.i64_in _ (by omega))) rfl rfl rfl ?_ | refine zl (e_mul rfl rfl rfl (IntWalk.i64_in _ (by omega))) rfl rfl rfl ?_ | refine zl (zAt rfl rfl rfl rfl (by omega)) rfl rfl rfl ?_ | refine zl (e_indexA rfl rfl rfl rfl (by first | decide | omega)) rfl rfl rfl ?_ | refine zl (zEI rfl rfl) rfl rfl rfl ?_ | refine zl (e_cap rfl rfl) rfl rfl rfl ?_ | refine zl (zAc rfl rfl) rfl rfl rfl ?_ | refine zl (zOR rfl rfl (IntWalk.i64_in _ (by omega))) rfl rfl rfl ?_ | refine zl (e_quo rfl rfl rfl (by omega) (by omega) (IntWalk.i64_in _ (by omega))) rfl rfl rfl ?_ | refine zl (e_rem rfl rfl rfl (by omega) (by omega)) rfl rfl rfl ?_ | refine zl (e_min rfl rfl rfl) rfl rfl rfl ?_ | refine zl (zLl rfl rfl rfl) rfl rfl rfl ?_ | refine zl (zDa rfl rfl (by exact rfl)) rfl rfl rfl ?_ | refine zl (zMg rfl rfl rfl) rfl rfl rfl ?_) | (with_reducible refine zDj ?_)))
  (repeat' (first | ((with_reducible refine zG ?_); first | refine zE rfl rfl rfl rfl rfl ?_ | refine zC rfl rfl rfl rfl rfl ?_ | (refine zJ rfl rfl rfl rfl rfl ?_; refine ⟨_, rfl, ?_⟩) | (refine zR rfl rfl rfl rfl rfl rfl rfl (fun h => ?_) (fun h => ?_) <;> (dsimp only [cmpP] at h; (try (exfalso; omega)))) | refine zg rfl rfl rfl rfl rfl rfl (by omega) ?_ | refine zBy rfl rfl rfl rfl rfl rfl (IntWalk.i64_in _ (by omega)) ?_ | refine zb rfl rfl rfl rfl rfl rfl rfl (by omega) ?_ | refine zBZ rfl rfl rfl rfl rfl rfl rfl (by first | decide | omega) ?_ | refine zr rfl rfl rfl rfl rfl ?_) | (with_reducible first | refine zH ?_ | refine zB ?_ | refine zD ?_ | refine zA ?_ | refine zX ?_ | refine zU ?_ | refine zZ ?_ | refine zCU ?_ | refine zQ ?_ | refine zk ?_ | refine zi ?_ | refine zAi ?_ | refine zT ?_ | refine zW ?_) | ((with_reducible refine zAl ?_ ?_); (· exact rfl)) | ((with_reducible refine zI ?_ ?_); (· exact rfl)) | ((with_reducible refine zF ?_ ?_); (· exact rfl))))
  exact ze (i + 1) (by omega) (by omega) (by (first | exact lK1 | (repeat (first | exact lK1 | (refine zK rfl ?_))))) (by (repeat (first | exact oK1 _ | (refine oK2 (by (repeat (first | exact tK1 _ _ | apply tK2))) ?_))))
 ·obtain rfl : i = l.length := by omega
  (repeat' (first | ((with_reducible refine zG ?_); first | refine zE rfl rfl rfl rfl rfl ?_ | refine zC rfl rfl rfl rfl rfl ?_ | (refine zJ rfl rfl rfl rfl rfl ?_; refine ⟨_, rfl, ?_⟩) | (refine zR rfl rfl rfl rfl rfl rfl rfl (fun h => ?_) (fun h => ?_) <;> (dsimp only [cmpP] at h; (try (exfalso; omega)))) | refine zg rfl rfl rfl rfl rfl rfl (by omega) ?_ | refine zBy rfl rfl rfl rfl rfl rfl (IntWalk.i64_in _ (by omega)) ?_ | refine zb rfl rfl rfl rfl rfl rfl rfl (by omega) ?_ | refine zBZ rfl rfl rfl rfl rfl rfl rfl (by first | decide | omega) ?_ | refine zr rfl rfl rfl rfl rfl ?_) | (with_reducible first | refine zH ?_ | refine zB ?_ | refine zD ?_ | refine zA ?_ | refine zX ?_ | refine zU ?_ | refine zZ ?_ | refine zCU ?_ | refine zQ ?_ | refine zk ?_ | refine zi ?_ | refine zAi ?_ | refine zT ?_ | refine zW ?_) | ((with_reducible refine zAl ?_ ?_); (· exact rfl)) | ((with_reducible refine zI ?_ ?_); (· exact rfl)) | ((with_reducible refine zF ?_ ?_); (· exact rfl))))
  exact zV (by (exact zP.cons (by exact zf.tmp rfl) zP.nil)) () trivial rfl (fun _ _ => Own.nil _ _)
end Go.Proofs.YtdigopgncfhiaaaGreatDoor
