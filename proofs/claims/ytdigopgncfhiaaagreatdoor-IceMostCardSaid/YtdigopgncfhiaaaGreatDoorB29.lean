/- B29 -/
import Derived.Test.YtdigopgncfhiaaaGreatDoorB27
import Derived.Test.YtdigopgncfhiaaaGreatDoorB28
import Derived.Test.YtdigopgncfhiaaaGreatDoorB26
set_option linter.unusedSimpArgs false
set_option linter.unusedVariables false
namespace Go.Proofs.YtdigopgncfhiaaaGreatDoor
open Go.RowKit
set_option maxRecDepth 20000
set_option maxHeartbeats 1000000 in
theorem zNq (m : Nat) (w : World) (hm : m ≤ 1000) : Ret Tryz.prog 111 [.slice none 0 0, .int .i64 (m : Int)] w (fun v : Value => v) (fun v => [.row encI 1 3 v ([] : List Int)]) (fun _ => True) := by
 by_cases h0 : 0 < m
 ·(refine zI (n := 27) Tryz.func111 rfl rfl rfl ?_)
  (repeat' (first | ((with_reducible refine zF ?_); first | refine zE rfl rfl rfl rfl rfl ?_ | refine zC rfl rfl rfl rfl rfl ?_ | (refine zT rfl rfl rfl rfl rfl rfl rfl (fun h => ?_) (fun h => ?_) <;> (dsimp only [cmpP] at h; (try (exfalso; omega)))) | refine zM7 0 rfl rfl rfl rfl rfl (by exact rfl) rfl (by omega) (by first | exact rfl | simp [Addr.add]) ?_ | (refine zND encI (m := m) rfl rfl rfl rfl rfl (by rw [show (m : Int) = (m : Int) - (((0 : Nat) : Int) - ((0 : Nat) : Int)) by omega]; exact rfl) h0 (by omega) (fun b c' hc => ?_)) | refine zCP rfl rfl rfl rfl rfl rfl (IntWalk.i64_in _ (by omega)) ?_ | refine zq rfl rfl rfl rfl rfl ?_ | refine u_cap rfl rfl rfl rfl rfl ?_) | (with_reducible first | refine zH ?_ | refine zB ?_ | refine zD ?_ | refine zA ?_ | refine zX ?_ | refine zU ?_ | refine zZ ?_ | refine zCW ?_) | ((with_reducible refine zJ ?_ ?_); (· exact rfl)) | ((with_reducible refine zG ?_ ?_); (· exact rfl))))
  exact zS (by (exact zN.cons (by exact zg.tmp rfl) zN.nil)) _ trivial rfl (fun _ h => h.sub (by (repeat (first | exact oK1 _ | (refine oK2 (by (repeat (first | exact tK1 _ _ | apply tK2))) ?_)))))
 ·obtain rfl : m = 0 := by omega
  (refine zI (n := 27) Tryz.func111 rfl rfl rfl ?_)
  (repeat' (first | ((with_reducible refine zF ?_); first | refine zE rfl rfl rfl rfl rfl ?_ | refine zC rfl rfl rfl rfl rfl ?_ | (refine zT rfl rfl rfl rfl rfl rfl rfl (fun h => ?_) (fun h => ?_) <;> (dsimp only [cmpP] at h; (try (exfalso; omega)))) | refine zCP rfl rfl rfl rfl rfl rfl (IntWalk.i64_in _ (by omega)) ?_ | refine zq rfl rfl rfl rfl rfl ?_ | refine u_cap rfl rfl rfl rfl rfl ?_) | (with_reducible first | refine zH ?_ | refine zB ?_ | refine zD ?_ | refine zA ?_ | refine zX ?_ | refine zU ?_ | refine zZ ?_ | refine zCW ?_) | ((with_reducible refine zJ ?_ ?_); (· exact rfl)) | ((with_reducible refine zG ?_ ?_); (· exact rfl))))
  refine zDw encI 1 3 ?_
  exact zS (by (exact zN.cons (by exact zg.tmp rfl) zN.nil)) (.slice none 0 0) trivial rfl (fun _ h => h.sub (by (repeat (first | exact oK1 _ | (refine oK2 (by (repeat (first | exact tK1 _ _ | apply tK2))) ?_)))))
def zEE (pl : List Sli) (k : Nat) : List Int := (pl.take k).flatMap Sli.xs
theorem zG1 {pl : List Sli} {k : Nat} {s : Sli} (h : pl[k]? = some s) : zEE pl (k + 1) = zEE pl k ++ s.xs := by
 unfold zEE
 rw [List.take_add_one, h, List.flatMap_append]
 simp
theorem zIW {pl : List Sli} (h : ∀ s ∈ pl, s.xs.length ≤ 20) : ∀ k, k ≤ pl.length → (zEE pl k).length ≤ k * 20
 | 0, _ => by simp [zEE]
 | k + 1, hk => by
  obtain ⟨s, hs⟩ : ∃ s, pl[k]? = some s := ⟨_, List.getElem?_eq_getElem (by omega)⟩
  rw [zG1 hs, List.length_append]
  have := zIW h k (by omega)
  have := h s (List.mem_of_getElem? hs)
  omega
set_option maxHeartbeats 2000000 in
theorem zLO (pl : List Sli) (P : Option Addr) (cp : Nat) (w : World) (hp : zBB w P pl) (hl : pl.length ≤ 12) (hrl : ∀ s ∈ pl, s.xs.length ≤ 20) :
  zCe encI 1 (pl.flatMap Sli.xs) (fun v => v) Tryz.prog 69 [.slice P pl.length cp] w := by
 have hpp := hp.p
 have hcl := zIW hrl
 have hall : zEE pl pl.length = pl.flatMap Sli.xs := by unfold zEE; rw [List.take_length]
 rw [← hall]
 unfold zCe
 (refine zI (n := 36) Tryz.func69 rfl rfl rfl ?_)
 (repeat' (first | ((with_reducible refine zF ?_); first | refine zE rfl rfl rfl rfl rfl ?_ | refine zC rfl rfl rfl rfl rfl ?_ | (refine zK rfl rfl rfl rfl rfl ?_; refine ⟨_, rfl, ?_⟩) | (refine zT rfl rfl rfl rfl rfl rfl rfl (fun h => ?_) (fun h => ?_) <;> (dsimp only [cmpP] at h; (try (exfalso; omega)))) | refine zj rfl rfl rfl rfl rfl rfl (by omega) ?_ | refine zCX rfl rfl rfl rfl rfl rfl (IntWalk.i64_in _ (by omega)) ?_ | refine zd rfl rfl rfl rfl rfl rfl rfl (by omega) ?_ | refine zBP rfl rfl rfl rfl rfl rfl rfl (by first | decide | omega) ?_ | refine zq rfl rfl rfl rfl rfl ?_) | (with_reducible first | refine zH ?_ | refine zB ?_ | refine zD ?_ | refine zA ?_ | refine zX ?_ | refine zU ?_ | refine zZ ?_ | refine zCW ?_ | refine zQ ?_ | refine zl ?_ | refine zk ?_ | refine zAi ?_ | refine zV ?_ | refine zY ?_) | ((with_reducible refine zAn ?_ ?_); (· exact rfl)) | ((with_reducible refine zJ ?_ ?_); (· exact rfl)) | ((with_reducible refine zG ?_ ?_); (· exact rfl))))
 refine zu (ι := Nat) [0, 9, 10] rfl (fun k => k ≤ pl.length) (fun k => [(11, .int .i64 (k : Int)), (3, .int .i64 ((zEE pl k).length : Int))]) (fun _ => []) (fun k => pl.length - k) 0 (Nat.zero_le _) (by (first | exact lK1 | (repeat (first | exact lK1 | (refine zL rfl ?_))))) (by (repeat (first | exact oK1 _ | (refine oK2 (by (repeat (first | exact tK1 _ _ | apply tK2))) ?_)))) ?_
 rintro k hk
 simp only [zAx, List.cons_append, List.nil_append]
 have hck := hcl k hk
 by_cases hlt : k < pl.length
 ·obtain ⟨s, hsk⟩ : ∃ s, pl[k]? = some s := ⟨_, List.getElem?_eq_getElem hlt⟩
  have hsl := hrl s (List.mem_of_getElem? hsk)
  obtain ⟨bb, o, rfl, hblt, hc⟩ := hpp.at_ hlt
  have : InS w bb o zBK 1 pl := ⟨hpp⟩
  have : zAT pl k s := ⟨hsk⟩
  have hcs : ((zEE pl (k + 1)).length : Int) = ((zEE pl k).length : Int) + (s.xs.length : Int) := by rw [zG1 hsk, List.length_append]; omega
  (repeat' (first | ((with_reducible refine zF ?_); first | refine zE rfl rfl rfl rfl rfl ?_ | refine zC rfl rfl rfl rfl rfl ?_ | (refine zK rfl rfl rfl rfl rfl ?_; refine ⟨_, rfl, ?_⟩) | (refine zT rfl rfl rfl rfl rfl rfl rfl (fun h => ?_) (fun h => ?_) <;> (dsimp only [cmpP] at h; (try (exfalso; omega)))) | refine zj rfl rfl rfl rfl rfl rfl (by omega) ?_ | refine zCX rfl rfl rfl rfl rfl rfl (IntWalk.i64_in _ (by omega)) ?_ | refine zd rfl rfl rfl rfl rfl rfl rfl (by omega) ?_ | refine zBP rfl rfl rfl rfl rfl rfl rfl (by first | decide | omega) ?_ | refine zq rfl rfl rfl rfl rfl ?_) | (with_reducible first | refine zH ?_ | refine zB ?_ | refine zD ?_ | refine zA ?_ | refine zX ?_ | refine zU ?_ | refine zZ ?_ | refine zCW ?_ | refine zQ ?_ | refine zl ?_ | refine zk ?_ | refine zAi ?_ | refine zV ?_ | refine zY ?_) | ((with_reducible refine zAn ?_ ?_); (· exact rfl)) | ((with_reducible refine zJ ?_ ?_); (· exact rfl)) | ((with_reducible refine zG ?_ ?_); (· exact rfl))))
  all_goals exact ze (k + 1) (by omega) (by omega) (by simp only [hcs]; (first | exact lK1 | (repeat (first | exact lK1 | (refine zL rfl ?_))))) (by (repeat (first | exact oK1 _ | (refine oK2 (by (repeat (first | exact tK1 _ _ | apply tK2))) ?_))))
 ·obtain rfl : k = pl.length := by omega
  have hg := fun W => zNq (zEE pl pl.length).length W (by omega)
  (repeat' (first | ((with_reducible refine zF ?_); first | refine zE rfl rfl rfl rfl rfl ?_ | refine zC rfl rfl rfl rfl rfl ?_ | (refine zK rfl rfl rfl rfl rfl ?_; refine ⟨_, rfl, ?_⟩) | (refine zT rfl rfl rfl rfl rfl rfl rfl (fun h => ?_) (fun h => ?_) <;> (dsimp only [cmpP] at h; (try (exfalso; omega)))) | (refine zAP rfl rfl rfl rfl rfl rfl (fun _ w _ => hg w) ?_; rintro v9 -; dsimp only [List.cons_append, List.nil_append]) | refine zj rfl rfl rfl rfl rfl rfl (by omega) ?_ | refine zCX rfl rfl rfl rfl rfl rfl (IntWalk.i64_in _ (by omega)) ?_ | refine zd rfl rfl rfl rfl rfl rfl rfl (by omega) ?_ | refine zBP rfl rfl rfl rfl rfl rfl rfl (by first | decide | omega) ?_ | refine zq rfl rfl rfl rfl rfl ?_) | (with_reducible first | refine zH ?_ | refine zB ?_ | refine zD ?_ | refine zA ?_ | refine zX ?_ | refine zU ?_ | refine zZ ?_ | refine zCW ?_ | refine zQ ?_ | refine zl ?_ | refine zk ?_ | refine zAi ?_ | refine zV ?_ | refine zY ?_) | ((with_reducible refine zAn ?_ ?_); (· exact rfl)) | ((with_reducible refine zJ ?_ ?_); (· exact rfl)) | ((with_reducible refine zG ?_ ?_); (· exact rfl))))
  refine zu (ι := Nat × Value) [25, 26] rfl (fun q => q.1 ≤ pl.length) (fun q => [(27, .int .i64 (q.1 : Int)), (6, q.2)]) (fun q => [.row encI 1 3 q.2 (zEE pl q.1)]) (fun q => pl.length - q.1) (0, v9) (Nat.zero_le _) (by (first | exact lK1 | (repeat (first | exact lK1 | (refine zL rfl ?_))))) (by (repeat (first | exact oK1 _ | (refine oK2 (by (repeat (first | exact tK1 _ _ | apply tK2))) ?_)))) ?_
  rintro ⟨k, v⟩ hk
  simp only at hk
  simp only [zAx, List.cons_append, List.nil_append]
  have hck := hcl k hk
  by_cases hlt : k < pl.length
  ·obtain ⟨s, hsk⟩ : ∃ s, pl[k]? = some s := ⟨_, List.getElem?_eq_getElem hlt⟩
   have hsm := List.mem_of_getElem? hsk
   have hsl := hrl s hsm
   have hrow := hp.rows s hsm
   obtain ⟨bb, o, rfl, hblt, hc⟩ := hpp.at_ hlt
   have : InS w bb o zBK 1 pl := ⟨hpp⟩
   obtain ⟨sA, xs, sc⟩ := s
   have : zAT pl k ⟨sA, xs, sc⟩ := ⟨hsk⟩
   have hcs := zG1 hsk
   simp only at hsl hrow hcs
   (repeat' (first | ((with_reducible refine zF ?_); first | refine zE rfl rfl rfl rfl rfl ?_ | refine zC rfl rfl rfl rfl rfl ?_ | (refine zK rfl rfl rfl rfl rfl ?_; refine ⟨_, rfl, ?_⟩) | (refine zT rfl rfl rfl rfl rfl rfl rfl (fun h => ?_) (fun h => ?_) <;> (dsimp only [cmpP] at h; (try (exfalso; omega)))) | (refine zBD (enc := encI) xs rfl rfl rfl rfl rfl (by (repeat (first | exact tK1 _ _ | apply tK2))) rfl rfl (zFm hrow) (by refine ⟨?_, by decide⟩; (try simp only [List.length_append, List.length_cons, List.length_nil]); omega) (fun A' c' => ?_)) | refine zj rfl rfl rfl rfl rfl rfl (by omega) ?_ | refine zCX rfl rfl rfl rfl rfl rfl (IntWalk.i64_in _ (by omega)) ?_ | refine zd rfl rfl rfl rfl rfl rfl rfl (by omega) ?_ | refine zBP rfl rfl rfl rfl rfl rfl rfl (by first | decide | omega) ?_ | refine zq rfl rfl rfl rfl rfl ?_) | (with_reducible first | refine zH ?_ | refine zB ?_ | refine zD ?_ | refine zA ?_ | refine zX ?_ | refine zU ?_ | refine zZ ?_ | refine zCW ?_ | refine zQ ?_ | refine zl ?_ | refine zk ?_ | refine zAi ?_ | refine zV ?_ | refine zY ?_) | ((with_reducible refine zAn ?_ ?_); (· exact rfl)) | ((with_reducible refine zJ ?_ ?_); (· exact rfl)) | ((with_reducible refine zG ?_ ?_); (· exact rfl))))
   exact ze (k + 1, .slice A' (zEE pl k ++ xs).length c') (by simp only; omega) (by simp only; omega) (by (first | exact lK1 | (repeat (first | exact lK1 | (refine zL rfl ?_))))) (by simp only [hcs]; (repeat (first | exact oK1 _ | (refine oK2 (by (repeat (first | exact tK1 _ _ | apply tK2))) ?_))))
  ·obtain rfl : k = pl.length := by omega
   refine zHe (by (repeat (first | exact tK1 _ _ | apply tK2))) ?_
   rintro A9 c9 rfl
   (repeat' (first | ((with_reducible refine zF ?_); first | refine zE rfl rfl rfl rfl rfl ?_ | refine zC rfl rfl rfl rfl rfl ?_ | (refine zK rfl rfl rfl rfl rfl ?_; refine ⟨_, rfl, ?_⟩) | (refine zT rfl rfl rfl rfl rfl rfl rfl (fun h => ?_) (fun h => ?_) <;> (dsimp only [cmpP] at h; (try (exfalso; omega)))) | refine zj rfl rfl rfl rfl rfl rfl (by omega) ?_ | refine zCX rfl rfl rfl rfl rfl rfl (IntWalk.i64_in _ (by omega)) ?_ | refine zd rfl rfl rfl rfl rfl rfl rfl (by omega) ?_ | refine zBP rfl rfl rfl rfl rfl rfl rfl (by first | decide | omega) ?_ | refine zq rfl rfl rfl rfl rfl ?_) | (with_reducible first | refine zH ?_ | refine zB ?_ | refine zD ?_ | refine zA ?_ | refine zX ?_ | refine zU ?_ | refine zZ ?_ | refine zCW ?_ | refine zQ ?_ | refine zl ?_ | refine zk ?_ | refine zAi ?_ | refine zV ?_ | refine zY ?_) | ((with_reducible refine zAn ?_ ?_); (· exact rfl)) | ((with_reducible refine zJ ?_ ?_); (· exact rfl)) | ((with_reducible refine zG ?_ ?_); (· exact rfl))))
   exact zS (by (exact zN.cons (by exact zg.tmp rfl) zN.nil)) (A9, c9) trivial rfl (fun _ h => (h.zEp (by (repeat (first | exact tK1 _ _ | apply tK2)))).sub (by (repeat (first | exact oK1 _ | (refine oK2 (by (repeat (first | exact tK1 _ _ | apply tK2))) ?_)))))
end Go.Proofs.YtdigopgncfhiaaaGreatDoor
namespace Go.Proofs.YtdigopgncfhiaaaGreatDoor
open Go.RowKit
set_option maxRecDepth 20000
def zDj (c : Cov) (x : Int) : Sp := (c.t.getD x.toNat default).long
def zDE (c : Cov) (w : Sp) (x : Int) : Sp := ⟨w.lo + c.rate * (zDj c x).lo, w.hi + c.rate * (zDj c x).hi⟩
def zEK (c : Cov) (l : List Int) : Sp := l.foldl (zDE c) ⟨0, 0⟩
def zFi (c : Cov) (pl : List Sli) : Sp := if zB2 c pl = 0 then zEK c (zEE pl pl.length) else ⟨0, 0⟩
theorem zLa {c : Cov} {l : List Int} {x : Int} : zEK c (l ++ [x]) = zDE c (zEK c l) x := by simp [zEK]
theorem zMH {c : Cov} (h : zAl c = 0) : valid c.t = true := by
 unfold zAl at h
 cases hv : valid c.t with
 | true => rfl
 | false => rw [hv] at h; simp at h
theorem cat_in {c : Cov} {pl : List Sli} (hp : zBY c pl = true) {x : Int} (hx : x ∈ zEE pl pl.length) : ∃ k : Nat, x = (k : Int) ∧ k < c.beds.length := by
 unfold zEE at hx
 rw [List.take_length, List.mem_flatMap] at hx
 obtain ⟨s, hs, hx⟩ := hx
 obtain ⟨i, hi⟩ := List.mem_iff_getElem?.1 hs
 obtain ⟨hl, hr⟩ := zBR.1 hp
 have hil := (List.getElem?_eq_some_iff.1 hi).1
 have := hr i _ s (List.getElem?_eq_getElem (show i < c.hours.length by omega)) hi
 unfold zFb at this
 simp only [Bool.and_eq_true] at this
 exact zLu (List.all_eq_true.1 this.1.2 x hx)
theorem zK2 {c : Cov} (hv : valid c.t = true) {k : Nat} (hk : k < c.t.length) : 1 ≤ (zDj c k).lo ∧ (zDj c k).lo ≤ (zDj c k).hi ∧ (zDj c k).hi ≤ 30000 := by
 have hz : c.t[k]? = some c.t[k] := List.getElem?_eq_getElem hk
 have ho := zFj hv c.t[k] (List.getElem_mem hk)
 unfold zDj
 rw [Int.toNat_natCast, zA0 hz]
 exact ⟨ho.l0, ho.l1, ho.l2⟩
theorem zN0 {c : Cov} (hv : valid c.t = true) {k : Nat} (hk : k < c.t.length) : zEB c.t (k : Int) ((k : Int) + 1) = zDj c k := by
 have hd : zEb c.t (k : Int) ((k : Int) + 1) = true := by unfold zEb; simp only [Bool.and_eq_true, zAF]; omega
 unfold zEB
 rw [hv, hd, Bool.and_true, if_pos rfl, Int.toNat_natCast, show ((k : Int) + 1).toNat = k + 1 by omega]
 unfold zb longs zDj
 have hz : c.t[k]? = some c.t[k] := List.getElem?_eq_getElem hk
 rw [Int.toNat_natCast, zA0 hz, List.extract_eq_take_drop, show k + 1 - k = 1 by omega, List.take_one, List.head?_drop, List.getElem?_map, hz]
 simp [zG7, zBg]
theorem zKJ {c : Cov} (hf : zDY c) (hv : valid c.t = true) : ∀ (l : List Int) (w : Sp) (m : Int), (∀ x ∈ l, ∃ k : Nat, x = (k : Int) ∧ k < c.t.length) → 0 ≤ w.lo ∧ w.lo ≤ m ∧ 0 ≤ w.hi ∧ w.hi ≤ m → 0 ≤ (l.foldl (zDE c) w).lo ∧ (l.foldl (zDE c) w).lo ≤ m + 3000000 * l.length ∧ 0 ≤ (l.foldl (zDE c) w).hi ∧ (l.foldl (zDE c) w).hi ≤ m + 3000000 * l.length
 | [], w, m, _, h => by simp only [List.foldl_nil, List.length_nil]; omega
 | x :: l, w, m, hx, h => by
  obtain ⟨k, rfl, hk⟩ := hx x (by simp)
  have h1 := zK2 hv hk
  have h2 := hf.rate
  simp only [zAF] at h2
  have m1 := zEt (a := c.rate) (b := (zDj c k).lo) (A := 100) (B := 30000) (by omega) (by omega) (by omega) (by omega)
  have m2 := zEt (a := c.rate) (b := (zDj c k).hi) (A := 100) (B := 30000) (by omega) (by omega) (by omega) (by omega)
  have := zKJ hf hv l (zDE c w k) (m + 3000000) (fun y hy => hx y (by simp [hy])) (by simp only [zDE]; omega)
  simp only [List.foldl_cons, List.length_cons]
  omega
end Go.Proofs.YtdigopgncfhiaaaGreatDoor
namespace Go.Proofs.YtdigopgncfhiaaaGreatDoor
open Go.RowKit
set_option maxRecDepth 20000
set_option maxHeartbeats 4000000 in
theorem zL9 (c : Cov) (A : Option Addr) (ca : Nat) (B : Option Addr) (cb : Nat) (C : Option Addr) (cc : Nat) (pl : List Sli) (P : Option Addr) (cp : Nat) (w : World) (hc : zAd w c A B C) (hs : Small c) (hp : zBB w P pl) (hl : pl.length ≤ 12) (hrl : ∀ s ∈ pl, s.xs.length ≤ 20) :
  Gv Tryz.prog 29 [zAL c A ca B cb C cc, .slice P pl.length cp] w (.tuple #[vSp (zFi c pl), .int .i64 (zB2 c pl)]) := by
 have h1 := fun W (hb : Below w.heap.size w W) => zD3 c A ca B cb C cc pl P cp W (hc.below hb) hs (hp.below hb) hl hrl
 have h2 := fun W (hb : Below w.heap.size w W) => zD2 c A ca B cb C cc pl P cp W (hc.below hb) hs (hp.below hb) hl hrl
 unfold zAL at h1 h2
 unfold Gv zAL zFi vSp
 by_cases h0 : zB2 c pl = 0
 ·rw [if_pos h0, h0]
  obtain ⟨h00, hpl⟩ := zD9 h0
  have hf := zBw h00
  have hv := zMH h00
  have h2 := fun W hb => h2 W hb h00 hpl
  have hC := fun W (hb : Below w.heap.size w W) => zLO pl P cp W (hp.below hb) hl hrl
  have hin := fun x hx => cat_in (c := c) (pl := pl) hpl (x := x) hx
  have hlen := zIW hrl pl.length (Nat.le_refl _)
  have hall : zEE pl pl.length = pl.flatMap Sli.xs := by unfold zEE; rw [List.take_length]
  rw [← hall] at hC
  generalize zEE pl pl.length = L at *
  have hbt := hf.beds
  have hrt := hf.rate
  simp only [zAF] at hrt
  have hDr := fun W (hb : Below w.heap.size w W) (k : Nat) (hk : k < c.t.length) => (drop_any c.t A ca (k : Int) (((k + 1 : Nat)) : Int) W (hc.t.below hb) hs.fit (by have := hs.t; omega)).gv
  unfold vT vSp at hDr
  unfold zM at h2 ⊢
  (refine zI (n := 60) Tryz.func29 rfl rfl rfl ?_)
  (repeat' (first | ((with_reducible refine zF ?_); first | refine zE rfl rfl rfl rfl rfl ?_ | refine zC rfl rfl rfl rfl rfl ?_ | (refine zK rfl rfl rfl rfl rfl ?_; refine ⟨_, rfl, ?_⟩) | refine zc rfl rfl rfl rfl rfl ?_ | (refine zT rfl rfl rfl rfl rfl rfl rfl (fun h => ?_) (fun h => ?_) <;> (dsimp only [cmpP] at h; (try (exfalso; omega)))) | (refine zAP rfl rfl rfl rfl rfl rfl (fun _ _ q => h2 _ q.below) ?_; rintro g -; dsimp only [List.cons_append, List.nil_append]) | refine zDZ rfl rfl rfl rfl rfl rfl (fun _ _ q => hC _ q.below) (fun A' c' => ?_) | refine zi rfl rfl rfl rfl rfl rfl ?_ | refine zj rfl rfl rfl rfl rfl rfl (by omega) ?_ | refine zCX rfl rfl rfl rfl rfl rfl (IntWalk.i64_in _ (by omega)) ?_ | refine u_mul rfl rfl rfl rfl rfl rfl (IntWalk.i64_in _ (by omega)) ?_ | refine zd rfl rfl rfl rfl rfl rfl rfl (by omega) ?_ | refine zBP rfl rfl rfl rfl rfl rfl rfl (by first | decide | omega) ?_ | refine zq rfl rfl rfl rfl rfl ?_ | (refine zf rfl rfl rfl rfl rfl ?_; refine And.intro rfl (And.intro (by first | decide | exact Nat.le_of_ble_eq_true rfl | (simp; omega)) ⟨_, rfl, ?_⟩)) | (refine zn rfl rfl rfl rfl (fun b => ?_)) | (refine zAB rfl rfl rfl rfl rfl rfl (fun b => ?_)) | (refine zAy rfl rfl rfl rfl rfl ?_; refine ⟨_, rfl, ?_⟩)) | (with_reducible first | refine zH ?_ | refine zB ?_ | refine zD ?_ | refine zA ?_ | refine zX ?_ | refine zU ?_ | refine zZ ?_ | refine zCW ?_ | refine zQ ?_ | refine zl ?_ | refine zk ?_ | refine zAi ?_ | refine zV ?_ | refine zY ?_) | ((with_reducible refine zAn ?_ ?_); (· exact rfl)) | ((with_reducible refine zJ ?_ ?_); (· exact rfl)) | ((with_reducible refine zG ?_ ?_); (· exact rfl))))
  rename_i b2 b4
  refine zu (ι := Nat) [2, 4, 8, 25, 26] rfl (fun k => k ≤ L.length) (fun k => [(27, .int .i64 (k : Int))]) (fun k => [.blk b (zA4 (zEK c (L.take k))), .sl encI 1 A' L, .blk b4 [.int .i64 0, .int .i64 0], .blk b2 (zM c A ca B cb C cc)]) (fun k => L.length - k) 0 (Nat.zero_le _) (by (first | exact lK1 | (repeat (first | exact lK1 | (refine zL rfl ?_))))) (by (repeat (first | exact oK1 _ | (refine oK2 (by (repeat (first | exact tK1 _ _ | apply tK2))) ?_)))) ?_
  rintro k hk
  simp only [zAx, zM, List.cons_append, List.nil_append]
  by_cases hlt : k < L.length
  ·obtain ⟨x, hx⟩ : ∃ x, L[k]? = some x := ⟨_, List.getElem?_eq_getElem hlt⟩
   obtain ⟨i, rfl, hi⟩ := hin x (List.mem_of_getElem? hx)
   have hD := fun W hb => hDr W hb i (by omega)
   have he : zEB c.t (i : Int) (((i + 1 : Nat)) : Int) = zDj c i := by rw [show (((i + 1 : Nat)) : Int) = (i : Int) + 1 by omega]; exact zN0 hv (by omega)
   rw [he] at hD
   have h4 := hs.b
   have hli := zK2 hv (show i < c.t.length by omega)
   have hwi := zKJ hf hv (L.take k) ⟨0, 0⟩ 0 (fun y hy => by obtain ⟨j, e, hj⟩ := hin y (List.mem_of_mem_take hy); exact ⟨j, e, by omega⟩) (by simp only; omega)
   have hwl : (L.take k).length ≤ 240 := by rw [List.length_take]; omega
   have hw : zEK c (L.take (k + 1)) = zDE c (zEK c (L.take k)) i := by rw [List.take_add_one, hx]; exact zLa
   have hwe : (L.take k).foldl (zDE c) ⟨0, 0⟩ = zEK c (L.take k) := rfl
   rw [hwe] at hwi
   have m1 := zEt (a := c.rate) (b := (zDj c i).lo) (A := 100) (B := 30000) (by omega) (by omega) (by omega) (by omega)
   have m2 := zEt (a := c.rate) (b := (zDj c i).hi) (A := 100) (B := 30000) (by omega) (by omega) (by omega) (by omega)
   generalize zEK c (L.take k) = wk at *
   have : zAT L k (i : Int) := ⟨hx⟩
   unfold zA4
   refine u_slS (by (repeat (first | exact tK1 _ _ | apply tK2))) (by omega) ?_
   rintro bl ol rfl
   (repeat' (first | ((with_reducible refine zF ?_); first | refine zE rfl rfl rfl rfl rfl ?_ | refine zC rfl rfl rfl rfl rfl ?_ | (refine zK rfl rfl rfl rfl rfl ?_; refine ⟨_, rfl, ?_⟩) | refine zc rfl rfl rfl rfl rfl ?_ | (refine zT rfl rfl rfl rfl rfl rfl rfl (fun h => ?_) (fun h => ?_) <;> (dsimp only [cmpP] at h; (try (exfalso; omega)))) | refine zW rfl rfl rfl rfl rfl rfl (fun _ _ q => hD _ q.below) ?_ | refine zi rfl rfl rfl rfl rfl rfl ?_ | refine zj rfl rfl rfl rfl rfl rfl (by omega) ?_ | refine zCX rfl rfl rfl rfl rfl rfl (IntWalk.i64_in _ (by omega)) ?_ | refine u_mul rfl rfl rfl rfl rfl rfl (IntWalk.i64_in _ (by omega)) ?_ | refine zd rfl rfl rfl rfl rfl rfl rfl (by omega) ?_ | refine zBP rfl rfl rfl rfl rfl rfl rfl (by first | decide | omega) ?_ | refine zq rfl rfl rfl rfl rfl ?_ | (refine zf rfl rfl rfl rfl rfl ?_; refine And.intro rfl (And.intro (by first | decide | exact Nat.le_of_ble_eq_true rfl | (simp; omega)) ⟨_, rfl, ?_⟩)) | (refine zn rfl rfl rfl rfl (fun b => ?_)) | (refine zAB rfl rfl rfl rfl rfl rfl (fun b => ?_)) | (refine zAy rfl rfl rfl rfl rfl ?_; refine ⟨_, rfl, ?_⟩)) | (with_reducible first | refine zH ?_ | refine zB ?_ | refine zD ?_ | refine zA ?_ | refine zX ?_ | refine zU ?_ | refine zZ ?_ | refine zCW ?_ | refine zQ ?_ | refine zl ?_ | refine zk ?_ | refine zAi ?_ | refine zV ?_ | refine zY ?_) | ((with_reducible refine zAn ?_ ?_); (· exact rfl)) | ((with_reducible refine zJ ?_ ?_); (· exact rfl)) | ((with_reducible refine zG ?_ ?_); (· exact rfl))))
   exact ze (k + 1) (by omega) (by omega) (by (first | exact lK1 | (repeat (first | exact lK1 | (refine zL rfl ?_))))) (by simp only [hw, zDE]; (repeat (first | exact oK1 _ | (refine oK2 (by (repeat (first | exact tK1 _ _ | apply tK2))) ?_))))
  ·obtain rfl : k = L.length := by omega
   rw [List.take_length]
   (repeat' (first | ((with_reducible refine zF ?_); first | refine zE rfl rfl rfl rfl rfl ?_ | refine zC rfl rfl rfl rfl rfl ?_ | (refine zK rfl rfl rfl rfl rfl ?_; refine ⟨_, rfl, ?_⟩) | refine zc rfl rfl rfl rfl rfl ?_ | (refine zT rfl rfl rfl rfl rfl rfl rfl (fun h => ?_) (fun h => ?_) <;> (dsimp only [cmpP] at h; (try (exfalso; omega)))) | refine zi rfl rfl rfl rfl rfl rfl ?_ | refine zj rfl rfl rfl rfl rfl rfl (by omega) ?_ | refine zCX rfl rfl rfl rfl rfl rfl (IntWalk.i64_in _ (by omega)) ?_ | refine u_mul rfl rfl rfl rfl rfl rfl (IntWalk.i64_in _ (by omega)) ?_ | refine zd rfl rfl rfl rfl rfl rfl rfl (by omega) ?_ | refine zBP rfl rfl rfl rfl rfl rfl rfl (by first | decide | omega) ?_ | refine zq rfl rfl rfl rfl rfl ?_ | (refine zf rfl rfl rfl rfl rfl ?_; refine And.intro rfl (And.intro (by first | decide | exact Nat.le_of_ble_eq_true rfl | (simp; omega)) ⟨_, rfl, ?_⟩)) | (refine zn rfl rfl rfl rfl (fun b => ?_)) | (refine zAB rfl rfl rfl rfl rfl rfl (fun b => ?_)) | (refine zAy rfl rfl rfl rfl rfl ?_; refine ⟨_, rfl, ?_⟩)) | (with_reducible first | refine zH ?_ | refine zB ?_ | refine zD ?_ | refine zA ?_ | refine zX ?_ | refine zU ?_ | refine zZ ?_ | refine zCW ?_ | refine zQ ?_ | refine zl ?_ | refine zk ?_ | refine zAi ?_ | refine zV ?_ | refine zY ?_) | ((with_reducible refine zAn ?_ ?_); (· exact rfl)) | ((with_reducible refine zJ ?_ ?_); (· exact rfl)) | ((with_reducible refine zG ?_ ?_); (· exact rfl))))
   exact zS (by (exact zN.cons (by exact res1c rfl (by exact rfl)) (zN.cons (by exact zg.tmp rfl) zN.nil))) () trivial rfl (fun _ _ => Own.nil _ _)
 ·rw [if_neg h0]
  unfold zM at h1 ⊢
  generalize zB2 c pl = e at *
  (refine zI (n := 60) Tryz.func29 rfl rfl rfl ?_)
  (repeat' (first | ((with_reducible refine zF ?_); first | refine zE rfl rfl rfl rfl rfl ?_ | refine zC rfl rfl rfl rfl rfl ?_ | (refine zK rfl rfl rfl rfl rfl ?_; refine ⟨_, rfl, ?_⟩) | refine zc rfl rfl rfl rfl rfl ?_ | (refine zT rfl rfl rfl rfl rfl rfl rfl (fun h => ?_) (fun h => ?_) <;> (dsimp only [cmpP] at h; (try (exfalso; omega)))) | refine zW rfl rfl rfl rfl rfl rfl (fun _ _ q => h1 _ q.below h0) ?_ | refine zi rfl rfl rfl rfl rfl rfl ?_ | refine zj rfl rfl rfl rfl rfl rfl (by omega) ?_ | refine zCX rfl rfl rfl rfl rfl rfl (IntWalk.i64_in _ (by omega)) ?_ | refine u_mul rfl rfl rfl rfl rfl rfl (IntWalk.i64_in _ (by omega)) ?_ | refine zd rfl rfl rfl rfl rfl rfl rfl (by omega) ?_ | refine zBP rfl rfl rfl rfl rfl rfl rfl (by first | decide | omega) ?_ | refine zq rfl rfl rfl rfl rfl ?_ | (refine zf rfl rfl rfl rfl rfl ?_; refine And.intro rfl (And.intro (by first | decide | exact Nat.le_of_ble_eq_true rfl | (simp; omega)) ⟨_, rfl, ?_⟩)) | (refine zn rfl rfl rfl rfl (fun b => ?_)) | (refine zAB rfl rfl rfl rfl rfl rfl (fun b => ?_)) | (refine zAy rfl rfl rfl rfl rfl ?_; refine ⟨_, rfl, ?_⟩)) | (with_reducible first | refine zH ?_ | refine zB ?_ | refine zD ?_ | refine zA ?_ | refine zX ?_ | refine zU ?_ | refine zZ ?_ | refine zCW ?_ | refine zQ ?_ | refine zl ?_ | refine zk ?_ | refine zAi ?_ | refine zV ?_ | refine zY ?_) | ((with_reducible refine zAn ?_ ?_); (· exact rfl)) | ((with_reducible refine zJ ?_ ?_); (· exact rfl)) | ((with_reducible refine zG ?_ ?_); (· exact rfl))))
  all_goals exact zS (by (exact zN.cons (by exact res1c rfl (by exact rfl)) (zN.cons (by exact zg.tmp rfl) zN.nil))) () trivial rfl (fun _ _ => Own.nil _ _)
end Go.Proofs.YtdigopgncfhiaaaGreatDoor
namespace Go.Proofs.YtdigopgncfhiaaaGreatDoor
open Go.RowKit
set_option maxRecDepth 20000
theorem zKM {c : Cov} {pl pl' : List Sli} (h : pl.map Sli.xs = pl'.map Sli.xs) : zEk c pl = zEk c pl' := by unfold zEk; rw [zB1 h, zDa h]
theorem zKV {c : Cov} {pl pl' : List Sli} (h : pl.map Sli.xs = pl'.map Sli.xs) : zHs c pl = zHs c pl' := by unfold zHs; rw [zB1 h, zDa h, zDa h]
theorem zJd {c : Cov} {pl pl' : List Sli} (h : pl.map Sli.xs = pl'.map Sli.xs) : zFi c pl = zFi c pl' := by
 unfold zFi zEE
 rw [zB1 h, List.take_length, List.take_length, List.flatMap_def, List.flatMap_def, h]
end Go.Proofs.YtdigopgncfhiaaaGreatDoor
namespace Go.Proofs.YtdigopgncfhiaaaGreatDoor
open Go.RowKit
set_option maxRecDepth 20000
section
variable (c : Cov) (A : Option Addr) (ca : Nat) (B : Option Addr) (cb : Nat) (C : Option Addr) (cc : Nat) (xss : List (List Int)) (P : Option Addr) (cp : Nat) (w : World) (hc : zAd w c A B C) (hs : Small c) (hp : ∃ pl : List Sli, pl.map Sli.xs = (zBQ xss).map Sli.xs ∧ zBB w P pl) (hl : xss.length ≤ 12) (hr : ∀ r ∈ xss, r.length ≤ 20)
include hc hs hp hl hr
theorem iThickP (i h : Int) : Gv Tryz.prog 23 [zAL c A ca B cb C cc, .slice P xss.length cp, .int .i64 i, .int .i64 h] w (.tuple #[vSp (zEN c (zBQ xss) i h).1, .int .i64 (zEN c (zBQ xss) i h).2]) := by
 obtain ⟨pl, hx, hp⟩ := hp
 have := zMA c A ca B cb C cc pl P cp i h w hc hs hp (by rw [zCf hx]; exact hl) (zE3 hx hr)
 rw [zCf hx, zJk hx] at this
 exact this
theorem iThinP (hG : InC w 0 0 zCT) : Ret Tryz.prog 20 [zAL c A ca B cb C cc, .slice P xss.length cp] w (fun p : Option Addr × Nat => .tuple #[.slice p.1 (zEk c (zBQ xss)).length p.2, .int .i64 (zB2 c (zBQ xss))]) (fun p => [.sl zAR 2 p.1 (zEk c (zBQ xss))]) (fun _ => True) := by
 obtain ⟨pl, hx, hp⟩ := hp
 have := zNk c A ca B cb C cc pl P cp w hc hs hp (by rw [zCf hx]; exact hl) (zE3 hx hr) hG
 rw [zCf hx, zKM hx, zB1 hx] at this
 exact this
theorem iSafeP (hG : InC w 0 0 zCT) : Gv Tryz.prog 21 [zAL c A ca B cb C cc, .slice P xss.length cp] w (.tuple #[.int .u8 (zHs c (zBQ xss)), .int .i64 (zB2 c (zBQ xss))]) := by
 obtain ⟨pl, hx, hp⟩ := hp
 have := zNl c A ca B cb C cc pl P cp w hc hs hp (by rw [zCf hx]; exact hl) (zE3 hx hr) hG
 rw [zCf hx, zKV hx, zB1 hx] at this
 exact this
theorem iMostP (h : Int) (hG : InC w 0 0 zCT) : Gv Tryz.prog 37 [zAL c A ca B cb C cc, .slice P xss.length cp, .int .i64 h] w (.tuple #[.int .i64 (zEu c (zBQ xss) h).1, .int .i64 (zEu c (zBQ xss) h).2]) := by
 obtain ⟨pl, hx, hp⟩ := hp
 have := zNo c A ca B cb C cc pl P cp h w hc hs hp (by rw [zCf hx]; exact hl) (zE3 hx hr) hG
 rw [zCf hx, zKu hx] at this
 exact this
theorem iWaterP : Gv Tryz.prog 29 [zAL c A ca B cb C cc, .slice P xss.length cp] w (.tuple #[vSp (zFi c (zBQ xss)), .int .i64 (zB2 c (zBQ xss))]) := by
 obtain ⟨pl, hx, hp⟩ := hp
 have := zL9 c A ca B cb C cc pl P cp w hc hs hp (by rw [zCf hx]; exact hl) (zE3 hx hr)
 rw [zCf hx, zJd hx, zB1 hx] at this
 exact this
end
theorem zLf (xss : List (List Int)) (P : Option Addr) (cp : Nat) (P2 : Option Addr) (cp2 : Nat) (w : World) (hp : ∃ pl : List Sli, pl.map Sli.xs = (zBQ xss).map Sli.xs ∧ zBB w P pl) (hp2 : ∃ pl : List Sli, pl.map Sli.xs = (zBQ xss).map Sli.xs ∧ zBB w P2 pl) (hl : xss.length ≤ 1000) (hr : ∀ r ∈ xss, r.length ≤ 1000) :
  Gv Tryz.prog 53 [.slice P xss.length cp, .slice P2 xss.length cp2] w (.bool true) := by
 obtain ⟨pl, hx, hp⟩ := hp
 obtain ⟨pl2, hx2, hp2⟩ := hp2
 have := zIl pl pl2 P cp P2 cp2 w hp hp2 (hx.trans hx2.symm) (by rw [zCf hx]; exact hl) (zE3 hx2 hr)
 rw [zCf hx, zCf hx2] at this
 exact this
theorem zMf (x : List Int) (X : Option Addr) (cx : Nat) (Y : Option Addr) (cy : Nat) (W : World) (h1 : zt encI 1 W X x) (h2 : zt encI 1 W Y x) (h3 : x.length ≤ 1000) : Gv Tryz.prog 27 [.slice X x.length cx, .slice Y x.length cy] W (.bool true) := by
 have hs := fun W' (hW : Below W.heap.size W W') => (zI1 x x X Y cx cy W' (h1.below hW) (h2.below hW) (by omega) (by omega)).gv
 simp only [decide_true] at hs
 unfold Gv
 (refine zI (n := 8) Tryz.func27 rfl rfl rfl ?_)
 (repeat' (first | ((with_reducible refine zF ?_); first | refine zE rfl rfl rfl rfl rfl ?_ | refine zC rfl rfl rfl rfl rfl ?_ | refine zW rfl rfl rfl rfl rfl rfl (fun _ _ q => hs _ q.below) ?_) | (with_reducible first | refine zH ?_ | refine zB ?_ | refine zD ?_ | refine zA ?_ | refine zX ?_)))
 all_goals exact zS (by (exact zN.cons (by exact zg.tmp rfl) zN.nil)) () trivial rfl (fun _ _ => Own.nil _ _)
def zGo (c : Cov) : Bool := !zCl c [] && decide (zAl c = 0)
theorem zHz {c : Cov} : zGo c = true ↔ zCl c [] = false ∧ zAl c = 0 := by simp [zGo]
theorem zJs {c : Cov} (h : zGo c = true) (hf : zGY c.t) : Small c := by
 obtain ⟨h1, _⟩ := zHz.1 h
 obtain ⟨k1, k2, k3, _, _⟩ := zFQ h1
 exact ⟨hf, k1, k2, k3⟩
theorem zL1 (c : Cov) (A : Option Addr) (ca : Nat) (B : Option Addr) (cb : Nat) (C : Option Addr) (cc : Nat) (w : World) (hc : zAd w c A B C) (hf : zGY c.t) : Gv Tryz.prog 16 [zAL c A ca B cb C cc] w (.bool (zGo c)) := by
 have hGr := fun W (hW : Below w.heap.size w W) => zKc c A ca B cb C cc [] none 0 W ⟨zt.nil, fun s hs => by cases hs⟩ ⟨Nat.le_refl _, Nat.zero_le _⟩
 unfold zAL at hGr
 unfold Gv zAL zGo
 cases hgr : zCl c []
 ·rw [hgr] at hGr
  obtain ⟨k1, k2, k3, _, _⟩ := zFQ hgr
  have hC := fun W (hW : Below w.heap.size w W) => zKb c A ca B cb C cc W (hc.below hW) ⟨hf, k1, k2, k3⟩
  unfold zAL at hC
  generalize zAl c = e at *
  unfold zM at hC hGr ⊢
  (refine zI (n := 11) Tryz.func16 rfl rfl rfl ?_)
  (repeat' (first | ((with_reducible refine zF ?_); first | refine zE rfl rfl rfl rfl rfl ?_ | refine zC rfl rfl rfl rfl rfl ?_ | (refine zK rfl rfl rfl rfl rfl ?_; refine ⟨_, rfl, ?_⟩) | refine zAm rfl rfl rfl rfl rfl rfl ?_ | (refine zT rfl rfl rfl rfl rfl rfl rfl (fun h => ?_) (fun h => ?_) <;> (dsimp only [cmpP] at h; (try (exfalso; omega)))) | refine zW rfl rfl rfl rfl rfl rfl (fun _ _ q => hGr _ q.below) ?_ | refine zW rfl rfl rfl rfl rfl rfl (fun _ _ q => hC _ q.below) ?_ | refine zAb rfl rfl rfl rfl rfl ?_ | (refine zAB rfl rfl rfl rfl rfl rfl (fun b => ?_))) | (with_reducible first | refine zH ?_ | refine zB ?_ | refine zD ?_ | refine zA ?_ | refine zX ?_)))
  all_goals exact zS (by (exact zN.cons (by exact zg.tmp rfl) zN.nil)) () trivial (by simp_all [resV]) (fun _ h => h.sub (by (repeat (first | exact oK1 _ | (refine oK2 (by (repeat (first | exact tK1 _ _ | apply tK2))) ?_)))))
 ·rw [hgr] at hGr
  unfold zM at hGr ⊢
  (refine zI (n := 11) Tryz.func16 rfl rfl rfl ?_)
  (repeat' (first | ((with_reducible refine zF ?_); first | refine zE rfl rfl rfl rfl rfl ?_ | refine zC rfl rfl rfl rfl rfl ?_ | (refine zK rfl rfl rfl rfl rfl ?_; refine ⟨_, rfl, ?_⟩) | refine zAm rfl rfl rfl rfl rfl rfl ?_ | refine zAA rfl rfl rfl ?_ | refine zW rfl rfl rfl rfl rfl rfl (fun _ _ q => hGr _ q.below) ?_ | refine zAb rfl rfl rfl rfl rfl ?_ | (refine zAB rfl rfl rfl rfl rfl rfl (fun b => ?_))) | (with_reducible first | refine zH ?_ | refine zB ?_ | refine zD ?_ | refine zA ?_ | refine zX ?_)))
  all_goals exact zS (by (exact zN.cons (by exact zg.tmp rfl) zN.nil)) () trivial rfl (fun _ _ => Own.nil _ _)
end Go.Proofs.YtdigopgncfhiaaaGreatDoor
