/- D28 -/
import Derived.Test.YtdigopgncfhiaaaGreatDoorD26
import Derived.Test.YtdigopgncfhiaaaGreatDoorD27
set_option linter.unusedSimpArgs false
set_option linter.unusedVariables false
namespace Go.Proofs.YtdigopgncfhiaaaGreatDoor
open Go.RowKit
set_option maxRecDepth 20000
set_option maxHeartbeats 1000000 in
theorem zOI (m : Nat) (w : World) (hm : m ≤ 1000) : Ret Tryz.prog 111 [.slice none 0 0, .int .i64 (m : Int)] w (fun v : Value => v) (fun v => [.row encI 1 3 v ([] : List Int)]) (fun _ => True) := by
 by_cases h0 : 0 < m
 ·(refine zL (n := 27) Tryz.func111 rfl rfl rfl ?_)
  (repeat' (first | ((with_reducible refine zG ?_); first | refine zE rfl rfl rfl rfl rfl ?_ | refine zC rfl rfl rfl rfl rfl ?_ | (refine zR rfl rfl rfl rfl rfl rfl rfl (fun h => ?_) (fun h => ?_) <;> (dsimp only [cmpP] at h; (try (exfalso; omega)))) | refine zNW 0 rfl rfl rfl rfl rfl (by exact rfl) rfl (by omega) (by first | exact rfl | simp [Addr.add]) ?_ | (refine zNc encI (m := m) rfl rfl rfl rfl rfl (by rw [show (m : Int) = (m : Int) - (((0 : Nat) : Int) - ((0 : Nat) : Int)) by omega]; exact rfl) h0 (by omega) (fun b c' hc => ?_)) | refine zCC rfl rfl rfl rfl rfl rfl (IntWalk.i64_in _ (by omega)) ?_ | refine zr rfl rfl rfl rfl rfl ?_ | refine u_cap rfl rfl rfl rfl rfl ?_) | (with_reducible first | refine zH ?_ | refine zB ?_ | refine zD ?_ | refine zA ?_ | refine zX ?_ | refine zU ?_ | refine zZ ?_ | refine zCU ?_) | ((with_reducible refine zI ?_ ?_); (· exact rfl)) | ((with_reducible refine zF ?_ ?_); (· exact rfl))))
  exact zV (by (exact zP.cons (by exact zf.tmp rfl) zP.nil)) _ trivial rfl (fun _ h => h.sub (by (repeat (first | exact oK1 _ | (refine oK2 (by (repeat (first | exact tK1 _ _ | apply tK2))) ?_)))))
 ·obtain rfl : m = 0 := by omega
  (refine zL (n := 27) Tryz.func111 rfl rfl rfl ?_)
  (repeat' (first | ((with_reducible refine zG ?_); first | refine zE rfl rfl rfl rfl rfl ?_ | refine zC rfl rfl rfl rfl rfl ?_ | (refine zR rfl rfl rfl rfl rfl rfl rfl (fun h => ?_) (fun h => ?_) <;> (dsimp only [cmpP] at h; (try (exfalso; omega)))) | refine zCC rfl rfl rfl rfl rfl rfl (IntWalk.i64_in _ (by omega)) ?_ | refine zr rfl rfl rfl rfl rfl ?_ | refine u_cap rfl rfl rfl rfl rfl ?_) | (with_reducible first | refine zH ?_ | refine zB ?_ | refine zD ?_ | refine zA ?_ | refine zX ?_ | refine zU ?_ | refine zZ ?_ | refine zCU ?_) | ((with_reducible refine zI ?_ ?_); (· exact rfl)) | ((with_reducible refine zF ?_ ?_); (· exact rfl))))
  refine zD2 encI 1 3 ?_
  exact zV (by (exact zP.cons (by exact zf.tmp rfl) zP.nil)) (.slice none 0 0) trivial rfl (fun _ h => h.sub (by (repeat (first | exact oK1 _ | (refine oK2 (by (repeat (first | exact tK1 _ _ | apply tK2))) ?_)))))
def zEM (pl : List Sli) (k : Nat) : List Int := (pl.take k).flatMap Sli.xs
theorem zG7 {pl : List Sli} {k : Nat} {s : Sli} (h : pl[k]? = some s) : zEM pl (k + 1) = zEM pl k ++ s.xs := by
 unfold zEM
 rw [List.take_add_one, h, List.flatMap_append]
 simp
theorem zIo {pl : List Sli} (h : ∀ s ∈ pl, s.xs.length ≤ 20) : ∀ k, k ≤ pl.length → (zEM pl k).length ≤ k * 20
 | 0, _ => by simp [zEM]
 | k + 1, hk => by
  obtain ⟨s, hs⟩ : ∃ s, pl[k]? = some s := ⟨_, List.getElem?_eq_getElem (by omega)⟩
  rw [zG7 hs, List.length_append]
  have := zIo h k (by omega)
  have := h s (List.mem_of_getElem? hs)
  omega
set_option maxHeartbeats 2000000 in
theorem zLp (pl : List Sli) (P : Option Addr) (cp : Nat) (w : World) (hp : zBK w P pl) (hl : pl.length ≤ 12) (hrl : ∀ s ∈ pl, s.xs.length ≤ 20) :
  zDF encI 1 (pl.flatMap Sli.xs) (fun v => v) Tryz.prog 69 [.slice P pl.length cp] w := by
 have hpp := hp.p
 have hcl := zIo hrl
 have hall : zEM pl pl.length = pl.flatMap Sli.xs := by unfold zEM; rw [List.take_length]
 rw [← hall]
 unfold zDF
 (refine zL (n := 36) Tryz.func69 rfl rfl rfl ?_)
 (repeat' (first | ((with_reducible refine zG ?_); first | refine zE rfl rfl rfl rfl rfl ?_ | refine zC rfl rfl rfl rfl rfl ?_ | (refine zJ rfl rfl rfl rfl rfl ?_; refine ⟨_, rfl, ?_⟩) | (refine zR rfl rfl rfl rfl rfl rfl rfl (fun h => ?_) (fun h => ?_) <;> (dsimp only [cmpP] at h; (try (exfalso; omega)))) | refine zg rfl rfl rfl rfl rfl rfl (by omega) ?_ | refine zBy rfl rfl rfl rfl rfl rfl (IntWalk.i64_in _ (by omega)) ?_ | refine zb rfl rfl rfl rfl rfl rfl rfl (by omega) ?_ | refine zBZ rfl rfl rfl rfl rfl rfl rfl (by first | decide | omega) ?_ | refine zr rfl rfl rfl rfl rfl ?_) | (with_reducible first | refine zH ?_ | refine zB ?_ | refine zD ?_ | refine zA ?_ | refine zX ?_ | refine zU ?_ | refine zZ ?_ | refine zCU ?_ | refine zQ ?_ | refine zk ?_ | refine zi ?_ | refine zAi ?_ | refine zT ?_ | refine zW ?_) | ((with_reducible refine zAl ?_ ?_); (· exact rfl)) | ((with_reducible refine zI ?_ ?_); (· exact rfl)) | ((with_reducible refine zF ?_ ?_); (· exact rfl))))
 refine zq (ι := Nat) [0, 9, 10] rfl (fun k => k ≤ pl.length) (fun k => [(11, .int .i64 (k : Int)), (3, .int .i64 ((zEM pl k).length : Int))]) (fun _ => []) (fun k => pl.length - k) 0 (Nat.zero_le _) (by (first | exact lK1 | (repeat (first | exact lK1 | (refine zK rfl ?_))))) (by (repeat (first | exact oK1 _ | (refine oK2 (by (repeat (first | exact tK1 _ _ | apply tK2))) ?_)))) ?_
 rintro k hk
 simp only [zAw, List.cons_append, List.nil_append]
 have hck := hcl k hk
 by_cases hlt : k < pl.length
 ·obtain ⟨s, hsk⟩ : ∃ s, pl[k]? = some s := ⟨_, List.getElem?_eq_getElem hlt⟩
  have hsl := hrl s (List.mem_of_getElem? hsk)
  obtain ⟨bb, o, rfl, hblt, hc⟩ := hpp.at_ hlt
  have : InS w bb o zBN 1 pl := ⟨hpp⟩
  have : zAQ pl k s := ⟨hsk⟩
  have hcs : ((zEM pl (k + 1)).length : Int) = ((zEM pl k).length : Int) + (s.xs.length : Int) := by rw [zG7 hsk, List.length_append]; omega
  (repeat' (first | ((with_reducible refine zG ?_); first | refine zE rfl rfl rfl rfl rfl ?_ | refine zC rfl rfl rfl rfl rfl ?_ | (refine zJ rfl rfl rfl rfl rfl ?_; refine ⟨_, rfl, ?_⟩) | (refine zR rfl rfl rfl rfl rfl rfl rfl (fun h => ?_) (fun h => ?_) <;> (dsimp only [cmpP] at h; (try (exfalso; omega)))) | refine zg rfl rfl rfl rfl rfl rfl (by omega) ?_ | refine zBy rfl rfl rfl rfl rfl rfl (IntWalk.i64_in _ (by omega)) ?_ | refine zb rfl rfl rfl rfl rfl rfl rfl (by omega) ?_ | refine zBZ rfl rfl rfl rfl rfl rfl rfl (by first | decide | omega) ?_ | refine zr rfl rfl rfl rfl rfl ?_) | (with_reducible first | refine zH ?_ | refine zB ?_ | refine zD ?_ | refine zA ?_ | refine zX ?_ | refine zU ?_ | refine zZ ?_ | refine zCU ?_ | refine zQ ?_ | refine zk ?_ | refine zi ?_ | refine zAi ?_ | refine zT ?_ | refine zW ?_) | ((with_reducible refine zAl ?_ ?_); (· exact rfl)) | ((with_reducible refine zI ?_ ?_); (· exact rfl)) | ((with_reducible refine zF ?_ ?_); (· exact rfl))))
  all_goals exact ze (k + 1) (by omega) (by omega) (by simp only [hcs]; (first | exact lK1 | (repeat (first | exact lK1 | (refine zK rfl ?_))))) (by (repeat (first | exact oK1 _ | (refine oK2 (by (repeat (first | exact tK1 _ _ | apply tK2))) ?_))))
 ·obtain rfl : k = pl.length := by omega
  have hg := fun W => zOI (zEM pl pl.length).length W (by omega)
  (repeat' (first | ((with_reducible refine zG ?_); first | refine zE rfl rfl rfl rfl rfl ?_ | refine zC rfl rfl rfl rfl rfl ?_ | (refine zJ rfl rfl rfl rfl rfl ?_; refine ⟨_, rfl, ?_⟩) | (refine zR rfl rfl rfl rfl rfl rfl rfl (fun h => ?_) (fun h => ?_) <;> (dsimp only [cmpP] at h; (try (exfalso; omega)))) | (refine zAR rfl rfl rfl rfl rfl rfl (fun _ w _ => hg w) ?_; rintro v9 -; dsimp only [List.cons_append, List.nil_append]) | refine zg rfl rfl rfl rfl rfl rfl (by omega) ?_ | refine zBy rfl rfl rfl rfl rfl rfl (IntWalk.i64_in _ (by omega)) ?_ | refine zb rfl rfl rfl rfl rfl rfl rfl (by omega) ?_ | refine zBZ rfl rfl rfl rfl rfl rfl rfl (by first | decide | omega) ?_ | refine zr rfl rfl rfl rfl rfl ?_) | (with_reducible first | refine zH ?_ | refine zB ?_ | refine zD ?_ | refine zA ?_ | refine zX ?_ | refine zU ?_ | refine zZ ?_ | refine zCU ?_ | refine zQ ?_ | refine zk ?_ | refine zi ?_ | refine zAi ?_ | refine zT ?_ | refine zW ?_) | ((with_reducible refine zAl ?_ ?_); (· exact rfl)) | ((with_reducible refine zI ?_ ?_); (· exact rfl)) | ((with_reducible refine zF ?_ ?_); (· exact rfl))))
  refine zq (ι := Nat × Value) [25, 26] rfl (fun q => q.1 ≤ pl.length) (fun q => [(27, .int .i64 (q.1 : Int)), (6, q.2)]) (fun q => [.row encI 1 3 q.2 (zEM pl q.1)]) (fun q => pl.length - q.1) (0, v9) (Nat.zero_le _) (by (first | exact lK1 | (repeat (first | exact lK1 | (refine zK rfl ?_))))) (by (repeat (first | exact oK1 _ | (refine oK2 (by (repeat (first | exact tK1 _ _ | apply tK2))) ?_)))) ?_
  rintro ⟨k, v⟩ hk
  simp only at hk
  simp only [zAw, List.cons_append, List.nil_append]
  have hck := hcl k hk
  by_cases hlt : k < pl.length
  ·obtain ⟨s, hsk⟩ : ∃ s, pl[k]? = some s := ⟨_, List.getElem?_eq_getElem hlt⟩
   have hsm := List.mem_of_getElem? hsk
   have hsl := hrl s hsm
   have hrow := hp.rows s hsm
   obtain ⟨bb, o, rfl, hblt, hc⟩ := hpp.at_ hlt
   have : InS w bb o zBN 1 pl := ⟨hpp⟩
   obtain ⟨sA, xs, sc⟩ := s
   have : zAQ pl k ⟨sA, xs, sc⟩ := ⟨hsk⟩
   have hcs := zG7 hsk
   simp only at hsl hrow hcs
   (repeat' (first | ((with_reducible refine zG ?_); first | refine zE rfl rfl rfl rfl rfl ?_ | refine zC rfl rfl rfl rfl rfl ?_ | (refine zJ rfl rfl rfl rfl rfl ?_; refine ⟨_, rfl, ?_⟩) | (refine zR rfl rfl rfl rfl rfl rfl rfl (fun h => ?_) (fun h => ?_) <;> (dsimp only [cmpP] at h; (try (exfalso; omega)))) | (refine zBi (enc := encI) xs rfl rfl rfl rfl rfl (by (repeat (first | exact tK1 _ _ | apply tK2))) rfl rfl (zJ7 hrow) (by refine ⟨?_, by decide⟩; (try simp only [List.length_append, List.length_cons, List.length_nil]); omega) (fun A' c' => ?_)) | refine zg rfl rfl rfl rfl rfl rfl (by omega) ?_ | refine zBy rfl rfl rfl rfl rfl rfl (IntWalk.i64_in _ (by omega)) ?_ | refine zb rfl rfl rfl rfl rfl rfl rfl (by omega) ?_ | refine zBZ rfl rfl rfl rfl rfl rfl rfl (by first | decide | omega) ?_ | refine zr rfl rfl rfl rfl rfl ?_) | (with_reducible first | refine zH ?_ | refine zB ?_ | refine zD ?_ | refine zA ?_ | refine zX ?_ | refine zU ?_ | refine zZ ?_ | refine zCU ?_ | refine zQ ?_ | refine zk ?_ | refine zi ?_ | refine zAi ?_ | refine zT ?_ | refine zW ?_) | ((with_reducible refine zAl ?_ ?_); (· exact rfl)) | ((with_reducible refine zI ?_ ?_); (· exact rfl)) | ((with_reducible refine zF ?_ ?_); (· exact rfl))))
   exact ze (k + 1, .slice A' (zEM pl k ++ xs).length c') (by simp only; omega) (by simp only; omega) (by (first | exact lK1 | (repeat (first | exact lK1 | (refine zK rfl ?_))))) (by simp only [hcs]; (repeat (first | exact oK1 _ | (refine oK2 (by (repeat (first | exact tK1 _ _ | apply tK2))) ?_))))
  ·obtain rfl : k = pl.length := by omega
   refine zHp (by (repeat (first | exact tK1 _ _ | apply tK2))) ?_
   rintro A9 c9 rfl
   (repeat' (first | ((with_reducible refine zG ?_); first | refine zE rfl rfl rfl rfl rfl ?_ | refine zC rfl rfl rfl rfl rfl ?_ | (refine zJ rfl rfl rfl rfl rfl ?_; refine ⟨_, rfl, ?_⟩) | (refine zR rfl rfl rfl rfl rfl rfl rfl (fun h => ?_) (fun h => ?_) <;> (dsimp only [cmpP] at h; (try (exfalso; omega)))) | refine zg rfl rfl rfl rfl rfl rfl (by omega) ?_ | refine zBy rfl rfl rfl rfl rfl rfl (IntWalk.i64_in _ (by omega)) ?_ | refine zb rfl rfl rfl rfl rfl rfl rfl (by omega) ?_ | refine zBZ rfl rfl rfl rfl rfl rfl rfl (by first | decide | omega) ?_ | refine zr rfl rfl rfl rfl rfl ?_) | (with_reducible first | refine zH ?_ | refine zB ?_ | refine zD ?_ | refine zA ?_ | refine zX ?_ | refine zU ?_ | refine zZ ?_ | refine zCU ?_ | refine zQ ?_ | refine zk ?_ | refine zi ?_ | refine zAi ?_ | refine zT ?_ | refine zW ?_) | ((with_reducible refine zAl ?_ ?_); (· exact rfl)) | ((with_reducible refine zI ?_ ?_); (· exact rfl)) | ((with_reducible refine zF ?_ ?_); (· exact rfl))))
   exact zV (by (exact zP.cons (by exact zf.tmp rfl) zP.nil)) (A9, c9) trivial rfl (fun _ h => (h.zFq (by (repeat (first | exact tK1 _ _ | apply tK2)))).sub (by (repeat (first | exact oK1 _ | (refine oK2 (by (repeat (first | exact tK1 _ _ | apply tK2))) ?_)))))
end Go.Proofs.YtdigopgncfhiaaaGreatDoor
namespace Go.Proofs.YtdigopgncfhiaaaGreatDoor
open Go.RowKit
set_option maxRecDepth 20000
def zDp (c : Cov) (x : Int) : Sp := (c.t.getD x.toNat default).long
def zDP (c : Cov) (w : Sp) (x : Int) : Sp := ⟨w.lo + c.rate * (zDp c x).lo, w.hi + c.rate * (zDp c x).hi⟩
def zES (c : Cov) (l : List Int) : Sp := l.foldl (zDP c) ⟨0, 0⟩
def zFk (c : Cov) (pl : List Sli) : Sp := if zCG c pl = 0 then zES c (zEM pl pl.length) else ⟨0, 0⟩
theorem zL0 {c : Cov} {l : List Int} {x : Int} : zES c (l ++ [x]) = zDP c (zES c l) x := by simp [zES]
theorem zMe {c : Cov} (h : zAh c = 0) : valid c.t = true := by
 unfold zAh at h
 cases hv : valid c.t with
 | true => rfl
 | false => rw [hv] at h; simp at h
theorem cat_in {c : Cov} {pl : List Sli} (hp : zB1 c pl = true) {x : Int} (hx : x ∈ zEM pl pl.length) : ∃ k : Nat, x = (k : Int) ∧ k < c.beds.length := by
 unfold zEM at hx
 rw [List.take_length, List.mem_flatMap] at hx
 obtain ⟨s, hs, hx⟩ := hx
 obtain ⟨i, hi⟩ := List.mem_iff_getElem?.1 hs
 obtain ⟨hl, hr⟩ := zB0.1 hp
 have hil := (List.getElem?_eq_some_iff.1 hi).1
 have := hr i _ s (List.getElem?_eq_getElem (show i < c.hours.length by omega)) hi
 unfold zGE at this
 simp only [Bool.and_eq_true] at this
 exact zMI (List.all_eq_true.1 this.1.2 x hx)
theorem zLT {c : Cov} (hv : valid c.t = true) {k : Nat} (hk : k < c.t.length) : 1 ≤ (zDp c k).lo ∧ (zDp c k).lo ≤ (zDp c k).hi ∧ (zDp c k).hi ≤ 30000 := by
 have hz : c.t[k]? = some c.t[k] := List.getElem?_eq_getElem hk
 have ho := zFl hv c.t[k] (List.getElem_mem hk)
 unfold zDp
 rw [Int.toNat_natCast, zAv hz]
 exact ⟨ho.l0, ho.l1, ho.l2⟩
theorem zOT {c : Cov} (hv : valid c.t = true) {k : Nat} (hk : k < c.t.length) : zEJ c.t (k : Int) ((k : Int) + 1) = zDp c k := by
 have hd : zEi c.t (k : Int) ((k : Int) + 1) = true := by unfold zEi; simp only [Bool.and_eq_true, zAJ]; omega
 unfold zEJ
 rw [hv, hd, Bool.and_true, if_pos rfl, Int.toNat_natCast, show ((k : Int) + 1).toNat = k + 1 by omega]
 unfold zc longs zDp
 have hz : c.t[k]? = some c.t[k] := List.getElem?_eq_getElem hk
 rw [Int.toNat_natCast, zAv hz, List.extract_eq_take_drop, show k + 1 - k = 1 by omega, List.take_one, List.head?_drop, List.getElem?_map, hz]
 simp [zHD, zBf]
theorem zKi {c : Cov} (hf : zCf c) (hv : valid c.t = true) : ∀ (l : List Int) (w : Sp) (m : Int), (∀ x ∈ l, ∃ k : Nat, x = (k : Int) ∧ k < c.t.length) → 0 ≤ w.lo ∧ w.lo ≤ m ∧ 0 ≤ w.hi ∧ w.hi ≤ m → 0 ≤ (l.foldl (zDP c) w).lo ∧ (l.foldl (zDP c) w).lo ≤ m + 3000000 * l.length ∧ 0 ≤ (l.foldl (zDP c) w).hi ∧ (l.foldl (zDP c) w).hi ≤ m + 3000000 * l.length
 | [], w, m, _, h => by simp only [List.foldl_nil, List.length_nil]; omega
 | x :: l, w, m, hx, h => by
  obtain ⟨k, rfl, hk⟩ := hx x (by simp)
  have h1 := zLT hv hk
  have h2 := hf.rate
  simp only [zAJ] at h2
  have m1 := zEw (a := c.rate) (b := (zDp c k).lo) (A := 100) (B := 30000) (by omega) (by omega) (by omega) (by omega)
  have m2 := zEw (a := c.rate) (b := (zDp c k).hi) (A := 100) (B := 30000) (by omega) (by omega) (by omega) (by omega)
  have := zKi hf hv l (zDP c w k) (m + 3000000) (fun y hy => hx y (by simp [hy])) (by simp only [zDP]; omega)
  simp only [List.foldl_cons, List.length_cons]
  omega
end Go.Proofs.YtdigopgncfhiaaaGreatDoor
namespace Go.Proofs.YtdigopgncfhiaaaGreatDoor
open Go.RowKit
set_option maxRecDepth 20000
set_option maxHeartbeats 4000000 in
theorem zMX (c : Cov) (A : Option Addr) (ca : Nat) (B : Option Addr) (cb : Nat) (C : Option Addr) (cc : Nat) (pl : List Sli) (P : Option Addr) (cp : Nat) (w : World) (hc : zAq w c A B C) (hs : Small c) (hp : zBK w P pl) (hl : pl.length ≤ 12) (hrl : ∀ s ∈ pl, s.xs.length ≤ 20) :
  Gv Tryz.prog 29 [zAS c A ca B cb C cc, .slice P pl.length cp] w (.tuple #[vSp (zFk c pl), .int .i64 (zCG c pl)]) := by
 have h1 := fun W (hb : Below w.heap.size w W) => zEB c A ca B cb C cc pl P cp W (hc.below hb) hs (hp.below hb) hl hrl
 have h2 := fun W (hb : Below w.heap.size w W) => zEA c A ca B cb C cc pl P cp W (hc.below hb) hs (hp.below hb) hl hrl
 unfold zAS at h1 h2
 unfold Gv zAS zFk vSp
 by_cases h0 : zCG c pl = 0
 ·rw [if_pos h0, h0]
  obtain ⟨h00, hpl⟩ := zEG h0
  have hf := zBg h00
  have hv := zMe h00
  have h2 := fun W hb => h2 W hb h00 hpl
  have hC := fun W (hb : Below w.heap.size w W) => zLp pl P cp W (hp.below hb) hl hrl
  have hin := fun x hx => cat_in (c := c) (pl := pl) hpl (x := x) hx
  have hlen := zIo hrl pl.length (Nat.le_refl _)
  have hall : zEM pl pl.length = pl.flatMap Sli.xs := by unfold zEM; rw [List.take_length]
  rw [← hall] at hC
  generalize zEM pl pl.length = L at *
  have hbt := hf.beds
  have hrt := hf.rate
  simp only [zAJ] at hrt
  have hDr := fun W (hb : Below w.heap.size w W) (k : Nat) (hk : k < c.t.length) => (drop_any c.t A ca (k : Int) (((k + 1 : Nat)) : Int) W (hc.t.below hb) hs.fit (by have := hs.t; omega)).gv
  unfold vT vSp at hDr
  unfold zM at h2 ⊢
  (refine zL (n := 60) Tryz.func29 rfl rfl rfl ?_)
  (repeat' (first | ((with_reducible refine zG ?_); first | refine zE rfl rfl rfl rfl rfl ?_ | refine zC rfl rfl rfl rfl rfl ?_ | (refine zJ rfl rfl rfl rfl rfl ?_; refine ⟨_, rfl, ?_⟩) | refine zd rfl rfl rfl rfl rfl ?_ | (refine zR rfl rfl rfl rfl rfl rfl rfl (fun h => ?_) (fun h => ?_) <;> (dsimp only [cmpP] at h; (try (exfalso; omega)))) | (refine zAR rfl rfl rfl rfl rfl rfl (fun _ _ q => h2 _ q.below) ?_; rintro g -; dsimp only [List.cons_append, List.nil_append]) | refine zCu rfl rfl rfl rfl rfl rfl (fun _ _ q => hC _ q.below) (fun A' c' => ?_) | refine zh rfl rfl rfl rfl rfl rfl ?_ | refine zg rfl rfl rfl rfl rfl rfl (by omega) ?_ | refine zBy rfl rfl rfl rfl rfl rfl (IntWalk.i64_in _ (by omega)) ?_ | refine u_mul rfl rfl rfl rfl rfl rfl (IntWalk.i64_in _ (by omega)) ?_ | refine zb rfl rfl rfl rfl rfl rfl rfl (by omega) ?_ | refine zBZ rfl rfl rfl rfl rfl rfl rfl (by first | decide | omega) ?_ | refine zr rfl rfl rfl rfl rfl ?_ | (refine zj rfl rfl rfl rfl rfl ?_; refine And.intro rfl (And.intro (by first | decide | exact Nat.le_of_ble_eq_true rfl | (simp; omega)) ⟨_, rfl, ?_⟩)) | (refine zt rfl rfl rfl rfl (fun b => ?_)) | (refine zAD rfl rfl rfl rfl rfl rfl (fun b => ?_)) | (refine zA4 rfl rfl rfl rfl rfl ?_; refine ⟨_, rfl, ?_⟩)) | (with_reducible first | refine zH ?_ | refine zB ?_ | refine zD ?_ | refine zA ?_ | refine zX ?_ | refine zU ?_ | refine zZ ?_ | refine zCU ?_ | refine zQ ?_ | refine zk ?_ | refine zi ?_ | refine zAi ?_ | refine zT ?_ | refine zW ?_) | ((with_reducible refine zAl ?_ ?_); (· exact rfl)) | ((with_reducible refine zI ?_ ?_); (· exact rfl)) | ((with_reducible refine zF ?_ ?_); (· exact rfl))))
  rename_i b2 b4
  refine zq (ι := Nat) [2, 4, 8, 25, 26] rfl (fun k => k ≤ L.length) (fun k => [(27, .int .i64 (k : Int))]) (fun k => [.blk b (zA3 (zES c (L.take k))), .sl encI 1 A' L, .blk b4 [.int .i64 0, .int .i64 0], .blk b2 (zM c A ca B cb C cc)]) (fun k => L.length - k) 0 (Nat.zero_le _) (by (first | exact lK1 | (repeat (first | exact lK1 | (refine zK rfl ?_))))) (by (repeat (first | exact oK1 _ | (refine oK2 (by (repeat (first | exact tK1 _ _ | apply tK2))) ?_)))) ?_
  rintro k hk
  simp only [zAw, zM, List.cons_append, List.nil_append]
  by_cases hlt : k < L.length
  ·obtain ⟨x, hx⟩ : ∃ x, L[k]? = some x := ⟨_, List.getElem?_eq_getElem hlt⟩
   obtain ⟨i, rfl, hi⟩ := hin x (List.mem_of_getElem? hx)
   have hD := fun W hb => hDr W hb i (by omega)
   have he : zEJ c.t (i : Int) (((i + 1 : Nat)) : Int) = zDp c i := by rw [show (((i + 1 : Nat)) : Int) = (i : Int) + 1 by omega]; exact zOT hv (by omega)
   rw [he] at hD
   have h4 := hs.b
   have hli := zLT hv (show i < c.t.length by omega)
   have hwi := zKi hf hv (L.take k) ⟨0, 0⟩ 0 (fun y hy => by obtain ⟨j, e, hj⟩ := hin y (List.mem_of_mem_take hy); exact ⟨j, e, by omega⟩) (by simp only; omega)
   have hwl : (L.take k).length ≤ 240 := by rw [List.length_take]; omega
   have hw : zES c (L.take (k + 1)) = zDP c (zES c (L.take k)) i := by rw [List.take_add_one, hx]; exact zL0
   have hwe : (L.take k).foldl (zDP c) ⟨0, 0⟩ = zES c (L.take k) := rfl
   rw [hwe] at hwi
   have m1 := zEw (a := c.rate) (b := (zDp c i).lo) (A := 100) (B := 30000) (by omega) (by omega) (by omega) (by omega)
   have m2 := zEw (a := c.rate) (b := (zDp c i).hi) (A := 100) (B := 30000) (by omega) (by omega) (by omega) (by omega)
   generalize zES c (L.take k) = wk at *
   have : zAQ L k (i : Int) := ⟨hx⟩
   unfold zA3
   refine zKm (by (repeat (first | exact tK1 _ _ | apply tK2))) (by omega) ?_
   rintro bl ol rfl
   (repeat' (first | ((with_reducible refine zG ?_); first | refine zE rfl rfl rfl rfl rfl ?_ | refine zC rfl rfl rfl rfl rfl ?_ | (refine zJ rfl rfl rfl rfl rfl ?_; refine ⟨_, rfl, ?_⟩) | refine zd rfl rfl rfl rfl rfl ?_ | (refine zR rfl rfl rfl rfl rfl rfl rfl (fun h => ?_) (fun h => ?_) <;> (dsimp only [cmpP] at h; (try (exfalso; omega)))) | refine zY rfl rfl rfl rfl rfl rfl (fun _ _ q => hD _ q.below) ?_ | refine zh rfl rfl rfl rfl rfl rfl ?_ | refine zg rfl rfl rfl rfl rfl rfl (by omega) ?_ | refine zBy rfl rfl rfl rfl rfl rfl (IntWalk.i64_in _ (by omega)) ?_ | refine u_mul rfl rfl rfl rfl rfl rfl (IntWalk.i64_in _ (by omega)) ?_ | refine zb rfl rfl rfl rfl rfl rfl rfl (by omega) ?_ | refine zBZ rfl rfl rfl rfl rfl rfl rfl (by first | decide | omega) ?_ | refine zr rfl rfl rfl rfl rfl ?_ | (refine zj rfl rfl rfl rfl rfl ?_; refine And.intro rfl (And.intro (by first | decide | exact Nat.le_of_ble_eq_true rfl | (simp; omega)) ⟨_, rfl, ?_⟩)) | (refine zt rfl rfl rfl rfl (fun b => ?_)) | (refine zAD rfl rfl rfl rfl rfl rfl (fun b => ?_)) | (refine zA4 rfl rfl rfl rfl rfl ?_; refine ⟨_, rfl, ?_⟩)) | (with_reducible first | refine zH ?_ | refine zB ?_ | refine zD ?_ | refine zA ?_ | refine zX ?_ | refine zU ?_ | refine zZ ?_ | refine zCU ?_ | refine zQ ?_ | refine zk ?_ | refine zi ?_ | refine zAi ?_ | refine zT ?_ | refine zW ?_) | ((with_reducible refine zAl ?_ ?_); (· exact rfl)) | ((with_reducible refine zI ?_ ?_); (· exact rfl)) | ((with_reducible refine zF ?_ ?_); (· exact rfl))))
   exact ze (k + 1) (by omega) (by omega) (by (first | exact lK1 | (repeat (first | exact lK1 | (refine zK rfl ?_))))) (by simp only [hw, zDP]; (repeat (first | exact oK1 _ | (refine oK2 (by (repeat (first | exact tK1 _ _ | apply tK2))) ?_))))
  ·obtain rfl : k = L.length := by omega
   rw [List.take_length]
   (repeat' (first | ((with_reducible refine zG ?_); first | refine zE rfl rfl rfl rfl rfl ?_ | refine zC rfl rfl rfl rfl rfl ?_ | (refine zJ rfl rfl rfl rfl rfl ?_; refine ⟨_, rfl, ?_⟩) | refine zd rfl rfl rfl rfl rfl ?_ | (refine zR rfl rfl rfl rfl rfl rfl rfl (fun h => ?_) (fun h => ?_) <;> (dsimp only [cmpP] at h; (try (exfalso; omega)))) | refine zh rfl rfl rfl rfl rfl rfl ?_ | refine zg rfl rfl rfl rfl rfl rfl (by omega) ?_ | refine zBy rfl rfl rfl rfl rfl rfl (IntWalk.i64_in _ (by omega)) ?_ | refine u_mul rfl rfl rfl rfl rfl rfl (IntWalk.i64_in _ (by omega)) ?_ | refine zb rfl rfl rfl rfl rfl rfl rfl (by omega) ?_ | refine zBZ rfl rfl rfl rfl rfl rfl rfl (by first | decide | omega) ?_ | refine zr rfl rfl rfl rfl rfl ?_ | (refine zj rfl rfl rfl rfl rfl ?_; refine And.intro rfl (And.intro (by first | decide | exact Nat.le_of_ble_eq_true rfl | (simp; omega)) ⟨_, rfl, ?_⟩)) | (refine zt rfl rfl rfl rfl (fun b => ?_)) | (refine zAD rfl rfl rfl rfl rfl rfl (fun b => ?_)) | (refine zA4 rfl rfl rfl rfl rfl ?_; refine ⟨_, rfl, ?_⟩)) | (with_reducible first | refine zH ?_ | refine zB ?_ | refine zD ?_ | refine zA ?_ | refine zX ?_ | refine zU ?_ | refine zZ ?_ | refine zCU ?_ | refine zQ ?_ | refine zk ?_ | refine zi ?_ | refine zAi ?_ | refine zT ?_ | refine zW ?_) | ((with_reducible refine zAl ?_ ?_); (· exact rfl)) | ((with_reducible refine zI ?_ ?_); (· exact rfl)) | ((with_reducible refine zF ?_ ?_); (· exact rfl))))
   exact zV (by (exact zP.cons (by exact res1c rfl (by exact rfl)) (zP.cons (by exact zf.tmp rfl) zP.nil))) () trivial rfl (fun _ _ => Own.nil _ _)
 ·rw [if_neg h0]
  unfold zM at h1 ⊢
  generalize zCG c pl = e at *
  (refine zL (n := 60) Tryz.func29 rfl rfl rfl ?_)
  (repeat' (first | ((with_reducible refine zG ?_); first | refine zE rfl rfl rfl rfl rfl ?_ | refine zC rfl rfl rfl rfl rfl ?_ | (refine zJ rfl rfl rfl rfl rfl ?_; refine ⟨_, rfl, ?_⟩) | refine zd rfl rfl rfl rfl rfl ?_ | (refine zR rfl rfl rfl rfl rfl rfl rfl (fun h => ?_) (fun h => ?_) <;> (dsimp only [cmpP] at h; (try (exfalso; omega)))) | refine zY rfl rfl rfl rfl rfl rfl (fun _ _ q => h1 _ q.below h0) ?_ | refine zh rfl rfl rfl rfl rfl rfl ?_ | refine zg rfl rfl rfl rfl rfl rfl (by omega) ?_ | refine zBy rfl rfl rfl rfl rfl rfl (IntWalk.i64_in _ (by omega)) ?_ | refine u_mul rfl rfl rfl rfl rfl rfl (IntWalk.i64_in _ (by omega)) ?_ | refine zb rfl rfl rfl rfl rfl rfl rfl (by omega) ?_ | refine zBZ rfl rfl rfl rfl rfl rfl rfl (by first | decide | omega) ?_ | refine zr rfl rfl rfl rfl rfl ?_ | (refine zj rfl rfl rfl rfl rfl ?_; refine And.intro rfl (And.intro (by first | decide | exact Nat.le_of_ble_eq_true rfl | (simp; omega)) ⟨_, rfl, ?_⟩)) | (refine zt rfl rfl rfl rfl (fun b => ?_)) | (refine zAD rfl rfl rfl rfl rfl rfl (fun b => ?_)) | (refine zA4 rfl rfl rfl rfl rfl ?_; refine ⟨_, rfl, ?_⟩)) | (with_reducible first | refine zH ?_ | refine zB ?_ | refine zD ?_ | refine zA ?_ | refine zX ?_ | refine zU ?_ | refine zZ ?_ | refine zCU ?_ | refine zQ ?_ | refine zk ?_ | refine zi ?_ | refine zAi ?_ | refine zT ?_ | refine zW ?_) | ((with_reducible refine zAl ?_ ?_); (· exact rfl)) | ((with_reducible refine zI ?_ ?_); (· exact rfl)) | ((with_reducible refine zF ?_ ?_); (· exact rfl))))
  all_goals exact zV (by (exact zP.cons (by exact res1c rfl (by exact rfl)) (zP.cons (by exact zf.tmp rfl) zP.nil))) () trivial rfl (fun _ _ => Own.nil _ _)
end Go.Proofs.YtdigopgncfhiaaaGreatDoor
namespace Go.Proofs.YtdigopgncfhiaaaGreatDoor
open Go.RowKit
set_option maxRecDepth 20000
theorem zKo {c : Cov} {pl pl' : List Sli} (h : pl.map Sli.xs = pl'.map Sli.xs) : zF7 c pl = zF7 c pl' := by unfold zF7; rw [zB4 h, zDf h]
theorem zKx {c : Cov} {pl pl' : List Sli} (h : pl.map Sli.xs = pl'.map Sli.xs) : zH4 c pl = zH4 c pl' := by unfold zH4; rw [zB4 h, zDf h, zDf h]
theorem zJx {c : Cov} {pl pl' : List Sli} (h : pl.map Sli.xs = pl'.map Sli.xs) : zFk c pl = zFk c pl' := by
 unfold zFk zEM
 rw [zB4 h, List.take_length, List.take_length, List.flatMap_def, List.flatMap_def, h]
end Go.Proofs.YtdigopgncfhiaaaGreatDoor
namespace Go.Proofs.YtdigopgncfhiaaaGreatDoor
open Go.RowKit
set_option maxRecDepth 20000
section
variable (c : Cov) (A : Option Addr) (ca : Nat) (B : Option Addr) (cb : Nat) (C : Option Addr) (cc : Nat) (xss : List (List Int)) (P : Option Addr) (cp : Nat) (w : World) (hc : zAq w c A B C) (hs : Small c) (hp : ∃ pl : List Sli, pl.map Sli.xs = (zCX xss).map Sli.xs ∧ zBK w P pl) (hl : xss.length ≤ 12) (hr : ∀ r ∈ xss, r.length ≤ 20)
include hc hs hp hl hr
theorem iThickP (i h : Int) : Gv Tryz.prog 23 [zAS c A ca B cb C cc, .slice P xss.length cp, .int .i64 i, .int .i64 h] w (.tuple #[vSp (zEW c (zCX xss) i h).1, .int .i64 (zEW c (zCX xss) i h).2]) := by
 obtain ⟨pl, hx, hp⟩ := hp
 have := zMY c A ca B cb C cc pl P cp i h w hc hs hp (by rw [zCi hx]; exact hl) (zE6 hx hr)
 rw [zCi hx, zJ3 hx] at this
 exact this
theorem iThinP (hG : InC w 0 0 zCe) : Ret Tryz.prog 20 [zAS c A ca B cb C cc, .slice P xss.length cp] w (fun p : Option Addr × Nat => .tuple #[.slice p.1 (zF7 c (zCX xss)).length p.2, .int .i64 (zCG c (zCX xss))]) (fun p => [.sl zAW 2 p.1 (zF7 c (zCX xss))]) (fun _ => True) := by
 obtain ⟨pl, hx, hp⟩ := hp
 have := zOE c A ca B cb C cc pl P cp w hc hs hp (by rw [zCi hx]; exact hl) (zE6 hx hr) hG
 rw [zCi hx, zKo hx, zB4 hx] at this
 exact this
theorem iSafeP (hG : InC w 0 0 zCe) : Gv Tryz.prog 21 [zAS c A ca B cb C cc, .slice P xss.length cp] w (.tuple #[.int .u8 (zH4 c (zCX xss)), .int .i64 (zCG c (zCX xss))]) := by
 obtain ⟨pl, hx, hp⟩ := hp
 have := zOF c A ca B cb C cc pl P cp w hc hs hp (by rw [zCi hx]; exact hl) (zE6 hx hr) hG
 rw [zCi hx, zKx hx, zB4 hx] at this
 exact this
theorem iMostP (h : Int) (hG : InC w 0 0 zCe) : Gv Tryz.prog 37 [zAS c A ca B cb C cc, .slice P xss.length cp, .int .i64 h] w (.tuple #[.int .i64 (zGK c (zCX xss) h).1, .int .i64 (zGK c (zCX xss) h).2]) := by
 obtain ⟨pl, hx, hp⟩ := hp
 have := zOG c A ca B cb C cc pl P cp h w hc hs hp (by rw [zCi hx]; exact hl) (zE6 hx hr) hG
 rw [zCi hx, zLL hx] at this
 exact this
theorem iWaterP : Gv Tryz.prog 29 [zAS c A ca B cb C cc, .slice P xss.length cp] w (.tuple #[vSp (zFk c (zCX xss)), .int .i64 (zCG c (zCX xss))]) := by
 obtain ⟨pl, hx, hp⟩ := hp
 have := zMX c A ca B cb C cc pl P cp w hc hs hp (by rw [zCi hx]; exact hl) (zE6 hx hr)
 rw [zCi hx, zJx hx, zB4 hx] at this
 exact this
end
theorem zL4 (xss : List (List Int)) (P : Option Addr) (cp : Nat) (P2 : Option Addr) (cp2 : Nat) (w : World) (hp : ∃ pl : List Sli, pl.map Sli.xs = (zCX xss).map Sli.xs ∧ zBK w P pl) (hp2 : ∃ pl : List Sli, pl.map Sli.xs = (zCX xss).map Sli.xs ∧ zBK w P2 pl) (hl : xss.length ≤ 1000) (hr : ∀ r ∈ xss, r.length ≤ 1000) :
  Gv Tryz.prog 53 [.slice P xss.length cp, .slice P2 xss.length cp2] w (.bool true) := by
 obtain ⟨pl, hx, hp⟩ := hp
 obtain ⟨pl2, hx2, hp2⟩ := hp2
 have := zI3 pl pl2 P cp P2 cp2 w hp hp2 (hx.trans hx2.symm) (by rw [zCi hx]; exact hl) (zE6 hx2 hr)
 rw [zCi hx, zCi hx2] at this
 exact this
theorem zM4 (x : List Int) (X : Option Addr) (cx : Nat) (Y : Option Addr) (cy : Nat) (W : World) (h1 : zp encI 1 W X x) (h2 : zp encI 1 W Y x) (h3 : x.length ≤ 1000) : Gv Tryz.prog 27 [.slice X x.length cx, .slice Y x.length cy] W (.bool true) := by
 have hs := fun W' (hW : Below W.heap.size W W') => (zJJ x x X Y cx cy W' (h1.below hW) (h2.below hW) (by omega) (by omega)).gv
 simp only [decide_true] at hs
 unfold Gv
 (refine zL (n := 8) Tryz.func27 rfl rfl rfl ?_)
 (repeat' (first | ((with_reducible refine zG ?_); first | refine zE rfl rfl rfl rfl rfl ?_ | refine zC rfl rfl rfl rfl rfl ?_ | refine zY rfl rfl rfl rfl rfl rfl (fun _ _ q => hs _ q.below) ?_) | (with_reducible first | refine zH ?_ | refine zB ?_ | refine zD ?_ | refine zA ?_ | refine zX ?_)))
 all_goals exact zV (by (exact zP.cons (by exact zf.tmp rfl) zP.nil)) () trivial rfl (fun _ _ => Own.nil _ _)
def zGt (c : Cov) : Bool := !zCq c [] && decide (zAh c = 0)
theorem zIC {c : Cov} : zGt c = true ↔ zCq c [] = false ∧ zAh c = 0 := by simp [zGt]
theorem zKE {c : Cov} (h : zGt c = true) (hf : zGd c.t) : Small c := by
 obtain ⟨h1, _⟩ := zIC.1 h
 obtain ⟨k1, k2, k3, _, _⟩ := zFU h1
 exact ⟨hf, k1, k2, k3⟩
theorem zMR (c : Cov) (A : Option Addr) (ca : Nat) (B : Option Addr) (cb : Nat) (C : Option Addr) (cc : Nat) (w : World) (hc : zAq w c A B C) (hf : zGd c.t) : Gv Tryz.prog 16 [zAS c A ca B cb C cc] w (.bool (zGt c)) := by
 have hGr := fun W (hW : Below w.heap.size w W) => zK5 c A ca B cb C cc [] none 0 W ⟨zp.nil, fun s hs => by cases hs⟩ ⟨Nat.le_refl _, Nat.zero_le _⟩
 unfold zAS at hGr
 unfold Gv zAS zGt
 cases hgr : zCq c []
 ·rw [hgr] at hGr
  obtain ⟨k1, k2, k3, _, _⟩ := zFU hgr
  have hC := fun W (hW : Below w.heap.size w W) => zK4 c A ca B cb C cc W (hc.below hW) ⟨hf, k1, k2, k3⟩
  unfold zAS at hC
  generalize zAh c = e at *
  unfold zM at hC hGr ⊢
  (refine zL (n := 11) Tryz.func16 rfl rfl rfl ?_)
  (repeat' (first | ((with_reducible refine zG ?_); first | refine zE rfl rfl rfl rfl rfl ?_ | refine zC rfl rfl rfl rfl rfl ?_ | (refine zJ rfl rfl rfl rfl rfl ?_; refine ⟨_, rfl, ?_⟩) | refine zAO rfl rfl rfl rfl rfl rfl ?_ | (refine zR rfl rfl rfl rfl rfl rfl rfl (fun h => ?_) (fun h => ?_) <;> (dsimp only [cmpP] at h; (try (exfalso; omega)))) | refine zY rfl rfl rfl rfl rfl rfl (fun _ _ q => hGr _ q.below) ?_ | refine zY rfl rfl rfl rfl rfl rfl (fun _ _ q => hC _ q.below) ?_ | refine zAe rfl rfl rfl rfl rfl ?_ | (refine zAD rfl rfl rfl rfl rfl rfl (fun b => ?_))) | (with_reducible first | refine zH ?_ | refine zB ?_ | refine zD ?_ | refine zA ?_ | refine zX ?_)))
  all_goals exact zV (by (exact zP.cons (by exact zf.tmp rfl) zP.nil)) () trivial (by simp_all [resV]) (fun _ h => h.sub (by (repeat (first | exact oK1 _ | (refine oK2 (by (repeat (first | exact tK1 _ _ | apply tK2))) ?_)))))
 ·rw [hgr] at hGr
  unfold zM at hGr ⊢
  (refine zL (n := 11) Tryz.func16 rfl rfl rfl ?_)
  (repeat' (first | ((with_reducible refine zG ?_); first | refine zE rfl rfl rfl rfl rfl ?_ | refine zC rfl rfl rfl rfl rfl ?_ | (refine zJ rfl rfl rfl rfl rfl ?_; refine ⟨_, rfl, ?_⟩) | refine zAO rfl rfl rfl rfl rfl rfl ?_ | refine zu rfl rfl rfl ?_ | refine zY rfl rfl rfl rfl rfl rfl (fun _ _ q => hGr _ q.below) ?_ | refine zAe rfl rfl rfl rfl rfl ?_ | (refine zAD rfl rfl rfl rfl rfl rfl (fun b => ?_))) | (with_reducible first | refine zH ?_ | refine zB ?_ | refine zD ?_ | refine zA ?_ | refine zX ?_)))
  all_goals exact zV (by (exact zP.cons (by exact zf.tmp rfl) zP.nil)) () trivial rfl (fun _ _ => Own.nil _ _)
end Go.Proofs.YtdigopgncfhiaaaGreatDoor
