/- D30 -/
import Derived.Test.YtdigopgncfhiaaaGreatDoorD29
import Derived.Test.YtdigopgncfhiaaaGreatDoorD11
set_option linter.unusedSimpArgs false
set_option linter.unusedVariables false
namespace Go.Proofs.YtdigopgncfhiaaaGreatDoor
open Go.RowKit
open Flow (lackF sumL)
set_option maxRecDepth 20000
theorem zMP (c : Cov) (A : Option Addr) (ca : Nat) (B : Option Addr) (cb : Nat) (C : Option Addr) (cc k : Nat) (hk : k ≤ c.hours.length) (hcc : c.hours.length ≤ cc) (w : World) :
  Ret Tryz.prog 33 [zAS c A ca B cb C cc, .int .i64 (k : Int)] w (fun z : Option Addr => zAS (zA8 c k) A ca B cb z cc) (fun _ => []) (fun z => ∀ W, zp zx 5 W C c.hours → zp zx 5 W z (c.hours.take k)) := by
 have e1 : zAS c A ca B cb C cc = .agg (zM c A ca B cb C cc).toArray := rfl
 rw [e1]
 unfold zM
 have hl : (c.hours.take k).length = k := by rw [List.length_take]; omega
 (refine zL (n := 11) Tryz.func33 rfl rfl rfl ?_)
 (repeat' (first | ((with_reducible refine zG ?_); first | refine zE rfl rfl rfl rfl rfl ?_ | (refine zJ rfl rfl rfl rfl rfl ?_; refine ⟨_, rfl, ?_⟩) | refine zd rfl rfl rfl rfl rfl ?_ | (refine u_slice 0 k rfl rfl rfl rfl rfl rfl rfl (by exact rfl) (by exact rfl) (by omega) (by omega) (fun A' hA1 hA2 => ?_)) | (refine zj rfl rfl rfl rfl rfl ?_; refine And.intro rfl (And.intro (by first | decide | exact Nat.le_of_ble_eq_true rfl | (simp; omega)) ⟨_, rfl, ?_⟩)) | (refine zt rfl rfl rfl rfl (fun b => ?_)) | (refine zAD rfl rfl rfl rfl rfl rfl (fun b => ?_))) | (with_reducible first | refine zH ?_ | refine zB ?_ | refine zD ?_ | refine zA ?_ | refine zX ?_)))
 exact zV (by (exact zP.cons (by exact res1c rfl (by exact rfl)) zP.nil)) A' (fun W hW => by simpa using hA1 Hour zx c.hours W hW) (by simp only [zAS, zM, zA8, hl]; rfl) (fun _ h => h.sub (by (repeat (first | exact oK1 _ | (refine oK2 (by (repeat (first | exact tK1 _ _ | apply tK2))) ?_)))))
def zGk (c : Cov) (l : List Int) : Int := sumL l fun x => zCg (c.hours.getD x.toNat default)
theorem zJH {c : Cov} {l : List Int} {x : Int} : zGk c (l ++ [x]) = zGk c l + zCg (c.hours.getD x.toNat default) := by
 unfold zGk; rw [Flow.zBl]; simp [sumL]
theorem zKs {c : Cov} {m : Nat} : ∀ h, h ≤ c.hours.length → zGk c (zDG m h) = zBQ (zAA c) m h
 | 0, _ => rfl
 | h + 1, hh => by
  have ih := zKs (c := c) (m := m) h (by omega)
  have e2 : zBQ (zAA c) m (h + 1) = zBQ (zAA c) m h + (if m.testBit h then (zAA c).getD h 0 else 0) := Flow.zAF _ h
  have e3 : (zAA c).getD h 0 = zCg (c.hours.getD h default) := by
   unfold zAA
   rw [getD_map (List.getElem?_eq_getElem (show h < c.hours.length by omega)), zAv (List.getElem?_eq_getElem (show h < c.hours.length by omega))]
  cases hb : m.testBit h with
  | true => rw [zKv hb, zJH, ih, e2, hb, if_pos rfl, e3]; rfl
  | false => rw [zM2 hb, ih, e2, hb]; simp
theorem zM0 {c : Cov} (hf : zCf c) (hcr : ∀ u ∈ c.hours, 0 ≤ u.crew ∧ u.crew ≤ 1000) : ∀ l : List Int, (∀ x ∈ l, x.toNat < c.hours.length) → 0 ≤ zGk c l ∧ zGk c l ≤ 1000 * l.length
 | [], _ => by simp [zGk, sumL]
 | x :: r, h => by
  have h1 := zM0 hf hcr r (fun y hy => h y (List.mem_cons_of_mem _ hy))
  have h2 := h x List.mem_cons_self
  have h3 := hcr (c.hours.getD x.toNat default) (by rw [zAv (List.getElem?_eq_getElem h2)]; exact List.getElem_mem _)
  have e : zGk c (x :: r) = zCg (c.hours.getD x.toNat default) + zGk c r := rfl
  have h4 : 0 ≤ zCg (c.hours.getD x.toNat default) ∧ zCg (c.hours.getD x.toNat default) ≤ 1000 := by unfold zCg; split <;> omega
  rw [e, List.length_cons]
  omega
theorem zKw {m h : Nat} {x : Int} (hx : x ∈ zDG m h) : ∃ i : Nat, x = (i : Int) ∧ i < h ∧ m.testBit i = true := by
 obtain ⟨i, hi, rfl⟩ := List.mem_map.1 hx
 obtain ⟨h1, h2⟩ := List.mem_filter.1 hi
 exact ⟨i, rfl, List.mem_range.1 h1, h2⟩
theorem setL_has {m h i : Nat} (hi : i < h) : (zDG m h).contains (i : Int) = m.testBit i := by
 cases hb : m.testBit i with
 | true => exact List.contains_iff_mem.2 (List.mem_map.2 ⟨i, List.mem_filter.2 ⟨List.mem_range.2 hi, hb⟩, rfl⟩)
 | false =>
  rw [Bool.eq_false_iff]
  intro h1
  obtain ⟨j, e, _, h2⟩ := zKw (List.contains_iff_mem.1 h1)
  have : i = j := by omega
  subst this
  rw [hb] at h2; cases h2
theorem setL_up {m h : Nat} : (zDG m h).Pairwise (· < ·) := by
 unfold zDG
 rw [List.pairwise_map]
 exact (List.Pairwise.sublist List.filter_sublist List.pairwise_lt_range).imp fun h => by omega
def zBe (c : Cov) (m k : Nat) (z : Bed) : Int := (lackF (fun j => (needG c z (j + 1)).2) (fun j => (c.hours.map (·.cold)).getD j false) m.testBit k).1
def canZ (c : Cov) (m k : Nat) : Int := Flow.zEn (fun j => (c.hours.map (·.cold)).getD j false) m.testBit k
theorem zIU {c : Cov} {m k : Nat} {z : Bed} : zBe c m (k + 1) z = max (zBe c m k z) ((needG c z (k + 1)).2 - canZ c m k) := by
 unfold zBe canZ
 rw [← Flow.zFP (nd := fun j => (needG c z (j + 1)).2)]
 rfl
theorem zJs {c : Cov} {m k : Nat} : canZ c m (k + 1) = canZ c m k + (if (c.hours.map (·.cold)).getD k false && !m.testBit k then 1 else 0) := Flow.zAF _ k
theorem zKc {c : Cov} {m : Nat} : ∀ k, 0 ≤ canZ c m k ∧ canZ c m k ≤ k
 | 0 => by simp [canZ, Flow.zEn, sumL]
 | k + 1 => by
  have := zKc (c := c) (m := m) k
  rw [zJs]; split <;> omega
def zD7 (c : Cov) (m k i : Nat) : List Int := (c.beds.take i).map (zBe c m (k + 1)) ++ (c.beds.drop i).map (zBe c m k)
theorem zMO {c : Cov} {m k : Nat} : zD7 c m k 0 = c.beds.map (zBe c m k) := by simp [zD7]
theorem zN6 {c : Cov} {m k : Nat} : zD7 c m k c.beds.length = c.beds.map (zBe c m (k + 1)) := by simp [zD7]
theorem zN5 {c : Cov} {m k i : Nat} (hi : i ≤ c.beds.length) : (zD7 c m k i).length = c.beds.length := by simp [zD7]; omega
theorem lackM_at {c : Cov} {m k i : Nat} {z : Bed} (hz : c.beds[i]? = some z) : (zD7 c m k i)[i]? = some (zBe c m k z) := by
 have hi := (List.getElem?_eq_some_iff.1 hz).1
 unfold zD7
 rw [List.getElem?_append_right (by simp; omega), List.length_map, List.length_take, Nat.min_eq_left (by omega), Nat.sub_self, List.getElem?_map, List.getElem?_drop, Nat.add_zero, hz]; rfl
theorem zN4 {c : Cov} {m k i : Nat} {z : Bed} (hz : c.beds[i]? = some z) : (zD7 c m k i).set i (zBe c m (k + 1) z) = zD7 c m k (i + 1) := by
 have hi := (List.getElem?_eq_some_iff.1 hz).1
 have hzi : c.beds[i] = z := by rw [List.getElem?_eq_getElem hi] at hz; exact Option.some.inj hz
 unfold zD7
 rw [List.set_append_right _ _ (by simp; omega), List.length_map, List.length_take, Nat.min_eq_left (by omega), Nat.sub_self, List.drop_eq_getElem_cons hi, hzi, List.map_cons, List.set_cons_zero, List.take_add_one, hz]
 simp
theorem zGR {c : Cov} {m : Nat} {z : Bed} (hf : zCf c) (hz : z ∈ c.beds) : ∀ k, k ≤ c.hours.length → 0 ≤ zBe c m k z ∧ zBe c m k z ≤ 2200 + 1650 * k
 | 0, _ => by simp [zBe, lackF]
 | k + 1, hk => by
  have h1 := zGR (m := m) hf hz k (by omega)
  have h2 := zEv hf hz (k + 1) hk
  have h3 := zKc (c := c) (m := m) k
  rw [zIU]; omega
theorem zMz {c : Cov} {m k : Nat} (hf : zCf c) (hk : k ≤ 12) (hk2 : k ≤ c.hours.length) : ∀ l : List Bed, (∀ z ∈ l, z ∈ c.beds) → 0 ≤ sumL l (zBe c m k) ∧ sumL l (zBe c m k) ≤ 30000 * l.length
 | [], _ => by simp [sumL]
 | z :: r, h => by
  have h1 := zGR (m := m) hf (h z List.mem_cons_self) k hk2
  have h2 := zMz (m := m) hf hk hk2 r (fun x hx => h x (List.mem_cons_of_mem _ hx))
  simp only [sumL, List.length_cons]
  omega
theorem shortI_Z {c : Cov} {h m : Nat} (hh : h < c.hours.length) : zC9 (zAP c) (zCa c) (zAA c) h m = sumL c.beds (zBe c m (h + 1)) - zBQ (zAA c) m h := by
 unfold zC9
 congr 1
 rw [zBc]
 have key : ∀ i, i ≤ c.beds.length → sumL (List.range i) (fun i => zCP (zAP c) (zCa c) m i (h + 1)) = sumL (c.beds.take i) (zBe c m (h + 1)) := by
  intro i
  induction i with
  | zero => intro _; rfl
  | succ i ih =>
   intro hi
   rw [Flow.zAF, ih (by omega), List.take_add_one, List.getElem?_eq_getElem (by omega), Flow.zBl]
   congr 1
   simp only [Option.toList, sumL, Int.add_zero]
   unfold zCP zBe
   have e := zAv (d := (default : Bed)) (List.getElem?_eq_getElem (show i < c.beds.length by omega))
   refine zG0 (fun j hj => ⟨?_, zKJ (by omega) j, rfl⟩) ?_
   ·rw [zDK (by omega) j (by omega), e]
   ·rw [zDK (by omega) h (by omega), e]
 have := key c.beds.length (Nat.le_refl _)
 rwa [List.take_length] at this
end Go.Proofs.YtdigopgncfhiaaaGreatDoor
namespace Go.Proofs.YtdigopgncfhiaaaGreatDoor
open Go.RowKit
open Flow (lackF sumL)
set_option maxRecDepth 20000
set_option maxHeartbeats 8000000 in
theorem zKQ (c : Cov) (A : Option Addr) (ca : Nat) (B : Option Addr) (cb : Nat) (C : Option Addr) (cc : Nat) (w : World) (hc : zAq w c A B C) (hfit : zGd c.t) (hcc : c.hours.length ≤ cc) (hG : InC w 0 0 zCe) :
  Gv Tryz.prog 6 [zAS c A ca B cb C cc] w (.bool true) := by
 have hAl := fun W (hW : Below w.heap.size w W) => zMa W (hG.below hW)
 have hR := fun W (hW : Below w.heap.size w W) => zMR c A ca B cb C cc W (hc.below hW) hfit
 cases hr : zGt c
 ·rw [hr] at hR
  unfold zAS zM at hR ⊢
  unfold Gv
  (refine zL (n := 204) Tryz.func6 rfl rfl rfl ?_)
  (repeat' (first | ((with_reducible refine zG ?_); first | refine zE rfl rfl rfl rfl rfl ?_ | refine zC rfl rfl rfl rfl rfl ?_ | (refine zJ rfl rfl rfl rfl rfl ?_; refine ⟨_, rfl, ?_⟩) | refine zY rfl rfl rfl rfl rfl rfl (fun _ _ q => hAl _ q.below) ?_ | refine zY rfl rfl rfl rfl rfl rfl (fun _ _ q => hR _ q.below) ?_ | refine zAe rfl rfl rfl rfl rfl ?_ | (refine zAD rfl rfl rfl rfl rfl rfl (fun b => ?_))) | (with_reducible first | refine zH ?_ | refine zB ?_ | refine zD ?_ | refine zA ?_ | refine zX ?_ | refine zU ?_ | refine zZ ?_) | ((with_reducible refine zI ?_ ?_); (· exact rfl)) | ((with_reducible refine zF ?_ ?_); (· exact rfl))))
  all_goals exact zV (by (exact zP.cons (by exact zf.tmp rfl) zP.nil)) () trivial rfl (fun _ _ => Own.nil _ _)
 rw [hr] at hR
 have hs := zKE hr hfit
 have h0 := (zIC.1 hr).2
 have hf := zBg h0
 have h4 := hs.b; have h5 := hs.h
 have hh1 := hf.hours
 rw [zAJ] at hh1
 have hb := hc.b; have hh := hc.h
 have hS := fun W (hW : Below w.heap.size w W) => zId c A ca B cb C cc W (hc.below hW) hs (hG.below hW)
 have hP := fun W (hW : Below w.heap.size w W) => zG2 c A ca B cb C cc W (hc.below hW) hs (hG.below hW)
 rcases zJ9 h0 (by omega) with ⟨e1, e2⟩ | ⟨kh, m, hh2, hm, e1, e2, e3, e4⟩
 ·rw [e1] at hS
  rw [e2] at hP
  unfold zAS at hR hS hP ⊢
  unfold zM at hR hS hP ⊢
  unfold Gv
  (refine zL (n := 204) Tryz.func6 rfl rfl rfl ?_)
  (repeat' (first | ((with_reducible refine zG ?_); first | refine zE rfl rfl rfl rfl rfl ?_ | refine zC rfl rfl rfl rfl rfl ?_ | (refine zJ rfl rfl rfl rfl rfl ?_; refine ⟨_, rfl, ?_⟩) | refine zAO rfl rfl rfl rfl rfl rfl ?_ | (refine zR rfl rfl rfl rfl rfl rfl rfl (fun h => ?_) (fun h => ?_) <;> (dsimp only [cmpP] at h; (try (exfalso; omega)))) | refine zY rfl rfl rfl rfl rfl rfl (fun _ _ q => hAl _ q.below) ?_ | refine zY rfl rfl rfl rfl rfl rfl (fun _ _ q => hR _ q.below) ?_ | (refine zCu rfl rfl rfl rfl rfl rfl (fun _ _ q => hS _ q.below) (fun N1 nc1 => ?_)) | (refine zAR rfl rfl rfl rfl rfl rfl (fun _ _ q => hP _ q.below) ?_; rintro ⟨⟨P1, pc1⟩, pl1⟩ -; dsimp only [List.cons_append, List.nil_append]) | refine zh rfl rfl rfl rfl rfl rfl ?_ | refine zAe rfl rfl rfl rfl rfl ?_ | refine zr rfl rfl rfl rfl rfl ?_ | (refine zAD rfl rfl rfl rfl rfl rfl (fun b => ?_))) | (with_reducible first | refine zH ?_ | refine zB ?_ | refine zD ?_ | refine zA ?_ | refine zX ?_ | refine zU ?_ | refine zZ ?_) | ((with_reducible refine zI ?_ ?_); (· exact rfl)) | ((with_reducible refine zF ?_ ?_); (· exact rfl))))
  all_goals first | exact zV (by (exact zP.cons (by exact zf.tmp rfl) zP.nil)) () trivial rfl (fun _ _ => Own.nil _ _) | exact absurd rfl h
 ·rw [e1] at hS
  rw [e2] at hP
  rw [shortI_Z hh2] at e3
  obtain ⟨bc, oc, rfl, _, _⟩ := hh.at_ (i := 0) (by omega)
  have : InS w bc oc zx 5 c.hours := ⟨hh⟩
  have hU := fun W (k : Nat) (hk : k ≤ c.hours.length) => zMP c A ca B cb (some ⟨bc, oc, none⟩) cc k hk hcc W
  have hP2 := fun W (hW : Below w.heap.size w W) (hp : 0 < kh) z (hz : ∀ W, zp zx 5 W (some ⟨bc, oc, none⟩) c.hours → zp zx 5 W z (c.hours.take kh)) => zG2 (zA8 c kh) A ca B cb z cc W ⟨hc.t.below hW, hc.b.below hW, hz W (hc.h.below hW)⟩ (zF4 hs) (hG.below hW)
  have hN := fun W (hW : Below w.heap.size w W) (k : Nat) (h1 : 1 ≤ k) (h2 : k ≤ c.hours.length) z (hz : ∀ W, zp zx 5 W (some ⟨bc, oc, none⟩) c.hours → zp zx 5 W z (c.hours.take k)) => zJh (zA8 c k) A ca B cb z cc W ⟨hc.t.below hW, hc.b.below hW, hz W (hc.h.below hW)⟩ (zF4 hs) (hG.below hW)
  have hl12 : (zDG m kh).length ≤ 12 := by have := zH3 m kh; omega
  have hmem := fun x (hx : x ∈ zDG m kh) => zKw hx
  have hup := setL_up (m := m) (h := kh)
  have hsm := zKs (c := c) (m := m) kh (by omega)
  have hhas := fun i (hi : i < kh) => setL_has (m := m) hi
  rw [← hsm] at e3
  have hmh : m.testBit kh = false := Nat.testBit_lt_two_pow hm
  generalize hsl : zDG m kh = l at *
  unfold zAS at hR hS hP hU hP2 hN ⊢
  unfold zM at hR hS hP hU hP2 hN ⊢
  unfold Gv
  (refine zL (n := 204) Tryz.func6 rfl rfl rfl ?_)
  (repeat' (first | ((with_reducible refine zG ?_); first | refine zE rfl rfl rfl rfl rfl ?_ | refine zC rfl rfl rfl rfl rfl ?_ | (refine zJ rfl rfl rfl rfl rfl ?_; refine ⟨_, rfl, ?_⟩) | refine zd rfl rfl rfl rfl rfl ?_ | refine zAO rfl rfl rfl rfl rfl rfl ?_ | (refine zR rfl rfl rfl rfl rfl rfl rfl (fun h => ?_) (fun h => ?_) <;> (dsimp only [cmpP] at h; (try (exfalso; omega)))) | refine zY rfl rfl rfl rfl rfl rfl (fun _ _ q => hAl _ q.below) ?_ | refine zY rfl rfl rfl rfl rfl rfl (fun _ _ q => hR _ q.below) ?_ | (refine zCu rfl rfl rfl rfl rfl rfl (fun _ _ q => hS _ q.below) (fun N1 nc1 => ?_)) | (refine zAR rfl rfl rfl rfl rfl rfl (fun _ _ q => hP _ q.below) ?_; rintro ⟨⟨P1, pc1⟩, pl1⟩ -; dsimp only [List.cons_append, List.nil_append]) | refine zh rfl rfl rfl rfl rfl rfl ?_ | refine zAe rfl rfl rfl rfl rfl ?_ | refine zr rfl rfl rfl rfl rfl ?_ | (refine zAD rfl rfl rfl rfl rfl rfl (fun b => ?_))) | (with_reducible first | refine zH ?_ | refine zB ?_ | refine zD ?_ | refine zA ?_ | refine zU ?_ | refine zQ ?_) | ((with_reducible refine zI ?_ ?_); (· exact rfl)) | ((with_reducible refine zF ?_ ?_); (· exact rfl))))
  all_goals try (
   rename_i hp
   have hp0 : 0 < kh := by omega
   have hP3 := fun W hW z hz => hP2 W hW hp0 z hz
   rw [e4 hp0] at hP3
   (repeat' (first | ((with_reducible refine zG ?_); first | refine zE rfl rfl rfl rfl rfl ?_ | refine zC rfl rfl rfl rfl rfl ?_ | (refine zR rfl rfl rfl rfl rfl rfl rfl (fun h => ?_) (fun h => ?_) <;> (dsimp only [cmpP] at h; (try (exfalso; omega)))) | (refine zAR rfl rfl rfl rfl rfl rfl (fun _ _ q => hU _ kh (by omega)) ?_; rintro z hz; dsimp only [List.cons_append, List.nil_append]) | (refine zAR rfl rfl rfl rfl rfl rfl (fun _ _ q => hP3 _ q.below _ (by assumption)) ?_; rintro ⟨⟨P2, pc2⟩, pl2⟩ -; dsimp only [List.cons_append, List.nil_append]) | refine zh rfl rfl rfl rfl rfl rfl ?_ | refine zr rfl rfl rfl rfl rfl ?_) | (with_reducible first | refine zH ?_ | refine zB ?_ | refine zD ?_ | refine zA ?_ | refine zU ?_ | refine zQ ?_) | ((with_reducible refine zF ?_ ?_); (· exact rfl)))))
  all_goals
   obtain ⟨b1, hb1⟩ : ∃ x, x = b := ⟨_, rfl⟩
   subst hb1
   refine zq (ι := Nat) [1, 3, 4, 5, 85, 86] rfl (fun j => j ≤ l.length) (fun j => [(87, .int .i64 (j : Int)), (11, .int .i64 (zGk c (l.take j)))]) (fun _ => [.sl encI 1 N1 l, .blk b1 (zM c A ca B cb (some ⟨bc, oc, none⟩) cc)]) (fun j => l.length - j) 0 (Nat.zero_le _) (by (first | exact lK1 | (repeat (first | exact lK1 | (refine zK rfl ?_))))) (by (repeat (first | exact oK1 _ | (refine oK2 (by (repeat (first | exact tK1 _ _ | apply tK2))) ?_)))) ?_
   rintro j hj
   simp only [zAw, zM, List.cons_append, List.nil_append]
   by_cases hjl : j < l.length
   ·obtain ⟨x, hx⟩ : ∃ x, l[j]? = some x := ⟨_, List.getElem?_eq_getElem hjl⟩
    obtain ⟨i, rfl, hi, hbit⟩ := hmem x (List.mem_of_getElem? hx)
    have : zAQ l j (i : Int) := ⟨hx⟩
    obtain ⟨u, hu⟩ : ∃ u, c.hours[i]? = some u := ⟨_, List.getElem?_eq_getElem (by omega)⟩
    have : zAQ c.hours i u := ⟨hu⟩
    have hcru := zFX hf u (List.mem_of_getElem? hu)
    have hin := zM0 hf (zFX hf) (l.take j) (fun x hx => by obtain ⟨i2, e, h1, _⟩ := hmem x (List.mem_of_mem_take hx); omega)
    have htl : (l.take j).length ≤ 12 := by rw [List.length_take]; omega
    have es : zGk c (l.take (j + 1)) = zGk c (l.take j) + zCg u := by
     rw [List.take_add_one, hx]
     have := zJH (c := c) (l := l.take j) (x := (i : Int))
     rw [Int.toNat_natCast, zAv hu] at this
     exact this
    refine zKm (enc := encI) (A := N1) (by (repeat (first | exact tK1 _ _ | apply tK2))) (by omega) ?_
    rintro b9 o9 rfl
    obtain ⟨y, hy, hyi⟩ : ∃ y, (0 < j → l[j - 1]? = some y) ∧ (0 < j → y < (i : Int)) := by
     by_cases hj0 : 0 < j
     ·refine ⟨l[j - 1], fun _ => List.getElem?_eq_getElem (by omega), fun _ => ?_⟩
      have h1 := List.pairwise_iff_getElem.1 hup (j - 1) j (by omega) hjl (by omega)
      have h2 : l[j] = (i : Int) := by rw [List.getElem?_eq_getElem hjl] at hx; exact Option.some.inj hx
      omega
     ·exact ⟨0, fun h => absurd h hj0, fun h => absurd h hj0⟩
    have hgl : 0 < j → zAQ l (j - 1) y := fun h => ⟨hy h⟩
    obtain ⟨um, ur, uc, ud⟩ := u
    simp only [zCg] at es hcru
    cases ud with
    | false =>
     by_cases hj0 : 0 < j
     ·have := hgl hj0
      have hyi2 := hyi hj0
      (repeat' (first | ((with_reducible refine zG ?_); first | refine zE rfl rfl rfl rfl rfl ?_ | refine zC rfl rfl rfl rfl rfl ?_ | (refine zJ rfl rfl rfl rfl rfl ?_; refine ⟨_, rfl, ?_⟩) | refine zd rfl rfl rfl rfl rfl ?_ | refine zAO rfl rfl rfl rfl rfl rfl ?_ | (refine zR rfl rfl rfl rfl rfl rfl rfl (fun h => ?_) (fun h => ?_) <;> (dsimp only [cmpP] at h; (try (exfalso; omega)))) | refine zb (I := j - 1) rfl rfl rfl rfl rfl rfl (by omega) (by omega) ?_ | refine zg rfl rfl rfl rfl rfl rfl (by omega) ?_ | refine zCC rfl rfl rfl rfl rfl rfl (IntWalk.i64_in _ (by omega)) ?_ | refine zb rfl rfl rfl rfl rfl rfl rfl (by omega) ?_) | (with_reducible first | refine zH ?_ | refine zB ?_ | refine zD ?_ | refine zA ?_ | refine zU ?_ | refine zQ ?_ | refine zi ?_) | ((with_reducible refine zI ?_ ?_); (· exact rfl)) | ((with_reducible refine zF ?_ ?_); (· exact rfl))))
      all_goals exact ze (ι := Nat) (j + 1) (by omega) (by omega) (by rw [es]; simp only [Bool.false_eq_true, if_false, Int.add_zero]; (first | exact lK1 | (repeat (first | exact lK1 | (refine zK rfl ?_))))) (by (repeat (first | exact oK1 _ | (refine oK2 (by (repeat (first | exact tK1 _ _ | apply tK2))) ?_))))
     ·(repeat' (first | ((with_reducible refine zG ?_); first | refine zE rfl rfl rfl rfl rfl ?_ | refine zC rfl rfl rfl rfl rfl ?_ | (refine zJ rfl rfl rfl rfl rfl ?_; refine ⟨_, rfl, ?_⟩) | refine zd rfl rfl rfl rfl rfl ?_ | refine zAO rfl rfl rfl rfl rfl rfl ?_ | refine zu rfl rfl rfl ?_ | (refine zR rfl rfl rfl rfl rfl rfl rfl (fun h => ?_) (fun h => ?_) <;> (dsimp only [cmpP] at h; (try (exfalso; omega)))) | refine zg rfl rfl rfl rfl rfl rfl (by omega) ?_ | refine zb rfl rfl rfl rfl rfl rfl rfl (by omega) ?_) | (with_reducible first | refine zH ?_ | refine zB ?_ | refine zD ?_ | refine zA ?_ | refine zU ?_ | refine zQ ?_ | refine zi ?_) | ((with_reducible refine zI ?_ ?_); (· exact rfl)) | ((with_reducible refine zF ?_ ?_); (· exact rfl))))
      all_goals exact ze (ι := Nat) (j + 1) (by omega) (by omega) (by rw [es]; simp only [Bool.false_eq_true, if_false, Int.add_zero]; (first | exact lK1 | (repeat (first | exact lK1 | (refine zK rfl ?_))))) (by (repeat (first | exact oK1 _ | (refine oK2 (by (repeat (first | exact tK1 _ _ | apply tK2))) ?_))))
    | true =>
     have hcr2 : (⟨um, ur, uc, true⟩ : Hour).crew ≤ 1000 ∧ 0 ≤ (⟨um, ur, uc, true⟩ : Hour).crew := ⟨hcru.2, hcru.1⟩
     by_cases hj0 : 0 < j
     ·have := hgl hj0
      have hyi2 := hyi hj0
      (repeat' (first | ((with_reducible refine zG ?_); first | refine zE rfl rfl rfl rfl rfl ?_ | refine zC rfl rfl rfl rfl rfl ?_ | (refine zJ rfl rfl rfl rfl rfl ?_; refine ⟨_, rfl, ?_⟩) | refine zd rfl rfl rfl rfl rfl ?_ | refine zAO rfl rfl rfl rfl rfl rfl ?_ | (refine zR rfl rfl rfl rfl rfl rfl rfl (fun h => ?_) (fun h => ?_) <;> (dsimp only [cmpP] at h; (try (exfalso; omega)))) | refine zb (I := j - 1) rfl rfl rfl rfl rfl rfl (by omega) (by omega) ?_ | refine zg rfl rfl rfl rfl rfl rfl (by omega) ?_ | refine zBy rfl rfl rfl rfl rfl rfl (IntWalk.i64_in _ (by omega)) ?_ | refine zCC rfl rfl rfl rfl rfl rfl (IntWalk.i64_in _ (by omega)) ?_ | refine zb rfl rfl rfl rfl rfl rfl rfl (by omega) ?_) | (with_reducible first | refine zH ?_ | refine zB ?_ | refine zD ?_ | refine zA ?_ | refine zU ?_ | refine zQ ?_ | refine zi ?_) | ((with_reducible refine zI ?_ ?_); (· exact rfl)) | ((with_reducible refine zF ?_ ?_); (· exact rfl))))
      all_goals exact ze (ι := Nat) (j + 1) (by omega) (by omega) (by rw [es]; simp only [if_true]; (first | exact lK1 | (repeat (first | exact lK1 | (refine zK rfl ?_))))) (by (repeat (first | exact oK1 _ | (refine oK2 (by (repeat (first | exact tK1 _ _ | apply tK2))) ?_))))
     ·(repeat' (first | ((with_reducible refine zG ?_); first | refine zE rfl rfl rfl rfl rfl ?_ | refine zC rfl rfl rfl rfl rfl ?_ | (refine zJ rfl rfl rfl rfl rfl ?_; refine ⟨_, rfl, ?_⟩) | refine zd rfl rfl rfl rfl rfl ?_ | refine zAO rfl rfl rfl rfl rfl rfl ?_ | refine zu rfl rfl rfl ?_ | (refine zR rfl rfl rfl rfl rfl rfl rfl (fun h => ?_) (fun h => ?_) <;> (dsimp only [cmpP] at h; (try (exfalso; omega)))) | refine zg rfl rfl rfl rfl rfl rfl (by omega) ?_ | refine zBy rfl rfl rfl rfl rfl rfl (IntWalk.i64_in _ (by omega)) ?_ | refine zb rfl rfl rfl rfl rfl rfl rfl (by omega) ?_) | (with_reducible first | refine zH ?_ | refine zB ?_ | refine zD ?_ | refine zA ?_ | refine zU ?_ | refine zQ ?_ | refine zi ?_) | ((with_reducible refine zI ?_ ?_); (· exact rfl)) | ((with_reducible refine zF ?_ ?_); (· exact rfl))))
      all_goals exact ze (ι := Nat) (j + 1) (by omega) (by omega) (by rw [es]; simp only [if_true]; (first | exact lK1 | (repeat (first | exact lK1 | (refine zK rfl ?_))))) (by (repeat (first | exact oK1 _ | (refine oK2 (by (repeat (first | exact tK1 _ _ | apply tK2))) ?_))))
   ·obtain rfl : j = l.length := by omega
    rw [List.take_length]
    generalize zGk c l = sh at *
    have ez : c.beds.map (zBe c m 0) = List.replicate c.beds.length 0 := List.map_eq_replicate_iff.2 fun z _ => rfl
    (repeat' (first | ((with_reducible refine zG ?_); first | refine zC rfl rfl rfl rfl rfl ?_ | (refine zJ rfl rfl rfl rfl rfl ?_; refine ⟨_, rfl, ?_⟩) | refine zd rfl rfl rfl rfl rfl ?_ | (refine zR rfl rfl rfl rfl rfl rfl rfl (fun h => ?_) (fun h => ?_) <;> (dsimp only [cmpP] at h; (try (exfalso; omega)))) | refine u_makeR (enc := encI) (0 : Int) (n0 := c.beds.length) rfl rfl rfl rfl rfl rfl rfl rfl rfl rfl rfl rfl (by omega) (fun gr => ?_) | refine zr rfl rfl rfl rfl rfl ?_) | (with_reducible first | refine zH ?_ | refine zB ?_ | refine zD ?_ | refine zA ?_ | refine zQ ?_ | refine zk ?_ | refine zT ?_ | refine zW ?_) | ((with_reducible refine zF ?_ ?_); (· exact rfl))))
    rw [← ez]
    refine zq (ι := Nat) [1, 3, 4, 5, 11, 14] rfl (fun y => y ≤ kh + 1) (fun y => [(16, .int .i64 (y : Int)), (15, .int .i64 (canZ c m y))]) (fun y => [.row encI 1 3 (.slice (some ⟨gr, 0, none⟩) c.beds.length c.beds.length) (c.beds.map (zBe c m y)), .sl encI 1 N1 l, .blk b1 (zM c A ca B cb (some ⟨bc, oc, none⟩) cc)]) (fun y => kh + 1 - y) 0 (Nat.zero_le _) (by (first | exact lK1 | (repeat (first | exact lK1 | (refine zK rfl ?_))))) (by (repeat (first | exact oK1 _ | (refine oK2 (by (repeat (first | exact tK1 _ _ | apply tK2))) ?_)))) ?_
    rintro y hy
    simp only [zAw, zM, List.cons_append, List.nil_append]
    by_cases hyl : y < kh + 1
    ·have eN := zLJ h0 (k := y + 1) (by omega) (by omega)
     have hN2 := fun W hW z hz => hN W hW (y + 1) (by omega) (by omega) z hz
     simp only [eN] at hN2
     have hnat : ∀ (i : Nat) (z : Bed), c.beds[i]? = some z → (c.beds.map fun z => (needG c z (y + 1)).2)[i]? = some (needG c z (y + 1)).2 := fun i z hz => by rw [List.getElem?_map, hz]; rfl
     have hndl : (c.beds.map fun z => (needG c z (y + 1)).2).length = c.beds.length := by simp
     generalize (c.beds.map fun z => (needG c z (y + 1)).2) = nd at *
     have hcz := zKc (c := c) (m := m) y
     (repeat' (first | ((with_reducible refine zG ?_); first | refine zE rfl rfl rfl rfl rfl ?_ | refine zC rfl rfl rfl rfl rfl ?_ | (refine zJ rfl rfl rfl rfl rfl ?_; refine ⟨_, rfl, ?_⟩) | refine zd rfl rfl rfl rfl rfl ?_ | refine zAO rfl rfl rfl rfl rfl rfl ?_ | (refine zR rfl rfl rfl rfl rfl rfl rfl (fun h => ?_) (fun h => ?_) <;> (dsimp only [cmpP] at h; (try (exfalso; omega)))) | (refine zAR rfl rfl rfl rfl rfl rfl (fun _ _ q => hU _ (y + 1) (by omega)) ?_; rintro z hz; dsimp only [List.cons_append, List.nil_append]) | (refine zCu rfl rfl rfl rfl rfl rfl (fun _ _ q => hN2 _ q.below _ (by assumption)) (fun N2 nc2 => ?_)) | refine zh rfl rfl rfl rfl rfl rfl ?_ | refine zg rfl rfl rfl rfl rfl rfl (by omega) ?_ | refine zr rfl rfl rfl rfl rfl ?_) | (with_reducible first | refine zH ?_ | refine zB ?_ | refine zD ?_ | refine zA ?_ | refine zU ?_ | refine zQ ?_) | ((with_reducible refine zI ?_ ?_); (· exact rfl)) | ((with_reducible refine zF ?_ ?_); (· exact rfl))))
     refine zq (ι := Nat) [1, 3, 4, 5, 11, 14, 15, 16, 17, 154, 155] rfl (fun i => i ≤ c.beds.length) (fun i => [(156, .int .i64 (i : Int))]) (fun i => [.row encI 1 3 (.slice (some ⟨gr, 0, none⟩) c.beds.length c.beds.length) (zD7 c m y i), .sl encI 1 N2 nd, .sl encI 1 N1 l, .blk b1 (zM c A ca B cb (some ⟨bc, oc, none⟩) cc)]) (fun i => c.beds.length - i) 0 (Nat.zero_le _) (by (first | exact lK1 | (repeat (first | exact lK1 | (refine zK rfl ?_))))) (by rw [zMO]; (repeat (first | exact oK1 _ | (refine oK2 (by (repeat (first | exact tK1 _ _ | apply tK2))) ?_)))) ?_
     rintro i hi
     simp only [zAw, zM, List.cons_append, List.nil_append]
     by_cases hil : i < c.beds.length
     ·obtain ⟨z9, hz9⟩ : ∃ z, c.beds[i]? = some z := ⟨_, List.getElem?_eq_getElem hil⟩
      have : zAQ (zD7 c m y i) i (zBe c m y z9) := ⟨lackM_at hz9⟩
      have : zAQ nd i (needG c z9 (y + 1)).2 := ⟨hnat i z9 hz9⟩
      have hb1 := zGR (m := m) hf (List.mem_of_getElem? hz9) y (by omega)
      have hb2 := zEv hf (List.mem_of_getElem? hz9) (y + 1) (by omega)
      have hml := zN5 (c := c) (m := m) (k := y) hi
      have hset := zN4 (m := m) (k := y) hz9
      rw [zIU] at hset
      refine zKm (enc := encI) (A := N2) (by (repeat (first | exact tK1 _ _ | apply tK2))) (by omega) ?_
      rintro b8 o8 rfl
      (repeat' (first | ((with_reducible refine zG ?_); first | refine zE rfl rfl rfl rfl rfl ?_ | refine zC rfl rfl rfl rfl rfl ?_ | (refine zR rfl rfl rfl rfl rfl rfl rfl (fun h => ?_) (fun h => ?_) <;> (dsimp only [cmpP] at h; (try (exfalso; omega))))) | (with_reducible first | refine zH ?_ | refine zB ?_ | refine zD ?_ | refine zA ?_ | refine zU ?_ | refine zQ ?_) | ((with_reducible refine zI ?_ ?_); (· exact rfl))))
      (refine zAo (by kernel_rfl) [[], [O0], [O0, O0], [O0, O0, O0], [I0, I0, O0, O0], [I0, I0, I0, O0, O0], [O0, O0, O0, O0, O0, O0], [O0, O0, O0, O0, O0, O0, O0], [I0, I0, O0, O0, O0, O0, O0, O0], [I0, I0, I0, O0, O0, O0, O0, O0, O0], [O0, O0, O0, O0, O0, O0, O0, O0, O0, O0], [I0, I0, I0, I0, I0, O0, O0, O0, O0, O0, O0], [I0, I0, I0, I0, I0, I0, I0, I0, I0, I0, O0, O0], [I0, I0, I0, I0, I0, I0, I0, I0, I0, I0, I0, I0, I0], [I0, I0, I0, I0, I0, I0, I0, I0, I0, I0, I0, I0, I0, I0]] (by kernel_rfl) (by kernel_rfl) (by kernel_rfl) ?_)
      (repeat' (first | (((with_reducible refine zC6 ?_ ?_); (· exact rfl); refine ⟨_, fun G => (by (try simp only [fltT, zw, List.nil_append, List.cons_append]); rfl), ?_⟩); first | refine za _ (fun _ => zAm rfl rfl) (fun _ => rfl) rfl (by first | exact fun _ _ _ => rfl | (intro G G' h; simp (decide := true) only [h])) ?_ | refine za _ (fun _ => zAH rfl rfl (by exact rfl)) (fun _ => rfl) rfl (by first | exact fun _ _ _ => rfl | (intro G G' h; simp (decide := true) only [h])) ?_ | refine za _ (fun _ => zLk rfl rfl rfl (IntWalk.i64_in _ (by omega))) (fun _ => rfl) rfl (by first | exact fun _ _ _ => rfl | (intro G G' h; simp (decide := true) only [h])) ?_ | refine za _ (fun _ => zAt rfl rfl rfl rfl (by omega)) (fun _ => rfl) rfl (by first | exact fun _ _ _ => rfl | (intro G G' h; simp (decide := true) only [h])) ?_ | refine za _ (fun _ => zLl rfl rfl rfl) (fun _ => rfl) rfl (by first | exact fun _ _ _ => rfl | (intro G G' h; simp (decide := true) only [h])) ?_) | ((with_reducible refine zBp ?_ ?_); (· exact rfl))))
      (intro G; simp only [regsT, zw, Pend.zBS, List.nil_append, List.cons_append])
      (repeat' (first | ((with_reducible refine zG ?_); first | refine zE rfl rfl rfl rfl rfl ?_ | refine zCT (enc := encI) (i := i) (max (zBe c m y z9) ((needG c z9 (y + 1)).2 - canZ c m y)) rfl rfl rfl rfl rfl rfl rfl rfl (by omega) ?_ | refine zg rfl rfl rfl rfl rfl rfl (by omega) ?_) | (with_reducible first | refine zB ?_ | refine zD ?_ | refine zA ?_ | refine zi ?_)))
      rw [hset]
      exact ze (ι := Nat) (i + 1) (by omega) (by omega) (by (first | exact lK1 | (repeat (first | exact lK1 | (refine zK rfl ?_))))) (by (repeat (first | exact oK1 _ | (refine oK2 (by (repeat (first | exact tK1 _ _ | apply tK2))) ?_))))
     ·obtain rfl : i = c.beds.length := by omega
      rw [zN6]
      obtain ⟨u, hu⟩ : ∃ u, c.hours[y]? = some u := ⟨_, List.getElem?_eq_getElem (by omega)⟩
      have : zAQ c.hours y u := ⟨hu⟩
      have hcs := zJs (c := c) (m := m) (k := y)
      have hcd : (c.hours.map (·.cold)).getD y false = u.cold := getD_map hu
      rw [hcd] at hcs
      have hq : l.contains (y : Int) = m.testBit y := by
       by_cases e : y < kh
       ·exact hhas y e
       ·obtain rfl : y = kh := by omega
        rw [hmh, Bool.eq_false_iff]
        intro h1
        obtain ⟨j, e, h2, _⟩ := hmem _ (List.contains_iff_mem.1 h1)
        omega
      have hHas := fun W hW => rhas_any l (y : Int) N1 nc1 W hW (by omega)
      rw [hq] at hHas
      obtain ⟨um, ur, uc, ud⟩ := u
      simp only at hcs
      generalize m.testBit y = bt at *
      cases ud <;> cases bt
      ·(repeat' (first | ((with_reducible refine zG ?_); first | refine zE rfl rfl rfl rfl rfl ?_ | refine zC rfl rfl rfl rfl rfl ?_ | (refine zJ rfl rfl rfl rfl rfl ?_; refine ⟨_, rfl, ?_⟩) | refine zd rfl rfl rfl rfl rfl ?_ | refine zAO rfl rfl rfl rfl rfl rfl ?_ | refine zu rfl rfl rfl ?_ | (refine zR rfl rfl rfl rfl rfl rfl rfl (fun h => ?_) (fun h => ?_) <;> (dsimp only [cmpP] at h; (try (exfalso; omega)))) | refine zg rfl rfl rfl rfl rfl rfl (by omega) ?_ | refine zb rfl rfl rfl rfl rfl rfl rfl (by omega) ?_) | (with_reducible first | refine zH ?_ | refine zB ?_ | refine zD ?_ | refine zA ?_ | refine zU ?_ | refine zk ?_ | refine zi ?_ | refine zT ?_ | refine zW ?_) | ((with_reducible refine zF ?_ ?_); (· exact rfl))))
       exact ze (ι := Nat) (y + 1) (by omega) (by omega) (by rw [hcs]; simp only [Bool.false_and, Bool.false_eq_true, if_false, Int.add_zero]; (first | exact lK1 | (repeat (first | exact lK1 | (refine zK rfl ?_))))) (by (repeat (first | exact oK1 _ | (refine oK2 (by (repeat (first | exact tK1 _ _ | apply tK2))) ?_))))
      ·(repeat' (first | ((with_reducible refine zG ?_); first | refine zE rfl rfl rfl rfl rfl ?_ | refine zC rfl rfl rfl rfl rfl ?_ | (refine zJ rfl rfl rfl rfl rfl ?_; refine ⟨_, rfl, ?_⟩) | refine zd rfl rfl rfl rfl rfl ?_ | refine zAO rfl rfl rfl rfl rfl rfl ?_ | refine zu rfl rfl rfl ?_ | (refine zR rfl rfl rfl rfl rfl rfl rfl (fun h => ?_) (fun h => ?_) <;> (dsimp only [cmpP] at h; (try (exfalso; omega)))) | refine zg rfl rfl rfl rfl rfl rfl (by omega) ?_ | refine zb rfl rfl rfl rfl rfl rfl rfl (by omega) ?_) | (with_reducible first | refine zH ?_ | refine zB ?_ | refine zD ?_ | refine zA ?_ | refine zU ?_ | refine zk ?_ | refine zi ?_ | refine zT ?_ | refine zW ?_) | ((with_reducible refine zF ?_ ?_); (· exact rfl))))
       exact ze (ι := Nat) (y + 1) (by omega) (by omega) (by rw [hcs]; simp only [Bool.false_and, Bool.false_eq_true, if_false, Int.add_zero]; (first | exact lK1 | (repeat (first | exact lK1 | (refine zK rfl ?_))))) (by (repeat (first | exact oK1 _ | (refine oK2 (by (repeat (first | exact tK1 _ _ | apply tK2))) ?_))))
      ·(repeat' (first | ((with_reducible refine zG ?_); first | refine zE rfl rfl rfl rfl rfl ?_ | refine zC rfl rfl rfl rfl rfl ?_ | (refine zJ rfl rfl rfl rfl rfl ?_; refine ⟨_, rfl, ?_⟩) | refine zd rfl rfl rfl rfl rfl ?_ | refine zAO rfl rfl rfl rfl rfl rfl ?_ | (refine zR rfl rfl rfl rfl rfl rfl rfl (fun h => ?_) (fun h => ?_) <;> (dsimp only [cmpP] at h; (try (exfalso; omega)))) | refine zY rfl rfl rfl rfl rfl rfl (fun _ _ q => hHas _ (zBF q.own (Below.refl _ _))) ?_ | refine zAe rfl rfl rfl rfl rfl ?_ | refine zg rfl rfl rfl rfl rfl rfl (by omega) ?_ | refine zBy rfl rfl rfl rfl rfl rfl (IntWalk.i64_in _ (by omega)) ?_ | refine zb rfl rfl rfl rfl rfl rfl rfl (by omega) ?_) | (with_reducible first | refine zH ?_ | refine zB ?_ | refine zD ?_ | refine zA ?_ | refine zk ?_ | refine zi ?_ | refine zT ?_ | refine zW ?_) | ((with_reducible refine zI ?_ ?_); (· exact rfl)) | ((with_reducible refine zF ?_ ?_); (· exact rfl))))
       exact ze (ι := Nat) (y + 1) (by omega) (by omega) (by rw [hcs]; simp only [Bool.not_false, Bool.and_self, if_true]; (first | exact lK1 | (repeat (first | exact lK1 | (refine zK rfl ?_))))) (by (repeat (first | exact oK1 _ | (refine oK2 (by (repeat (first | exact tK1 _ _ | apply tK2))) ?_))))
      ·(repeat' (first | ((with_reducible refine zG ?_); first | refine zE rfl rfl rfl rfl rfl ?_ | refine zC rfl rfl rfl rfl rfl ?_ | (refine zJ rfl rfl rfl rfl rfl ?_; refine ⟨_, rfl, ?_⟩) | refine zd rfl rfl rfl rfl rfl ?_ | refine zAO rfl rfl rfl rfl rfl rfl ?_ | (refine zR rfl rfl rfl rfl rfl rfl rfl (fun h => ?_) (fun h => ?_) <;> (dsimp only [cmpP] at h; (try (exfalso; omega)))) | refine zY rfl rfl rfl rfl rfl rfl (fun _ _ q => hHas _ (zBF q.own (Below.refl _ _))) ?_ | refine zAe rfl rfl rfl rfl rfl ?_ | refine zg rfl rfl rfl rfl rfl rfl (by omega) ?_ | refine zb rfl rfl rfl rfl rfl rfl rfl (by omega) ?_) | (with_reducible first | refine zH ?_ | refine zB ?_ | refine zD ?_ | refine zA ?_ | refine zU ?_ | refine zk ?_ | refine zi ?_ | refine zT ?_ | refine zW ?_) | ((with_reducible refine zF ?_ ?_); (· exact rfl))))
       exact ze (ι := Nat) (y + 1) (by omega) (by omega) (by rw [hcs]; simp only [Bool.not_true, Bool.and_false, Bool.false_eq_true, if_false, Int.add_zero]; (first | exact lK1 | (repeat (first | exact lK1 | (refine zK rfl ?_))))) (by (repeat (first | exact oK1 _ | (refine oK2 (by (repeat (first | exact tK1 _ _ | apply tK2))) ?_))))
    ·obtain rfl : y = kh + 1 := by omega
     (repeat' (first | ((with_reducible refine zG ?_); first | refine zE rfl rfl rfl rfl rfl ?_ | refine zC rfl rfl rfl rfl rfl ?_ | (refine zR rfl rfl rfl rfl rfl rfl rfl (fun h => ?_) (fun h => ?_) <;> (dsimp only [cmpP] at h; (try (exfalso; omega)))) | refine zr rfl rfl rfl rfl rfl ?_) | (with_reducible first | refine zH ?_ | refine zB ?_ | refine zD ?_ | refine zA ?_ | refine zQ ?_ | refine zk ?_ | refine zT ?_ | refine zW ?_) | ((with_reducible refine zF ?_ ?_); (· exact rfl))))
     refine zq (ι := Nat) [1, 3, 11, 188, 189] rfl (fun i => i ≤ c.beds.length) (fun i => [(190, .int .i64 (i : Int)), (20, .int .i64 (sumL (c.beds.take i) (zBe c m (kh + 1))))]) (fun i => [.row encI 1 3 (.slice (some ⟨gr, 0, none⟩) c.beds.length c.beds.length) (c.beds.map (zBe c m (kh + 1)))]) (fun i => c.beds.length - i) 0 (Nat.zero_le _) (by (first | exact lK1 | (repeat (first | exact lK1 | (refine zK rfl ?_))))) (by (repeat (first | exact oK1 _ | (refine oK2 (by (repeat (first | exact tK1 _ _ | apply tK2))) ?_)))) ?_
     rintro i hi
     simp only [zAw, List.cons_append, List.nil_append]
     by_cases hil : i < c.beds.length
     ·obtain ⟨z9, hz9⟩ : ∃ z, c.beds[i]? = some z := ⟨_, List.getElem?_eq_getElem hil⟩
      have : zAQ (c.beds.map (zBe c m (kh + 1))) i (zBe c m (kh + 1) z9) := ⟨by rw [List.getElem?_map, hz9]; rfl⟩
      have hb1 := zGR (m := m) hf (List.mem_of_getElem? hz9) (kh + 1) (by omega)
      have hb2 := zMz (m := m) hf (k := kh + 1) (by omega) (by omega) (c.beds.take i) (fun z hz => List.mem_of_mem_take hz)
      have htl : (c.beds.take i).length ≤ 20 := by rw [List.length_take]; omega
      have es : sumL (c.beds.take (i + 1)) (zBe c m (kh + 1)) = sumL (c.beds.take i) (zBe c m (kh + 1)) + zBe c m (kh + 1) z9 := by
       rw [List.take_add_one, hz9, Flow.zBl]; simp [sumL]
      (repeat' (first | ((with_reducible refine zG ?_); first | refine zE rfl rfl rfl rfl rfl ?_ | refine zC rfl rfl rfl rfl rfl ?_ | (refine zJ rfl rfl rfl rfl rfl ?_; refine ⟨_, rfl, ?_⟩) | (refine zR rfl rfl rfl rfl rfl rfl rfl (fun h => ?_) (fun h => ?_) <;> (dsimp only [cmpP] at h; (try (exfalso; omega)))) | refine zg rfl rfl rfl rfl rfl rfl (by omega) ?_ | refine zBy rfl rfl rfl rfl rfl rfl (IntWalk.i64_in _ (by omega)) ?_ | refine zb rfl rfl rfl rfl rfl rfl rfl (by omega) ?_) | (with_reducible first | refine zH ?_ | refine zB ?_ | refine zD ?_ | refine zA ?_ | refine zU ?_ | refine zQ ?_ | refine zi ?_) | ((with_reducible refine zI ?_ ?_); (· exact rfl))))
      exact ze (ι := Nat) (i + 1) (by omega) (by omega) (by rw [es]; (first | exact lK1 | (repeat (first | exact lK1 | (refine zK rfl ?_))))) (by (repeat (first | exact oK1 _ | (refine oK2 (by (repeat (first | exact tK1 _ _ | apply tK2))) ?_))))
     ·obtain rfl : i = c.beds.length := by omega
      rw [List.take_length]
      (repeat' (first | ((with_reducible refine zG ?_); first | refine zE rfl rfl rfl rfl rfl ?_ | refine zC rfl rfl rfl rfl rfl ?_ | refine zAO rfl rfl rfl rfl rfl rfl ?_ | (refine zR rfl rfl rfl rfl rfl rfl rfl (fun h => ?_) (fun h => ?_) <;> (dsimp only [cmpP] at h; (try (exfalso; omega))))) | (with_reducible first | refine zH ?_ | refine zB ?_ | refine zD ?_ | refine zA ?_ | refine zX ?_ | refine zk ?_ | refine zT ?_ | refine zW ?_) | ((with_reducible refine zF ?_ ?_); (· exact rfl))))
      all_goals exact zV (by (exact zP.cons (by exact zf.tmp rfl) zP.nil)) () trivial rfl (fun _ _ => Own.nil _ _)
end Go.Proofs.YtdigopgncfhiaaaGreatDoor
