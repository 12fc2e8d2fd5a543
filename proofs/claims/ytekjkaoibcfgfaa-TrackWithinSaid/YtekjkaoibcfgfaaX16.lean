/- hull: what measures of a kind leave, by the reference. -/
import Derived.Test.YtekjkaoibcfgfaaX15
import Derived.Test.YtekjkaoibcfgfaaX1
namespace Go.Proofs.Ytekjkaoibcfgfaa
open Go.RowKit
set_option maxRecDepth 20000
set_option linter.unusedSimpArgs false
set_option linter.unusedVariables false

section
variable {s : List Sp} {n i k x : Nat} {M : Mat}
def TabR (s : List Sp) (n i : Nat) (M : Mat) : Prop := ∀ a b, a < i → b < n → M a b = R0 s a b
def TabX (s : List Sp) (n i k x : Nat) (M : Mat) : Prop := ∀ a b, a ≤ i → b < n → M a b = if a < i then R0 s a b else if i ≤ b ∧ b < k then R0 s a b else if b = k then sumHi s i (x - i) else 0
def TabY (s : List Sp) (n i k x : Nat) (M : Mat) : Prop := ∀ a b, a ≤ i → b < n → M a b = if a < i ∨ i ≤ b ∨ b < k then R0 s a b else if b = k then -(sumLo s k (x - k)) else 0
theorem tabX_start (h : TabR s n i M) : TabX s n i i i (zeroRow M i) := fun a b ha hb => by
  unfold zeroRow
  by_cases e : a = i
  · rw [if_pos e, if_neg (by omega), if_neg (by omega), Nat.sub_self]
    simp [sumHi]
  · rw [if_neg e, if_pos (by omega)]; exact h a b (by omega) hb
theorem tabX_set (h : TabX s n i k x M) (hx : i ≤ x) {v : Int} (hv : v = sumHi s i (x - i) + (spAt s x).hi) : TabX s n i k (x + 1) (setM M i k v) := fun a b ha hb => by
  unfold setM
  by_cases e : a = i ∧ b = k
  · obtain ⟨rfl, rfl⟩ := e
    rw [if_pos ⟨rfl, rfl⟩, if_neg (by omega), if_neg (by omega), if_pos rfl, hv, show x + 1 - a = (x - a) + 1 by omega]
    simp only [sumHi]
    rw [show a + (x - a) = x by omega]
  · rw [if_neg e, h a b ha hb]
    by_cases h1 : a < i
    · rw [if_pos h1, if_pos h1]
    · rw [if_neg h1, if_neg h1]
      by_cases h2 : i ≤ b ∧ b < k
      · rw [if_pos h2, if_pos h2]
      · rw [if_neg h2, if_neg h2, if_neg (by omega), if_neg (by omega)]
theorem tabX_at (h : TabX s n i k x M) (hk : k < n) : M i k = sumHi s i (x - i) := by
  rw [h i k (Nat.le_refl _) hk, if_neg (by omega), if_neg (by omega), if_pos rfl]
theorem tabX_next (h : TabX s n i k k M) (hik : i ≤ k) : TabX s n i (k + 1) i M := fun a b ha hb => by
  rw [h a b ha hb]
  by_cases h1 : a < i
  · rw [if_pos h1, if_pos h1]
  · obtain rfl : a = i := by omega
    rw [if_neg h1, if_neg h1]
    by_cases h2 : a ≤ b ∧ b < k
    · rw [if_pos h2, if_pos (by omega)]
    · rw [if_neg h2]
      by_cases h3 : b = k
      · subst h3
        rw [if_pos rfl, if_pos (by omega)]
        unfold R0; rw [if_pos hik]
      · rw [if_neg h3, if_neg (by omega), Nat.sub_self]
        simp [sumHi]
theorem tabY_start (h : TabX s n i n i M) : TabY s n i 0 0 M := fun a b ha hb => by
  rw [h a b ha hb]
  by_cases h1 : a < i
  · rw [if_pos h1, if_pos (by omega)]
  · rw [if_neg h1]
    by_cases h2 : i ≤ b
    · rw [if_pos (by omega), if_pos (by omega)]
    · rw [if_neg (by omega), if_neg (by omega), if_neg (by omega)]
      by_cases h3 : b = 0
      · subst h3; simp [sumLo]
      · rw [if_neg h3]
theorem tabY_set (h : TabY s n i k x M) (hx : k ≤ x) (hk : k < i) {v : Int} (hv : v = -(sumLo s k (x - k)) - (spAt s x).lo) : TabY s n i k (x + 1) (setM M i k v) := fun a b ha hb => by
  unfold setM
  by_cases e : a = i ∧ b = k
  · obtain ⟨rfl, rfl⟩ := e
    rw [if_pos ⟨rfl, rfl⟩, if_neg (by omega), if_pos rfl, hv, show x + 1 - b = (x - b) + 1 by omega]
    simp only [sumLo]
    rw [show b + (x - b) = x by omega]
    omega
  · rw [if_neg e, h a b ha hb]
    by_cases h1 : a < i ∨ i ≤ b ∨ b < k
    · rw [if_pos h1, if_pos h1]
    · rw [if_neg h1, if_neg h1, if_neg (by omega), if_neg (by omega)]
theorem tabY_at (h : TabY s n i k x M) (hk : k < n) (hki : k < i) : M i k = -(sumLo s k (x - k)) := by
  rw [h i k (Nat.le_refl _) hk, if_neg (by omega), if_pos rfl]
theorem tabY_next (h : TabY s n i k i M) (hki : k < i) : TabY s n i (k + 1) (k + 1) M := fun a b ha hb => by
  rw [h a b ha hb]
  by_cases h1 : a < i ∨ i ≤ b ∨ b < k
  · rw [if_pos h1, if_pos (by omega)]
  · rw [if_neg h1]
    by_cases h3 : b = k
    · obtain rfl : a = i := by omega
      subst h3
      rw [if_pos rfl, if_pos (by omega)]
      unfold R0; rw [if_neg (by omega)]
    · rw [if_neg h3, if_neg (by omega)]
      by_cases h4 : b = k + 1
      · subst h4; simp [sumLo]
      · rw [if_neg h4]
theorem tabY_end (h : TabY s n i i x M) : TabR s n (i + 1) M := fun a b ha hb => by
  rw [h a b (by omega) hb, if_pos (by omega)]
theorem tabR_end (h : TabR s n n M) : AgrM n M (R0 s) := fun a b ha hb => h a b ha hb
theorem R0_bd (hs : okSps s) (hn : n ≤ 13) : BdM n (R0 s) := fun i k hi hk => by
  unfold R0
  split
  · have := sumHi_bd hs i (k - i); omega
  · have := sumLo_bd hs k (i - k); omega
end
def hullD (kind : Int) (s : List Sp) (ms : List Me) : Mat := meas kind (R0 s) ms
open Classical in
noncomputable def hullB (kind : Int) (s : List Sp) (ms : List Me) : Bool := decide (fine (s.length + 1) (hullD kind s ms) (s.length + 1))
noncomputable def hullTo (kind : Int) (s : List Sp) (ms : List Me) (k : Nat) : List Sp := (List.range k).map (newSp (fwTo (hullD kind s ms) (s.length + 1)))
noncomputable def hullL (kind : Int) (s : List Sp) (ms : List Me) : List Sp := if hullB kind s ms then hullTo kind s ms s.length else []
theorem hullTo_succ {kind : Int} {s : List Sp} {ms : List Me} {k : Nat} : hullTo kind s ms (k + 1) = hullTo kind s ms k ++ [newSp (fwTo (hullD kind s ms) (s.length + 1)) k] := by
  simp [hullTo, List.range_succ]
theorem hullTo_len {kind : Int} {s : List Sp} {ms : List Me} {k : Nat} : (hullTo kind s ms k).length = k := by simp [hullTo]

theorem hullB_no {kind : Int} {s : List Sp} {ms : List Me} (h : ¬ fine (s.length + 1) (hullD kind s ms) (s.length + 1)) : hullB kind s ms = false := by simp [hullB, h]
theorem hullB_yes {kind : Int} {s : List Sp} {ms : List Me} (h : fine (s.length + 1) (hullD kind s ms) (s.length + 1)) : hullB kind s ms = true := by simp [hullB, h]

set_option maxHeartbeats 4000000 in
theorem hull_any (kind : Int) (s : List Sp) (A : Option Addr) (ca : Nat) (ms : List Me) (B : Option Addr) (cb : Nat) (w : World) (hs : SlAt encSp 2 w A s) (hm : SlAt encMe 5 w B ms) (h1 : 1 ≤ s.length) (h2 : s.length ≤ 12) (hl : ms.length ≤ 1000) (hok : okSps s) (hme : ∀ m ∈ ms, meOk s.length m = true) (hk : 1 ≤ kind ∧ kind ≤ 2) :
    NewSl encSp 2 (hullL kind s ms) (fun v => .tuple #[v, .bool (hullB kind s ms)]) Try.prog 97 [.slice A s.length ca, .slice B ms.length cb, .int .u8 kind] w := by
  unfold NewSl
  obtain ⟨ba, oa, rfl, _⟩ := hs.at_ (show 0 < s.length by omega)
  have : InS w ba oa encSp 2 s := ⟨hs⟩
  (refine ret_enter (n := 259) Try.func97 rfl rfl rfl ?_)
  (repeat' (first | ((with_reducible refine isOps ?_); first | refine u_move rfl rfl rfl rfl rfl ?_ | refine u_assign rfl rfl rfl rfl rfl ?_ | refine u_make1 rfl rfl rfl rfl rfl rfl rfl rfl rfl rfl rfl (by omega) (fun b => ?_) | refine u_add1 rfl rfl rfl rfl rfl rfl (by omega) ?_ | refine u_len rfl rfl rfl rfl rfl ?_) | (with_reducible first | refine u_seq ?_ | refine u_region ?_ | refine u_nil ?_ | refine u_then_n ?_ | refine u_block ?_)))
  obtain ⟨ab, hab⟩ : ∃ x, x = b := ⟨b, rfl⟩
  subst hab
  refine u_grid0 (fun _ _ => 0) (by (repeat (first | exact Take.here _ _ | apply Take.there))) ?_
  refine u_loop (ι := Nat × (Nat → Nat) × Mat) (fun j => j.1 ≤ s.length + 1 ∧ TabR s (s.length + 1) j.1 j.2.2) (fun j => [(0, .slice (some ⟨ba, oa, none⟩) s.length ca), (1, .slice B ms.length cb), (2, .int .u8 kind), (8, .int .i64 ((s.length + 1 : Nat) : Int)), (9, .slice (some ⟨ab, 0, none⟩) (s.length + 1) (s.length + 1)), (10, .int .i64 (j.1 : Int))]) (fun j => [.grid ab j.2.1 (s.length + 1) j.1 j.2.2]) (fun j => s.length + 1 - j.1) (0, (fun _ => 0), (fun _ _ => 0)) ⟨Nat.zero_le _, fun a b ha => by omega⟩ (by (first | exact fun _ _ h => lk_nil h | (repeat (first | exact (fun _ _ h => lk_nil h) | (refine lk_sub rfl ?_))))) (by (repeat (first | exact Out.nil _ | (refine Out.cons (by (repeat (first | exact Take.here _ _ | apply Take.there))) ?_)))) ?_
  rintro ⟨i, gs, M⟩ ⟨hi, hM⟩
  simp only at hi hM ⊢
  by_cases hlt : i < s.length + 1
  · (repeat' (first | ((with_reducible refine isOps ?_); first | refine u_move rfl rfl rfl rfl rfl ?_ | refine u_assign rfl rfl rfl rfl rfl ?_ | (refine u_cmp rfl rfl rfl rfl rfl rfl rfl (fun h => ?_) (fun h => ?_) <;> (dsimp only [cmpP] at h; (try (exfalso; omega)))) | refine u_make1 rfl rfl rfl rfl rfl rfl rfl rfl rfl rfl rfl (by omega) (fun b => ?_) | refine u_storeRow rfl rfl rfl rfl rfl (by (repeat (first | exact Take.here _ _ | apply Take.there))) (by omega) ?_ | refine u_index rfl rfl rfl rfl rfl rfl rfl (by omega) ?_) | (with_reducible first | refine u_seq ?_ | refine u_region ?_ | refine u_nil ?_ | refine u_then_n ?_ | refine u_skip ?_ | refine u_block ?_) | ((with_reducible refine u_cond_t ?_ ?_); (· exact rfl))))
    have hX := tabX_start hM
    obtain ⟨gs', hgs⟩ : ∃ x, x = updN gs i b := ⟨_, rfl⟩
    rw [← hgs]
    have ri : RowI i (i + 1) := ⟨by omega⟩
    refine u_loop (ι := Nat × Mat) (fun j => i ≤ j.1 ∧ j.1 ≤ s.length + 1 ∧ TabX s (s.length + 1) i j.1 i j.2) (fun j => [(0, .slice (some ⟨ba, oa, none⟩) s.length ca), (1, .slice B ms.length cb), (2, .int .u8 kind), (8, .int .i64 ((s.length + 1 : Nat) : Int)), (9, .slice (some ⟨ab, 0, none⟩) (s.length + 1) (s.length + 1)), (10, .int .i64 (i : Int)), (11, .int .i64 (j.1 : Int))]) (fun j => [.grid ab gs' (s.length + 1) (i + 1) j.2]) (fun j => s.length + 1 - j.1) (i, zeroRow M i) ⟨Nat.le_refl _, by omega, hX⟩ (by (first | exact fun _ _ h => lk_nil h | (repeat (first | exact (fun _ _ h => lk_nil h) | (refine lk_sub rfl ?_))))) (by (repeat (first | exact Out.nil _ | (refine Out.cons (by (repeat (first | exact Take.here _ _ | apply Take.there))) ?_)))) ?_
    clear hX hM M
    rintro ⟨k, M⟩ ⟨hik, hkn, hM⟩
    simp only at hik hkn hM ⊢
    by_cases hlk : k < s.length + 1
    · have rk : RowI k (s.length + 1) := ⟨hlk⟩
      (repeat' (first | ((with_reducible refine isOps ?_); first | refine u_move rfl rfl rfl rfl rfl ?_ | refine u_assign rfl rfl rfl rfl rfl ?_ | (refine u_cmp rfl rfl rfl rfl rfl rfl rfl (fun h => ?_) (fun h => ?_) <;> (dsimp only [cmpP] at h; (try (exfalso; omega))))) | (with_reducible first | refine u_seq ?_ | refine u_region ?_ | refine u_nil ?_ | refine u_then_n ?_ | refine u_skip ?_ | refine u_block ?_) | ((with_reducible refine u_cond_t ?_ ?_); (· exact rfl))))
      refine u_loop (ι := Nat × Mat) (fun j => i ≤ j.1 ∧ j.1 ≤ k ∧ TabX s (s.length + 1) i k j.1 j.2) (fun j => [(0, .slice (some ⟨ba, oa, none⟩) s.length ca), (1, .slice B ms.length cb), (2, .int .u8 kind), (8, .int .i64 ((s.length + 1 : Nat) : Int)), (9, .slice (some ⟨ab, 0, none⟩) (s.length + 1) (s.length + 1)), (10, .int .i64 (i : Int)), (11, .int .i64 (k : Int)), (12, .int .i64 (j.1 : Int))]) (fun j => [.grid ab gs' (s.length + 1) (i + 1) j.2]) (fun j => k - j.1) (i, M) ⟨Nat.le_refl _, hik, hM⟩ (by (first | exact fun _ _ h => lk_nil h | (repeat (first | exact (fun _ _ h => lk_nil h) | (refine lk_sub rfl ?_))))) (by (repeat (first | exact Out.nil _ | (refine Out.cons (by (repeat (first | exact Take.here _ _ | apply Take.there))) ?_)))) ?_
      clear hM M
      rintro ⟨x, M⟩ ⟨hix, hxk, hM⟩
      simp only at hix hxk hM ⊢
      by_cases hlx : x < k
      · have hz : s[x]? = some s[x] := by simp [show x < s.length by omega]
        have : GetI s x s[x] := ⟨hz⟩
        have hsp : spAt s x = s[x] := by rw [spAt, List.getD_eq_getElem?_getD, hz]; rfl
        have hox := hok x
        rw [hsp] at hox
        have hat := tabX_at hM hlk
        have hbd := sumHi_bd hok i (x - i)
        generalize s[x] = z at *
        (repeat' (first | ((with_reducible refine isOps ?_); first | refine u_move rfl rfl rfl rfl rfl ?_ | (refine u_cmp rfl rfl rfl rfl rfl rfl rfl (fun h => ?_) (fun h => ?_) <;> (dsimp only [cmpP] at h; (try (exfalso; omega))))) | (with_reducible first | refine u_seq ?_ | refine u_region ?_ | refine u_nil ?_ | refine u_then_n ?_ | refine u_skip ?_ | refine u_block ?_) | ((with_reducible refine u_cond_t ?_ ?_); (· exact rfl))))
        (refine u_chain (by kernel_rfl) [[], [false], [true, true], [true, true, true], [false, false, false, false], [true, true, true, true, true], [true, true, true, true, true, true], [false, false, false, false, false, false, false], [false, false, false, false, false, false, false, false], [true, true, false, false, false, false, false, false, false], [true, true, true, false, false, false, false, false, false, false], [true, true, true, true, false, false, false, false, false, false, false], [true, true, true, true, true, true, true, true, true, true, true, true], [true, true, true, true, true, true, true, true, true, true, true, true, true], [true, true, true, true, true, true, true, true, true, true, true, true, true, true]] (by kernel_rfl) (by kernel_rfl) ?_)
        (repeat' (first | (((with_reducible refine c_go ?_ ?_); (· exact rfl); refine ⟨_, fun G => (by (try simp only [fltT, entsT, List.nil_append, List.cons_append]); rfl), ?_⟩); first | refine c_val _ (fun _ => e_move rfl rfl) (fun _ => rfl) rfl (by first | exact fun _ _ _ => rfl | (intro G G' h; simp (decide := true) only [h])) ?_ | refine c_val _ (fun _ => e_load' rfl rfl (by exact rfl)) (fun _ => rfl) rfl (by first | exact fun _ _ _ => rfl | (intro G G' h; simp (decide := true) only [h])) ?_ | (refine c_isField rfl ?_; refine c_val _ (fun _ => e_field rfl rfl) (fun _ => rfl) rfl (by first | exact fun _ _ _ => rfl | (intro G G' h; simp (decide := true) only [h])) ?_) | refine c_val _ (fun _ => e_add rfl rfl rfl (IntWalk.i64_in _ (by omega))) (fun _ => rfl) rfl (by first | exact fun _ _ _ => rfl | (intro G G' h; simp (decide := true) only [h])) ?_ | refine c_val _ (fun _ => e_index rfl rfl rfl rfl (by omega)) (fun _ => rfl) rfl (by first | exact fun _ _ _ => rfl | (intro G G' h; simp (decide := true) only [h])) ?_) | ((with_reducible refine c_tail ?_ ?_); (· exact rfl))))
        (intro G; simp only [regsT, entsT, Pend.at_none, List.nil_append, List.cons_append])
        (repeat' (first | ((with_reducible refine isOps ?_); first | refine u_move rfl rfl rfl rfl rfl ?_ | refine u_assign rfl rfl rfl rfl rfl ?_ | refine u_storeG rfl rfl rfl rfl rfl ?_ | refine u_add1 rfl rfl rfl rfl rfl rfl (by omega) ?_) | (with_reducible first | refine u_region ?_ | refine u_nil ?_ | refine u_then_n ?_ | refine u_in_n ?_)))
        exact u_again (x + 1, _) ⟨by omega, by omega, tabX_set hM hix (by rw [hsp, ← hat])⟩ (by simp only; omega) (by (first | exact fun _ _ h => lk_nil h | (repeat (first | exact (fun _ _ h => lk_nil h) | (refine lk_sub rfl ?_))))) (by (repeat (first | exact Out.nil _ | (refine Out.cons (by (repeat (first | exact Take.here _ _ | apply Take.there))) ?_))))
      · obtain rfl : x = k := by omega
        (repeat' (first | ((with_reducible refine isOps ?_); first | refine u_move rfl rfl rfl rfl rfl ?_ | refine u_assign rfl rfl rfl rfl rfl ?_ | (refine u_cmp rfl rfl rfl rfl rfl rfl rfl (fun h => ?_) (fun h => ?_) <;> (dsimp only [cmpP] at h; (try (exfalso; omega)))) | refine u_add1 rfl rfl rfl rfl rfl rfl (by omega) ?_) | (with_reducible first | refine u_seq ?_ | refine u_region ?_ | refine u_nil ?_ | refine u_then_n ?_ | refine u_exit ?_ | refine u_in_n ?_ | refine u_in_same ?_ | refine u_then_e ?_) | ((with_reducible refine u_cond_f ?_ ?_); (· exact rfl))))
        exact u_again (x + 1, M) ⟨by omega, by omega, tabX_next hM hik⟩ (by simp only; omega) (by (first | exact fun _ _ h => lk_nil h | (repeat (first | exact (fun _ _ h => lk_nil h) | (refine lk_sub rfl ?_))))) (by (repeat (first | exact Out.nil _ | (refine Out.cons (by (repeat (first | exact Take.here _ _ | apply Take.there))) ?_))))
    · obtain rfl : k = s.length + 1 := by omega
      (repeat' (first | ((with_reducible refine isOps ?_); first | refine u_move rfl rfl rfl rfl rfl ?_ | refine u_assign rfl rfl rfl rfl rfl ?_ | (refine u_cmp rfl rfl rfl rfl rfl rfl rfl (fun h => ?_) (fun h => ?_) <;> (dsimp only [cmpP] at h; (try (exfalso; omega))))) | (with_reducible first | refine u_seq ?_ | refine u_region ?_ | refine u_nil ?_ | refine u_then_n ?_ | refine u_block ?_ | refine u_exit ?_ | refine u_in_same ?_ | refine u_then_e ?_) | ((with_reducible refine u_cond_f ?_ ?_); (· exact rfl))))
      refine u_loop (ι := Nat × Mat) (fun j => j.1 ≤ i ∧ TabY s (s.length + 1) i j.1 j.1 j.2) (fun j => [(0, .slice (some ⟨ba, oa, none⟩) s.length ca), (1, .slice B ms.length cb), (2, .int .u8 kind), (8, .int .i64 ((s.length + 1 : Nat) : Int)), (9, .slice (some ⟨ab, 0, none⟩) (s.length + 1) (s.length + 1)), (10, .int .i64 (i : Int)), (13, .int .i64 (j.1 : Int))]) (fun j => [.grid ab gs' (s.length + 1) (i + 1) j.2]) (fun j => i - j.1) (0, M) ⟨Nat.zero_le _, tabY_start hM⟩ (by (first | exact fun _ _ h => lk_nil h | (repeat (first | exact (fun _ _ h => lk_nil h) | (refine lk_sub rfl ?_))))) (by (repeat (first | exact Out.nil _ | (refine Out.cons (by (repeat (first | exact Take.here _ _ | apply Take.there))) ?_)))) ?_
      clear hM M
      rintro ⟨k, M⟩ ⟨hki, hM⟩
      simp only at hki hM ⊢
      by_cases hlki : k < i
      · have rk : RowI k (s.length + 1) := ⟨by omega⟩
        (repeat' (first | ((with_reducible refine isOps ?_); first | refine u_move rfl rfl rfl rfl rfl ?_ | refine u_assign rfl rfl rfl rfl rfl ?_ | (refine u_cmp rfl rfl rfl rfl rfl rfl rfl (fun h => ?_) (fun h => ?_) <;> (dsimp only [cmpP] at h; (try (exfalso; omega))))) | (with_reducible first | refine u_seq ?_ | refine u_region ?_ | refine u_nil ?_ | refine u_then_n ?_ | refine u_skip ?_ | refine u_block ?_) | ((with_reducible refine u_cond_t ?_ ?_); (· exact rfl))))
        refine u_loop (ι := Nat × Mat) (fun j => k ≤ j.1 ∧ j.1 ≤ i ∧ TabY s (s.length + 1) i k j.1 j.2) (fun j => [(0, .slice (some ⟨ba, oa, none⟩) s.length ca), (1, .slice B ms.length cb), (2, .int .u8 kind), (8, .int .i64 ((s.length + 1 : Nat) : Int)), (9, .slice (some ⟨ab, 0, none⟩) (s.length + 1) (s.length + 1)), (10, .int .i64 (i : Int)), (13, .int .i64 (k : Int)), (14, .int .i64 (j.1 : Int))]) (fun j => [.grid ab gs' (s.length + 1) (i + 1) j.2]) (fun j => i - j.1) (k, M) ⟨Nat.le_refl _, hki, hM⟩ (by (first | exact fun _ _ h => lk_nil h | (repeat (first | exact (fun _ _ h => lk_nil h) | (refine lk_sub rfl ?_))))) (by (repeat (first | exact Out.nil _ | (refine Out.cons (by (repeat (first | exact Take.here _ _ | apply Take.there))) ?_)))) ?_
        clear hM M
        rintro ⟨x, M⟩ ⟨hkx, hxi, hM⟩
        simp only at hkx hxi hM ⊢
        by_cases hlx : x < i
        · have hz : s[x]? = some s[x] := by simp [show x < s.length by omega]
          have : GetI s x s[x] := ⟨hz⟩
          have hsp : spAt s x = s[x] := by rw [spAt, List.getD_eq_getElem?_getD, hz]; rfl
          have hox := hok x
          rw [hsp] at hox
          have hat := tabY_at hM (by omega) hlki
          have hbd := sumLo_bd hok k (x - k)
          generalize s[x] = z at *
          (repeat' (first | ((with_reducible refine isOps ?_); first | refine u_move rfl rfl rfl rfl rfl ?_ | (refine u_cmp rfl rfl rfl rfl rfl rfl rfl (fun h => ?_) (fun h => ?_) <;> (dsimp only [cmpP] at h; (try (exfalso; omega))))) | (with_reducible first | refine u_seq ?_ | refine u_region ?_ | refine u_nil ?_ | refine u_then_n ?_ | refine u_skip ?_ | refine u_block ?_) | ((with_reducible refine u_cond_t ?_ ?_); (· exact rfl))))
          (refine u_chain (by kernel_rfl) [[], [false], [true, true], [true, true, true], [false, false, false, false], [true, true, true, true, true], [true, true, true, true, true, true], [false, false, false, false, false, false, false], [false, false, false, false, false, false, false, false], [true, true, false, false, false, false, false, false, false], [true, true, true, false, false, false, false, false, false, false], [true, true, true, true, false, false, false, false, false, false, false], [true, true, true, true, true, true, true, true, true, true, true, true], [true, true, true, true, true, true, true, true, true, true, true, true, true], [true, true, true, true, true, true, true, true, true, true, true, true, true, true]] (by kernel_rfl) (by kernel_rfl) ?_)
          (repeat' (first | (((with_reducible refine c_go ?_ ?_); (· exact rfl); refine ⟨_, fun G => (by (try simp only [fltT, entsT, List.nil_append, List.cons_append]); rfl), ?_⟩); first | refine c_val _ (fun _ => e_move rfl rfl) (fun _ => rfl) rfl (by first | exact fun _ _ _ => rfl | (intro G G' h; simp (decide := true) only [h])) ?_ | refine c_val _ (fun _ => e_load' rfl rfl (by exact rfl)) (fun _ => rfl) rfl (by first | exact fun _ _ _ => rfl | (intro G G' h; simp (decide := true) only [h])) ?_ | (refine c_isField rfl ?_; refine c_val _ (fun _ => e_field rfl rfl) (fun _ => rfl) rfl (by first | exact fun _ _ _ => rfl | (intro G G' h; simp (decide := true) only [h])) ?_) | refine c_val _ (fun _ => e_sub rfl rfl rfl (IntWalk.i64_in _ (by omega))) (fun _ => rfl) rfl (by first | exact fun _ _ _ => rfl | (intro G G' h; simp (decide := true) only [h])) ?_ | refine c_val _ (fun _ => e_index rfl rfl rfl rfl (by omega)) (fun _ => rfl) rfl (by first | exact fun _ _ _ => rfl | (intro G G' h; simp (decide := true) only [h])) ?_) | ((with_reducible refine c_tail ?_ ?_); (· exact rfl))))
          (intro G; simp only [regsT, entsT, Pend.at_none, List.nil_append, List.cons_append])
          (repeat' (first | ((with_reducible refine isOps ?_); first | refine u_move rfl rfl rfl rfl rfl ?_ | refine u_assign rfl rfl rfl rfl rfl ?_ | refine u_storeG rfl rfl rfl rfl rfl ?_ | refine u_add1 rfl rfl rfl rfl rfl rfl (by omega) ?_) | (with_reducible first | refine u_region ?_ | refine u_nil ?_ | refine u_then_n ?_ | refine u_in_n ?_)))
          exact u_again (x + 1, _) ⟨by omega, by omega, tabY_set hM hkx hlki (by rw [hsp, ← hat])⟩ (by simp only; omega) (by (first | exact fun _ _ h => lk_nil h | (repeat (first | exact (fun _ _ h => lk_nil h) | (refine lk_sub rfl ?_))))) (by (repeat (first | exact Out.nil _ | (refine Out.cons (by (repeat (first | exact Take.here _ _ | apply Take.there))) ?_))))
        · obtain rfl : x = i := by omega
          (repeat' (first | ((with_reducible refine isOps ?_); first | refine u_move rfl rfl rfl rfl rfl ?_ | refine u_assign rfl rfl rfl rfl rfl ?_ | (refine u_cmp rfl rfl rfl rfl rfl rfl rfl (fun h => ?_) (fun h => ?_) <;> (dsimp only [cmpP] at h; (try (exfalso; omega)))) | refine u_add1 rfl rfl rfl rfl rfl rfl (by omega) ?_) | (with_reducible first | refine u_seq ?_ | refine u_region ?_ | refine u_nil ?_ | refine u_then_n ?_ | refine u_exit ?_ | refine u_in_n ?_ | refine u_in_same ?_ | refine u_then_e ?_) | ((with_reducible refine u_cond_f ?_ ?_); (· exact rfl))))
          exact u_again (k + 1, M) ⟨by omega, tabY_next hM hlki⟩ (by simp only; omega) (by (first | exact fun _ _ h => lk_nil h | (repeat (first | exact (fun _ _ h => lk_nil h) | (refine lk_sub rfl ?_))))) (by (repeat (first | exact Out.nil _ | (refine Out.cons (by (repeat (first | exact Take.here _ _ | apply Take.there))) ?_))))
      · obtain rfl : k = i := by omega
        (repeat' (first | ((with_reducible refine isOps ?_); first | refine u_move rfl rfl rfl rfl rfl ?_ | refine u_assign rfl rfl rfl rfl rfl ?_ | (refine u_cmp rfl rfl rfl rfl rfl rfl rfl (fun h => ?_) (fun h => ?_) <;> (dsimp only [cmpP] at h; (try (exfalso; omega)))) | refine u_add1 rfl rfl rfl rfl rfl rfl (by omega) ?_) | (with_reducible first | refine u_seq ?_ | refine u_region ?_ | refine u_nil ?_ | refine u_then_n ?_ | refine u_exit ?_ | refine u_in_n ?_ | refine u_in_same ?_ | refine u_then_e ?_) | ((with_reducible refine u_cond_f ?_ ?_); (· exact rfl))))
        exact u_again (k + 1, gs', M) ⟨by omega, tabY_end hM⟩ (by simp only; omega) (by (first | exact fun _ _ h => lk_nil h | (repeat (first | exact (fun _ _ h => lk_nil h) | (refine lk_sub rfl ?_))))) (by (repeat (first | exact Out.nil _ | (refine Out.cons (by (repeat (first | exact Take.here _ _ | apply Take.there))) ?_))))
  · obtain rfl : i = s.length + 1 := by omega
    have hA := tabR_end hM
    clear hM hlt hi
    (repeat' (first | ((with_reducible refine isOps ?_); first | refine u_move rfl rfl rfl rfl rfl ?_ | refine u_assign rfl rfl rfl rfl rfl ?_ | (refine u_cmp rfl rfl rfl rfl rfl rfl rfl (fun h => ?_) (fun h => ?_) <;> (dsimp only [cmpP] at h; (try (exfalso; omega))))) | (with_reducible first | refine u_seq ?_ | refine u_region ?_ | refine u_nil ?_ | refine u_then_n ?_ | refine u_block ?_ | refine u_exit ?_ | refine u_in_same ?_ | refine u_then_e ?_) | ((with_reducible refine u_cond_f ?_ ?_); (· exact rfl))))
    refine u_loop (ι := Nat × Mat) (fun j => j.1 ≤ ms.length ∧ AgrM (s.length + 1) j.2 (meas kind (R0 s) (ms.take j.1))) (fun j => [(0, .slice (some ⟨ba, oa, none⟩) s.length ca), (1, .slice B ms.length cb), (2, .int .u8 kind), (8, .int .i64 ((s.length + 1 : Nat) : Int)), (9, .slice (some ⟨ab, 0, none⟩) (s.length + 1) (s.length + 1)), (15, .int .i64 (j.1 : Int))]) (fun j => [.grid ab gs (s.length + 1) (s.length + 1) j.2]) (fun j => ms.length - j.1) (0, M) ⟨Nat.zero_le _, hA⟩ (by (first | exact fun _ _ h => lk_nil h | (repeat (first | exact (fun _ _ h => lk_nil h) | (refine lk_sub rfl ?_))))) (by (repeat (first | exact Out.nil _ | (refine Out.cons (by (repeat (first | exact Take.here _ _ | apply Take.there))) ?_)))) ?_
    clear hA M
    rintro ⟨j, M⟩ ⟨hj, hA⟩
    simp only at hj hA ⊢
    by_cases hlj : j < ms.length
    · have hz : ms[j]? = some ms[j] := by simp [hlj]
      have hP := putMe_agr (kind := kind) (meOk_okMe (hme ms[j] (List.getElem_mem hlj))) hA
      rw [← meas_snoc, List.take_append_getElem hlj] at hP
      have hme' := of_decide_eq_true (hme ms[j] (List.getElem_mem hlj))
      obtain ⟨bb, ob, rfl, _⟩ := hm.at_ hlj
      have : InS w bb ob encMe 5 ms := ⟨hm⟩
      have : GetI ms j ms[j] := ⟨hz⟩
      generalize ms[j] = me at *
      obtain ⟨kd, fr, to_, vl⟩ := me
      simp only at hme'
      obtain ⟨F, rfl⟩ : ∃ F : Nat, fr = F := ⟨fr.toNat, by omega⟩
      obtain ⟨Z, rfl⟩ : ∃ Z : Nat, to_ = Z := ⟨to_.toNat, by omega⟩
      have hk1 : 1 ≤ (Me.mk kd F Z vl).kind ∧ (Me.mk kd F Z vl).kind ≤ 2 := ⟨hme'.1, hme'.2.1⟩
      have hv1 : 0 ≤ (Me.mk kd F Z vl).value.lo ∧ (Me.mk kd F Z vl).value.lo ≤ 360000 := ⟨hme'.2.2.2.2.2.2.2.1, by simp only; omega⟩
      have rF : RowI F (s.length + 1) := ⟨by omega⟩
      have rZ : RowI Z (s.length + 1) := ⟨by omega⟩
      (repeat' (first | ((with_reducible refine isOps ?_); first | refine u_move rfl rfl rfl rfl rfl ?_ | refine u_assign rfl rfl rfl rfl rfl ?_ | (refine x_load rfl rfl rfl rfl rfl ?_; refine ⟨_, rfl, ?_⟩) | refine u_field rfl rfl rfl rfl rfl ?_ | (refine u_cmp rfl rfl rfl rfl rfl rfl rfl (fun h => ?_) (fun h => ?_) <;> (dsimp only [cmpP] at h; (try (exfalso; omega)))) | refine u_add1 rfl rfl rfl rfl rfl rfl (by omega) ?_ | refine u_index rfl rfl rfl rfl rfl rfl rfl (by omega) ?_ | refine u_len rfl rfl rfl rfl rfl ?_) | (with_reducible first | refine u_seq ?_ | refine u_region ?_ | refine u_nil ?_ | refine u_then_n ?_ | refine u_skip ?_ | refine u_block ?_ | refine u_in_n ?_) | ((with_reducible refine u_cond_t ?_ ?_); (· exact rfl)) | ((with_reducible refine u_cond_f ?_ ?_); (· exact rfl))))
      · (refine u_chain (by kernel_rfl) [[], [false], [false, false], [true, true, false], [true, true, true, false], [true, true, true, true, false], [true, true, true, true, true, true], [true, true, true, true, true, true, true], [false, false, false, false, false, false, false, false], [false, false, false, false, false, false, false, false, false], [true, true, false, false, false, false, false, false, false, false], [true, true, true, false, false, false, false, false, false, false, false], [true, true, true, true, false, false, false, false, false, false, false, false], [false, false, false, false, false, false, false, false, false, false, false, false, false], [false, false, false, false, false, false, false, false, false, false, false, false, false, false], [false, false, false, false, false, false, false, false, false, false, false, false, false, false, false], [true, true, false, false, false, false, false, false, false, false, false, false, false, false, false, false], [true, true, true, false, false, false, false, false, false, false, false, false, false, false, false, false, false], [true, true, true, true, false, false, false, false, false, false, false, false, false, false, false, false, false, false], [true, true, true, true, true, true, false, false, false, false, false, false, false, false, false, false, false, false, false], [true, true, true, true, true, true, true, false, false, false, false, false, false, false, false, false, false, false, false, false], [false, false, false, false, false, false, false, false, false, false, false, false, false, false, false, false, false, false, false, false, false], [false, false, false, false, false, false, false, false, false, false, false, false, false, false, false, false, false, false, false, false, false, false], [true, true, false, false, false, false, false, false, false, false, false, false, false, false, false, false, false, false, false, false, false, false, false], [true, true, true, false, false, false, false, false, false, false, false, false, false, false, false, false, false, false, false, false, false, false, false, false], [true, true, true, true, false, false, false, false, false, false, false, false, false, false, false, false, false, false, false, false, false, false, false, false, false], [true, true, true, true, true, true, true, true, true, true, true, true, true, false, false, false, false, false, false, false, false, false, false, false, false, false], [true, true, true, true, true, true, true, true, true, true, true, true, true, true, false, false, false, false, false, false, false, false, false, false, false, false, false], [false, false, false, false, false, false, false, false, false, false, false, false, false, false, false, false, false, false, false, false, false, false, false, false, false, false, false, false], [false, false, false, false, false, false, false, false, false, false, false, false, false, false, false, false, false, false, false, false, false, false, false, false, false, false, false, false, false], [true, true, false, false, false, false, false, false, false, false, false, false, false, false, false, false, false, false, false, false, false, false, false, false, false, false, false, false, false, false], [true, true, true, false, false, false, false, false, false, false, false, false, false, false, false, false, false, false, false, false, false, false, false, false, false, false, false, false, false, false, false], [true, true, true, true, false, false, false, false, false, false, false, false, false, false, false, false, false, false, false, false, false, false, false, false, false, false, false, false, false, false, false, false], [true, true, true, true, true, false, false, false, false, false, false, false, false, false, false, false, false, false, false, false, false, false, false, false, false, false, false, false, false, false, false, false, false], [true, true, true, true, true, true, true, true, true, true, true, true, true, true, true, true, true, true, true, true, true, false, false, false, false, false, false, false, false, false, false, false, false, false], [true, true, true, true, true, true, true, true, true, true, true, true, true, true, true, true, true, true, true, true, true, true, true, true, true, true, true, true, true, true, true, true, true, true, true], [true, true, true, true, true, true, true, true, true, true, true, true, true, true, true, true, true, true, true, true, true, true, true, true, true, true, true, true, true, true, true, true, true, true, true, true]] (by kernel_rfl) (by kernel_rfl) ?_)
        (repeat' (first | (((with_reducible refine c_go ?_ ?_); (· exact rfl); refine ⟨_, fun G => (by (try simp only [fltT, entsT, List.nil_append, List.cons_append]); rfl), ?_⟩); first | refine c_val _ (fun _ => e_move rfl rfl) (fun _ => rfl) rfl (by first | exact fun _ _ _ => rfl | (intro G G' h; simp (decide := true) only [h])) ?_ | refine c_val _ (fun _ => e_load' rfl rfl (by exact rfl)) (fun _ => rfl) rfl (by first | exact fun _ _ _ => rfl | (intro G G' h; simp (decide := true) only [h])) ?_ | (refine c_isField rfl ?_; refine c_val _ (fun _ => e_field rfl rfl) (fun _ => rfl) rfl (by first | exact fun _ _ _ => rfl | (intro G G' h; simp (decide := true) only [h])) ?_) | refine c_val _ (fun _ => e_index rfl rfl rfl rfl (by omega)) (fun _ => rfl) rfl (by first | exact fun _ _ _ => rfl | (intro G G' h; simp (decide := true) only [h])) ?_ | refine c_val _ (fun _ => e_min rfl rfl rfl) (fun _ => rfl) rfl (by first | exact fun _ _ _ => rfl | (intro G G' h; simp (decide := true) only [h])) ?_) | ((with_reducible refine c_tail ?_ ?_); (· exact rfl))))
        (intro G; simp only [regsT, entsT, Pend.at_none, List.nil_append, List.cons_append])
        (repeat' (first | ((with_reducible refine isOps ?_); first | refine u_storeG rfl rfl rfl rfl rfl ?_) | (with_reducible first | refine u_nil ?_ | refine u_then_n ?_)))
        (refine u_chain (by kernel_rfl) [[], [false], [false, false], [true, true, false], [true, true, true, false], [true, true, true, true, false], [true, true, true, true, true, true], [true, true, true, true, true, true, true], [false, false, false, false, false, false, false, false], [false, false, false, false, false, false, false, false, false], [true, true, false, false, false, false, false, false, false, false], [true, true, true, false, false, false, false, false, false, false, false], [true, true, true, true, false, false, false, false, false, false, false, false], [false, false, false, false, false, false, false, false, false, false, false, false, false], [false, false, false, false, false, false, false, false, false, false, false, false, false, false], [false, false, false, false, false, false, false, false, false, false, false, false, false, false, false], [true, true, false, false, false, false, false, false, false, false, false, false, false, false, false, false], [true, true, true, false, false, false, false, false, false, false, false, false, false, false, false, false, false], [true, true, true, true, false, false, false, false, false, false, false, false, false, false, false, false, false, false], [true, true, true, true, true, true, false, false, false, false, false, false, false, false, false, false, false, false, false], [true, true, true, true, true, true, true, false, false, false, false, false, false, false, false, false, false, false, false, false], [false, false, false, false, false, false, false, false, false, false, false, false, false, false, false, false, false, false, false, false, false], [false, false, false, false, false, false, false, false, false, false, false, false, false, false, false, false, false, false, false, false, false, false], [true, true, false, false, false, false, false, false, false, false, false, false, false, false, false, false, false, false, false, false, false, false, false], [true, true, true, false, false, false, false, false, false, false, false, false, false, false, false, false, false, false, false, false, false, false, false, false], [true, true, true, true, false, false, false, false, false, false, false, false, false, false, false, false, false, false, false, false, false, false, false, false, false], [true, true, true, true, true, true, true, true, true, true, true, true, true, false, false, false, false, false, false, false, false, false, false, false, false, false], [true, true, true, true, true, true, true, true, true, true, true, true, true, true, false, false, false, false, false, false, false, false, false, false, false, false, false], [false, false, false, false, false, false, false, false, false, false, false, false, false, false, false, false, false, false, false, false, false, false, false, false, false, false, false, false], [false, false, false, false, false, false, false, false, false, false, false, false, false, false, false, false, false, false, false, false, false, false, false, false, false, false, false, false, false], [true, true, false, false, false, false, false, false, false, false, false, false, false, false, false, false, false, false, false, false, false, false, false, false, false, false, false, false, false, false], [true, true, true, false, false, false, false, false, false, false, false, false, false, false, false, false, false, false, false, false, false, false, false, false, false, false, false, false, false, false, false], [true, true, true, true, false, false, false, false, false, false, false, false, false, false, false, false, false, false, false, false, false, false, false, false, false, false, false, false, false, false, false, false], [true, true, true, true, true, false, false, false, false, false, false, false, false, false, false, false, false, false, false, false, false, false, false, false, false, false, false, false, false, false, false, false, false], [true, true, true, true, true, true, false, false, false, false, false, false, false, false, false, false, false, false, false, false, false, false, false, false, false, false, false, false, false, false, false, false, false, false], [true, true, true, true, true, true, true, true, true, true, true, true, true, true, true, true, true, true, true, true, true, true, false, false, false, false, false, false, false, false, false, false, false, false, false], [true, true, true, true, true, true, true, true, true, true, true, true, true, true, true, true, true, true, true, true, true, true, true, true, true, true, true, true, true, true, true, true, true, true, true, true], [true, true, true, true, true, true, true, true, true, true, true, true, true, true, true, true, true, true, true, true, true, true, true, true, true, true, true, true, true, true, true, true, true, true, true, true, true]] (by kernel_rfl) (by kernel_rfl) ?_)
        (repeat' (first | (((with_reducible refine c_go ?_ ?_); (· exact rfl); refine ⟨_, fun G => (by (try simp only [fltT, entsT, List.nil_append, List.cons_append]); rfl), ?_⟩); first | refine c_val _ (fun _ => e_move rfl rfl) (fun _ => rfl) rfl (by first | exact fun _ _ _ => rfl | (intro G G' h; simp (decide := true) only [h])) ?_ | refine c_val _ (fun _ => e_load' rfl rfl (by exact rfl)) (fun _ => rfl) rfl (by first | exact fun _ _ _ => rfl | (intro G G' h; simp (decide := true) only [h])) ?_ | (refine c_isField rfl ?_; refine c_val _ (fun _ => e_field rfl rfl) (fun _ => rfl) rfl (by first | exact fun _ _ _ => rfl | (intro G G' h; simp (decide := true) only [h])) ?_) | refine c_val _ (fun _ => e_index rfl rfl rfl rfl (by omega)) (fun _ => rfl) rfl (by first | exact fun _ _ _ => rfl | (intro G G' h; simp (decide := true) only [h])) ?_ | refine c_val _ (fun _ => e_neg rfl rfl (by rw [Int.zero_sub]; exact IntWalk.i64_in _ (by omega))) (fun _ => rfl) rfl (by first | exact fun _ _ _ => rfl | (intro G G' h; simp (decide := true) only [h])) ?_ | refine c_val _ (fun _ => e_min rfl rfl rfl) (fun _ => rfl) rfl (by first | exact fun _ _ _ => rfl | (intro G G' h; simp (decide := true) only [h])) ?_) | ((with_reducible refine c_tail ?_ ?_); (· exact rfl))))
        (intro G; simp only [regsT, entsT, Pend.at_none, List.nil_append, List.cons_append])
        (repeat' (first | ((with_reducible refine isOps ?_); first | refine u_move rfl rfl rfl rfl rfl ?_ | refine u_assign rfl rfl rfl rfl rfl ?_ | refine u_storeG rfl rfl rfl rfl rfl ?_ | refine u_add1 rfl rfl rfl rfl rfl rfl (by omega) ?_) | (with_reducible first | refine u_region ?_ | refine u_nil ?_ | refine u_then_n ?_ | refine u_in_n ?_)))
        refine u_again (j + 1, _) ⟨by omega, ?_⟩ (by simp only; omega) (by (first | exact fun _ _ h => lk_nil h | (repeat (first | exact (fun _ _ h => lk_nil h) | (refine lk_sub rfl ?_))))) (by (repeat (first | exact Out.nil _ | (refine Out.cons (by (repeat (first | exact Take.here _ _ | apply Take.there))) ?_))))
        have e : putMe kind M ⟨kd, F, Z, vl⟩ = setM (setM M F Z (min (M F Z) vl.hi)) Z F (min (setM M F Z (min (M F Z) vl.hi) Z F) (-vl.lo)) := by
          unfold putMe; rw [if_pos (by first | exact h | omega)]; rfl
        rw [e] at hP
        exact hP
      · refine u_again (j + 1, M) ⟨by omega, ?_⟩ (by simp only; omega) (by (first | exact fun _ _ h => lk_nil h | (repeat (first | exact (fun _ _ h => lk_nil h) | (refine lk_sub rfl ?_))))) (by (repeat (first | exact Out.nil _ | (refine Out.cons (by (repeat (first | exact Take.here _ _ | apply Take.there))) ?_))))
        have e : putMe kind M ⟨kd, F, Z, vl⟩ = M := by
          unfold putMe; rw [if_neg (by first | exact h | omega)]
        rw [e] at hP
        exact hP
    · obtain rfl : j = ms.length := by omega
      rw [List.take_length] at hA
      have hokm : ∀ x ∈ ms, okMe (s.length + 1) x := fun x hx => meOk_okMe (hme x hx)
      obtain ⟨M0, hM0⟩ : ∃ x, x = hullD kind s ms := ⟨_, rfl⟩
      have h0 : Diag (s.length + 1) M0 := by rw [hM0]; exact diag_meas _ _ hokm (R0_diag _ _)
      have hb : BdM (s.length + 1) M0 := by rw [hM0]; exact meas_bd _ _ hokm (R0_bd hok (by omega))
      have hA0 : AgrM (s.length + 1) M (fwTo M0 0) := by rw [hM0]; exact hA
      have f0 : fine (s.length + 1) M0 0 := fun y hy a ha => by
        obtain rfl : y = 0 := by omega
        have := h0 a ha
        simp only [fwTo]; omega
      have hn13 : s.length + 1 ≤ 13 := by omega
      clear hA
      (repeat' (first | ((with_reducible refine isOps ?_); first | refine u_move rfl rfl rfl rfl rfl ?_ | refine u_assign rfl rfl rfl rfl rfl ?_ | (refine u_cmp rfl rfl rfl rfl rfl rfl rfl (fun h => ?_) (fun h => ?_) <;> (dsimp only [cmpP] at h; (try (exfalso; omega)))) | refine u_len rfl rfl rfl rfl rfl ?_) | (with_reducible first | refine u_seq ?_ | refine u_region ?_ | refine u_nil ?_ | refine u_then_n ?_ | refine u_block ?_ | refine u_exit ?_ | refine u_in_same ?_ | refine u_then_e ?_) | ((with_reducible refine u_cond_f ?_ ?_); (· exact rfl))))
      refine u_loop (ι := Nat × Mat) (fun j => j.1 ≤ s.length + 1 ∧ fine (s.length + 1) M0 j.1 ∧ AgrM (s.length + 1) j.2 (fwTo M0 j.1)) (fun j => [(0, .slice (some ⟨ba, oa, none⟩) s.length ca), (1, .slice B ms.length cb), (2, .int .u8 kind), (8, .int .i64 ((s.length + 1 : Nat) : Int)), (9, .slice (some ⟨ab, 0, none⟩) (s.length + 1) (s.length + 1)), (16, .int .i64 (j.1 : Int))]) (fun j => [.grid ab gs (s.length + 1) (s.length + 1) j.2]) (fun j => s.length + 1 - j.1) (0, M) ⟨Nat.zero_le _, f0, hA0⟩ (by (first | exact fun _ _ h => lk_nil h | (repeat (first | exact (fun _ _ h => lk_nil h) | (refine lk_sub rfl ?_))))) (by (repeat (first | exact Out.nil _ | (refine Out.cons (by (repeat (first | exact Take.here _ _ | apply Take.there))) ?_)))) ?_
      clear hA0 M f0
      rintro ⟨x, M⟩ ⟨hx, hf, hA⟩
      simp only at hx hf hA ⊢
      by_cases hlt : x < s.length + 1
      · have rx : RowI x (s.length + 1) := ⟨hlt⟩
        (repeat' (first | ((with_reducible refine isOps ?_); first | refine u_move rfl rfl rfl rfl rfl ?_ | refine u_assign rfl rfl rfl rfl rfl ?_ | (refine u_cmp rfl rfl rfl rfl rfl rfl rfl (fun h => ?_) (fun h => ?_) <;> (dsimp only [cmpP] at h; (try (exfalso; omega))))) | (with_reducible first | refine u_seq ?_ | refine u_region ?_ | refine u_nil ?_ | refine u_then_n ?_ | refine u_skip ?_ | refine u_block ?_) | ((with_reducible refine u_cond_t ?_ ?_); (· exact rfl))))
        refine u_loop (ι := Nat × Mat) (fun j => j.1 ≤ s.length + 1 ∧ Mid (s.length + 1) (fwTo M0 x) (fwTo M0 (x + 1)) j.1 0 j.2) (fun j => [(0, .slice (some ⟨ba, oa, none⟩) s.length ca), (1, .slice B ms.length cb), (2, .int .u8 kind), (8, .int .i64 ((s.length + 1 : Nat) : Int)), (9, .slice (some ⟨ab, 0, none⟩) (s.length + 1) (s.length + 1)), (16, .int .i64 (x : Int)), (17, .int .i64 (j.1 : Int))]) (fun j => [.grid ab gs (s.length + 1) (s.length + 1) j.2]) (fun j => s.length + 1 - j.1) (0, M) ⟨Nat.zero_le _, mid_start hA⟩ (by (first | exact fun _ _ h => lk_nil h | (repeat (first | exact (fun _ _ h => lk_nil h) | (refine lk_sub rfl ?_))))) (by (repeat (first | exact Out.nil _ | (refine Out.cons (by (repeat (first | exact Take.here _ _ | apply Take.there))) ?_)))) ?_
        clear hA M
        rintro ⟨i, M⟩ ⟨hi, hM⟩
        simp only at hi hM ⊢
        by_cases hli : i < s.length + 1
        · have ri : RowI i (s.length + 1) := ⟨hli⟩
          (repeat' (first | ((with_reducible refine isOps ?_); first | refine u_move rfl rfl rfl rfl rfl ?_ | refine u_assign rfl rfl rfl rfl rfl ?_ | (refine u_cmp rfl rfl rfl rfl rfl rfl rfl (fun h => ?_) (fun h => ?_) <;> (dsimp only [cmpP] at h; (try (exfalso; omega))))) | (with_reducible first | refine u_seq ?_ | refine u_region ?_ | refine u_nil ?_ | refine u_then_n ?_ | refine u_skip ?_ | refine u_block ?_) | ((with_reducible refine u_cond_t ?_ ?_); (· exact rfl))))
          refine u_loop (ι := Nat × Mat) (fun j => j.1 ≤ s.length + 1 ∧ Mid (s.length + 1) (fwTo M0 x) (fwTo M0 (x + 1)) i j.1 j.2) (fun j => [(0, .slice (some ⟨ba, oa, none⟩) s.length ca), (1, .slice B ms.length cb), (2, .int .u8 kind), (8, .int .i64 ((s.length + 1 : Nat) : Int)), (9, .slice (some ⟨ab, 0, none⟩) (s.length + 1) (s.length + 1)), (16, .int .i64 (x : Int)), (17, .int .i64 (i : Int)), (18, .int .i64 (j.1 : Int))]) (fun j => [.grid ab gs (s.length + 1) (s.length + 1) j.2]) (fun j => s.length + 1 - j.1) (0, M) ⟨Nat.zero_le _, hM⟩ (by (first | exact fun _ _ h => lk_nil h | (repeat (first | exact (fun _ _ h => lk_nil h) | (refine lk_sub rfl ?_))))) (by (repeat (first | exact Out.nil _ | (refine Out.cons (by (repeat (first | exact Take.here _ _ | apply Take.there))) ?_)))) ?_
          clear hM M
          rintro ⟨k, M⟩ ⟨hk2, hM⟩
          simp only at hk2 hM ⊢
          by_cases hlk : k < s.length + 1
          · have rk : RowI k (s.length + 1) := ⟨hlk⟩
            obtain ⟨f1, f2, f3, f4⟩ := mid_facts h0 hf hlt hli hlk hM
            have b1 := fw_bd13 hb hn13 (by omega : x ≤ s.length + 1) hli hlt
            have b2 := fw_bd13 hb hn13 (by omega : x ≤ s.length + 1) hlt hlk
            rw [← f1] at b1
            rw [← f2] at b2
            rw [← f1, ← f2, ← f3] at f4
            (repeat' (first | ((with_reducible refine isOps ?_); first | refine u_move rfl rfl rfl rfl rfl ?_ | (refine u_cmp rfl rfl rfl rfl rfl rfl rfl (fun h => ?_) (fun h => ?_) <;> (dsimp only [cmpP] at h; (try (exfalso; omega))))) | (with_reducible first | refine u_seq ?_ | refine u_region ?_ | refine u_nil ?_ | refine u_then_n ?_ | refine u_skip ?_ | refine u_block ?_) | ((with_reducible refine u_cond_t ?_ ?_); (· exact rfl))))
            (refine u_chain (by kernel_rfl) [[], [false], [true, true], [true, true, true], [false, false, false, false], [false, false, false, false, false], [false, false, false, false, false, false], [true, true, false, false, false, false, false], [true, true, true, false, false, false, false, false], [false, false, false, false, false, false, false, false, false], [true, true, true, true, true, false, false, false, false, false], [true, true, true, true, true, true, false, false, false, false, false], [false, false, false, false, false, false, false, false, false, false, false, false], [false, false, false, false, false, false, false, false, false, false, false, false, false], [true, true, false, false, false, false, false, false, false, false, false, false, false, false], [true, true, true, false, false, false, false, false, false, false, false, false, false, false, false], [false, false, false, false, false, false, false, false, false, false, false, false, false, false, false, false], [true, true, true, true, true, false, false, false, false, false, false, false, false, false, false, false, false], [true, true, true, true, true, true, false, false, false, false, false, false, false, false, false, false, false, false], [false, false, false, false, false, false, false, false, false, false, false, false, false, false, false, false, false, false, false], [false, false, false, false, false, false, false, false, false, false, false, false, false, false, false, false, false, false, false, false], [true, true, false, false, false, false, false, false, false, false, false, false, false, false, false, false, false, false, false, false, false], [true, true, true, false, false, false, false, false, false, false, false, false, false, false, false, false, false, false, false, false, false, false], [false, false, false, false, false, false, false, false, false, false, false, false, false, false, false, false, false, false, false, false, false, false, false], [true, true, true, true, true, false, false, false, false, false, false, false, false, false, false, false, false, false, false, false, false, false, false, false], [true, true, true, true, true, true, false, false, false, false, false, false, false, false, false, false, false, false, false, false, false, false, false, false, false], [true, true, true, true, true, true, true, true, true, true, true, true, true, true, false, false, false, false, false, false, false, false, false, false, false, false], [true, true, true, true, true, true, true, true, true, true, true, true, true, true, true, true, true, true, true, true, true, true, false, false, false, false, false], [true, true, true, true, true, true, true, true, true, true, true, true, true, true, true, true, true, true, true, true, true, true, true, true, true, true, true, true], [true, true, true, true, true, true, true, true, true, true, true, true, true, true, true, true, true, true, true, true, true, true, true, true, true, true, true, true, true]] (by kernel_rfl) (by kernel_rfl) ?_)
            (repeat' (first | (((with_reducible refine c_go ?_ ?_); (· exact rfl); refine ⟨_, fun G => (by (try simp only [fltT, entsT, List.nil_append, List.cons_append]); rfl), ?_⟩); first | refine c_val _ (fun _ => e_move rfl rfl) (fun _ => rfl) rfl (by first | exact fun _ _ _ => rfl | (intro G G' h; simp (decide := true) only [h])) ?_ | refine c_val _ (fun _ => e_load' rfl rfl (by exact rfl)) (fun _ => rfl) rfl (by first | exact fun _ _ _ => rfl | (intro G G' h; simp (decide := true) only [h])) ?_ | refine c_val _ (fun _ => e_add rfl rfl rfl (IntWalk.i64_in _ (by omega))) (fun _ => rfl) rfl (by first | exact fun _ _ _ => rfl | (intro G G' h; simp (decide := true) only [h])) ?_ | refine c_val _ (fun _ => e_index rfl rfl rfl rfl (by omega)) (fun _ => rfl) rfl (by first | exact fun _ _ _ => rfl | (intro G G' h; simp (decide := true) only [h])) ?_ | refine c_val _ (fun _ => e_min rfl rfl rfl) (fun _ => rfl) rfl (by first | exact fun _ _ _ => rfl | (intro G G' h; simp (decide := true) only [h])) ?_) | ((with_reducible refine c_tail ?_ ?_); (· exact rfl))))
            (intro G; simp only [regsT, entsT, Pend.at_none, List.nil_append, List.cons_append])
            (repeat' (first | ((with_reducible refine isOps ?_); first | refine u_move rfl rfl rfl rfl rfl ?_ | refine u_assign rfl rfl rfl rfl rfl ?_ | refine u_storeG rfl rfl rfl rfl rfl ?_ | refine u_add1 rfl rfl rfl rfl rfl rfl (by omega) ?_) | (with_reducible first | refine u_region ?_ | refine u_nil ?_ | refine u_then_n ?_ | refine u_in_n ?_)))
            exact u_again (k + 1, _) ⟨by omega, mid_set hM f4.symm⟩ (by simp only; omega) (by (first | exact fun _ _ h => lk_nil h | (repeat (first | exact (fun _ _ h => lk_nil h) | (refine lk_sub rfl ?_))))) (by (repeat (first | exact Out.nil _ | (refine Out.cons (by (repeat (first | exact Take.here _ _ | apply Take.there))) ?_))))
          · obtain rfl : k = s.length + 1 := by omega
            (repeat' (first | ((with_reducible refine isOps ?_); first | refine u_move rfl rfl rfl rfl rfl ?_ | refine u_assign rfl rfl rfl rfl rfl ?_ | (refine u_cmp rfl rfl rfl rfl rfl rfl rfl (fun h => ?_) (fun h => ?_) <;> (dsimp only [cmpP] at h; (try (exfalso; omega)))) | refine u_add1 rfl rfl rfl rfl rfl rfl (by omega) ?_) | (with_reducible first | refine u_seq ?_ | refine u_region ?_ | refine u_nil ?_ | refine u_then_n ?_ | refine u_exit ?_ | refine u_in_n ?_ | refine u_in_same ?_ | refine u_then_e ?_) | ((with_reducible refine u_cond_f ?_ ?_); (· exact rfl))))
            exact u_again (i + 1, M) ⟨by omega, mid_row hM⟩ (by simp only; omega) (by (first | exact fun _ _ h => lk_nil h | (repeat (first | exact (fun _ _ h => lk_nil h) | (refine lk_sub rfl ?_))))) (by (repeat (first | exact Out.nil _ | (refine Out.cons (by (repeat (first | exact Take.here _ _ | apply Take.there))) ?_))))
        · obtain rfl : i = s.length + 1 := by omega
          have hA := mid_end hM
          (repeat' (first | ((with_reducible refine isOps ?_); first | refine u_move rfl rfl rfl rfl rfl ?_ | refine u_assign rfl rfl rfl rfl rfl ?_ | (refine u_cmp rfl rfl rfl rfl rfl rfl rfl (fun h => ?_) (fun h => ?_) <;> (dsimp only [cmpP] at h; (try (exfalso; omega))))) | (with_reducible first | refine u_seq ?_ | refine u_region ?_ | refine u_nil ?_ | refine u_then_n ?_ | refine u_block ?_ | refine u_exit ?_ | refine u_in_same ?_ | refine u_then_e ?_) | ((with_reducible refine u_cond_f ?_ ?_); (· exact rfl))))
          refine u_loop (ι := Nat) (fun a => a ≤ s.length + 1 ∧ ∀ y, y < a → 0 ≤ M y y) (fun a => [(0, .slice (some ⟨ba, oa, none⟩) s.length ca), (1, .slice B ms.length cb), (2, .int .u8 kind), (8, .int .i64 ((s.length + 1 : Nat) : Int)), (9, .slice (some ⟨ab, 0, none⟩) (s.length + 1) (s.length + 1)), (16, .int .i64 (x : Int)), (19, .int .i64 (a : Int))]) (fun a => [.grid ab gs (s.length + 1) (s.length + 1) M]) (fun a => s.length + 1 - a) 0 ⟨Nat.zero_le _, fun y hy => by omega⟩ (by (first | exact fun _ _ h => lk_nil h | (repeat (first | exact (fun _ _ h => lk_nil h) | (refine lk_sub rfl ?_))))) (by (repeat (first | exact Out.nil _ | (refine Out.cons (by (repeat (first | exact Take.here _ _ | apply Take.there))) ?_)))) ?_
          rintro a ⟨ha, hy⟩
          by_cases hla : a < s.length + 1
          · have ra : RowI a (s.length + 1) := ⟨hla⟩
            (repeat' (first | ((with_reducible refine isOps ?_); first | refine u_move rfl rfl rfl rfl rfl ?_ | refine u_assign rfl rfl rfl rfl rfl ?_ | (refine x_load rfl rfl rfl rfl rfl ?_; refine ⟨_, rfl, ?_⟩) | (refine u_cmp rfl rfl rfl rfl rfl rfl rfl (fun h => ?_) (fun h => ?_) <;> (dsimp only [cmpP] at h; (try (exfalso; omega)))) | refine u_add1 rfl rfl rfl rfl rfl rfl (by omega) ?_ | refine u_index rfl rfl rfl rfl rfl rfl rfl (by omega) ?_) | (with_reducible first | refine u_seq ?_ | refine u_region ?_ | refine u_nil ?_ | refine u_then_n ?_ | refine u_ret ?_ | refine u_skip ?_ | refine u_then_r ?_ | refine u_block ?_ | refine u_in_n ?_ | refine u_in_r ?_) | ((with_reducible refine u_cond_t ?_ ?_); (· exact rfl)) | ((with_reducible refine u_cond_f ?_ ?_); (· exact rfl))))
            · have hno : hullB kind s ms = false := hullB_no (fun hff => by
                have := hff (x + 1) (by omega) a hla
                rw [← hM0, ← hA a a hla hla] at this; omega)
              have e2 : hullL kind s ms = [] := by simp [hullL, hno]
              rw [hno, e2]
              exact u_done (by (exact ResL.cons (by exact Res1.tmp rfl) (ResL.cons (by exact Res1.tmp rfl) ResL.nil))) (none, 0) trivial rfl (fun _ h => sl_nil h)
            · refine u_again (a + 1) ⟨by omega, fun y hy2 => ?_⟩ (by omega) (by (first | exact fun _ _ h => lk_nil h | (repeat (first | exact (fun _ _ h => lk_nil h) | (refine lk_sub rfl ?_))))) (by (repeat (first | exact Out.nil _ | (refine Out.cons (by (repeat (first | exact Take.here _ _ | apply Take.there))) ?_))))
              rcases Nat.lt_or_ge y a with h9 | h9
              · exact hy y h9
              · obtain rfl : y = a := by omega
                omega
          · obtain rfl : a = s.length + 1 := by omega
            (repeat' (first | ((with_reducible refine isOps ?_); first | refine u_move rfl rfl rfl rfl rfl ?_ | refine u_assign rfl rfl rfl rfl rfl ?_ | (refine u_cmp rfl rfl rfl rfl rfl rfl rfl (fun h => ?_) (fun h => ?_) <;> (dsimp only [cmpP] at h; (try (exfalso; omega)))) | refine u_add1 rfl rfl rfl rfl rfl rfl (by omega) ?_) | (with_reducible first | refine u_seq ?_ | refine u_region ?_ | refine u_nil ?_ | refine u_then_n ?_ | refine u_exit ?_ | refine u_in_n ?_ | refine u_in_same ?_ | refine u_then_e ?_) | ((with_reducible refine u_cond_f ?_ ?_); (· exact rfl))))
            exact u_again (x + 1, M) ⟨by omega, fine_succ hf (fun a ha _ => by rw [← hA a a ha ha]; exact hy a ha), hA⟩ (by simp only; omega) (by (first | exact fun _ _ h => lk_nil h | (repeat (first | exact (fun _ _ h => lk_nil h) | (refine lk_sub rfl ?_))))) (by (repeat (first | exact Out.nil _ | (refine Out.cons (by (repeat (first | exact Take.here _ _ | apply Take.there))) ?_))))
      · obtain rfl : x = s.length + 1 := by omega
        have hyes : hullB kind s ms = true := hullB_yes (by rw [← hM0]; exact hf)
        have e2 : hullL kind s ms = hullTo kind s ms s.length := by simp [hullL, hyes]
        rw [hyes, e2]
        (repeat' (first | ((with_reducible refine isOps ?_); first | refine u_move rfl rfl rfl rfl rfl ?_ | refine u_assign rfl rfl rfl rfl rfl ?_ | (refine u_cmp rfl rfl rfl rfl rfl rfl rfl (fun h => ?_) (fun h => ?_) <;> (dsimp only [cmpP] at h; (try (exfalso; omega))))) | (with_reducible first | refine u_seq ?_ | refine u_region ?_ | refine u_nil ?_ | refine u_then_n ?_ | refine u_block ?_ | refine u_exit ?_ | refine u_in_same ?_ | refine u_then_e ?_) | ((with_reducible refine u_cond_f ?_ ?_); (· exact rfl))))
        refine u_row_nil encSp 2 34 ?_
        refine u_loop (ι := Nat × Value) (fun j => j.1 ≤ s.length) (fun j => [(0, .slice (some ⟨ba, oa, none⟩) s.length ca), (1, .slice B ms.length cb), (2, .int .u8 kind), (8, .int .i64 ((s.length + 1 : Nat) : Int)), (9, .slice (some ⟨ab, 0, none⟩) (s.length + 1) (s.length + 1)), (20, j.2), (21, .int .i64 (j.1 : Int))]) (fun j => [.grid ab gs (s.length + 1) (s.length + 1) M, .row encSp 2 34 j.2 (hullTo kind s ms j.1)]) (fun j => s.length - j.1) (0, .slice none 0 0) (Nat.zero_le _) (by (first | exact fun _ _ h => lk_nil h | (repeat (first | exact (fun _ _ h => lk_nil h) | (refine lk_sub rfl ?_))))) (by (repeat (first | exact Out.nil _ | (refine Out.cons (by (repeat (first | exact Take.here _ _ | apply Take.there))) ?_)))) ?_
        rintro ⟨k, v⟩ hk2
        simp only at hk2 ⊢
        by_cases hlk : k < s.length
        · have r1 : RowI k (s.length + 1) := ⟨by omega⟩
          have r2 : RowI (k + 1) (s.length + 1) := ⟨by omega⟩
          have b1 := fw_bd13 hb hn13 (Nat.le_refl (s.length + 1)) (show k + 1 < s.length + 1 by omega) (show k < s.length + 1 by omega)
          rw [← hA (k + 1) k (by omega) (by omega)] at b1
          have eN : newSp (fwTo (hullD kind s ms) (s.length + 1)) k = newSp M k := by rw [← hM0]; exact (newSp_agr hA (by omega)).symm
          have hlen := hullTo_len (kind := kind) (s := s) (ms := ms) (k := k)
          (repeat' (first | ((with_reducible refine isOps ?_); first | refine u_move rfl rfl rfl rfl rfl ?_ | (refine u_cmp rfl rfl rfl rfl rfl rfl rfl (fun h => ?_) (fun h => ?_) <;> (dsimp only [cmpP] at h; (try (exfalso; omega)))) | refine u_add1 rfl rfl rfl rfl rfl rfl (by omega) ?_) | (with_reducible first | refine u_seq ?_ | refine u_region ?_ | refine u_nil ?_ | refine u_then_n ?_ | refine u_skip ?_ | refine u_block ?_) | ((with_reducible refine u_cond_t ?_ ?_); (· exact rfl))))
          (refine u_chain (by kernel_rfl) [[], [false], [false, false], [true, false, false], [true, true, true, false], [true, true, true, true, false], [false, false, false, false, false, false], [true, true, true, true, true, true, false], [true, true, true, true, true, true, true, false], [true, true, true, true, true, true, true, true, false], [false, false, false, false, false, false, false, false, false, false], [false, false, false, false, false, false, false, false, false, false, false], [true, true, false, false, false, false, false, false, false, false, false, false], [true, true, true, false, false, false, false, false, false, false, false, false, false], [false, false, false, false, false, false, false, false, false, false, false, false, false, false], [true, false, false, false, false, false, false, false, false, false, false, false, false, false, false], [true, true, true, true, true, true, false, false, false, false, false, false, false, false, false, false], [true, true, true, true, true, true, true, false, false, false, false, false, false, false, false, false, false], [true, true, true, true, true, true, true, true, true, true, true, true, true, true, true, true, true, false], [true, true, true, true, true, true, true, true, true, true, true, true, true, true, true, true, true, true, false], [true, true, true, true, true, true, true, true, true, true, true, true, true, true, true, true, true, true, true, true], [true, true, true, true, true, true, true, true, true, true, true, true, true, true, true, true, true, true, true, true, true]] (by kernel_rfl) (by kernel_rfl) ?_)
          (repeat' (first | (((with_reducible refine c_go ?_ ?_); (· exact rfl); refine ⟨_, fun G => (by (try simp only [fltT, entsT, List.nil_append, List.cons_append]); rfl), ?_⟩); first | refine c_val _ (fun _ => e_move rfl rfl) (fun _ => rfl) rfl (by first | exact fun _ _ _ => rfl | (intro G G' h; simp (decide := true) only [h])) ?_ | refine c_val _ (fun _ => e_load' rfl rfl (by exact rfl)) (fun _ => rfl) rfl (by first | exact fun _ _ _ => rfl | (intro G G' h; simp (decide := true) only [h])) ?_ | refine c_val _ (fun _ => e_add1 rfl rfl rfl (by omega)) (fun _ => rfl) rfl (by first | exact fun _ _ _ => rfl | (intro G G' h; simp (decide := true) only [h])) ?_ | refine c_val _ (fun _ => e_index rfl rfl rfl rfl (by omega)) (fun _ => rfl) rfl (by first | exact fun _ _ _ => rfl | (intro G G' h; simp (decide := true) only [h])) ?_ | refine c_val _ (fun _ => e_neg rfl rfl (by rw [Int.zero_sub]; exact IntWalk.i64_in _ (by omega))) (fun _ => rfl) rfl (by first | exact fun _ _ _ => rfl | (intro G G' h; simp (decide := true) only [h])) ?_ | refine c_val _ (fun _ => e_build' rfl rfl (by exact rfl)) (fun _ => rfl) rfl (by first | exact fun _ _ _ => rfl | (intro G G' h; simp (decide := true) only [h])) ?_ | refine c_buildSlice rfl (fun _ => rfl) rfl (fun _ => rfl) (by exact rfl) (by exact fun _ => rfl) (by first | exact fun _ _ _ => rfl | (intro G G' h; simp (decide := true) only [h])) ?_) | ((with_reducible refine c_tail ?_ ?_); (· exact rfl))))
          (intro G; simp only [regsT, entsT, Pend.at_none, List.nil_append, List.cons_append])
          (repeat' (first | ((with_reducible refine isOps ?_); first | refine u_move rfl rfl rfl rfl rfl ?_ | refine u_assign rfl rfl rfl rfl rfl ?_ | (refine u_append (enc := encSp) [newSp M k] rfl rfl rfl rfl rfl (by (repeat (first | exact Take.here _ _ | apply Take.there))) rfl rfl (src_one (enc := encSp) (by exact rfl)) (by refine ⟨?_, by decide⟩; (try simp only [List.length_append, List.length_cons, List.length_nil]); omega) (fun A' c' => ?_)) | refine u_add1 rfl rfl rfl rfl rfl rfl (by omega) ?_) | (with_reducible first | refine u_region ?_ | refine u_nil ?_ | refine u_then_n ?_ | refine u_in_n ?_)))
          refine u_again (k + 1, _) (by simp only; omega) (by simp only; omega) (by (first | exact fun _ _ h => lk_nil h | (repeat (first | exact (fun _ _ h => lk_nil h) | (refine lk_sub rfl ?_))))) ?_
          rw [hullTo_succ, eN]
          (repeat (first | exact Out.nil _ | (refine Out.cons (by (repeat (first | exact Take.here _ _ | apply Take.there))) ?_)))
        · obtain rfl : k = s.length := by omega
          (repeat' (first | ((with_reducible refine isOps ?_); first | refine u_move rfl rfl rfl rfl rfl ?_ | refine u_assign rfl rfl rfl rfl rfl ?_ | (refine u_cmp rfl rfl rfl rfl rfl rfl rfl (fun h => ?_) (fun h => ?_) <;> (dsimp only [cmpP] at h; (try (exfalso; omega)))) | refine u_add1 rfl rfl rfl rfl rfl rfl (by omega) ?_) | (with_reducible first | refine u_seq ?_ | refine u_region ?_ | refine u_nil ?_ | refine u_then_n ?_ | refine u_ret ?_ | refine u_exit ?_ | refine u_in_same ?_ | refine u_then_e ?_) | ((with_reducible refine u_cond_f ?_ ?_); (· exact rfl))))
          refine u_row_form (enc := encSp) (by (repeat (first | exact Take.here _ _ | apply Take.there))) ?_
          rintro A' c' rfl
          exact u_done (by (exact ResL.cons (by exact Res1.tmp rfl) (ResL.cons (by exact Res1.tmp rfl) ResL.nil))) (A', c') trivial rfl (fun _ h => (h.row_sl (by (repeat (first | exact Take.here _ _ | apply Take.there)))).sub (by (repeat (first | exact Out.nil _ | (refine Out.cons (by (repeat (first | exact Take.here _ _ | apply Take.there))) ?_)))))
end Go.Proofs.Ytekjkaoibcfgfaa
