/- Ice: what covers are in plain Lean; small functions. -/
import Derived.Test.YtdigopgncfhiaaaDoorA5
import Derived.Test.YtdigopgncfhiaaaDoorA6
namespace Go.Proofs.YtdigopgncfhiaaaDoor
open Go.RowKit
set_option linter.unusedSimpArgs false
set_option linter.unusedVariables false
set_option maxRecDepth 20000
structure Bed where
  thick : Sp
  sun : Int
deriving DecidableEq
structure Hour where
  melt : Sp
  runs : Int
  crew : Int
  cold : Bool
deriving DecidableEq
/-- a cover: track, beds, hours, what is worn off, layers, water, limits -/
structure Cov where
  t : List St
  beds : List Bed
  hours : List Hour
  wear : Sp
  layer : Sp
  rate : Int
  limit : Int
  base : Int
instance : Inhabited Bed := ⟨⟨⟨0, 0⟩, 0⟩⟩
instance : Inhabited Hour := ⟨⟨⟨0, 0⟩, 0, 0, false⟩⟩
def encBed (b : Bed) : List Value := [.int .i64 b.thick.lo, .int .i64 b.thick.hi, .int .i64 b.sun]
def vBed (b : Bed) : Value := .agg #[.int .i64 b.thick.lo, .int .i64 b.thick.hi, .int .i64 b.sun]
def encHour (h : Hour) : List Value := [.int .i64 h.melt.lo, .int .i64 h.melt.hi, .int .i64 h.runs, .int .i64 h.crew, .bool h.cold]
def vHour (h : Hour) : Value := .agg #[.int .i64 h.melt.lo, .int .i64 h.melt.hi, .int .i64 h.runs, .int .i64 h.crew, .bool h.cold]
theorem one_bed (b : Bed) : ∀ v ∈ encBed b, v.oneCell' = true := by intro v hv; simp [encBed] at hv; rcases hv with rfl | rfl | rfl <;> rfl
theorem one_hour (h : Hour) : ∀ v ∈ encHour h, v.oneCell' = true := by intro v hv; simp [encHour] at hv; rcases hv with rfl | rfl | rfl | rfl | rfl <;> rfl
instance : EncI encBed 3 := ⟨fun _ => rfl, one_bed⟩
instance : EncI encHour 5 := ⟨fun _ => rfl, one_hour⟩
theorem findI_at {α : Type} {p : α → Bool} {l : List α} {i : Nat} (h : i < l.length) (hp : p l[i] = true) (hb : ∀ j y, j < i → l[j]? = some y → p y = false) : findI p l = i := by
  have : l.findIdx? p = some i := List.findIdx?_eq_some_iff_getElem.2 ⟨h, hp, fun j hj => by
    have := hb j l[j] hj (List.getElem?_eq_getElem (by omega))
    simp [this]⟩
  unfold findI; rw [this]
theorem findI_none {α : Type} {p : α → Bool} {l : List α} (h : ∀ y ∈ l, p y = false) : findI p l = -1 := by
  have : l.findIdx? p = none := by rw [List.findIdx?_eq_none_iff]; intro x hx; simp [h x hx]
  unfold findI; rw [this]
set_option maxHeartbeats 1000000 in
theorem ci_con_idx (l : List Int) (A : Option Addr) (cap : Nat) (kf : FuncId) [CallI Tryd.prog kf] (cs : Array Value) (p : Int → Bool) (w : World) (hk : SlAt encI 1 w A l) (hl : l.length ≤ 1000000)
    (hp : ∀ x W, x ∈ l → Below w.heap.size w W → Gv Tryd.prog kf ([.int .i64 x] ++ cs.toList) W (.bool (p x))) :
    Gv Tryd.prog 90 [.slice A l.length cap, .func (.func kf) #[] cs] w (.int .i64 (findI p l)) := by
  unfold Gv
  (refine ret_enter (n := 19) Tryd.func90 rfl rfl rfl ?_)
  (repeat' (first | ((with_reducible refine isOps ?_); first | refine u_move rfl rfl rfl rfl rfl ?_ | refine u_assign rfl rfl rfl rfl rfl ?_ | refine u_len rfl rfl rfl rfl rfl ?_) | (with_reducible first | refine u_seq ?_ | refine u_region ?_ | refine u_nil ?_ | refine u_then_n ?_ | refine u_block ?_)))
  refine u_loopP (ι := Nat) [0, 1, 7] rfl (fun i => i ≤ l.length ∧ ∀ j y, j < i → l[j]? = some y → p y = false) (fun i => [(8, .int .i64 (i : Int))]) (fun _ => []) (fun i => l.length - i) 0 ⟨Nat.zero_le _, fun j y h => by omega⟩ (by (first | exact fun _ _ h => lk_nil h | (repeat (first | exact (fun _ _ h => lk_nil h) | (refine lk_sub rfl ?_))))) (by (repeat (first | exact Out.nil _ | (refine Out.cons (by (repeat (first | exact Take.here _ _ | apply Take.there))) ?_)))) ?_
  rintro i ⟨hi, hb⟩
  simp only [zipR, List.cons_append, List.nil_append]
  by_cases hlt : i < l.length
  · have hx : l[i]? = some l[i] := by simp [hlt]
    obtain ⟨b, o, rfl, hblt, hc⟩ := hk.at_ hlt
    have : InS w b o encI 1 l := ⟨hk⟩
    have : GetI l i l[i] := ⟨hx⟩
    (repeat' (first | ((with_reducible refine isOps ?_); first | refine u_move rfl rfl rfl rfl rfl ?_ | refine u_assign rfl rfl rfl rfl rfl ?_ | (refine x_load rfl rfl rfl rfl rfl ?_; refine ⟨_, rfl, ?_⟩) | (refine u_cmp rfl rfl rfl rfl rfl rfl rfl (fun h => ?_) (fun h => ?_) <;> (dsimp only [cmpP] at h; (try (exfalso; omega)))) | (refine u_givesB rfl rfl rfl rfl rfl rfl (fun _ _ q => hp _ _ (List.getElem_mem hlt) q.below) (fun h => ?_) (fun h => ?_) <;> (try (exfalso; omega))) | refine u_add1 rfl rfl rfl rfl rfl rfl (by omega) ?_ | refine u_index rfl rfl rfl rfl rfl rfl rfl (by omega) ?_) | (with_reducible first | refine u_seq ?_ | refine u_region ?_ | refine u_nil ?_ | refine u_then_n ?_ | refine u_ret ?_ | refine u_skip ?_ | refine u_then_r ?_ | refine u_block ?_ | refine u_in_n ?_ | refine u_in_r ?_) | ((with_reducible refine u_cond_t ?_ ?_); (· exact rfl)) | ((with_reducible refine u_cond_f ?_ ?_); (· exact rfl))))
    · have e1 := findI_at hlt h hb
      exact u_done (by (exact ResL.cons (by exact Res1.tmp rfl) ResL.nil)) () trivial (by rw [e1]; rfl) (fun _ h => h.sub (by (repeat (first | exact Out.nil _ | (refine Out.cons (by (repeat (first | exact Take.here _ _ | apply Take.there))) ?_)))))
    · refine u_again (i + 1) ⟨by omega, fun j y hj hy => ?_⟩ (by omega) (by (first | exact fun _ _ h => lk_nil h | (repeat (first | exact (fun _ _ h => lk_nil h) | (refine lk_sub rfl ?_))))) (by (repeat (first | exact Out.nil _ | (refine Out.cons (by (repeat (first | exact Take.here _ _ | apply Take.there))) ?_))))
      by_cases e : j = i
      · subst e; rw [hx] at hy; cases hy; exact h
      · exact hb j y (by omega) hy
  · obtain rfl : i = l.length := by omega
    have e1 := findI_none (p := p) (l := l) (fun y hy => by
      obtain ⟨j, hj⟩ := List.mem_iff_getElem?.1 hy
      exact hb j y (List.getElem?_eq_some_iff.1 hj).1 hj)
    (repeat' (first | ((with_reducible refine isOps ?_); first | refine u_assign rfl rfl rfl rfl rfl ?_ | (refine u_cmp rfl rfl rfl rfl rfl rfl rfl (fun h => ?_) (fun h => ?_) <;> (dsimp only [cmpP] at h; (try (exfalso; omega))))) | (with_reducible first | refine u_seq ?_ | refine u_region ?_ | refine u_nil ?_ | refine u_then_n ?_ | refine u_ret ?_ | refine u_exit ?_ | refine u_in_same ?_ | refine u_then_e ?_) | ((with_reducible refine u_cond_f ?_ ?_); (· exact rfl))))
    exact u_done (by (exact ResL.cons (by exact Res1.tmp rfl) ResL.nil)) () trivial (by rw [e1]; rfl) (fun _ h => h.sub (by (repeat (first | exact Out.nil _ | (refine Out.cons (by (repeat (first | exact Take.here _ _ | apply Take.there))) ?_)))))
theorem ci_con (l : List Int) (A : Option Addr) (cap : Nat) (kf : FuncId) [CallI Tryd.prog kf] (cs : Array Value) (p : Int → Bool) (w : World) (hk : SlAt encI 1 w A l) (hl : l.length ≤ 1000000)
    (hp : ∀ x W, x ∈ l → Below w.heap.size w W → Gv Tryd.prog kf ([.int .i64 x] ++ cs.toList) W (.bool (p x))) :
    Gv Tryd.prog 105 [.slice A l.length cap, .func (.func kf) #[] cs] w (.bool (l.any p)) := by
  unfold Gv
  have hf := findI_neg p l
  (refine ret_enter (n := 9) Tryd.func105 rfl rfl rfl ?_)
  (repeat' (first | ((with_reducible refine isOps ?_); first | refine u_move rfl rfl rfl rfl rfl ?_ | refine u_assign rfl rfl rfl rfl rfl ?_ | (refine u_cmp rfl rfl rfl rfl rfl rfl rfl (fun h => ?_) (fun h => ?_) <;> (dsimp only [cmpP] at h; (try (exfalso; omega)))) | refine u_gives rfl rfl rfl rfl rfl rfl (fun _ _ q => ci_con_idx l A cap kf cs p _ (hk.below q.below) hl (fun x W hx hW => hp x W hx (q.below.trans (hW.mono q.base)))) ?_) | (with_reducible first | refine u_seq ?_ | refine u_region ?_ | refine u_nil ?_ | refine u_then_n ?_ | refine u_ret ?_)))
  all_goals exact u_done (by (exact ResL.cons (by exact Res1.tmp rfl) ResL.nil)) () trivial (by simp only [resV]; rw [← hf]; simp; omega) (fun _ h => h.sub (by (repeat (first | exact Out.nil _ | (refine Out.cons (by (repeat (first | exact Take.here _ _ | apply Take.there))) ?_)))))
set_option maxHeartbeats 1000000 in
theorem cb_con_idx (l : List Bed) (A : Option Addr) (cap : Nat) (kf : FuncId) [CallI Tryd.prog kf] (cs : Array Value) (p : Bed → Bool) (w : World) (hk : SlAt encBed 3 w A l) (hl : l.length ≤ 1000000)
    (hp : ∀ x W, x ∈ l → Below w.heap.size w W → Gv Tryd.prog kf ([vBed x] ++ cs.toList) W (.bool (p x))) :
    Gv Tryd.prog 115 [.slice A l.length cap, .func (.func kf) #[] cs] w (.int .i64 (findI p l)) := by
  unfold Gv
  (refine ret_enter (n := 19) Tryd.func115 rfl rfl rfl ?_)
  (repeat' (first | ((with_reducible refine isOps ?_); first | refine u_move rfl rfl rfl rfl rfl ?_ | refine u_assign rfl rfl rfl rfl rfl ?_ | refine u_len rfl rfl rfl rfl rfl ?_) | (with_reducible first | refine u_seq ?_ | refine u_region ?_ | refine u_nil ?_ | refine u_then_n ?_ | refine u_block ?_)))
  refine u_loopP (ι := Nat) [0, 1, 7] rfl (fun i => i ≤ l.length ∧ ∀ j y, j < i → l[j]? = some y → p y = false) (fun i => [(8, .int .i64 (i : Int))]) (fun _ => []) (fun i => l.length - i) 0 ⟨Nat.zero_le _, fun j y h => by omega⟩ (by (first | exact fun _ _ h => lk_nil h | (repeat (first | exact (fun _ _ h => lk_nil h) | (refine lk_sub rfl ?_))))) (by (repeat (first | exact Out.nil _ | (refine Out.cons (by (repeat (first | exact Take.here _ _ | apply Take.there))) ?_)))) ?_
  rintro i ⟨hi, hb⟩
  simp only [zipR, List.cons_append, List.nil_append]
  by_cases hlt : i < l.length
  · have hx : l[i]? = some l[i] := by simp [hlt]
    obtain ⟨b, o, rfl, hblt, hc⟩ := hk.at_ hlt
    have : InS w b o encBed 3 l := ⟨hk⟩
    have : GetI l i l[i] := ⟨hx⟩
    (repeat' (first | ((with_reducible refine isOps ?_); first | refine u_move rfl rfl rfl rfl rfl ?_ | refine u_assign rfl rfl rfl rfl rfl ?_ | (refine x_load rfl rfl rfl rfl rfl ?_; refine ⟨_, rfl, ?_⟩) | (refine u_cmp rfl rfl rfl rfl rfl rfl rfl (fun h => ?_) (fun h => ?_) <;> (dsimp only [cmpP] at h; (try (exfalso; omega)))) | (refine u_givesB rfl rfl rfl rfl rfl rfl (fun _ _ q => hp _ _ (List.getElem_mem hlt) q.below) (fun h => ?_) (fun h => ?_) <;> (try (exfalso; omega))) | refine u_add1 rfl rfl rfl rfl rfl rfl (by omega) ?_ | refine u_index rfl rfl rfl rfl rfl rfl rfl (by omega) ?_) | (with_reducible first | refine u_seq ?_ | refine u_region ?_ | refine u_nil ?_ | refine u_then_n ?_ | refine u_ret ?_ | refine u_skip ?_ | refine u_then_r ?_ | refine u_block ?_ | refine u_in_n ?_ | refine u_in_r ?_) | ((with_reducible refine u_cond_t ?_ ?_); (· exact rfl)) | ((with_reducible refine u_cond_f ?_ ?_); (· exact rfl))))
    · have e1 := findI_at hlt h hb
      exact u_done (by (exact ResL.cons (by exact Res1.tmp rfl) ResL.nil)) () trivial (by rw [e1]; rfl) (fun _ h => h.sub (by (repeat (first | exact Out.nil _ | (refine Out.cons (by (repeat (first | exact Take.here _ _ | apply Take.there))) ?_)))))
    · refine u_again (i + 1) ⟨by omega, fun j y hj hy => ?_⟩ (by omega) (by (first | exact fun _ _ h => lk_nil h | (repeat (first | exact (fun _ _ h => lk_nil h) | (refine lk_sub rfl ?_))))) (by (repeat (first | exact Out.nil _ | (refine Out.cons (by (repeat (first | exact Take.here _ _ | apply Take.there))) ?_))))
      by_cases e : j = i
      · subst e; rw [hx] at hy; cases hy; exact h
      · exact hb j y (by omega) hy
  · obtain rfl : i = l.length := by omega
    have e1 := findI_none (p := p) (l := l) (fun y hy => by
      obtain ⟨j, hj⟩ := List.mem_iff_getElem?.1 hy
      exact hb j y (List.getElem?_eq_some_iff.1 hj).1 hj)
    (repeat' (first | ((with_reducible refine isOps ?_); first | refine u_assign rfl rfl rfl rfl rfl ?_ | (refine u_cmp rfl rfl rfl rfl rfl rfl rfl (fun h => ?_) (fun h => ?_) <;> (dsimp only [cmpP] at h; (try (exfalso; omega))))) | (with_reducible first | refine u_seq ?_ | refine u_region ?_ | refine u_nil ?_ | refine u_then_n ?_ | refine u_ret ?_ | refine u_exit ?_ | refine u_in_same ?_ | refine u_then_e ?_) | ((with_reducible refine u_cond_f ?_ ?_); (· exact rfl))))
    exact u_done (by (exact ResL.cons (by exact Res1.tmp rfl) ResL.nil)) () trivial (by rw [e1]; rfl) (fun _ h => h.sub (by (repeat (first | exact Out.nil _ | (refine Out.cons (by (repeat (first | exact Take.here _ _ | apply Take.there))) ?_)))))
theorem cb_con (l : List Bed) (A : Option Addr) (cap : Nat) (kf : FuncId) [CallI Tryd.prog kf] (cs : Array Value) (p : Bed → Bool) (w : World) (hk : SlAt encBed 3 w A l) (hl : l.length ≤ 1000000)
    (hp : ∀ x W, x ∈ l → Below w.heap.size w W → Gv Tryd.prog kf ([vBed x] ++ cs.toList) W (.bool (p x))) :
    Gv Tryd.prog 80 [.slice A l.length cap, .func (.func kf) #[] cs] w (.bool (l.any p)) := by
  unfold Gv
  have hf := findI_neg p l
  (refine ret_enter (n := 9) Tryd.func80 rfl rfl rfl ?_)
  (repeat' (first | ((with_reducible refine isOps ?_); first | refine u_move rfl rfl rfl rfl rfl ?_ | refine u_assign rfl rfl rfl rfl rfl ?_ | (refine u_cmp rfl rfl rfl rfl rfl rfl rfl (fun h => ?_) (fun h => ?_) <;> (dsimp only [cmpP] at h; (try (exfalso; omega)))) | refine u_gives rfl rfl rfl rfl rfl rfl (fun _ _ q => cb_con_idx l A cap kf cs p _ (hk.below q.below) hl (fun x W hx hW => hp x W hx (q.below.trans (hW.mono q.base)))) ?_) | (with_reducible first | refine u_seq ?_ | refine u_region ?_ | refine u_nil ?_ | refine u_then_n ?_ | refine u_ret ?_)))
  all_goals exact u_done (by (exact ResL.cons (by exact Res1.tmp rfl) ResL.nil)) () trivial (by simp only [resV]; rw [← hf]; simp; omega) (fun _ h => h.sub (by (repeat (first | exact Out.nil _ | (refine Out.cons (by (repeat (first | exact Take.here _ _ | apply Take.there))) ?_)))))
set_option maxHeartbeats 1000000 in
theorem ch_con_idx (l : List Hour) (A : Option Addr) (cap : Nat) (kf : FuncId) [CallI Tryd.prog kf] (cs : Array Value) (p : Hour → Bool) (w : World) (hk : SlAt encHour 5 w A l) (hl : l.length ≤ 1000000)
    (hp : ∀ x W, x ∈ l → Below w.heap.size w W → Gv Tryd.prog kf ([vHour x] ++ cs.toList) W (.bool (p x))) :
    Gv Tryd.prog 116 [.slice A l.length cap, .func (.func kf) #[] cs] w (.int .i64 (findI p l)) := by
  unfold Gv
  (refine ret_enter (n := 19) Tryd.func116 rfl rfl rfl ?_)
  (repeat' (first | ((with_reducible refine isOps ?_); first | refine u_move rfl rfl rfl rfl rfl ?_ | refine u_assign rfl rfl rfl rfl rfl ?_ | refine u_len rfl rfl rfl rfl rfl ?_) | (with_reducible first | refine u_seq ?_ | refine u_region ?_ | refine u_nil ?_ | refine u_then_n ?_ | refine u_block ?_)))
  refine u_loopP (ι := Nat) [0, 1, 7] rfl (fun i => i ≤ l.length ∧ ∀ j y, j < i → l[j]? = some y → p y = false) (fun i => [(8, .int .i64 (i : Int))]) (fun _ => []) (fun i => l.length - i) 0 ⟨Nat.zero_le _, fun j y h => by omega⟩ (by (first | exact fun _ _ h => lk_nil h | (repeat (first | exact (fun _ _ h => lk_nil h) | (refine lk_sub rfl ?_))))) (by (repeat (first | exact Out.nil _ | (refine Out.cons (by (repeat (first | exact Take.here _ _ | apply Take.there))) ?_)))) ?_
  rintro i ⟨hi, hb⟩
  simp only [zipR, List.cons_append, List.nil_append]
  by_cases hlt : i < l.length
  · have hx : l[i]? = some l[i] := by simp [hlt]
    obtain ⟨b, o, rfl, hblt, hc⟩ := hk.at_ hlt
    have : InS w b o encHour 5 l := ⟨hk⟩
    have : GetI l i l[i] := ⟨hx⟩
    (repeat' (first | ((with_reducible refine isOps ?_); first | refine u_move rfl rfl rfl rfl rfl ?_ | refine u_assign rfl rfl rfl rfl rfl ?_ | (refine x_load rfl rfl rfl rfl rfl ?_; refine ⟨_, rfl, ?_⟩) | (refine u_cmp rfl rfl rfl rfl rfl rfl rfl (fun h => ?_) (fun h => ?_) <;> (dsimp only [cmpP] at h; (try (exfalso; omega)))) | (refine u_givesB rfl rfl rfl rfl rfl rfl (fun _ _ q => hp _ _ (List.getElem_mem hlt) q.below) (fun h => ?_) (fun h => ?_) <;> (try (exfalso; omega))) | refine u_add1 rfl rfl rfl rfl rfl rfl (by omega) ?_ | refine u_index rfl rfl rfl rfl rfl rfl rfl (by omega) ?_) | (with_reducible first | refine u_seq ?_ | refine u_region ?_ | refine u_nil ?_ | refine u_then_n ?_ | refine u_ret ?_ | refine u_skip ?_ | refine u_then_r ?_ | refine u_block ?_ | refine u_in_n ?_ | refine u_in_r ?_) | ((with_reducible refine u_cond_t ?_ ?_); (· exact rfl)) | ((with_reducible refine u_cond_f ?_ ?_); (· exact rfl))))
    · have e1 := findI_at hlt h hb
      exact u_done (by (exact ResL.cons (by exact Res1.tmp rfl) ResL.nil)) () trivial (by rw [e1]; rfl) (fun _ h => h.sub (by (repeat (first | exact Out.nil _ | (refine Out.cons (by (repeat (first | exact Take.here _ _ | apply Take.there))) ?_)))))
    · refine u_again (i + 1) ⟨by omega, fun j y hj hy => ?_⟩ (by omega) (by (first | exact fun _ _ h => lk_nil h | (repeat (first | exact (fun _ _ h => lk_nil h) | (refine lk_sub rfl ?_))))) (by (repeat (first | exact Out.nil _ | (refine Out.cons (by (repeat (first | exact Take.here _ _ | apply Take.there))) ?_))))
      by_cases e : j = i
      · subst e; rw [hx] at hy; cases hy; exact h
      · exact hb j y (by omega) hy
  · obtain rfl : i = l.length := by omega
    have e1 := findI_none (p := p) (l := l) (fun y hy => by
      obtain ⟨j, hj⟩ := List.mem_iff_getElem?.1 hy
      exact hb j y (List.getElem?_eq_some_iff.1 hj).1 hj)
    (repeat' (first | ((with_reducible refine isOps ?_); first | refine u_assign rfl rfl rfl rfl rfl ?_ | (refine u_cmp rfl rfl rfl rfl rfl rfl rfl (fun h => ?_) (fun h => ?_) <;> (dsimp only [cmpP] at h; (try (exfalso; omega))))) | (with_reducible first | refine u_seq ?_ | refine u_region ?_ | refine u_nil ?_ | refine u_then_n ?_ | refine u_ret ?_ | refine u_exit ?_ | refine u_in_same ?_ | refine u_then_e ?_) | ((with_reducible refine u_cond_f ?_ ?_); (· exact rfl))))
    exact u_done (by (exact ResL.cons (by exact Res1.tmp rfl) ResL.nil)) () trivial (by rw [e1]; rfl) (fun _ h => h.sub (by (repeat (first | exact Out.nil _ | (refine Out.cons (by (repeat (first | exact Take.here _ _ | apply Take.there))) ?_)))))
theorem ch_con (l : List Hour) (A : Option Addr) (cap : Nat) (kf : FuncId) [CallI Tryd.prog kf] (cs : Array Value) (p : Hour → Bool) (w : World) (hk : SlAt encHour 5 w A l) (hl : l.length ≤ 1000000)
    (hp : ∀ x W, x ∈ l → Below w.heap.size w W → Gv Tryd.prog kf ([vHour x] ++ cs.toList) W (.bool (p x))) :
    Gv Tryd.prog 81 [.slice A l.length cap, .func (.func kf) #[] cs] w (.bool (l.any p)) := by
  unfold Gv
  have hf := findI_neg p l
  (refine ret_enter (n := 9) Tryd.func81 rfl rfl rfl ?_)
  (repeat' (first | ((with_reducible refine isOps ?_); first | refine u_move rfl rfl rfl rfl rfl ?_ | refine u_assign rfl rfl rfl rfl rfl ?_ | (refine u_cmp rfl rfl rfl rfl rfl rfl rfl (fun h => ?_) (fun h => ?_) <;> (dsimp only [cmpP] at h; (try (exfalso; omega)))) | refine u_gives rfl rfl rfl rfl rfl rfl (fun _ _ q => ch_con_idx l A cap kf cs p _ (hk.below q.below) hl (fun x W hx hW => hp x W hx (q.below.trans (hW.mono q.base)))) ?_) | (with_reducible first | refine u_seq ?_ | refine u_region ?_ | refine u_nil ?_ | refine u_then_n ?_ | refine u_ret ?_)))
  all_goals exact u_done (by (exact ResL.cons (by exact Res1.tmp rfl) ResL.nil)) () trivial (by simp only [resV]; rw [← hf]; simp; omega) (fun _ h => h.sub (by (repeat (first | exact Out.nil _ | (refine Out.cons (by (repeat (first | exact Take.here _ _ | apply Take.there))) ?_)))))
theorem iin_fn (x lo hi : Int) (b c : Nat) (w : World) (h1 : InC w b 0 [.int .i64 lo]) (h2 : InC w c 0 [.int .i64 hi]) : Gv Tryd.prog 106 [.int .i64 x, .pointer (some ⟨b, 0, none⟩), .pointer (some ⟨c, 0, none⟩)] w (.bool (!inB lo hi x)) := by
  unfold Gv
  (refine ret_enter (n := 13) Tryd.func106 rfl rfl rfl ?_)
  (repeat' (first | ((with_reducible refine isOps ?_); first | refine u_move rfl rfl rfl rfl rfl ?_ | refine u_assign rfl rfl rfl rfl rfl ?_ | (refine x_load rfl rfl rfl rfl rfl ?_; refine ⟨_, rfl, ?_⟩) | refine u_pick rfl rfl rfl rfl rfl rfl ?_ | refine u_not_wanted rfl rfl rfl ?_ | (refine u_cmp rfl rfl rfl rfl rfl rfl rfl (fun h => ?_) (fun h => ?_) <;> (dsimp only [cmpP] at h; (try (exfalso; omega))))) | (with_reducible first | refine u_seq ?_ | refine u_region ?_ | refine u_nil ?_ | refine u_then_n ?_ | refine u_ret ?_)))
  all_goals exact u_done (by (exact ResL.cons (by exact Res1.tmp rfl) ResL.nil)) () trivial (by simp [resV, inB]; omega) (fun _ h => h.sub (by (repeat (first | exact Out.nil _ | (refine Out.cons (by (repeat (first | exact Take.here _ _ | apply Take.there))) ?_)))))
theorem iin_all (lo hi : Int) (l : List Int) (A : Option Addr) (cap : Nat) (w : World) (hk : SlAt encI 1 w A l) (hl : l.length ≤ 1000000) : Gv Tryd.prog 63 [.int .i64 lo, .int .i64 hi, .slice A l.length cap] w (.bool (l.all (inB lo hi))) := by
  unfold Gv
  rw [← any_out]
  (refine ret_enter (n := 11) Tryd.func63 rfl rfl rfl ?_)
  (repeat' (first | ((with_reducible refine isOps ?_); first | refine u_move rfl rfl rfl rfl rfl ?_ | refine u_assign rfl rfl rfl rfl rfl ?_ | refine u_gives rfl rfl rfl rfl rfl rfl (fun _ _ q => ci_con l A cap _ _ (fun n => !inB lo hi n) _ (hk.below q.below) hl (fun x W' _ hW' => iin_fn x lo hi _ _ W' (cells_by q.own hW' rfl) (cells_by q.own hW' rfl))) ?_ | refine u_not rfl rfl rfl rfl rfl ?_ | (refine u_box rfl rfl rfl rfl rfl rfl (fun b => ?_)) | refine u_makeFunc rfl rfl rfl rfl rfl rfl ?_) | (with_reducible first | refine u_seq ?_ | refine u_region ?_ | refine u_nil ?_ | refine u_then_n ?_ | refine u_ret ?_)))
  all_goals exact u_done (by (exact ResL.cons (by exact Res1.tmp rfl) ResL.nil)) () trivial rfl (fun _ h => h.sub (by (repeat (first | exact Out.nil _ | (refine Out.cons (by (repeat (first | exact Take.here _ _ | apply Take.there))) ?_)))))
theorem iin1 (lo hi a : Int) (c : Nat) (A : Option Addr) (w : World) (hk : SlAt encI 1 w A [a]) : Gv Tryd.prog 63 [.int .i64 lo, .int .i64 hi, .slice A 1 c] w (.bool (inB lo hi a)) := by
  have := iin_all lo hi [a] A c w hk (by simp)
  simpa using this
theorem iin2 (lo hi a b : Int) (c : Nat) (A : Option Addr) (w : World) (hk : SlAt encI 1 w A [a, b]) : Gv Tryd.prog 63 [.int .i64 lo, .int .i64 hi, .slice A 2 c] w (.bool (inB lo hi a && inB lo hi b)) := by
  have := iin_all lo hi [a, b] A c w hk (by simp)
  simpa using this
theorem iordered_any (s : Sp) (lo hi : Int) (w : World) : Gv Tryd.prog 55 [vSp s, .int .i64 lo, .int .i64 hi] w (.bool (knownB s lo hi)) := by
  unfold Gv vSp
  (refine ret_enter (n := 22) Tryd.func55 rfl rfl rfl ?_)
  (repeat' (first | ((with_reducible refine isOps ?_); first | refine u_move rfl rfl rfl rfl rfl ?_ | refine u_assign rfl rfl rfl rfl rfl ?_ | (refine x_load rfl rfl rfl rfl rfl ?_; refine ⟨_, rfl, ?_⟩) | refine u_field rfl rfl rfl rfl rfl ?_ | refine u_pick rfl rfl rfl rfl rfl rfl ?_ | refine u_not_wanted rfl rfl rfl ?_ | (refine u_cmp rfl rfl rfl rfl rfl rfl rfl (fun h => ?_) (fun h => ?_) <;> (dsimp only [cmpP] at h; (try (exfalso; omega)))) | (refine u_givesB rfl rfl rfl rfl rfl rfl (fun _ _ q => iin2 _ _ _ _ _ _ _ (src_many (enc := encI) [_, _] (by exact rfl) _ q.below q.own)) (fun h => ?_) (fun h => ?_) <;> skip) | (refine u_box rfl rfl rfl rfl rfl rfl (fun b => ?_)) | (refine x_buildSlice rfl rfl rfl rfl rfl ?_; refine ⟨rfl, _, rfl, fun b => ?_⟩)) | (with_reducible first | refine u_seq ?_ | refine u_region ?_ | refine u_nil ?_ | refine u_then_n ?_ | refine u_ret ?_)))
  all_goals exact u_done (by (exact ResL.cons (by exact Res1.tmp rfl) ResL.nil)) () trivial (by first | (simp_all [resV, knownB]; done) | (simp_all [resV, knownB]; omega)) (fun _ h => h.sub (by (repeat (first | exact Out.nil _ | (refine Out.cons (by (repeat (first | exact Take.here _ _ | apply Take.there))) ?_)))))
theorem rwithin2_any (n lo hi : Int) (w : World) : Gv Tryd.prog 65 [.int .i64 n, .int .i64 lo, .int .i64 hi] w (.bool (inB lo hi n)) := by
  unfold Gv
  (refine ret_enter (n := 15) Tryd.func65 rfl rfl rfl ?_)
  (repeat' (first | ((with_reducible refine isOps ?_); first | refine u_move rfl rfl rfl rfl rfl ?_ | refine u_assign rfl rfl rfl rfl rfl ?_ | refine u_pick rfl rfl rfl rfl rfl rfl ?_ | refine u_not_wanted rfl rfl rfl ?_ | (refine u_cmp rfl rfl rfl rfl rfl rfl rfl (fun h => ?_) (fun h => ?_) <;> (dsimp only [cmpP] at h; (try (exfalso; omega))))) | (with_reducible first | refine u_seq ?_ | refine u_region ?_ | refine u_nil ?_ | refine u_then_n ?_ | refine u_ret ?_)))
  all_goals exact u_done (by (exact ResL.cons (by exact Res1.tmp rfl) ResL.nil)) () trivial (by simp [resV, inB]; omega) (fun _ h => h.sub (by (repeat (first | exact Out.nil _ | (refine Out.cons (by (repeat (first | exact Take.here _ _ | apply Take.there))) ?_)))))
theorem rspanned2_any (s : Sp) (lo hi : Int) (w : World) : Gv Tryd.prog 60 [vSp s, .int .i64 lo, .int .i64 hi] w (.bool (knownB s lo hi)) := by
  unfold Gv vSp
  (refine ret_enter (n := 24) Tryd.func60 rfl rfl rfl ?_)
  (repeat' (first | ((with_reducible refine isOps ?_); first | refine u_move rfl rfl rfl rfl rfl ?_ | refine u_assign rfl rfl rfl rfl rfl ?_ | (refine x_load rfl rfl rfl rfl rfl ?_; refine ⟨_, rfl, ?_⟩) | refine u_field rfl rfl rfl rfl rfl ?_ | refine u_pick rfl rfl rfl rfl rfl rfl ?_ | refine u_not_wanted rfl rfl rfl ?_ | (refine u_cmp rfl rfl rfl rfl rfl rfl rfl (fun h => ?_) (fun h => ?_) <;> (dsimp only [cmpP] at h; (try (exfalso; omega)))) | (refine u_box rfl rfl rfl rfl rfl rfl (fun b => ?_))) | (with_reducible first | refine u_seq ?_ | refine u_region ?_ | refine u_nil ?_ | refine u_then_n ?_ | refine u_ret ?_)))
  all_goals exact u_done (by (exact ResL.cons (by exact Res1.tmp rfl) ResL.nil)) () trivial (by simp [resV, knownB, inB]; omega) (fun _ h => h.sub (by (repeat (first | exact Out.nil _ | (refine Out.cons (by (repeat (first | exact Take.here _ _ | apply Take.there))) ?_)))))
def bedOk (b : Bed) : Bool := knownB b.thick 0 2000 && inB 0 9 b.sun
def hourOk (h : Hour) : Bool := knownB h.melt 0 50 && inB 0 60 h.runs && inB 0 12 h.crew
def iceOk (c : Cov) : Bool := decide (c.beds.length = c.t.length) && (inB 1 8 c.hours.length && (c.beds.all bedOk && (c.hours.all hourOk && (knownB c.wear 0 20 && (knownB c.layer 1 100 && (inB 0 100 c.rate && (inB 0 2000 c.limit && inB 0 c.limit c.base)))))))
def errI (c : Cov) : Int := if valid c.t then (if iceOk c then 0 else 20) else 10
theorem ibed_fn (z : Bed) (w : World) : Gv Tryd.prog 78 [vBed z] w (.bool (!bedOk z)) := by
  unfold Gv vBed
  (refine ret_enter (n := 14) Tryd.func78 rfl rfl rfl ?_)
  (repeat' (first | ((with_reducible refine isOps ?_); first | refine u_move rfl rfl rfl rfl rfl ?_ | refine u_assign rfl rfl rfl rfl rfl ?_ | (refine x_load rfl rfl rfl rfl rfl ?_; refine ⟨_, rfl, ?_⟩) | refine u_field rfl rfl rfl rfl rfl ?_ | refine u_pick rfl rfl rfl rfl rfl rfl ?_ | refine u_not_wanted rfl rfl rfl ?_ | (refine u_givesB rfl rfl rfl rfl rfl rfl (fun _ _ q => iordered_any z.thick 0 2000 _) (fun h => ?_) (fun h => ?_) <;> (try (exfalso; omega))) | (refine u_givesB rfl rfl rfl rfl rfl rfl (fun _ _ q => iin1 _ _ _ _ _ _ (src_one (enc := encI) (by exact rfl) _ q.below q.own)) (fun h => ?_) (fun h => ?_) <;> (try (exfalso; omega))) | refine u_not rfl rfl rfl rfl rfl ?_ | (refine u_box rfl rfl rfl rfl rfl rfl (fun b => ?_)) | (refine x_buildSlice rfl rfl rfl rfl rfl ?_; refine ⟨rfl, _, rfl, fun b => ?_⟩)) | (with_reducible first | refine u_seq ?_ | refine u_region ?_ | refine u_nil ?_ | refine u_then_n ?_ | refine u_ret ?_)))
  all_goals exact u_done (by (exact ResL.cons (by exact Res1.tmp rfl) ResL.nil)) () trivial (by simp_all [resV, bedOk]) (fun _ h => h.sub (by (repeat (first | exact Out.nil _ | (refine Out.cons (by (repeat (first | exact Take.here _ _ | apply Take.there))) ?_)))))
theorem ihour_fn (z : Hour) (w : World) : Gv Tryd.prog 79 [vHour z] w (.bool (!hourOk z)) := by
  unfold Gv vHour
  (refine ret_enter (n := 21) Tryd.func79 rfl rfl rfl ?_)
  (repeat' (first | ((with_reducible refine isOps ?_); first | refine u_move rfl rfl rfl rfl rfl ?_ | refine u_assign rfl rfl rfl rfl rfl ?_ | (refine x_load rfl rfl rfl rfl rfl ?_; refine ⟨_, rfl, ?_⟩) | refine u_field rfl rfl rfl rfl rfl ?_ | refine u_pick rfl rfl rfl rfl rfl rfl ?_ | refine u_not_wanted rfl rfl rfl ?_ | (refine u_givesB rfl rfl rfl rfl rfl rfl (fun _ _ q => iordered_any z.melt 0 50 _) (fun h => ?_) (fun h => ?_) <;> (try (exfalso; omega))) | (refine u_givesB rfl rfl rfl rfl rfl rfl (fun _ _ q => iin1 _ _ _ _ _ _ (src_one (enc := encI) (by exact rfl) _ q.below q.own)) (fun h => ?_) (fun h => ?_) <;> (try (exfalso; omega))) | refine u_not rfl rfl rfl rfl rfl ?_ | (refine u_box rfl rfl rfl rfl rfl rfl (fun b => ?_)) | (refine x_buildSlice rfl rfl rfl rfl rfl ?_; refine ⟨rfl, _, rfl, fun b => ?_⟩)) | (with_reducible first | refine u_seq ?_ | refine u_region ?_ | refine u_nil ?_ | refine u_then_n ?_ | refine u_ret ?_)))
  all_goals exact u_done (by (exact ResL.cons (by exact Res1.tmp rfl) ResL.nil)) () trivial (by simp_all [resV, hourOk]) (fun _ h => h.sub (by (repeat (first | exact Out.nil _ | (refine Out.cons (by (repeat (first | exact Take.here _ _ | apply Take.there))) ?_)))))
/-! ### covers in memory -/
def cellsCov (c : Cov) (A : Option Addr) (ca : Nat) (B : Option Addr) (cb : Nat) (C : Option Addr) (cc : Nat) : List Value :=
  [.slice A c.t.length ca, .slice B c.beds.length cb, .slice C c.hours.length cc, .int .i64 c.wear.lo, .int .i64 c.wear.hi, .int .i64 c.layer.lo, .int .i64 c.layer.hi, .int .i64 c.rate, .int .i64 c.limit, .int .i64 c.base]
def vCov (c : Cov) (A : Option Addr) (ca : Nat) (B : Option Addr) (cb : Nat) (C : Option Addr) (cc : Nat) : Value := .agg (cellsCov c A ca B cb C cc).toArray
structure CovAt (w : World) (c : Cov) (A B C : Option Addr) : Prop where
  t : SlAt encSt 9 w A c.t
  b : SlAt encBed 3 w B c.beds
  h : SlAt encHour 5 w C c.hours
theorem CovAt.below {w W : World} {c : Cov} {A B C : Option Addr} (h : CovAt w c A B C) (hb : Below w.heap.size w W) : CovAt W c A B C := ⟨h.t.below hb, h.b.below hb, h.h.below hb⟩
/-- no larger than the laws consider -/
structure Small (c : Cov) : Prop where
  fit : FitT c.t
  t : c.t.length ≤ 20
  b : c.beds.length ≤ 20
  h : c.hours.length ≤ 12
theorem iceOk_iff {c : Cov} : iceOk c = true ↔ c.beds.length = c.t.length ∧ inB 1 8 c.hours.length = true ∧ c.beds.all bedOk = true ∧ c.hours.all hourOk = true ∧ knownB c.wear 0 20 = true ∧ knownB c.layer 1 100 = true ∧ inB 0 100 c.rate = true ∧ inB 0 2000 c.limit = true ∧ inB 0 c.limit c.base = true := by
  unfold iceOk; simp only [Bool.and_eq_true, decide_eq_true_eq]
theorem any_all_not {α : Type} {p : α → Bool} {l : List α} : (l.any fun x => !p x) = !l.all p := by
  induction l with
  | nil => rfl
  | cons a l ih => simp [ih]
set_option maxHeartbeats 2000000 in
theorem icheck_any (c : Cov) (A : Option Addr) (ca : Nat) (B : Option Addr) (cb : Nat) (C : Option Addr) (cc : Nat) (w : World) (h : CovAt w c A B C) (hs : Small c) : Gv Tryd.prog 26 [vCov c A ca B cb C cc] w (.int .i64 (errI c)) := by
  have hT := fun W (hb : Below w.heap.size w W) => (check_n c.t A ca W (h.t.below hb) hs.fit (by have := hs.t; omega))
  have h3 := hs.t; have h4 := hs.b; have h5 := hs.h
  have hB := fun W (hb : Below w.heap.size w W) => cb_con c.beds B cb 78 #[] (fun b => !bedOk b) W (h.b.below hb) (by omega) (fun x W _ _ => ibed_fn x W)
  have hH := fun W (hb : Below w.heap.size w W) => ch_con c.hours C cc 79 #[] (fun b => !hourOk b) W (h.h.below hb) (by omega) (fun x W _ _ => ihour_fn x W)
  rw [any_all_not] at hB hH
  unfold vT at hT
  unfold Gv vCov cellsCov
  cases hv : valid c.t
  · have e : errI c = 10 := by simp [errI, hv]
    rw [show errT c.t = 10 by simp [errT, hv]] at hT
    rw [e]
    (refine ret_enter (n := 73) Tryd.func26 rfl rfl rfl ?_)
    (repeat' (first | ((with_reducible refine isOps ?_); first | refine u_move rfl rfl rfl rfl rfl ?_ | refine u_assign rfl rfl rfl rfl rfl ?_ | (refine x_load rfl rfl rfl rfl rfl ?_; refine ⟨_, rfl, ?_⟩) | refine u_field rfl rfl rfl rfl rfl ?_ | (refine u_cmp rfl rfl rfl rfl rfl rfl rfl (fun h => ?_) (fun h => ?_) <;> (dsimp only [cmpP] at h; (try (exfalso; omega)))) | refine u_gives rfl rfl rfl rfl rfl rfl (fun _ _ q => hT _ q.below) ?_ | (refine u_box rfl rfl rfl rfl rfl rfl (fun b => ?_))) | (with_reducible first | refine u_seq ?_ | refine u_region ?_ | refine u_nil ?_ | refine u_then_n ?_ | refine u_ret ?_ | refine u_then_r ?_) | ((with_reducible refine u_cond_t ?_ ?_); (· exact rfl))))
    all_goals exact u_done (by (exact ResL.cons (by exact Res1.tmp rfl) ResL.nil)) () trivial rfl (fun _ h => h.sub (by (repeat (first | exact Out.nil _ | (refine Out.cons (by (repeat (first | exact Take.here _ _ | apply Take.there))) ?_)))))
  · rw [errT_yes hv] at hT
    cases hi : iceOk c
    · have e : errI c = 20 := by simp [errI, hv, hi]
      rw [e]
      (refine ret_enter (n := 73) Tryd.func26 rfl rfl rfl ?_)
      (repeat' (first | ((with_reducible refine isOps ?_); first | refine u_move rfl rfl rfl rfl rfl ?_ | refine u_assign rfl rfl rfl rfl rfl ?_ | (refine x_load rfl rfl rfl rfl rfl ?_; refine ⟨_, rfl, ?_⟩) | refine u_field rfl rfl rfl rfl rfl ?_ | refine u_pick rfl rfl rfl rfl rfl rfl ?_ | refine u_not_wanted rfl rfl rfl ?_ | (refine u_cmp rfl rfl rfl rfl rfl rfl rfl (fun h => ?_) (fun h => ?_) <;> (dsimp only [cmpP] at h; (try (exfalso; omega)))) | refine u_gives rfl rfl rfl rfl rfl rfl (fun _ _ q => hT _ q.below) ?_ | (refine u_givesB rfl rfl rfl rfl rfl rfl (fun _ _ q => hB _ q.below) (fun h => ?_) (fun h => ?_) <;> (try (exfalso; omega))) | (refine u_givesB rfl rfl rfl rfl rfl rfl (fun _ _ q => hH _ q.below) (fun h => ?_) (fun h => ?_) <;> (try (exfalso; omega))) | (refine u_givesB rfl rfl rfl rfl rfl rfl (fun _ _ q => iordered_any c.wear 0 20 _) (fun h => ?_) (fun h => ?_) <;> (try (exfalso; omega))) | (refine u_givesB rfl rfl rfl rfl rfl rfl (fun _ _ q => iordered_any c.layer 1 100 _) (fun h => ?_) (fun h => ?_) <;> (try (exfalso; omega))) | (refine u_givesB rfl rfl rfl rfl rfl rfl (fun _ _ q => iin1 _ _ _ _ _ _ (src_one (enc := encI) (by exact rfl) _ q.below q.own)) (fun h => ?_) (fun h => ?_) <;> (try (exfalso; omega))) | refine u_not rfl rfl rfl rfl rfl ?_ | refine u_len rfl rfl rfl rfl rfl ?_ | (refine u_box rfl rfl rfl rfl rfl rfl (fun b => ?_)) | (refine x_buildSlice rfl rfl rfl rfl rfl ?_; refine ⟨rfl, _, rfl, fun b => ?_⟩)) | (with_reducible first | refine u_seq ?_ | refine u_region ?_ | refine u_nil ?_ | refine u_then_n ?_ | refine u_ret ?_ | refine u_skip ?_ | refine u_then_r ?_) | ((with_reducible refine u_cond_t ?_ ?_); (· exact rfl)) | ((with_reducible refine u_cond_f ?_ ?_); (· exact rfl))))
      all_goals first | exact u_done (by (exact ResL.cons (by exact Res1.tmp rfl) ResL.nil)) () trivial rfl (fun _ h => h.sub (by (repeat (first | exact Out.nil _ | (refine Out.cons (by (repeat (first | exact Take.here _ _ | apply Take.there))) ?_))))) | (exfalso; have := mt iceOk_iff.2 (by rw [hi]; simp); simp_all; done) | (exfalso; have := mt iceOk_iff.2 (by rw [hi]; simp); simp_all; omega)
    · have e : errI c = 0 := by simp [errI, hv, hi]
      rw [e]
      obtain ⟨i1, i2, i3, i4, i5, i6, i7, i8, i9⟩ := iceOk_iff.1 hi
      rw [i3] at hB
      rw [i4] at hH
      (refine ret_enter (n := 73) Tryd.func26 rfl rfl rfl ?_)
      (repeat' (first | ((with_reducible refine isOps ?_); first | refine u_move rfl rfl rfl rfl rfl ?_ | refine u_assign rfl rfl rfl rfl rfl ?_ | (refine x_load rfl rfl rfl rfl rfl ?_; refine ⟨_, rfl, ?_⟩) | refine u_field rfl rfl rfl rfl rfl ?_ | refine u_pick rfl rfl rfl rfl rfl rfl ?_ | (refine u_cmp rfl rfl rfl rfl rfl rfl rfl (fun h => ?_) (fun h => ?_) <;> (dsimp only [cmpP] at h; (try (exfalso; omega)))) | refine u_gives rfl rfl rfl rfl rfl rfl (fun _ _ q => hT _ q.below) ?_ | refine u_gives rfl rfl rfl rfl rfl rfl (fun _ _ q => hB _ q.below) ?_ | refine u_gives rfl rfl rfl rfl rfl rfl (fun _ _ q => hH _ q.below) ?_ | (refine u_gives rfl rfl rfl rfl rfl rfl (fun _ _ q => i5 ▸ iordered_any c.wear 0 20 _) ?_) | (refine u_gives rfl rfl rfl rfl rfl rfl (fun _ _ q => i6 ▸ iordered_any c.layer 1 100 _) ?_) | (refine u_givesB rfl rfl rfl rfl rfl rfl (fun _ _ q => iin1 _ _ _ _ _ _ (src_one (enc := encI) (by exact rfl) _ q.below q.own)) (fun h => ?_) (fun h => ?_) <;> (try (exfalso; simp_all; done))) | refine u_not rfl rfl rfl rfl rfl ?_ | refine u_len rfl rfl rfl rfl rfl ?_ | (refine u_box rfl rfl rfl rfl rfl rfl (fun b => ?_)) | (refine x_buildSlice rfl rfl rfl rfl rfl ?_; refine ⟨rfl, _, rfl, fun b => ?_⟩)) | (with_reducible first | refine u_seq ?_ | refine u_region ?_ | refine u_nil ?_ | refine u_then_n ?_ | refine u_ret ?_ | refine u_skip ?_) | ((with_reducible refine u_cond_f ?_ ?_); (· exact rfl))))
      all_goals exact u_done (by (exact ResL.cons (by exact Res1.tmp rfl) ResL.nil)) () trivial rfl (fun _ h => h.sub (by (repeat (first | exact Out.nil _ | (refine Out.cons (by (repeat (first | exact Take.here _ _ | apply Take.there))) ?_)))))
end Go.Proofs.YtdigopgncfhiaaaDoor
/- Ice: valid covers by the reference; plans in memory; which plans are valid. -/
namespace Go.Proofs.YtdigopgncfhiaaaDoor
open Go.RowKit
set_option linter.unusedSimpArgs false
set_option linter.unusedVariables false
set_option maxRecDepth 20000
theorem iceOk_beds {c : Cov} {z : Bed} (hz : z ∈ c.beds) (h : bedOk z = false) : iceOk c = false := by
  cases hi : iceOk c with
  | false => rfl
  | true =>
    have := List.all_eq_true.1 (iceOk_iff.1 hi).2.2.1 z hz
    rw [h] at this; cases this
theorem iceOk_hours {c : Cov} {z : Hour} (hz : z ∈ c.hours) (h : hourOk z = false) : iceOk c = false := by
  cases hi : iceOk c with
  | false => rfl
  | true =>
    have := List.all_eq_true.1 (iceOk_iff.1 hi).2.2.2.1 z hz
    rw [h] at this; cases this
theorem all_of_get {α : Type} {p : α → Bool} {l : List α} (h : ∀ j z, j < l.length → l[j]? = some z → p z = true) : l.all p = true := by
  rw [List.all_eq_true]
  intro x hx
  obtain ⟨j, hj⟩ := List.mem_iff_getElem?.1 hx
  exact h j x (List.getElem?_eq_some_iff.1 hj).1 hj
theorem upto_next {α : Type} {p : α → Bool} {l : List α} {i : Nat} {z : α} (hz : l[i]? = some z) (hp : p z = true) (h : ∀ j y, j < i → l[j]? = some y → p y = true) : ∀ j y, j < i + 1 → l[j]? = some y → p y = true := by
  intro j y hj hy
  by_cases e : j = i
  · subst e; rw [hz] at hy; cases hy; exact hp
  · exact h j y (by omega) hy
set_option maxHeartbeats 2000000 in
theorem rice_any (c : Cov) (A : Option Addr) (ca : Nat) (B : Option Addr) (cb : Nat) (C : Option Addr) (cc : Nat) (w : World) (h0 : CovAt w c A B C) (hs : Small c) : Gv Tryd.prog 83 [vCov c A ca B cb C cc] w (.bool (iceOk c)) := by
  have h3 := hs.t; have h4 := hs.b; have h5 := hs.h
  have hb := h0.b; have hh := h0.h
  unfold Gv vCov cellsCov
  (refine ret_enter (n := 106) Tryd.func83 rfl rfl rfl ?_)
  (repeat' (first | ((with_reducible refine isOps ?_); first | refine u_move rfl rfl rfl rfl rfl ?_ | refine u_assign rfl rfl rfl rfl rfl ?_ | (refine x_load rfl rfl rfl rfl rfl ?_; refine ⟨_, rfl, ?_⟩) | refine u_field rfl rfl rfl rfl rfl ?_ | refine u_pick rfl rfl rfl rfl rfl rfl ?_ | refine u_not_wanted rfl rfl rfl ?_ | (refine u_cmp rfl rfl rfl rfl rfl rfl rfl (fun h => ?_) (fun h => ?_) <;> (dsimp only [cmpP] at h; (try (exfalso; omega)))) | (refine u_givesB rfl rfl rfl rfl rfl rfl (fun _ _ q => rwithin2_any _ _ _ _) (fun h => ?_) (fun h => ?_) <;> (try (exfalso; omega))) | (refine u_givesB rfl rfl rfl rfl rfl rfl (fun _ _ q => rspanned2_any c.wear 0 20 _) (fun h => ?_) (fun h => ?_) <;> (try (exfalso; omega))) | (refine u_givesB rfl rfl rfl rfl rfl rfl (fun _ _ q => rspanned2_any c.layer 1 100 _) (fun h => ?_) (fun h => ?_) <;> (try (exfalso; omega))) | refine u_not rfl rfl rfl rfl rfl ?_ | refine u_len rfl rfl rfl rfl rfl ?_ | (refine u_box rfl rfl rfl rfl rfl rfl (fun b => ?_))) | (with_reducible first | refine u_seq ?_ | refine u_region ?_ | refine u_nil ?_ | refine u_then_n ?_ | refine u_ret ?_ | refine u_skip ?_ | refine u_then_r ?_ | refine u_block ?_) | ((with_reducible refine u_cond_t ?_ ?_); (· exact rfl)) | ((with_reducible refine u_cond_f ?_ ?_); (· exact rfl))))
  all_goals first | exact u_done (by (exact ResL.cons (by exact Res1.tmp rfl) ResL.nil)) () trivial (by rw [show iceOk c = false from by cases hi : iceOk c with | false => rfl | true => (exfalso; obtain ⟨i1, i2, i3, i4, i5, i6, i7, i8, i9⟩ := iceOk_iff.1 hi; first | omega | simp_all)]; rfl) (fun _ h => h.sub (by (repeat (first | exact Out.nil _ | (refine Out.cons (by (repeat (first | exact Take.here _ _ | apply Take.there))) ?_))))) | skip
  refine u_loopP (ι := Nat) [1] rfl (fun i => i ≤ c.beds.length ∧ ∀ j z, j < i → c.beds[j]? = some z → bedOk z = true) (fun i => [(3, .int .i64 (i : Int))]) (fun _ => [.blk b (cellsCov c A ca B cb C cc)]) (fun i => c.beds.length - i) 0 ⟨Nat.zero_le _, fun j z h => by omega⟩ (by (first | exact fun _ _ h => lk_nil h | (repeat (first | exact (fun _ _ h => lk_nil h) | (refine lk_sub rfl ?_))))) (by (repeat (first | exact Out.nil _ | (refine Out.cons (by (repeat (first | exact Take.here _ _ | apply Take.there))) ?_)))) ?_
  rintro i ⟨hi, hall⟩
  simp only [zipR, List.cons_append, List.nil_append]
  unfold cellsCov
  by_cases hlt : i < c.beds.length
  · obtain ⟨z, hz⟩ : ∃ z, c.beds[i]? = some z := ⟨_, List.getElem?_eq_getElem hlt⟩
    have hm := List.mem_of_getElem? hz
    obtain ⟨bb, o, rfl, hblt, hc⟩ := hb.at_ hlt
    have : InS w bb o encBed 3 c.beds := ⟨hb⟩
    have : GetI c.beds i z := ⟨hz⟩
    (repeat' (first | ((with_reducible refine isOps ?_); first | refine u_move rfl rfl rfl rfl rfl ?_ | refine u_assign rfl rfl rfl rfl rfl ?_ | (refine x_load rfl rfl rfl rfl rfl ?_; refine ⟨_, rfl, ?_⟩) | refine u_field rfl rfl rfl rfl rfl ?_ | refine u_pick rfl rfl rfl rfl rfl rfl ?_ | refine u_not_wanted rfl rfl rfl ?_ | (refine u_cmp rfl rfl rfl rfl rfl rfl rfl (fun h => ?_) (fun h => ?_) <;> (dsimp only [cmpP] at h; (try (exfalso; omega)))) | (refine u_givesB rfl rfl rfl rfl rfl rfl (fun _ _ q => rspanned2_any z.thick 0 2000 _) (fun h => ?_) (fun h => ?_) <;> (try (exfalso; omega))) | (refine u_givesB rfl rfl rfl rfl rfl rfl (fun _ _ q => rwithin2_any _ _ _ _) (fun h => ?_) (fun h => ?_) <;> (try (exfalso; omega))) | refine u_not rfl rfl rfl rfl rfl ?_ | refine u_add1 rfl rfl rfl rfl rfl rfl (by omega) ?_ | refine u_index rfl rfl rfl rfl rfl rfl rfl (by omega) ?_ | refine u_len rfl rfl rfl rfl rfl ?_) | (with_reducible first | refine u_seq ?_ | refine u_region ?_ | refine u_nil ?_ | refine u_then_n ?_ | refine u_ret ?_ | refine u_skip ?_ | refine u_then_r ?_ | refine u_block ?_ | refine u_in_n ?_ | refine u_in_r ?_) | ((with_reducible refine u_cond_t ?_ ?_); (· exact rfl)) | ((with_reducible refine u_cond_f ?_ ?_); (· exact rfl))))
    all_goals first | exact u_again (i + 1) ⟨by omega, upto_next hz (by simp_all [bedOk]; done) hall⟩ (by omega) (by (first | exact fun _ _ h => lk_nil h | (repeat (first | exact (fun _ _ h => lk_nil h) | (refine lk_sub rfl ?_))))) (by (repeat (first | exact Out.nil _ | (refine Out.cons (by (repeat (first | exact Take.here _ _ | apply Take.there))) ?_)))) | exact u_done (by (exact ResL.cons (by exact Res1.tmp rfl) ResL.nil)) () trivial (by rw [iceOk_beds hm (by simp_all [bedOk])]; rfl) (fun _ h => h.sub (by (repeat (first | exact Out.nil _ | (refine Out.cons (by (repeat (first | exact Take.here _ _ | apply Take.there))) ?_)))))
  · obtain rfl : i = c.beds.length := by omega
    have hbeds := all_of_get (fun j z hj hz => hall j z hj hz)
    (repeat' (first | ((with_reducible refine isOps ?_); first | refine u_move rfl rfl rfl rfl rfl ?_ | refine u_assign rfl rfl rfl rfl rfl ?_ | (refine x_load rfl rfl rfl rfl rfl ?_; refine ⟨_, rfl, ?_⟩) | refine u_field rfl rfl rfl rfl rfl ?_ | (refine u_cmp rfl rfl rfl rfl rfl rfl rfl (fun h => ?_) (fun h => ?_) <;> (dsimp only [cmpP] at h; (try (exfalso; omega)))) | refine u_len rfl rfl rfl rfl rfl ?_) | (with_reducible first | refine u_seq ?_ | refine u_region ?_ | refine u_nil ?_ | refine u_then_n ?_ | refine u_block ?_ | refine u_exit ?_ | refine u_in_same ?_ | refine u_then_e ?_) | ((with_reducible refine u_cond_f ?_ ?_); (· exact rfl))))
    refine u_loopP (ι := Nat) [1] rfl (fun i => i ≤ c.hours.length ∧ ∀ j z, j < i → c.hours[j]? = some z → hourOk z = true) (fun i => [(4, .int .i64 (i : Int))]) (fun _ => [.blk b (cellsCov c A ca B cb C cc)]) (fun i => c.hours.length - i) 0 ⟨Nat.zero_le _, fun j z h => by omega⟩ (by (first | exact fun _ _ h => lk_nil h | (repeat (first | exact (fun _ _ h => lk_nil h) | (refine lk_sub rfl ?_))))) (by (repeat (first | exact Out.nil _ | (refine Out.cons (by (repeat (first | exact Take.here _ _ | apply Take.there))) ?_)))) ?_
    rintro i ⟨hi, hallh⟩
    simp only [zipR, List.cons_append, List.nil_append]
    unfold cellsCov
    by_cases hlt : i < c.hours.length
    · obtain ⟨z, hz⟩ : ∃ z, c.hours[i]? = some z := ⟨_, List.getElem?_eq_getElem hlt⟩
      have hm := List.mem_of_getElem? hz
      obtain ⟨bb, o, rfl, hblt, hc⟩ := hh.at_ hlt
      have : InS w bb o encHour 5 c.hours := ⟨hh⟩
      have : GetI c.hours i z := ⟨hz⟩
      (repeat' (first | ((with_reducible refine isOps ?_); first | refine u_move rfl rfl rfl rfl rfl ?_ | refine u_assign rfl rfl rfl rfl rfl ?_ | (refine x_load rfl rfl rfl rfl rfl ?_; refine ⟨_, rfl, ?_⟩) | refine u_field rfl rfl rfl rfl rfl ?_ | refine u_pick rfl rfl rfl rfl rfl rfl ?_ | refine u_not_wanted rfl rfl rfl ?_ | (refine u_cmp rfl rfl rfl rfl rfl rfl rfl (fun h => ?_) (fun h => ?_) <;> (dsimp only [cmpP] at h; (try (exfalso; omega)))) | (refine u_givesB rfl rfl rfl rfl rfl rfl (fun _ _ q => rspanned2_any z.melt 0 50 _) (fun h => ?_) (fun h => ?_) <;> (try (exfalso; omega))) | (refine u_givesB rfl rfl rfl rfl rfl rfl (fun _ _ q => rwithin2_any _ _ _ _) (fun h => ?_) (fun h => ?_) <;> (try (exfalso; omega))) | refine u_not rfl rfl rfl rfl rfl ?_ | refine u_add1 rfl rfl rfl rfl rfl rfl (by omega) ?_ | refine u_index rfl rfl rfl rfl rfl rfl rfl (by omega) ?_ | refine u_len rfl rfl rfl rfl rfl ?_ | (refine x_store rfl rfl rfl rfl rfl ?_; refine And.intro rfl (And.intro (by first | decide | exact Nat.le_of_ble_eq_true rfl | (simp; omega)) ⟨_, rfl, ?_⟩)) | (refine u_alloc rfl rfl rfl rfl (fun b => ?_))) | (with_reducible first | refine u_seq ?_ | refine u_region ?_ | refine u_nil ?_ | refine u_then_n ?_ | refine u_ret ?_ | refine u_skip ?_ | refine u_then_r ?_ | refine u_block ?_ | refine u_in_n ?_ | refine u_in_r ?_) | ((with_reducible refine u_cond_t ?_ ?_); (· exact rfl)) | ((with_reducible refine u_cond_f ?_ ?_); (· exact rfl))))
      all_goals first | exact u_again (i + 1) ⟨by omega, upto_next hz (by simp_all [hourOk]; done) hallh⟩ (by omega) (by (first | exact fun _ _ h => lk_nil h | (repeat (first | exact (fun _ _ h => lk_nil h) | (refine lk_sub rfl ?_))))) (by (repeat (first | exact Out.nil _ | (refine Out.cons (by (repeat (first | exact Take.here _ _ | apply Take.there))) ?_)))) | exact u_done (by (exact ResL.cons (by exact Res1.tmp rfl) ResL.nil)) () trivial (by rw [iceOk_hours hm (by simp_all [hourOk])]; rfl) (fun _ h => h.sub (by (repeat (first | exact Out.nil _ | (refine Out.cons (by (repeat (first | exact Take.here _ _ | apply Take.there))) ?_)))))
    · obtain rfl : i = c.hours.length := by omega
      have hhours := all_of_get (fun j z hj hz => hallh j z hj hz)
      have e : iceOk c = true := iceOk_iff.2 ⟨by omega, by assumption, hbeds, hhours, by assumption, by assumption, by assumption, by assumption, by assumption⟩
      (repeat' (first | ((with_reducible refine isOps ?_); first | refine u_move rfl rfl rfl rfl rfl ?_ | refine u_assign rfl rfl rfl rfl rfl ?_ | (refine x_load rfl rfl rfl rfl rfl ?_; refine ⟨_, rfl, ?_⟩) | refine u_field rfl rfl rfl rfl rfl ?_ | (refine u_cmp rfl rfl rfl rfl rfl rfl rfl (fun h => ?_) (fun h => ?_) <;> (dsimp only [cmpP] at h; (try (exfalso; omega)))) | refine u_len rfl rfl rfl rfl rfl ?_) | (with_reducible first | refine u_seq ?_ | refine u_region ?_ | refine u_nil ?_ | refine u_then_n ?_ | refine u_ret ?_ | refine u_exit ?_ | refine u_in_same ?_ | refine u_then_e ?_) | ((with_reducible refine u_cond_f ?_ ?_); (· exact rfl))))
      exact u_done (by (exact ResL.cons (by exact Res1.tmp rfl) ResL.nil)) () trivial (by rw [e]; rfl) (fun _ h => h.sub (by (repeat (first | exact Out.nil _ | (refine Out.cons (by (repeat (first | exact Take.here _ _ | apply Take.there))) ?_)))))
theorem rcheck2_any (c : Cov) (A : Option Addr) (ca : Nat) (B : Option Addr) (cb : Nat) (C : Option Addr) (cc : Nat) (w : World) (h : CovAt w c A B C) (hs : Small c) : Gv Tryd.prog 27 [vCov c A ca B cb C cc] w (.int .i64 (errI c)) := by
  have h3 := hs.t
  have hT := fun W (hb : Below w.heap.size w W) => rcheck_n c.t A ca W (h.t.below hb) hs.fit (by omega)
  have hI := fun W (hb : Below w.heap.size w W) => rice_any c A ca B cb C cc W (h.below hb) hs
  unfold vCov cellsCov at hI
  unfold Gv vCov cellsCov
  cases hv : valid c.t
  · have e : errI c = 10 := by simp [errI, hv]
    rw [show errT c.t = 10 by simp [errT, hv]] at hT
    rw [e]
    (refine ret_enter (n := 13) Tryd.func27 rfl rfl rfl ?_)
    (repeat' (first | ((with_reducible refine isOps ?_); first | refine u_move rfl rfl rfl rfl rfl ?_ | refine u_assign rfl rfl rfl rfl rfl ?_ | (refine x_load rfl rfl rfl rfl rfl ?_; refine ⟨_, rfl, ?_⟩) | refine u_field rfl rfl rfl rfl rfl ?_ | (refine u_cmp rfl rfl rfl rfl rfl rfl rfl (fun h => ?_) (fun h => ?_) <;> (dsimp only [cmpP] at h; (try (exfalso; omega)))) | refine u_gives rfl rfl rfl rfl rfl rfl (fun _ _ q => hT _ q.below) ?_ | (refine u_box rfl rfl rfl rfl rfl rfl (fun b => ?_))) | (with_reducible first | refine u_seq ?_ | refine u_region ?_ | refine u_nil ?_ | refine u_then_n ?_ | refine u_ret ?_ | refine u_then_r ?_) | ((with_reducible refine u_cond_t ?_ ?_); (· exact rfl))))
    all_goals exact u_done (by (exact ResL.cons (by exact Res1.tmp rfl) ResL.nil)) () trivial rfl (fun _ h => h.sub (by (repeat (first | exact Out.nil _ | (refine Out.cons (by (repeat (first | exact Take.here _ _ | apply Take.there))) ?_)))))
  · rw [errT_yes hv] at hT
    cases hi : iceOk c
    · have e : errI c = 20 := by simp [errI, hv, hi]
      rw [hi] at hI
      rw [e]
      (refine ret_enter (n := 13) Tryd.func27 rfl rfl rfl ?_)
      (repeat' (first | ((with_reducible refine isOps ?_); first | refine u_move rfl rfl rfl rfl rfl ?_ | refine u_assign rfl rfl rfl rfl rfl ?_ | (refine x_load rfl rfl rfl rfl rfl ?_; refine ⟨_, rfl, ?_⟩) | refine u_field rfl rfl rfl rfl rfl ?_ | (refine u_cmp rfl rfl rfl rfl rfl rfl rfl (fun h => ?_) (fun h => ?_) <;> (dsimp only [cmpP] at h; (try (exfalso; omega)))) | refine u_gives rfl rfl rfl rfl rfl rfl (fun _ _ q => hT _ q.below) ?_ | refine u_gives rfl rfl rfl rfl rfl rfl (fun _ _ q => hI _ q.below) ?_ | refine u_not rfl rfl rfl rfl rfl ?_ | (refine u_box rfl rfl rfl rfl rfl rfl (fun b => ?_))) | (with_reducible first | refine u_seq ?_ | refine u_region ?_ | refine u_nil ?_ | refine u_then_n ?_ | refine u_ret ?_ | refine u_skip ?_ | refine u_then_r ?_) | ((with_reducible refine u_cond_t ?_ ?_); (· exact rfl)) | ((with_reducible refine u_cond_f ?_ ?_); (· exact rfl))))
      all_goals exact u_done (by (exact ResL.cons (by exact Res1.tmp rfl) ResL.nil)) () trivial rfl (fun _ h => h.sub (by (repeat (first | exact Out.nil _ | (refine Out.cons (by (repeat (first | exact Take.here _ _ | apply Take.there))) ?_)))))
    · have e : errI c = 0 := by simp [errI, hv, hi]
      rw [hi] at hI
      rw [e]
      (refine ret_enter (n := 13) Tryd.func27 rfl rfl rfl ?_)
      (repeat' (first | ((with_reducible refine isOps ?_); first | refine u_move rfl rfl rfl rfl rfl ?_ | refine u_assign rfl rfl rfl rfl rfl ?_ | (refine x_load rfl rfl rfl rfl rfl ?_; refine ⟨_, rfl, ?_⟩) | refine u_field rfl rfl rfl rfl rfl ?_ | (refine u_cmp rfl rfl rfl rfl rfl rfl rfl (fun h => ?_) (fun h => ?_) <;> (dsimp only [cmpP] at h; (try (exfalso; omega)))) | refine u_gives rfl rfl rfl rfl rfl rfl (fun _ _ q => hT _ q.below) ?_ | refine u_gives rfl rfl rfl rfl rfl rfl (fun _ _ q => hI _ q.below) ?_ | refine u_not rfl rfl rfl rfl rfl ?_ | (refine u_box rfl rfl rfl rfl rfl rfl (fun b => ?_))) | (with_reducible first | refine u_seq ?_ | refine u_region ?_ | refine u_nil ?_ | refine u_then_n ?_ | refine u_ret ?_ | refine u_skip ?_) | ((with_reducible refine u_cond_f ?_ ?_); (· exact rfl))))
      all_goals exact u_done (by (exact ResL.cons (by exact Res1.tmp rfl) ResL.nil)) () trivial rfl (fun _ h => h.sub (by (repeat (first | exact Out.nil _ | (refine Out.cons (by (repeat (first | exact Take.here _ _ | apply Take.there))) ?_)))))
end Go.Proofs.YtdigopgncfhiaaaDoor
/- Ice: plans in memory, which are valid; a rink at work. -/
namespace Go.Proofs.YtdigopgncfhiaaaDoor
open Go.RowKit
set_option linter.unusedSimpArgs false
set_option linter.unusedVariables false
set_option maxRecDepth 20000
/-- a slice of numbers among others -/
structure Sli where
  A : Option Addr
  xs : List Int
  c : Nat
instance : Inhabited Sli := ⟨⟨none, [], 0⟩⟩
def encSli (s : Sli) : List Value := [.slice s.A s.xs.length s.c]
instance : EncI encSli 1 := ⟨fun _ => rfl, fun s v hv => by simp [encSli] at hv; subst hv; rfl⟩
structure PlanAt (w : World) (P : Option Addr) (pl : List Sli) : Prop where
  p : SlAt encSli 1 w P pl
  rows : ∀ s ∈ pl, SlAt encI 1 w s.A s.xs
theorem PlanAt.below {w W : World} {P : Option Addr} {pl : List Sli} (h : PlanAt w P pl) (hb : Below w.heap.size w W) : PlanAt W P pl := ⟨h.p.below hb, fun s hs => (h.rows s hs).below hb⟩
theorem getD_of {α : Type} {l : List α} {i : Nat} {d x : α} (h : l[i]? = some x) : l.getD i d = x := by rw [List.getD_eq_getElem?_getD, h]; rfl
end Go.Proofs.YtdigopgncfhiaaaDoor
