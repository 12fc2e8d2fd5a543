/- The chapter's examples: what measures leave. -/
import Derived.Test.YtekjkaoibcfgfaaY1
import Derived.Test.YtekjkaoibcfgfaaX21
import Derived.Test.YtekjkaoibcfgfaaX19
namespace Go.Proofs.Ytekjkaoibcfgfaa
open Go.RowKit
set_option maxRecDepth 20000
set_option linter.unusedSimpArgs false
set_option linter.unusedVariables false

theorem nT_run : nT runT [firstM] = runL ∧ errN runT [firstM] = 0 := by
  obtain ⟨h1, h2⟩ := left_same run_valid meas_run
  obtain ⟨h3, h4⟩ := left_run
  rw [nT_yes run_valid meas_run, ← h2, h4]
  refine ⟨rfl, ?_⟩
  unfold errN
  rw [run_valid, meas_run, ← h1, h3]; rfl

set_option maxHeartbeats 1000000 in
theorem leaves_any (B : Option Addr) (w : World) (hB : SlAt encMe 5 w B [firstM]) : Gv Try.prog 82 [vSp ⟨4050, 4100⟩, vSp ⟨2150, 2200⟩, .slice B 1 1] w (.bool true) := by
  unfold Gv vSp
  have hbl : ∀ b o, B = some ⟨b, o, none⟩ → b < w.heap.size := fun b o e => by
    obtain ⟨b', o', h1, h2, _⟩ := hB 0 firstM rfl
    rw [h1] at e; cases e; exact h2
  have h1 := fun W A cap (hA : SlAt encSt 9 W A runT) (hW : Below w.heap.size w W) => narrow_any runT A cap [firstM] B 1 W hA (hB.below hW) (fun b o e => Nat.lt_of_lt_of_le (hbl b o e) hW.size) run_fit (by intro m hm; simp at hm; subst hm; decide) (by decide) (by decide)
  rw [nT_run.1, nT_run.2] at h1
  (refine ret_enter (n := 34) Try.func82 rfl rfl rfl ?_)
  (repeat' (first | ((with_reducible refine isOps ?_); first | refine u_move rfl rfl rfl rfl rfl ?_ | refine u_assign rfl rfl rfl rfl rfl ?_ | (refine u_call rfl rfl rfl rfl rfl rfl (fun _ _ q => run_any _) ?_; rintro gr -; dsimp only [List.cons_append, List.nil_append]) | refine u_newsl rfl rfl rfl rfl rfl rfl (fun _ _ q => h1 _ _ _ (arr_at q.own (by (repeat (first | exact Take.here _ _ | apply Take.there)))) q.below) (fun A' c' => ?_) | refine u_extract rfl rfl rfl rfl rfl rfl ?_ | (refine x_store rfl rfl rfl rfl rfl ?_; refine And.intro rfl (And.intro (by first | decide | exact Nat.le_of_ble_eq_true rfl | (simp; omega)) ⟨_, rfl, ?_⟩)) | (refine u_alloc rfl rfl rfl rfl (fun b => ?_)) | (refine u_box rfl rfl rfl rfl rfl rfl (fun b => ?_))) | (with_reducible first | refine u_seq ?_ | refine u_region ?_ | refine u_nil ?_ | refine u_then_n ?_)))
  have g0 : GetI runT 0 ⟨3, ⟨4000, 4100⟩, ⟨400, 420⟩, ⟨0, 0⟩, 0, 0⟩ := ⟨rfl⟩
  have g1 : GetI (runT.set 0 ⟨3, ⟨4050, 4100⟩, ⟨400, 420⟩, ⟨0, 0⟩, 0, 0⟩) 1 ⟨5, ⟨2000, 2200⟩, ⟨150, 160⟩, ⟨1500, 1600⟩, 1, 0⟩ := ⟨rfl⟩
  (refine u_chainS ⟨8, [.arr encSt 9 gr runT], [.arr encSt 9 gr (runT.set 0 ⟨3, ⟨4050, 4100⟩, ⟨400, 420⟩, ⟨0, 0⟩, 0, 0⟩)]⟩ (H0 := _) (fun _ h => (h.take (by (repeat (first | exact Take.here _ _ | apply Take.there))))) (by kernel_rfl) [[], [true], [false, false], [true, false, false], [false, false, false, false], [false, false, false, false, false], [false, true, false, false, true, true], [true, false, true, false, false, true, true], [true, true, false, true, false, false, true, true], [true, true, true, true, true, true, true, true, true], [true, true, true, true, true, true, true, true, true, true], [true, true, true, true, true, true, true, true, true, true, true]] (by kernel_rfl) (by kernel_rfl) ?_)
  (repeat' (first | (((with_reducible refine c_go ?_ ?_); (· exact rfl); refine ⟨_, fun G => (by (try simp only [fltT, entsT, List.nil_append, List.cons_append]); rfl), ?_⟩); first | refine c_val _ (fun _ => e_load' rfl rfl (by exact rfl)) (fun _ => rfl) rfl (by first | exact fun _ _ _ => rfl | (intro G G' h; simp (decide := true) only [h])) ?_ | (refine c_isField rfl ?_; refine c_val _ (fun _ => e_field rfl rfl) (fun _ => rfl) rfl (by first | exact fun _ _ _ => rfl | (intro G G' h; simp (decide := true) only [h])) ?_) | refine c_val _ (fun _ => e_index (I := 0) rfl rfl rfl rfl (by decide)) (fun _ => rfl) rfl (by exact fun _ _ _ => rfl) ?_ | refine c_val _ (fun _ => e_index (I := 1) rfl rfl rfl rfl (by decide)) (fun _ => rfl) rfl (by exact fun _ _ _ => rfl) ?_) | (refine c_storeA (enc := encSt) (i := 0) (j := 1) (z := ⟨3, ⟨4000, 4100⟩, ⟨400, 420⟩, ⟨0, 0⟩, 0, 0⟩) ⟨3, ⟨4050, 4100⟩, ⟨400, 420⟩, ⟨0, 0⟩, 0, 0⟩ rfl (fun _ => rfl) rfl rfl rfl rfl (fun _ => rfl) (fun _ => rfl) rfl rfl rfl (by decide) ?_) | ((with_reducible refine c_tail ?_ ?_); (· exact rfl))))
  (intro G; simp only [regsT, entsT, Pend.at_none, List.nil_append, List.cons_append])
  simp (decide := true) only [Pend.at_lt, List.nil_append, List.cons_append]
  (repeat' (first | ((with_reducible refine isOps ?_); first | refine u_move rfl rfl rfl rfl rfl ?_ | (refine x_load rfl rfl rfl rfl rfl ?_; refine ⟨_, rfl, ?_⟩) | (refine u_cmp rfl rfl rfl rfl rfl rfl rfl (fun h => ?_) (fun h => ?_) <;> (dsimp only [cmpP] at h; (try (exfalso; omega)))) | refine u_storeA (enc := encSt) (z := ⟨5, ⟨2000, 2200⟩, ⟨150, 160⟩, ⟨1500, 1600⟩, 1, 0⟩) ⟨5, ⟨2150, 2200⟩, ⟨150, 160⟩, ⟨1500, 1600⟩, 1, 0⟩ rfl rfl rfl rfl rfl rfl rfl rfl (by decide) ?_) | (with_reducible first | refine u_seq ?_ | refine u_region ?_ | refine u_nil ?_ | refine u_then_n ?_)))
  (repeat' (first | ((with_reducible refine isOps ?_); first | refine u_assign rfl rfl rfl rfl rfl ?_ | refine u_pick rfl rfl rfl rfl rfl rfl ?_ | refine u_gives rfl rfl rfl rfl rfl rfl (fun _ _ q => sts_self runL _ _ _ _ _ (sl_at q.own (Below.refl _ _)) (arr_at q.own (by (repeat (first | exact Take.here _ _ | apply Take.there)))) (by decide)) ?_) | (with_reducible first | refine u_nil ?_ | refine u_then_n ?_ | refine u_ret ?_)))
  all_goals exact u_done (by (exact ResL.cons (by exact Res1.tmp rfl) ResL.nil)) () trivial rfl (fun _ h => h.sub (by (repeat (first | exact Out.nil _ | (refine Out.cons (by (repeat (first | exact Take.here _ _ | apply Take.there))) ?_)))))
end Go.Proofs.Ytekjkaoibcfgfaa
