/- The chapter's examples: the run, the first measure. -/
import Derived.Test.YtekjkaoibcfgfaaX7
import Derived.Test.YtekjkaoibcfgfaaV1
import Derived.Test.YtekjkaoibcfgfaaX9
import Derived.Test.YtekjkaoibcfgfaaV5
import Derived.Test.YtekjkaoibcfgfaaSameT
namespace Go.Proofs.Ytekjkaoibcfgfaa
open Go.RowKit
set_option maxRecDepth 20000
set_option linter.unusedSimpArgs false
set_option linter.unusedVariables false

def runT : List St := [⟨3, ⟨4000, 4100⟩, ⟨400, 420⟩, ⟨0, 0⟩, 0, 0⟩, ⟨5, ⟨2000, 2200⟩, ⟨150, 160⟩, ⟨1500, 1600⟩, 1, 0⟩, ⟨8, ⟨3000, 3000⟩, ⟨300, 330⟩, ⟨0, 0⟩, 0, 0⟩]
theorem u_ow {w0 : World} {n : Nat} {d : List Deferred} {R : List (Nat × Value)} {H H' : List Ent} {X : Act → World → Prop} (hs : ∀ w, Own w0.heap.size w H → Own w0.heap.size w H') (h : U w0 n d R H' X) : U w0 n d R H X := fun a w q => h a w (q.heap q.below (hs w q.own))
theorem Own.blk_arr {α : Type} {enc : α → List Value} {k g base : Nat} {cs : List Value} {xs : List α} {H H' : List Ent} {w : World} (ht : Take H (.blk g cs) H') (he : cs = xs.flatMap enc) (h : Own base w H) : Own base w (.arr enc k g xs :: H') :=
  (h.take ht).recast (fun hp => ⟨[], by rw [List.append_nil, ← he]; exact hp⟩) (fun b hb => hb)
theorem arr_at {α : Type} {enc : α → List Value} {k g base : Nat} [ei : EncI enc k] {xs : List α} {H H' : List Ent} {w : World} (ho : Own base w H) (ht : Take H (.arr enc k g xs) H') : SlAt enc k w (some ⟨g, 0, none⟩) xs := (ho.arr_sl ht).here (.sl enc k (some ⟨g, 0, none⟩) xs) (by simp)
theorem run_any (w : World) : Ret Try.prog 80 [] w (fun g : Nat => .agg #[.slice (some ⟨g, 0, none⟩) 3 3]) (fun g => [.arr encSt 9 g runT]) (fun _ => True) := by
  (refine ret_enter (n := 13) Try.func80 rfl rfl rfl ?_)
  (repeat' (first | ((with_reducible refine isOps ?_); first | refine u_gives rfl rfl rfl rfl rfl rfl (fun _ _ q => lspan_any _ _ _) ?_ | (refine x_store rfl rfl rfl rfl rfl ?_; refine And.intro rfl (And.intro (by first | decide | exact Nat.le_of_ble_eq_true rfl | (simp; omega)) ⟨_, rfl, ?_⟩)) | (refine u_alloc rfl rfl rfl rfl (fun b => ?_)) | (refine x_build rfl rfl rfl rfl rfl ?_; refine ⟨_, rfl, ?_⟩) | (refine x_buildSlice rfl rfl rfl rfl rfl ?_; refine ⟨rfl, _, rfl, fun b => ?_⟩)) | (with_reducible first | refine u_seq ?_ | refine u_region ?_ | refine u_nil ?_ | refine u_then_n ?_ | refine u_ret ?_)))
  exact u_done (by (exact ResL.cons (by exact res1c rfl (by exact rfl)) ResL.nil)) b trivial rfl (fun _ h => (h.blk_arr (g := b) (xs := runT) (enc := encSt) (k := 9) (by (repeat (first | exact Take.here _ _ | apply Take.there))) rfl).sub (by (repeat (first | exact Out.nil _ | (refine Out.cons (by (repeat (first | exact Take.here _ _ | apply Take.there))) ?_)))))
theorem run_valid : valid runT = true := by decide
def firstM : Me := ⟨1, 0, 2, ⟨6250, 6400⟩⟩
theorem first_any (w : World) : Gv Try.prog 83 [] w (vMe firstM) := by
  unfold Gv
  (refine ret_enter (n := 3) Try.func83 rfl rfl rfl ?_)
  (repeat' (first | ((with_reducible refine isOps ?_); first | refine u_gives rfl rfl rfl rfl rfl rfl (fun _ _ q => lspan_any _ _ _) ?_ | (refine x_store rfl rfl rfl rfl rfl ?_; refine And.intro rfl (And.intro (by first | decide | exact Nat.le_of_ble_eq_true rfl | (simp; omega)) ⟨_, rfl, ?_⟩)) | (refine u_alloc rfl rfl rfl rfl (fun b => ?_)) | (refine x_build rfl rfl rfl rfl rfl ?_; refine ⟨_, rfl, ?_⟩)) | (with_reducible first | refine u_seq ?_ | refine u_region ?_ | refine u_nil ?_ | refine u_then_n ?_ | refine u_ret ?_)))
  exact u_done (by (exact ResL.cons (by exact res1c rfl (by exact rfl)) ResL.nil)) () trivial rfl (fun _ h => h.sub (by (repeat (first | exact Out.nil _ | (refine Out.cons (by (repeat (first | exact Take.here _ _ | apply Take.there))) ?_)))))
end Go.Proofs.Ytekjkaoibcfgfaa
/- The chapter's examples in plain Lean: what the first measure leaves. -/
namespace Go.Proofs.Ytekjkaoibcfgfaa
set_option linter.unusedVariables false
set_option linter.unusedSimpArgs false
set_option maxRecDepth 20000
def runL : List St := [⟨3, ⟨4050, 4100⟩, ⟨400, 420⟩, ⟨0, 0⟩, 0, 0⟩, ⟨5, ⟨2150, 2200⟩, ⟨150, 160⟩, ⟨1500, 1600⟩, 1, 0⟩, ⟨8, ⟨3000, 3000⟩, ⟨300, 330⟩, ⟨0, 0⟩, 0, 0⟩]
theorem fine1_run : fine1 runT [firstM] := by unfold fine1 fineK fine; decide +kernel
theorem fine2_run : fine2 runT [firstM] := by unfold fine2 fineK fine; decide +kernel
theorem left_run : leftB runT [firstM] = true ∧ leftT runT [firstM] = runL := by
  have h := leftB_yes fine1_run fine2_run
  refine ⟨h, ?_⟩
  unfold leftT
  rw [h]
  show stage2 runT [firstM] = runL
  decide +kernel
theorem meas_run : msOk runT.length [firstM] = true := by decide
end Go.Proofs.Ytekjkaoibcfgfaa
/- The chapter's examples: places. -/
namespace Go.Proofs.Ytekjkaoibcfgfaa
open Go.RowKit
set_option maxRecDepth 20000
set_option linter.unusedSimpArgs false
set_option linter.unusedVariables false

theorem run_fit : FitT runT := by
  intro s hs
  simp only [runT, List.mem_cons, List.not_mem_nil, or_false] at hs
  rcases hs with rfl | rfl | rfl <;> decide
theorem ints_s (a : List Int) (A B : Option Addr) (c d : Nat) (w : World) (ha : SlAt encI 1 w A a) (hb : SlAt encI 1 w B a) (hl : a.length ≤ 1000000) : Gv Try.prog 31 [.slice A a.length c, .slice B a.length d] w (.bool true) :=
  ((same_ints a a A B c d w ha hb hl hl).of (by simp)).gv
theorem ints_d (a b : List Int) (A B : Option Addr) (c d : Nat) (w : World) (ha : SlAt encI 1 w A a) (hb : SlAt encI 1 w B b) (hla : a.length ≤ 1000000) (hlb : b.length ≤ 1000000) : Gv Try.prog 31 [.slice A a.length c, .slice B b.length d] w (.bool (decide (a = b))) :=
  (same_ints a b A B c d w ha hb hla hlb).gv
set_option maxHeartbeats 1000000 in
theorem places_any (a : Int) (want : List Int) (B : Option Addr) (c : Nat) (w : World) (hB : SlAt encI 1 w B want) (h : placeT runT a = want) (he : errP runT a = 0) (hl : want.length ≤ 100) :
    Gv Try.prog 81 [.int .i64 a, .slice B want.length c] w (.bool true) := by
  unfold Gv
  have h2 := fun W A cap (ht : SlAt encSt 9 W A runT) => place_any runT A cap a W ht run_fit (by decide)
  rw [h, he] at h2
  unfold vT at h2
  (refine ret_enter (n := 20) Try.func81 rfl rfl rfl ?_)
  (repeat' (first | ((with_reducible refine isOps ?_); first | refine u_move rfl rfl rfl rfl rfl ?_ | refine u_assign rfl rfl rfl rfl rfl ?_ | refine u_pick rfl rfl rfl rfl rfl rfl ?_ | (refine u_cmp rfl rfl rfl rfl rfl rfl rfl (fun h => ?_) (fun h => ?_) <;> (dsimp only [cmpP] at h; (try (exfalso; omega)))) | (refine u_call rfl rfl rfl rfl rfl rfl (fun _ _ q => run_any _) ?_; rintro gr -; dsimp only [List.cons_append, List.nil_append]; refine u_ow (fun _ h => h.arr_sl (Take.here _ _)) ?_) | refine u_newsl rfl rfl rfl rfl rfl rfl (fun _ _ q => h2 _ _ _ (sl_at q.own (Below.refl _ _))) (fun A' c' => ?_) | refine u_gives rfl rfl rfl rfl rfl rfl (fun _ _ q => ints_s want _ _ _ _ _ (sl_at q.own (Below.refl _ _)) (hB.below q.below) (by omega)) ?_ | refine u_extract rfl rfl rfl rfl rfl rfl ?_) | (with_reducible first | refine u_seq ?_ | refine u_region ?_ | refine u_nil ?_ | refine u_then_n ?_ | refine u_ret ?_)))
  exact u_done (by (exact ResL.cons (by exact Res1.tmp rfl) ResL.nil)) () trivial rfl (fun _ h => h.sub (by (repeat (first | exact Out.nil _ | (refine Out.cons (by (repeat (first | exact Take.here _ _ | apply Take.there))) ?_)))))
end Go.Proofs.Ytekjkaoibcfgfaa
