/- D9 -/
import Derived.Test.YtdigopgncfhiaaaGreatDoorD8
import Derived.Test.YtdigopgncfhiaaaGreatDoorD5
import Derived.Deep.Quiet
set_option linter.unusedSimpArgs false
set_option linter.unusedVariables false
namespace Go.Proofs.YtdigopgncfhiaaaGreatDoor
open Go.RowKit
set_option maxRecDepth 20000
structure Sli where
 A : Option Addr
 xs : List Int
 c : Nat
instance : Inhabited Sli := ⟨⟨none, [], 0⟩⟩
def zBN (s : Sli) : List Value := [.slice s.A s.xs.length s.c]
instance : zBu zBN 1 := ⟨fun _ => rfl, fun s v hv => by simp [zBN] at hv; subst hv; rfl⟩
structure zBK (w : World) (P : Option Addr) (pl : List Sli) : Prop where
 p : zp zBN 1 w P pl
 rows : ∀ s ∈ pl, zp encI 1 w s.A s.xs
theorem zBK.below {w W : World} {P : Option Addr} {pl : List Sli} (h : zBK w P pl) (hb : Below w.heap.size w W) : zBK W P pl := ⟨h.p.below hb, fun s hs => (h.rows s hs).below hb⟩
def zEa (l : List Int) : Bool := (List.range (l.length - 1)).all fun k => decide (l.getD k 0 < l.getD (k + 1) 0)
def zGE (c : Cov) (u : Hour) (s : Sli) : Bool := decide ((s.xs.length : Int) ≤ u.crew) && (decide (s.xs.length = 0) || u.cold) && s.xs.all (inB 0 (c.beds.length - 1)) && zEa s.xs
def zB1 (c : Cov) (pl : List Sli) : Bool := decide (pl.length = c.hours.length) && (List.range pl.length).all fun i => zGE c (c.hours.getD i default) (pl.getD i default)
theorem zH8 {l : List Int} : zEa l = true ↔ ∀ k, k + 1 < l.length → l.getD k 0 < l.getD (k + 1) 0 := by
 unfold zEa
 rw [List.all_eq_true]
 constructor
 ·intro h k hk; simpa using h k (List.mem_range.2 (by omega))
 ·intro h k hk; simpa using h k (by have := List.mem_range.1 hk; omega)
theorem zNo {l : List Int} {k : Nat} (hk : k + 1 < l.length) (h : ¬ l.getD k 0 < l.getD (k + 1) 0) : zEa l = false := by
 cases hr : zEa l with
 | false => rfl
 | true => exact absurd (zH8.1 hr k hk) h
theorem zB0 {c : Cov} {pl : List Sli} : zB1 c pl = true ↔ pl.length = c.hours.length ∧ ∀ (i : Nat) (u : Hour) (s : Sli), c.hours[i]? = some u → pl[i]? = some s → zGE c u s = true := by
 unfold zB1
 rw [Bool.and_eq_true, decide_eq_true_eq, List.all_eq_true]
 constructor
 ·rintro ⟨h1, h2⟩
  refine ⟨h1, fun i u s hu hs => ?_⟩
  have := h2 i (List.mem_range.2 (List.getElem?_eq_some_iff.1 hs).1)
  simpa [List.getD_eq_getElem?_getD, hu, hs] using this
 ·rintro ⟨h1, h2⟩
  refine ⟨h1, fun i hi => ?_⟩
  have hi := List.mem_range.1 hi
  refine h2 i _ _ ?_ ?_
  ·rw [List.getD_eq_getElem?_getD, List.getElem?_eq_getElem (show i < c.hours.length by omega)]; rfl
  ·rw [List.getD_eq_getElem?_getD, List.getElem?_eq_getElem hi]; rfl
theorem zNr {c : Cov} {pl : List Sli} {i : Nat} {u : Hour} {s : Sli} (hu : c.hours[i]? = some u) (hs : pl[i]? = some s) (h : zGE c u s = false) : zB1 c pl = false := by
 cases hp : zB1 c pl with
 | false => rfl
 | true => have := (zB0.1 hp).2 i u s hu hs; rw [h] at this; cases this
theorem zAv {α : Type} {l : List α} {i : Nat} {d x : α} (h : l[i]? = some x) : l.getD i d = x := by rw [List.getD_eq_getElem?_getD, h]; rfl
set_option maxHeartbeats 4000000 in
theorem zGS (c : Cov) (A : Option Addr) (ca : Nat) (B : Option Addr) (cb : Nat) (C : Option Addr) (cc g : Nat) (pl : List Sli) (P : Option Addr) (cp : Nat) (w : World) (hr : InC w g 0 (zM c A ca B cb C cc)) (h0 : zAq w c A B C) (hp : zBK w P pl) (hs : Small c) (hl : pl.length ≤ 12) (hrl : ∀ s ∈ pl, s.xs.length ≤ 20) :
  Gv Tryz.prog 98 [.pointer (some ⟨g, 0, none⟩), .slice P pl.length cp] w (.bool (zB1 c pl)) := by
 have h3 := hs.t; have h4 := hs.b; have h5 := hs.h
 have hh := h0.h; have hpp := hp.p
 unfold zM at hr
 unfold Gv
 (refine zL (n := 83) Tryz.func98 rfl rfl rfl ?_)
 (repeat' (first | ((with_reducible refine zG ?_); first | refine zE rfl rfl rfl rfl rfl ?_ | refine zC rfl rfl rfl rfl rfl ?_ | (refine zJ rfl rfl rfl rfl rfl ?_; refine ⟨_, rfl, ?_⟩) | refine zd rfl rfl rfl rfl rfl ?_ | (refine zR rfl rfl rfl rfl rfl rfl rfl (fun h => ?_) (fun h => ?_) <;> (dsimp only [cmpP] at h; (try (exfalso; omega)))) | refine zr rfl rfl rfl rfl rfl ?_ | refine zA9 rfl rfl rfl rfl rfl ?_) | (with_reducible first | refine zH ?_ | refine zB ?_ | refine zD ?_ | refine zA ?_ | refine zX ?_ | refine zU ?_ | refine zZ ?_ | refine zQ ?_) | ((with_reducible refine zI ?_ ?_); (· exact rfl)) | ((with_reducible refine zF ?_ ?_); (· exact rfl))))
 ·exact zV (by (exact zP.cons (by exact zf.tmp rfl) zP.nil)) () trivial (by rw [show zB1 c pl = false from by unfold zB1; simp; omega]; rfl) (fun _ h => h.sub (by (repeat (first | exact oK1 _ | (refine oK2 (by (repeat (first | exact tK1 _ _ | apply tK2))) ?_)))))
 have hlen : pl.length = c.hours.length := by omega
 refine zq (ι := Nat) [0, 17, 18] rfl (fun i => i ≤ pl.length ∧ ∀ (j : Nat) (u : Hour) (s : Sli), j < i → c.hours[j]? = some u → pl[j]? = some s → zGE c u s = true) (fun i => [(19, .int .i64 (i : Int))]) (fun _ => []) (fun i => pl.length - i) 0 ⟨Nat.zero_le _, fun j u s h => by omega⟩ (by (first | exact lK1 | (repeat (first | exact lK1 | (refine zK rfl ?_))))) (by (repeat (first | exact oK1 _ | (refine oK2 (by (repeat (first | exact tK1 _ _ | apply tK2))) ?_)))) ?_
 rintro i ⟨hi, hall⟩
 simp only [zAw, List.cons_append, List.nil_append]
 by_cases hlt : i < pl.length
 ·obtain ⟨s, hsi⟩ : ∃ s, pl[i]? = some s := ⟨_, List.getElem?_eq_getElem hlt⟩
  obtain ⟨u, hui⟩ : ∃ u, c.hours[i]? = some u := ⟨_, List.getElem?_eq_getElem (by omega)⟩
  have hsm := List.mem_of_getElem? hsi
  have hrow := hp.rows s hsm
  have hsl := hrl s hsm
  obtain ⟨bb, o, rfl, hblt, hc⟩ := hpp.at_ hlt
  have : InS w bb o zBN 1 pl := ⟨hpp⟩
  have : zAQ pl i s := ⟨hsi⟩
  obtain ⟨bc, oc, rfl, hblt2, hc2⟩ := hh.at_ (show i < c.hours.length by omega)
  have : InS w bc oc zx 5 c.hours := ⟨hh⟩
  have : zAQ c.hours i u := ⟨hui⟩
  have hin := fun W (hW : Below w.heap.size w W) => zKP 0 ((c.beds.length : Int) - 1) s.xs s.A s.c W (hrow.below hW) (by omega)
  have hno := fun h => zNr hui hsi h
  have hyes := fun (h : zGE c u s = true) (j : Nat) u' s' (hj : j < i + 1) (h1 : c.hours[j]? = some u') (h2 : pl[j]? = some s') => (show zGE c u' s' = true from by
   by_cases e : j = i
   ·subst e; rw [hui] at h1; rw [hsi] at h2; cases h1; cases h2; exact h
   ·exact hall j u' s' (by omega) h1 h2)
  obtain ⟨melt, runs, crew, cold⟩ := u
  have hro : zGE c ⟨melt, runs, crew, cold⟩ s = (decide ((s.xs.length : Int) ≤ crew) && (decide (s.xs.length = 0) || cold) && s.xs.all (inB 0 (c.beds.length - 1)) && zEa s.xs) := rfl
  generalize hall1 : s.xs.all (inB 0 ((c.beds.length : Int) - 1)) = al at *
  cases cold
  all_goals
   (repeat' (first | ((with_reducible refine zG ?_); first | refine zE rfl rfl rfl rfl rfl ?_ | refine zC rfl rfl rfl rfl rfl ?_ | (refine zJ rfl rfl rfl rfl rfl ?_; refine ⟨_, rfl, ?_⟩) | refine zd rfl rfl rfl rfl rfl ?_ | refine zAO rfl rfl rfl rfl rfl rfl ?_ | refine zu rfl rfl rfl ?_ | (refine zR rfl rfl rfl rfl rfl rfl rfl (fun h => ?_) (fun h => ?_) <;> (dsimp only [cmpP] at h; (try (exfalso; omega)))) | (refine zAG rfl rfl rfl rfl rfl rfl (fun _ _ q => hin _ q.below) (fun h => ?_) (fun h => ?_) <;> (try (exfalso; omega))) | refine zAe rfl rfl rfl rfl rfl ?_ | refine zCC rfl rfl rfl rfl rfl rfl (IntWalk.i64_in _ (by omega)) ?_ | refine zb rfl rfl rfl rfl rfl rfl rfl (by omega) ?_ | refine zr rfl rfl rfl rfl rfl ?_ | refine zA9 rfl rfl rfl rfl rfl ?_) | (with_reducible first | refine zH ?_ | refine zB ?_ | refine zD ?_ | refine zA ?_ | refine zX ?_ | refine zU ?_ | refine zZ ?_ | refine zQ ?_ | refine zAi ?_) | ((with_reducible refine zI ?_ ?_); (· exact rfl)) | ((with_reducible refine zF ?_ ?_); (· exact rfl))))
   all_goals first | (refine zV (by (exact zP.cons (by exact zf.tmp rfl) zP.nil)) () trivial ?_ (fun _ h => h.sub (by (repeat (first | exact oK1 _ | (refine oK2 (by (repeat (first | exact tK1 _ _ | apply tK2))) ?_))))); refine congrArg Value.bool (hno ?_); rw [hro]; refine Bool.eq_false_iff.2 (fun h9 => ?_); simp only [Bool.and_eq_true, Bool.or_eq_true, decide_eq_true_eq, Bool.false_eq_true, or_false] at h9; first | omega | (simp_all; done)) | skip
   all_goals
    refine zq (ι := Nat) [0, 6, 17, 18, 19, 67] rfl (fun k => k ≤ s.xs.length ∧ ∀ k', k' < k → k' + 1 < s.xs.length → s.xs.getD k' 0 < s.xs.getD (k' + 1) 0) (fun k => [(68, .int .i64 (k : Int))]) (fun _ => []) (fun k => s.xs.length - k) 0 ⟨Nat.zero_le _, fun k h => by omega⟩ (by (first | exact lK1 | (repeat (first | exact lK1 | (refine zK rfl ?_))))) (by (repeat (first | exact oK1 _ | (refine oK2 (by (repeat (first | exact tK1 _ _ | apply tK2))) ?_)))) ?_
    rintro k ⟨hk, hris⟩
    simp only [zAw, List.cons_append, List.nil_append]
    by_cases hk1 : k + 1 < s.xs.length
    ·obtain ⟨x, hx⟩ : ∃ x, s.xs[k]? = some x := ⟨_, List.getElem?_eq_getElem (by omega)⟩
     obtain ⟨y, hy⟩ : ∃ y, s.xs[k + 1]? = some y := ⟨_, List.getElem?_eq_getElem hk1⟩
     have e1 := zAv (d := 0) hx
     have e2 := zAv (d := 0) hy
     obtain ⟨br, orr, hA, hbr, hcr⟩ := hrow.at_ hk1
     have : InS w br orr encI 1 s.xs := ⟨hA ▸ hrow⟩
     rw [hA]
     have : zAQ s.xs k x := ⟨hx⟩
     have : zAQ s.xs (k + 1) y := ⟨hy⟩
     (repeat' (first | ((with_reducible refine zG ?_); first | refine zE rfl rfl rfl rfl rfl ?_ | refine zC rfl rfl rfl rfl rfl ?_ | (refine zR rfl rfl rfl rfl rfl rfl rfl (fun h => ?_) (fun h => ?_) <;> (dsimp only [cmpP] at h; (try (exfalso; omega))))) | (with_reducible first | refine zH ?_ | refine zB ?_ | refine zD ?_ | refine zA ?_ | refine zU ?_ | refine zQ ?_) | ((with_reducible refine zI ?_ ?_); (· exact rfl))))
     all_goals (refine zAo (by kernel_rfl) [[], [O0], [I0, I0], [I0, I0, I0], [O0, O0, O0, O0], [O0, O0, O0, O0, O0], [I0, O0, O0, O0, O0, O0], [I0, I0, I0, O0, O0, O0, O0], [I0, I0, I0, I0, O0, O0, O0, O0], [I0, I0, I0, I0, I0, I0, I0, I0, I0]] (by kernel_rfl) (by kernel_rfl) (by kernel_rfl) ?_)
     all_goals (repeat' (first | (((with_reducible refine zC6 ?_ ?_); (· exact rfl); refine ⟨_, fun G => (by (try simp only [fltT, zw, List.nil_append, List.cons_append]); rfl), ?_⟩); first | refine za _ (fun _ => zAm rfl rfl) (fun _ => rfl) rfl (by first | exact fun _ _ _ => rfl | (intro G G' h; simp (decide := true) only [h])) ?_ | refine za _ (fun _ => zAH rfl rfl (by exact rfl)) (fun _ => rfl) rfl (by first | exact fun _ _ _ => rfl | (intro G G' h; simp (decide := true) only [h])) ?_ | (refine zLs rfl rfl (fun _ => rfl) rfl (fun _ => rfl) (fun _ => rfl) (fun h => ?_) (fun h => ?_) <;> (dsimp only [cmpP] at h; (try (exfalso; omega)))) | refine za _ (fun _ => zAt (I := k) rfl rfl rfl rfl (by omega)) (fun _ => rfl) rfl (by exact fun _ _ _ => rfl) ?_ | refine za _ (fun _ => zAt (I := k + 1) rfl rfl rfl rfl (by omega)) (fun _ => rfl) rfl (by exact fun _ _ _ => rfl) ?_ | refine za _ (fun _ => zKW rfl rfl rfl (by omega)) (fun _ => rfl) rfl (by first | exact fun _ _ _ => rfl | (intro G G' h; simp (decide := true) only [h])) ?_) | (with_reducible refine zHW ?_)))
     all_goals ((intro G; simp only [regsT, zw, Pend.zBS, List.nil_append, List.cons_append]); (repeat' (first | ((with_reducible refine zG ?_); first | refine zE rfl rfl rfl rfl rfl ?_ | refine zC rfl rfl rfl rfl rfl ?_ | refine zg rfl rfl rfl rfl rfl rfl (by omega) ?_) | (with_reducible first | refine zH ?_ | refine zB ?_ | refine zD ?_ | refine zA ?_ | refine zX ?_ | refine zU ?_ | refine zZ ?_ | refine zi ?_ | refine zAi ?_) | ((with_reducible refine zI ?_ ?_); (· exact rfl)) | ((with_reducible refine zF ?_ ?_); (· exact rfl)))))
     all_goals first | (refine zV (by (exact zP.cons (by exact zf.tmp rfl) zP.nil)) () trivial ?_ (fun _ h => h.sub (by (repeat (first | exact oK1 _ | (refine oK2 (by (repeat (first | exact tK1 _ _ | apply tK2))) ?_))))); refine congrArg Value.bool (hno ?_); rw [hro, zNo hk1 (by rw [e1, e2]; omega), Bool.and_false]) | skip
     all_goals exact ze (k + 1) ⟨by omega, fun k' h1 h2 => by
       by_cases e : k' = k
       ·subst e; rw [e1, e2]; omega
       ·exact hris k' (by omega) h2⟩ (by omega) (by (first | exact lK1 | (repeat (first | exact lK1 | (refine zK rfl ?_))))) (by (repeat (first | exact oK1 _ | (refine oK2 (by (repeat (first | exact tK1 _ _ | apply tK2))) ?_))))
    ·(repeat' (first | ((with_reducible refine zG ?_); first | refine zE rfl rfl rfl rfl rfl ?_ | (refine zR rfl rfl rfl rfl rfl rfl rfl (fun h => ?_) (fun h => ?_) <;> (dsimp only [cmpP] at h; (try (exfalso; omega)))) | refine zg rfl rfl rfl rfl rfl rfl (by omega) ?_) | (with_reducible first | refine zH ?_ | refine zB ?_ | refine zD ?_ | refine zA ?_ | refine zk ?_ | refine zi ?_ | refine zT ?_ | refine zW ?_) | ((with_reducible refine zF ?_ ?_); (· exact rfl))))
     have hr9 : zEa s.xs = true := zH8.2 (fun k' h => hris k' (by omega) h)
     exact ze (i + 1) ⟨by omega, hyes (by rw [hro, hr9]; simp_all)⟩ (by omega) (by (first | exact lK1 | (repeat (first | exact lK1 | (refine zK rfl ?_))))) (by (repeat (first | exact oK1 _ | (refine oK2 (by (repeat (first | exact tK1 _ _ | apply tK2))) ?_))))
 ·obtain rfl : i = pl.length := by omega
  (repeat' (first | ((with_reducible refine zG ?_); first | refine zC rfl rfl rfl rfl rfl ?_ | (refine zR rfl rfl rfl rfl rfl rfl rfl (fun h => ?_) (fun h => ?_) <;> (dsimp only [cmpP] at h; (try (exfalso; omega))))) | (with_reducible first | refine zH ?_ | refine zB ?_ | refine zD ?_ | refine zA ?_ | refine zX ?_ | refine zk ?_ | refine zT ?_ | refine zW ?_) | ((with_reducible refine zF ?_ ?_); (· exact rfl))))
  exact zV (by (exact zP.cons (by exact zf.tmp rfl) zP.nil)) () trivial (by rw [zB0.2 ⟨hlen, fun j u s h1 h2 => hall j u s (List.getElem?_eq_some_iff.1 h2).1 h1 h2⟩]; rfl) (fun _ h => h.sub (by (repeat (first | exact oK1 _ | (refine oK2 (by (repeat (first | exact tK1 _ _ | apply tK2))) ?_)))))
end Go.Proofs.YtdigopgncfhiaaaGreatDoor
namespace Go.Proofs.YtdigopgncfhiaaaGreatDoor
variable {ro : Option Nat}
open Go.RowKit
def ClsH (w0 : World) (H : List Ent) (w : World) : Prop := Below w0.heap.size w0 w ∧ Own w0.heap.size w H
def UQ (P : Program) (w0 : World) (n : Nat) (d : List Deferred) (R : List (Nat × Value)) (H : List Ent) (ops : Array Oper) (K : Act → Prop) (rest : List Oper) : Prop :=
 ∀ a : Act, a.tmps.size = n → a.defers = d → (∀ t v, lk R t = some v → a.tmps.getD t undef = v) → wpQuiet P ops (ClsH w0 H) K rest a
section
variable {P : Program} {w0 : World} {n : Nat} {d : List Deferred} {R : List (Nat × Value)} {H H' : List Ent} {Q : Exit → Act → World → Prop} {K : Act → Prop} {ops : Array Oper} {rest : List Oper} {o : Oper} {t : Tmp} {x y : Operand} {v : Value} {C : World → Prop}
theorem zIy {i : Nat} {a : Act} {K : Act → Prop} {K' : Act → World → Prop} {Q' : Exit → Act → World → Prop} {w : World} (hdf : ∀ o ∈ ops.toList, zD8 o = false) (hC : C w) (h : ∀ a w', C w' → K a → K' a w') (hh : qOp P ops C i K a) : wpOpIn (FW ro) 9 P ops Q' i K' a w := by
 unfold qOp at hh
 unfold wpOpIn
 split
 ·rename_i ho; simp only [ho] at hh; exact h _ _ hC hh
 ·rename_i o ho
  simp only [ho] at hh
  split
  ·rename_i hw; simp only [hw, if_true] at hh; exact opIn (hdf o (by have := Array.mem_of_getElem? ho; simpa using this)) (Oper.wp_of_quiet hC h hh)
  ·rename_i hw; simp only [hw] at hh; exact ⟨fun _ _ => trivial, h _ _ hC hh⟩
theorem zDz {Q : Act → Prop} {Q' : Exit → Act → World → Prop} (hdf : ∀ o ∈ ops.toList, zD8 o = false) (hQ : ∀ a w, C w → Q a → Q' .normal a w) : ∀ (fuel : Nat) (listed : Array Bool) (a : Act) (w : World), C w →
  wpAnyQ P .any ops C Q fuel listed a → wpAnyIn (FW ro) 9 P .any ops Q' fuel listed a w
 | 0, _, _, _, hw, h => ⟨h.1, hQ _ _ hw h.2⟩
 | fuel + 1, _, _, _, hw, h => ⟨fun h0 => hQ _ _ hw (h.1 h0), fun i hi => zIy hdf hw (fun a' w' hw' => zDz hdf hQ fuel _ a' w' hw') (h.2 i hi)⟩
theorem zBv {id : Nat} {l : List Oper} (hm : P.follows .mixedOrders = true) (hB : Region.lexB .any l.toArray = true) (hDf : (l.all fun o => !zD8 o) = true) (h : UQ P w0 n d R H l.toArray (fun a' => ∀ w', ClsH w0 H w' → Q .normal a' w') l) : U w0 n d R H ((Code.region id l.toArray true).wpI ro P Q) := fun a w q => by
 have h1 := h a q.size q.defers q.regs
 simp only [Region.lexB, Bool.and_eq_true] at hB
 have hC : ClsH w0 H { w with drawn := w.drawn + 1 } := ⟨⟨q.below.os, q.below.tape, q.below.output, q.below.size, q.below.block⟩, q.own.past (Nat.le_refl _) (fun _ _ _ _ => rfl)⟩
 refine wpIn_region_any hm (zDz (C := ClsH w0 H) (Q := fun a' => ∀ w', ClsH w0 H w' → Q .normal a' w') (fun o ho => by have := List.all_eq_true.1 hDf o (by simpa using ho); simpa using this) (fun _ w' hw' h => h w' hw') _ _ _ _ hC ?_)
 have := wpAnyQ_lex (C := ClsH w0 H) (md := .any) hB.1 l 0 (Array.replicate l.toArray.size false) a (by simp) (by simpa using hB.2) h1
 simpa using this
theorem zDj (h : U w0 n d R H (Q .normal)) : UQ P w0 n d R H ops (fun a' => ∀ w', ClsH w0 H w' → Q .normal a' w') [] := fun a h1 h2 h3 => wpQuiet_nil (fun w' hw => h a w' ⟨h1, h2, h3, hw.1, hw.2⟩)
theorem zIG {a : Act} (h1 : a.tmps.size = n) (h3 : ∀ t v, lk R t = some v → a.tmps.getD t undef = v) (ht : Nat.blt t n = true) : ∀ u x, lk ((t, v) :: R) u = some x → (a.put (some t) v).tmps.getD u undef = x := fun u x hx => by
 have hlt : t < a.tmps.size := by rw [h1]; exact Nat.le_of_ble_eq_true ht
 by_cases hu : t = u
 ·subst hu
  rw [zB3] at hx
  cases hx
  simp [Act.put, hlt]
 ·rw [zB2 hu] at hx
  have := h3 u x hx
  simp only [Act.put, Array.getD_eq_getD_getElem?] at this ⊢
  rw [Array.getElem?_setIfInBounds_ne hu]
  exact this
theorem zHl {a : Act} {b : Bool} (h3 : ∀ t v, lk R t = some v → a.tmps.getD t undef = v) (hw : want R ops o = some b) : Region.wanted o (yielded ops a.tmps) = b :=
 zAn (R := R) (H := []) (n := a.tmps.size) (d := a.defers) (w0 := (default : World)) (w := default) ⟨rfl, rfl, h3, Below.refl _ _, Own.nil _ _⟩ hw
theorem zl (he : Ev P w0 n d R H o v) (hw : want R ops o = some true) (hd : o.dst = some t) (ht : Nat.blt t n = true) (h : UQ P w0 n d ((t, v) :: R) H ops K rest) : UQ P w0 n d R H ops K (o :: rest) := fun a h1 h2 h3 =>
 wpQuiet_step fun K' hK => by
  rw [zHl h3 hw, if_pos rfl]
  refine ⟨v, fun w hC => ?_, ?_⟩
  ·unfold Oper.quietAt
   rw [he a w ⟨h1, h2, h3, hC.1, hC.2⟩]
   exact ⟨rfl, rfl⟩
  ·rw [hd]
   exact hK _ (h _ (by simp [Act.put, h1]) h2 (zIG h1 h3 ht))
theorem zDI (hw : want R ops o = some false) (hd : o.dst = some t) (ht : Nat.blt t n = true) (h : UQ P w0 n d ((t, undef) :: R) H ops K rest) : UQ P w0 n d R H ops K (o :: rest) := fun a h1 h2 h3 =>
 wpQuiet_step fun K' hK => by
  rw [zHl h3 hw, hd]
  simp only [Bool.false_eq_true, if_false]
  exact hK _ (h _ (by simp [Act.put, h1]) h2 (zIG h1 h3 ht))
theorem zHL {T1 T2 : TypeId} {c : BinOp} {k : IntKind} {i j : Int} (hop : o.op = .binOp c T1 x y T2) (hc : zHS c = true) (hw : want R ops o = some true) (hd : o.dst = some t) (ht : Nat.blt t n = true) (hx : evR R x = some (.int k i)) (hy : evR R y = some (.int k j))
  (h1 : cmpP c i j → UQ P w0 n d ((t, .bool true) :: R) H ops K rest) (h2 : ¬ cmpP c i j → UQ P w0 n d ((t, .bool false) :: R) H ops K rest) : UQ P w0 n d R H ops K (o :: rest) := by
 by_cases hp : cmpP c i j
 ·exact zl (fun a w q => zFE hc hop (q.ev hx) (q.ev hy) hp) hw hd ht (h1 hp)
 ·exact zl (fun a w q => zFF hc hop (q.ev hx) (q.ev hy) hp) hw hd ht (h2 hp)
theorem zFH {f : FuncId} {fx : Operand} {xs : Array Operand} {ts : Array TypeId} {vs : List Value} {cap : Array Value} (hop : o.op = .call ⟨.value fx, xs, ts⟩) (hw : want R ops o = some true) (hd : o.dst = some t) (ht : Nat.blt t n = true) (hf : evR R fx = some (.func (.func f) #[] cap)) (hx : evs R xs.toList = some vs) [ci : zS P f]
  (hc : ∀ a w, Kn w0 n d R H a w → Gv P f (vs ++ cap.toList) w v) (h : UQ P w0 n d ((t, v) :: R) H ops K rest) : UQ P w0 n d R H ops K (o :: rest) := fun a h1 h2 h3 =>
 wpQuiet_step fun K' hK => by
  rw [zHl h3 hw, if_pos rfl]
  refine ⟨v, fun w hC => ?_, ?_⟩
  ·have q : Kn w0 n d R H a w := ⟨h1, h2, h3, hC.1, hC.2⟩
   unfold Oper.quietAt execOp; rw [hop]
   have e1 : xs.map a.eval = vs.toArray := by apply Array.ext'; simpa using q.evs hx
   have e2 : vs.toArray ++ cap = (vs ++ cap.toList).toArray := by apply Array.ext'; simp
   simp only [resolve, q.ev hf, e1, Deferred.ofValue, Sem.run_bind, Sem.run_pure, Result.andThen_ok, invoke, Array.empty_append, e2, ci.ent]
   refine ⟨rfl, Calls.mono (hc a w q).ret.calls ?_⟩
   rintro e w' ⟨_, _, rfl, hb, _⟩
   exact ⟨rfl, q.below.trans (hb.mono q.base), q.own.below hb⟩
  ·rw [hd]
   exact hK _ (h _ (by simp [Act.put, h1]) h2 (zIG h1 h3 ht))
theorem zK6 {b : Bool} {f : FuncId} {fx : Operand} {xs : Array Operand} {ts : Array TypeId} {vs : List Value} {cap : Array Value} (hop : o.op = .call ⟨.value fx, xs, ts⟩) (hw : want R ops o = some true) (hd : o.dst = some t) (ht : Nat.blt t n = true) (hf : evR R fx = some (.func (.func f) #[] cap)) (hx : evs R xs.toList = some vs) [ci : zS P f]
  (hc : ∀ a w, Kn w0 n d R H a w → Gv P f (vs ++ cap.toList) w (.bool b)) (h1 : b = true → UQ P w0 n d ((t, .bool true) :: R) H ops K rest) (h2 : b = false → UQ P w0 n d ((t, .bool false) :: R) H ops K rest) : UQ P w0 n d R H ops K (o :: rest) := by
 cases b
 ·exact zFH hop hw hd ht hf hx hc (h2 rfl)
 ·exact zFH hop hw hd ht hf hx hc (h1 rfl)
theorem zCb (h : UQ P w0 n d R H ops K (o :: rest)) : UQ P w0 n d R H ops K (o :: rest) := h
end
end Go.Proofs.YtdigopgncfhiaaaGreatDoor
