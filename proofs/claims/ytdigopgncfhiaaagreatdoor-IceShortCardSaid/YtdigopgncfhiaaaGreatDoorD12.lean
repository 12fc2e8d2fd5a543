/- D12 -/
import Derived.Test.YtdigopgncfhiaaaGreatDoorD11
import Derived.Test.YtdigopgncfhiaaaGreatDoorD5
import Derived.Shelf.SlSortCmp.NoneTotal
import Derived.Shelf.SlicesG.Cmp
set_option linter.unusedSimpArgs false
set_option linter.unusedVariables false
namespace Go.Proofs.YtdigopgncfhiaaaGreatDoor
open Go.RowKit
set_option maxRecDepth 20000
def zHU (c : Cov) (pl : List Sli) (z : Bed) (i : Int) : List (Nat × Sp) := (List.range (c.hours.length + 1)).map fun h => (h, thickN c pl z i h)
def zE2 (x : Nat × Sp) : List Value := [.int .i64 (x.1 : Int), vSp x.2]
theorem zEK {c : Cov} {pl : List Sli} {z : Bed} {i : Int} : (zHU c pl z i).length = c.hours.length + 1 := by simp [zHU]
theorem zGW {c : Cov} {pl : List Sli} {z : Bed} {i : Int} {k : Nat} (h : k ≤ c.hours.length) : (zHU c pl z i)[k]? = some (k, thickN c pl z i k) := by
 simp only [zHU, List.getElem?_map, List.getElem?_range (show k < c.hours.length + 1 by omega), Option.map_some]
def zCF (c : Cov) (A : Option Addr) (ca : Nat) (B : Option Addr) (cb : Nat) (C : Option Addr) (cc : Nat) (pl : List Sli) (P : Option Addr) (cp g1 g2 g3 r : Nat) (i : Int) : List Ent :=
 [.blk g1 [.pointer (some ⟨r, 0, none⟩)], .blk g2 [.int .i64 i], .blk g3 [.slice P pl.length cp], .blk r (zM c A ca B cb C cc)]
set_option maxHeartbeats 4000000 in
theorem days_seq (c : Cov) (A : Option Addr) (ca : Nat) (B : Option Addr) (cb : Nat) (C : Option Addr) (cc : Nat) (pl : List Sli) (P : Option Addr) (cp i g1 g2 g3 r : Nat) (z : Bed) (wb : World) (h : zAq wb c A B C) (hs : Small c) (hf : zCf c) (hp : zBK wb P pl) (hrl : ∀ s ∈ pl, s.xs.length ≤ 20) (hpl : pl.length = c.hours.length) (hz : c.beds[i]? = some z) :
  Seq Tryz.prog 104 [.pointer (some ⟨g1, 0, none⟩), .pointer (some ⟨g2, 0, none⟩), .pointer (some ⟨g3, 0, none⟩)] (zCF c A ca B cb C cc pl P cp g1 g2 g3 r (i : Int)) zE2 (zHU c pl z i) wb := by
 intro ι l m I Cx go s0 w hwb hI0 hO hm hgo hend hround
 have h4 := hs.b; have h5 := hs.h
 have hb := h.b; have hpp := hp.p; have hh := h.h
 have hzm := List.mem_of_getElem? hz
 have hi := (List.getElem?_eq_some_iff.1 hz).1
 have hlay := hf.layer
 simp only [zBI] at hlay
 have hL := fun W (hW : Below wb.heap.size wb W) j u (hu : c.hours[j]? = some u) (hr : InC W r 0 (zM c A ca B cb C cc)) => zFS c A ca B cb C cc r i j z u W hr (h.below hW) hs hf hz hu
 obtain ⟨bb, o, rfl, hblt, hc⟩ := hb.at_ hi
 have : InS wb bb o zAx 3 c.beds := ⟨hb⟩
 have : zAQ c.beds i z := ⟨hz⟩
 have hh1 := hf.hours
 rw [zAJ] at hh1
 obtain ⟨b2, o2, rfl, hblt2, hc2⟩ := hpp.at_ (show 0 < pl.length by omega)
 have : InS wb b2 o2 zBN 1 pl := ⟨hpp⟩
 unfold vSp at hL
 rw [zEK] at hm hend
 have hround := fun k s W (hk : k < m) => hround k (k, thickN c pl z i k) s W hk (zGW (by omega))
 unfold zCF zE2 vSp at *
 unfold zM at *
 refine zIA (n := 83) hwb hO Tryz.func104 rfl rfl rfl ?_
 refine zEo (fun _ h => zBC.1 h) ?_
 simp only [List.cons_append, List.nil_append]
 (repeat' (first | (with_reducible first | refine zH ?_)))
 (refine zAo (by kernel_rfl) [[], [I0], [I0, I0], [I0, I0, I0], [I0, I0, I0, I0], [O0, O0, O0, O0, O0], [I0, I0, I0, I0, I0, I0], [I0, I0, I0, I0, I0, I0, I0], [I0, I0, I0, I0, I0, I0, I0, I0], [O0, O0, O0, O0, O0, O0, O0, O0, O0], [I0, I0, I0, I0, I0, I0, I0, I0, I0, I0]] (by kernel_rfl) (by kernel_rfl) (by kernel_rfl) ?_)
 (repeat' (first | (((with_reducible refine zC6 ?_ ?_); (· exact rfl); refine ⟨_, fun G => (by (try simp only [fltT, zw, List.nil_append, List.cons_append]); rfl), ?_⟩); first | refine za _ (fun _ => zAH rfl rfl (by exact rfl)) (fun _ => rfl) rfl (by first | exact fun _ _ _ => rfl | (intro G G' h; simp (decide := true) only [h])) ?_ | (refine zAU rfl ?_; refine za _ (fun _ => zAY rfl rfl) (fun _ => rfl) rfl (by first | exact fun _ _ _ => rfl | (intro G G' h; simp (decide := true) only [h])) ?_) | refine za _ (fun _ => zAt (I := i) rfl rfl rfl rfl (by omega)) (fun _ => rfl) rfl (by exact fun _ _ _ => rfl) ?_ | refine za _ (fun _ => zAc rfl rfl) (fun _ => rfl) rfl (by first | exact fun _ _ _ => rfl | (intro G G' h; simp (decide := true) only [h])) ?_ | refine zGZ rfl (fun _ => rfl) rfl ?_) | ((with_reducible refine zBp ?_ ?_); (· exact rfl))))
 (intro G; simp only [regsT, zw, Pend.zBS, List.nil_append, List.cons_append])
 (repeat' (first | ((with_reducible refine zG ?_); first | refine zE rfl rfl rfl rfl rfl ?_ | (refine zJ rfl rfl rfl rfl rfl ?_; refine ⟨_, rfl, ?_⟩) | refine zd rfl rfl rfl rfl rfl ?_ | refine zr rfl rfl rfl rfl rfl ?_ | (refine zj rfl rfl rfl rfl rfl ?_; refine And.intro rfl (And.intro (by first | decide | exact Nat.le_of_ble_eq_true rfl | (simp; omega)) ⟨_, rfl, ?_⟩)) | refine zA9 rfl rfl rfl rfl rfl ?_) | (with_reducible first | refine zH ?_ | refine zB ?_ | refine zD ?_ | refine zA ?_ | refine zQ ?_)))
 simp only [Nat.zero_add, Nat.reduceAdd]
 generalize (G 9).g = bt
 have hm0 : 0 < m := by omega
 refine zq (ι := Nat × ι) [0, 1, 2, 3, 5, 22] rfl (fun q => q.1 ≤ c.hours.length ∧ q.1 < m ∧ I q.1 q.2) (fun q => [(23, .int .i64 (q.1 : Int))]) (fun q => .blk bt (zA3 (thickN c pl z i q.1)) :: (zCF c A ca (some ⟨bb, o, none⟩) cb C cc pl (some ⟨b2, o2, none⟩) cp g1 g2 g3 r (i : Int) ++ [.all (Cx q.2), .oldx w wb.heap.size (feet (zCF c A ca (some ⟨bb, o, none⟩) cb C cc pl (some ⟨b2, o2, none⟩) cp g1 g2 g3 r (i : Int) ++ Cx s0))])) (fun q => c.hours.length - q.1) (0, s0) ⟨Nat.zero_le _, hm0, hI0⟩ (by (first | exact lK1 | (repeat (first | exact lK1 | (refine zK rfl ?_))))) (by (repeat (first | exact oK1 _ | (refine oK2 (by (repeat (first | exact tK1 _ _ | apply tK2))) ?_)))) ?_
 rintro ⟨k, s⟩ ⟨hk, hkm, hIk⟩
 simp only at hk hkm hIk
 have hY := fun W => hround k s W hkm hIk
 clear hround
 simp only [zAw, zCF, zM, List.cons_append, List.nil_append]
 by_cases hlt : k < c.hours.length
 ·obtain ⟨u, hu⟩ : ∃ u, c.hours[k]? = some u := ⟨_, List.getElem?_eq_getElem (by omega)⟩
  obtain ⟨sl, hsk⟩ : ∃ s, pl[k]? = some s := ⟨_, List.getElem?_eq_getElem (by omega)⟩
  have hsm := List.mem_of_getElem? hsk
  have hrow := hp.rows sl hsm
  have hsl := hrl sl hsm
  have hin := zF8 (pl := pl) (i := i) hf hzm k (by omega)
  have hlin := zD5 hf hzm (List.mem_of_getElem? hu)
  have e1 : thickN c pl z i (k + 1) = layered c (sl.xs.contains (i : Int)) (thinned (thickN c pl z i k) (zBm c z u)) := by simp only [thickN, zAv hu, zAv hsk]
  generalize thickN c pl z i k = t at *
  have hL := fun W hW => hL W hW k u hu
  generalize zBm c z u = lo at *
  obtain ⟨sA, xs, sc⟩ := sl
  simp only at hrow hsl e1
  have hH := fun W (hW : Below wb.heap.size wb W) => zGX xs (i : Int) sA sc W (hrow.below hW) (by omega)
  have : zAQ pl k ⟨sA, xs, sc⟩ := ⟨hsk⟩
  generalize xs.contains (i : Int) = on at *
  cases hgk : go k
  ·simp only [hgk] at hY
   unfold zA3
   (repeat' (first | ((with_reducible refine zG ?_); first | refine zE rfl rfl rfl rfl rfl ?_ | refine zC rfl rfl rfl rfl rfl ?_ | (refine zJ rfl rfl rfl rfl rfl ?_; refine ⟨_, rfl, ?_⟩) | (refine zR rfl rfl rfl rfl rfl rfl rfl (fun h => ?_) (fun h => ?_) <;> (dsimp only [cmpP] at h; (try (exfalso; omega)))) | (refine zE7 (D := zCF c A ca (some ⟨bb, o, none⟩) cb C cc pl (some ⟨b2, o2, none⟩) cp g1 g2 g3 r (i : Int)) (L := Cx s) (C := Cx) (p := I (k + 1)) (go := false) rfl rfl rfl rfl rfl rfl [.blk bt (zA3 t), .oldx w wb.heap.size (feet (zCF c A ca (some ⟨bb, o, none⟩) cb C cc pl (some ⟨b2, o2, none⟩) cp g1 g2 g3 r (i : Int) ++ Cx s0))] (by (repeat (first | exact oK1 _ | (refine oK2 (by (repeat (first | exact tK1 _ _ | apply tK2))) ?_)))) (fun _ W q => hY W q.below (Own.append.1 (zBC.2 q.own)).1) ?_; rintro s' hs'; simp only [zCF, zM, List.cons_append, List.nil_append]) | refine zAe rfl rfl rfl rfl rfl ?_) | (with_reducible first | refine zH ?_ | refine zB ?_ | refine zD ?_ | refine zA ?_ | refine zX ?_ | refine zU ?_ | refine zZ ?_ | refine zQ ?_ | refine zAi ?_) | ((with_reducible refine zI ?_ ?_); (· exact rfl))))
   have hmk : m = k + 1 := by
    rcases Nat.lt_or_ge (k + 1) m with h9 | h9
    ·have := hgo k h9; rw [hgk] at this; cases this
    ·omega
   exact zHe (vs := []) zP.nil s' (hmk ▸ hs') rfl hwb (fun W9 h => zBC.2 (show Own wb.heap.size W9 (zCF c A ca (some ⟨bb, o, none⟩) cb C cc pl (some ⟨b2, o2, none⟩) cp g1 g2 g3 r (i : Int) ++ .all (Cx s') :: [.oldx w wb.heap.size (feet (zCF c A ca (some ⟨bb, o, none⟩) cb C cc pl (some ⟨b2, o2, none⟩) cp g1 g2 g3 r (i : Int) ++ Cx s0))]) from h.sub (by (repeat (first | exact oK1 _ | (refine oK2 (by (repeat (first | exact tK1 _ _ | apply tK2))) ?_))))))
  ·simp only [hgk] at hY
   have hmk : k + 1 < m := by
    rcases hend with h9 | ⟨h9, h10⟩
    ·omega
    ·rcases Nat.lt_or_ge (k + 1) m with h11 | h11
     ·exact h11
     ·have : m - 1 = k := by omega
      rw [this, hgk] at h10; cases h10
   unfold zA3
   (repeat' (first | ((with_reducible refine zG ?_); first | refine zE rfl rfl rfl rfl rfl ?_ | refine zC rfl rfl rfl rfl rfl ?_ | (refine zJ rfl rfl rfl rfl rfl ?_; refine ⟨_, rfl, ?_⟩) | refine zd rfl rfl rfl rfl rfl ?_ | (refine zR rfl rfl rfl rfl rfl rfl rfl (fun h => ?_) (fun h => ?_) <;> (dsimp only [cmpP] at h; (try (exfalso; omega)))) | (refine zE7 (D := zCF c A ca (some ⟨bb, o, none⟩) cb C cc pl (some ⟨b2, o2, none⟩) cp g1 g2 g3 r (i : Int)) (L := Cx s) (C := Cx) (p := I (k + 1)) (go := true) rfl rfl rfl rfl rfl rfl [.blk bt (zA3 t), .oldx w wb.heap.size (feet (zCF c A ca (some ⟨bb, o, none⟩) cb C cc pl (some ⟨b2, o2, none⟩) cp g1 g2 g3 r (i : Int) ++ Cx s0))] (by (repeat (first | exact oK1 _ | (refine oK2 (by (repeat (first | exact tK1 _ _ | apply tK2))) ?_)))) (fun _ W q => hY W q.below (Own.append.1 (zBC.2 q.own)).1) ?_; rintro s' hs'; simp only [zCF, zM, List.cons_append, List.nil_append]; unfold zA3) | refine zY rfl rfl rfl rfl rfl rfl (fun _ _ q => hL _ q.below (zBG q.own (Below.refl _ _) rfl)) ?_ | refine zAe rfl rfl rfl rfl rfl ?_ | refine zCC rfl rfl rfl rfl rfl rfl (IntWalk.i64_in _ (by omega)) ?_ | (refine zj rfl rfl rfl rfl rfl ?_; refine And.intro rfl (And.intro (by first | decide | exact Nat.le_of_ble_eq_true rfl | (simp; omega)) ⟨_, rfl, ?_⟩)) | (refine zt rfl rfl rfl rfl (fun b => ?_)) | (refine zA4 rfl rfl rfl rfl rfl ?_; refine ⟨_, rfl, ?_⟩) | refine zJD rfl rfl rfl rfl rfl rfl ?_) | (with_reducible first | refine zH ?_ | refine zB ?_ | refine zD ?_ | refine zA ?_ | refine zU ?_ | refine zQ ?_) | ((with_reducible refine zI ?_ ?_); (· exact rfl)) | ((with_reducible refine zF ?_ ?_); (· exact rfl))))
   (refine zBv (by kernel_rfl) (by kernel_rfl) (by kernel_rfl) ?_)
   (repeat' (first | ((with_reducible refine zCb ?_); first | refine zl (zAm rfl rfl) rfl rfl rfl ?_ | refine zl (zAH rfl rfl (by exact rfl)) rfl rfl rfl ?_ | refine zl (zAt (I := k) rfl rfl rfl (by omega) (by first | omega | (dsimp only; omega))) rfl rfl rfl ?_ | (refine zK6 rfl rfl rfl rfl rfl rfl (fun _ _ q => hH _ q.below) (fun h => ?_) (fun h => ?_))) | (with_reducible refine zDj ?_)))
   ·(repeat' (first | (with_reducible first | refine zA ?_) | ((with_reducible refine zI ?_ ?_); (· exact rfl))))
    (refine zAo (by kernel_rfl) [[], [I0], [O0, O0], [I0, O0, O0], [I0, I0, O0, O0], [I0, I0, I0, O0, O0], [I0, I0, I0, I0, O0, O0], [I0, I0, I0, I0, I0, O0, O0], [I0, I0, I0, I0, I0, I0, I0, I0], [O0, O0, O0, O0, O0, O0, O0, O0, O0], [I0, O0, O0, O0, O0, O0, O0, O0, O0, O0], [O0, O0, O0, O0, O0, O0, O0, O0, O0, O0, O0], [I0, O0, O0, O0, O0, O0, O0, O0, O0, O0, O0, O0], [I0, I0, O0, O0, O0, O0, O0, O0, O0, O0, O0, O0, O0], [I0, I0, I0, O0, O0, O0, O0, O0, O0, O0, O0, O0, O0, O0], [I0, I0, I0, I0, O0, O0, O0, O0, O0, O0, O0, O0, O0, O0, O0], [I0, I0, I0, I0, I0, O0, O0, O0, O0, O0, O0, O0, O0, O0, O0, O0], [I0, I0, I0, I0, I0, I0, I0, I0, O0, O0, O0, O0, O0, O0, O0, O0, O0], [I0, I0, I0, I0, I0, I0, I0, I0, I0, I0, I0, I0, I0, I0, I0, I0, I0, I0], [I0, I0, I0, I0, I0, I0, I0, I0, I0, I0, I0, I0, I0, I0, I0, I0, I0, I0, I0]] (by kernel_rfl) (by kernel_rfl) (by kernel_rfl) ?_)
    (repeat' (first | (((with_reducible refine zC6 ?_ ?_); (· exact rfl); refine ⟨_, fun G => (by (try simp only [fltT, zw, List.nil_append, List.cons_append]); rfl), ?_⟩); first | refine za _ (fun _ => zAH rfl rfl (by exact rfl)) (fun _ => rfl) rfl (by first | exact fun _ _ _ => rfl | (intro G G' h; simp (decide := true) only [h])) ?_ | (refine zAU rfl ?_; refine za _ (fun _ => zAY rfl rfl) (fun _ => rfl) rfl (by first | exact fun _ _ _ => rfl | (intro G G' h; simp (decide := true) only [h])) ?_) | refine za _ (fun _ => zLn rfl rfl rfl (IntWalk.i64_in _ (by omega))) (fun _ => rfl) rfl (by first | exact fun _ _ _ => rfl | (intro G G' h; simp (decide := true) only [h])) ?_ | refine za _ (fun _ => zAc rfl rfl) (fun _ => rfl) rfl (by first | exact fun _ _ _ => rfl | (intro G G' h; simp (decide := true) only [h])) ?_ | refine za _ (fun _ => zDa rfl rfl (by exact rfl)) (fun _ => rfl) rfl (by first | exact fun _ _ _ => rfl | (intro G G' h; simp (decide := true) only [h])) ?_) | ((with_reducible refine zBp ?_ ?_); (· exact rfl))))
    (intro G; simp only [regsT, zw, Pend.zBS, List.nil_append, List.cons_append])
    (repeat' (first | ((with_reducible refine zG ?_); first | refine zE rfl rfl rfl rfl rfl ?_ | refine zg rfl rfl rfl rfl rfl rfl (by omega) ?_ | (refine zj rfl rfl rfl rfl rfl ?_; refine And.intro rfl (And.intro (by first | decide | exact Nat.le_of_ble_eq_true rfl | (simp; omega)) ⟨_, rfl, ?_⟩))) | (with_reducible first | refine zB ?_ | refine zD ?_ | refine zA ?_ | refine zi ?_)))
    exact ze (k + 1, s') ⟨by omega, hmk, hs'⟩ (by simp only; omega) (by (first | exact lK1 | (repeat (first | exact lK1 | (refine zK rfl ?_))))) (by
     dsimp only
     rw [e1]
     subst h
     simp only [layered, thinned, if_true, if_false, Bool.false_eq_true]
     (repeat (first | exact oK1 _ | (refine oK2 (by (repeat (first | exact tK1 _ _ | apply tK2))) ?_))))
   ·(repeat' (first | ((with_reducible refine zG ?_); first | refine zE rfl rfl rfl rfl rfl ?_ | refine zg rfl rfl rfl rfl rfl rfl (by omega) ?_) | (with_reducible first | refine zB ?_ | refine zD ?_ | refine zA ?_ | refine zU ?_ | refine zi ?_) | ((with_reducible refine zF ?_ ?_); (· exact rfl))))
    exact ze (k + 1, s') ⟨by omega, hmk, hs'⟩ (by simp only; omega) (by (first | exact lK1 | (repeat (first | exact lK1 | (refine zK rfl ?_))))) (by
     dsimp only
     rw [e1]
     subst h
     simp only [layered, thinned, if_true, if_false, Bool.false_eq_true]
     (repeat (first | exact oK1 _ | (refine oK2 (by (repeat (first | exact tK1 _ _ | apply tK2))) ?_))))
 ·obtain rfl : k = c.hours.length := by omega
  (repeat' (first | ((with_reducible refine zG ?_); first | (refine zR rfl rfl rfl rfl rfl rfl rfl (fun h => ?_) (fun h => ?_) <;> (dsimp only [cmpP] at h; (try (exfalso; omega))))) | (with_reducible first | refine zH ?_ | refine zB ?_ | refine zD ?_ | refine zA ?_ | refine zk ?_ | refine zT ?_ | refine zW ?_) | ((with_reducible refine zF ?_ ?_); (· exact rfl))))
  (refine zAo (by kernel_rfl) [[], [O0], [I0, O0], [I0, I0, O0], [I0, I0, I0, O0], [I0, I0, I0, I0, O0], [I0, I0, I0, I0, I0, O0], [O0, O0, O0, O0, O0, O0, O0], [I0, I0, I0, I0, I0, I0, I0, I0]] (by kernel_rfl) (by kernel_rfl) (by kernel_rfl) ?_)
  (repeat' (first | (((with_reducible refine zC6 ?_ ?_); (· exact rfl); refine ⟨_, fun G => (by (try simp only [fltT, zw, List.nil_append, List.cons_append]); rfl), ?_⟩); first | refine za _ (fun _ => zAm rfl rfl) (fun _ => rfl) rfl (by first | exact fun _ _ _ => rfl | (intro G G' h; simp (decide := true) only [h])) ?_ | refine za _ (fun _ => zAH rfl rfl (by exact rfl)) (fun _ => rfl) rfl (by first | exact fun _ _ _ => rfl | (intro G G' h; simp (decide := true) only [h])) ?_ | (refine zAU rfl ?_; refine za _ (fun _ => zAY rfl rfl) (fun _ => rfl) rfl (by first | exact fun _ _ _ => rfl | (intro G G' h; simp (decide := true) only [h])) ?_) | refine za _ (fun _ => zEI rfl rfl) (fun _ => rfl) rfl (by first | exact fun _ _ _ => rfl | (intro G G' h; simp (decide := true) only [h])) ?_ | refine za _ (fun _ => zAc rfl rfl) (fun _ => rfl) rfl (by first | exact fun _ _ _ => rfl | (intro G G' h; simp (decide := true) only [h])) ?_) | ((with_reducible refine zBp ?_ ?_); (· exact rfl))))
  (intro G; simp only [regsT, zw, Pend.zBS, List.nil_append, List.cons_append])
  unfold zA3
  (repeat' (first | ((with_reducible refine zG ?_); first | (refine zE7 (D := zCF c A ca (some ⟨bb, o, none⟩) cb C cc pl (some ⟨b2, o2, none⟩) cp g1 g2 g3 r (i : Int)) (L := Cx s) (C := Cx) (p := I (c.hours.length + 1)) (go := go c.hours.length) rfl rfl rfl rfl rfl rfl [.blk bt (zA3 (thickN c pl z i c.hours.length)), .oldx w wb.heap.size (feet (zCF c A ca (some ⟨bb, o, none⟩) cb C cc pl (some ⟨b2, o2, none⟩) cp g1 g2 g3 r (i : Int) ++ Cx s0))] (by (repeat (first | exact oK1 _ | (refine oK2 (by (repeat (first | exact tK1 _ _ | apply tK2))) ?_)))) (fun _ W q => hY W q.below (Own.append.1 (zBC.2 q.own)).1) ?_; rintro s' hs'; simp only [zCF, zM, List.cons_append, List.nil_append])) | (with_reducible first | refine zD ?_)))
  refine u_endG ?_
  have hmk : m = c.hours.length + 1 := by omega
  exact zHe (vs := []) zP.nil s' (hmk ▸ hs') rfl hwb (fun W9 h => zBC.2 (show Own wb.heap.size W9 (zCF c A ca (some ⟨bb, o, none⟩) cb C cc pl (some ⟨b2, o2, none⟩) cp g1 g2 g3 r (i : Int) ++ .all (Cx s') :: [.oldx w wb.heap.size (feet (zCF c A ca (some ⟨bb, o, none⟩) cb C cc pl (some ⟨b2, o2, none⟩) cp g1 g2 g3 r (i : Int) ++ Cx s0))]) from h.sub (by (repeat (first | exact oK1 _ | (refine oK2 (by (repeat (first | exact tK1 _ _ | apply tK2))) ?_))))))
def zCE (c : Cov) (A : Option Addr) (ca : Nat) (B : Option Addr) (cb : Nat) (C : Option Addr) (cc : Nat) (pl : List Sli) (P : Option Addr) (cp g1 g2 g3 r : Nat) (i : Int) : List Ent :=
 [.blk g1 [.pointer (some ⟨r, 0, none⟩)], .blk g2 [.int .i64 i], .blk g3 [.slice P pl.length cp]]
set_option maxHeartbeats 4000000 in
theorem zOW (c : Cov) (A : Option Addr) (ca : Nat) (B : Option Addr) (cb : Nat) (C : Option Addr) (cc : Nat) (pl : List Sli) (P : Option Addr) (cp i g1 g2 g3 r : Nat) (z : Bed) (wb : World) (hr : InC wb r 0 (zM c A ca B cb C cc)) (h : zAq wb c A B C) (hs : Small c) (hf : zCf c) (hp : zBK wb P pl) (hrl : ∀ s ∈ pl, s.xs.length ≤ 20) (hpl : pl.length = c.hours.length) (hz : c.beds[i]? = some z) :
  Seq Tryz.prog 104 [.pointer (some ⟨g1, 0, none⟩), .pointer (some ⟨g2, 0, none⟩), .pointer (some ⟨g3, 0, none⟩)] (zCE c A ca B cb C cc pl P cp g1 g2 g3 r (i : Int)) zE2 (zHU c pl z i) wb := by
 intro ι l m I Cx go s0 w hwb hI0 hO hm hgo hend hround
 have h4 := hs.b; have h5 := hs.h
 have hb := h.b; have hpp := hp.p; have hh := h.h
 have hzm := List.mem_of_getElem? hz
 have hi := (List.getElem?_eq_some_iff.1 hz).1
 have hlay := hf.layer
 simp only [zBI] at hlay
 have hL := fun W (hW : Below wb.heap.size wb W) j u (hu : c.hours[j]? = some u) (hr : InC W r 0 (zM c A ca B cb C cc)) => zFS c A ca B cb C cc r i j z u W hr (h.below hW) hs hf hz hu
 obtain ⟨bb, o, rfl, hblt, hc⟩ := hb.at_ hi
 have : InS wb bb o zAx 3 c.beds := ⟨hb⟩
 have : zAQ c.beds i z := ⟨hz⟩
 have hh1 := hf.hours
 rw [zAJ] at hh1
 obtain ⟨b2, o2, rfl, hblt2, hc2⟩ := hpp.at_ (show 0 < pl.length by omega)
 have : InS wb b2 o2 zBN 1 pl := ⟨hpp⟩
 unfold vSp at hL
 rw [zEK] at hm hend
 have hround := fun k s W (hk : k < m) => hround k (k, thickN c pl z i k) s W hk (zGW (by omega))
 unfold zCE zE2 vSp at *
 unfold zM at *
 refine zIA (n := 83) hwb hO Tryz.func104 rfl rfl rfl ?_
 refine zEo (fun _ h => zBC.1 h) ?_
 simp only [List.cons_append, List.nil_append]
 (repeat' (first | (with_reducible first | refine zH ?_)))
 (refine zAo (by kernel_rfl) [[], [I0], [I0, I0], [I0, I0, I0], [I0, I0, I0, I0], [O0, O0, O0, O0, O0], [I0, I0, I0, I0, I0, I0], [I0, I0, I0, I0, I0, I0, I0], [I0, I0, I0, I0, I0, I0, I0, I0], [O0, O0, O0, O0, O0, O0, O0, O0, O0], [I0, I0, I0, I0, I0, I0, I0, I0, I0, I0]] (by kernel_rfl) (by kernel_rfl) (by kernel_rfl) ?_)
 (repeat' (first | (((with_reducible refine zC6 ?_ ?_); (· exact rfl); refine ⟨_, fun G => (by (try simp only [fltT, zw, List.nil_append, List.cons_append]); rfl), ?_⟩); first | refine za _ (fun _ => zAH rfl rfl (by exact rfl)) (fun _ => rfl) rfl (by first | exact fun _ _ _ => rfl | (intro G G' h; simp (decide := true) only [h])) ?_ | (refine zAU rfl ?_; refine za _ (fun _ => zAY rfl rfl) (fun _ => rfl) rfl (by first | exact fun _ _ _ => rfl | (intro G G' h; simp (decide := true) only [h])) ?_) | refine za _ (fun _ => zAt (I := i) rfl rfl rfl rfl (by omega)) (fun _ => rfl) rfl (by exact fun _ _ _ => rfl) ?_ | refine za _ (fun _ => zAc rfl rfl) (fun _ => rfl) rfl (by first | exact fun _ _ _ => rfl | (intro G G' h; simp (decide := true) only [h])) ?_ | refine zGZ rfl (fun _ => rfl) rfl ?_) | ((with_reducible refine zBp ?_ ?_); (· exact rfl))))
 (intro G; simp only [regsT, zw, Pend.zBS, List.nil_append, List.cons_append])
 (repeat' (first | ((with_reducible refine zG ?_); first | refine zE rfl rfl rfl rfl rfl ?_ | (refine zJ rfl rfl rfl rfl rfl ?_; refine ⟨_, rfl, ?_⟩) | refine zd rfl rfl rfl rfl rfl ?_ | refine zr rfl rfl rfl rfl rfl ?_ | (refine zj rfl rfl rfl rfl rfl ?_; refine And.intro rfl (And.intro (by first | decide | exact Nat.le_of_ble_eq_true rfl | (simp; omega)) ⟨_, rfl, ?_⟩)) | refine zA9 rfl rfl rfl rfl rfl ?_) | (with_reducible first | refine zH ?_ | refine zB ?_ | refine zD ?_ | refine zA ?_ | refine zQ ?_)))
 simp only [Nat.zero_add, Nat.reduceAdd]
 generalize (G 9).g = bt
 have hm0 : 0 < m := by omega
 refine zq (ι := Nat × ι) [0, 1, 2, 3, 5, 22] rfl (fun q => q.1 ≤ c.hours.length ∧ q.1 < m ∧ I q.1 q.2) (fun q => [(23, .int .i64 (q.1 : Int))]) (fun q => .blk bt (zA3 (thickN c pl z i q.1)) :: (zCE c A ca (some ⟨bb, o, none⟩) cb C cc pl (some ⟨b2, o2, none⟩) cp g1 g2 g3 r (i : Int) ++ [.all (Cx q.2), .oldx w wb.heap.size (feet (zCE c A ca (some ⟨bb, o, none⟩) cb C cc pl (some ⟨b2, o2, none⟩) cp g1 g2 g3 r (i : Int) ++ Cx s0))])) (fun q => c.hours.length - q.1) (0, s0) ⟨Nat.zero_le _, hm0, hI0⟩ (by (first | exact lK1 | (repeat (first | exact lK1 | (refine zK rfl ?_))))) (by (repeat (first | exact oK1 _ | (refine oK2 (by (repeat (first | exact tK1 _ _ | apply tK2))) ?_)))) ?_
 rintro ⟨k, s⟩ ⟨hk, hkm, hIk⟩
 simp only at hk hkm hIk
 have hY := fun W => hround k s W hkm hIk
 clear hround
 simp only [zAw, zCE, zM, List.cons_append, List.nil_append]
 by_cases hlt : k < c.hours.length
 ·obtain ⟨u, hu⟩ : ∃ u, c.hours[k]? = some u := ⟨_, List.getElem?_eq_getElem (by omega)⟩
  obtain ⟨sl, hsk⟩ : ∃ s, pl[k]? = some s := ⟨_, List.getElem?_eq_getElem (by omega)⟩
  have hsm := List.mem_of_getElem? hsk
  have hrow := hp.rows sl hsm
  have hsl := hrl sl hsm
  have hin := zF8 (pl := pl) (i := i) hf hzm k (by omega)
  have hlin := zD5 hf hzm (List.mem_of_getElem? hu)
  have e1 : thickN c pl z i (k + 1) = layered c (sl.xs.contains (i : Int)) (thinned (thickN c pl z i k) (zBm c z u)) := by simp only [thickN, zAv hu, zAv hsk]
  generalize thickN c pl z i k = t at *
  have hL := fun W hW => hL W hW k u hu
  generalize zBm c z u = lo at *
  obtain ⟨sA, xs, sc⟩ := sl
  simp only at hrow hsl e1
  have hH := fun W (hW : Below wb.heap.size wb W) => zGX xs (i : Int) sA sc W (hrow.below hW) (by omega)
  have : zAQ pl k ⟨sA, xs, sc⟩ := ⟨hsk⟩
  generalize xs.contains (i : Int) = on at *
  cases hgk : go k
  ·simp only [hgk] at hY
   unfold zA3
   (repeat' (first | ((with_reducible refine zG ?_); first | refine zE rfl rfl rfl rfl rfl ?_ | refine zC rfl rfl rfl rfl rfl ?_ | (refine zJ rfl rfl rfl rfl rfl ?_; refine ⟨_, rfl, ?_⟩) | (refine zR rfl rfl rfl rfl rfl rfl rfl (fun h => ?_) (fun h => ?_) <;> (dsimp only [cmpP] at h; (try (exfalso; omega)))) | (refine zE7 (D := zCE c A ca (some ⟨bb, o, none⟩) cb C cc pl (some ⟨b2, o2, none⟩) cp g1 g2 g3 r (i : Int)) (L := Cx s) (C := Cx) (p := I (k + 1)) (go := false) rfl rfl rfl rfl rfl rfl [.blk bt (zA3 t), .oldx w wb.heap.size (feet (zCE c A ca (some ⟨bb, o, none⟩) cb C cc pl (some ⟨b2, o2, none⟩) cp g1 g2 g3 r (i : Int) ++ Cx s0))] (by (repeat (first | exact oK1 _ | (refine oK2 (by (repeat (first | exact tK1 _ _ | apply tK2))) ?_)))) (fun _ W q => hY W q.below (Own.append.1 (zBC.2 q.own)).1) ?_; rintro s' hs'; simp only [zCE, zM, List.cons_append, List.nil_append]) | refine zAe rfl rfl rfl rfl rfl ?_) | (with_reducible first | refine zH ?_ | refine zB ?_ | refine zD ?_ | refine zA ?_ | refine zX ?_ | refine zU ?_ | refine zZ ?_ | refine zQ ?_ | refine zAi ?_) | ((with_reducible refine zI ?_ ?_); (· exact rfl))))
   have hmk : m = k + 1 := by
    rcases Nat.lt_or_ge (k + 1) m with h9 | h9
    ·have := hgo k h9; rw [hgk] at this; cases this
    ·omega
   exact zHe (vs := []) zP.nil s' (hmk ▸ hs') rfl hwb (fun W9 h => zBC.2 (show Own wb.heap.size W9 (zCE c A ca (some ⟨bb, o, none⟩) cb C cc pl (some ⟨b2, o2, none⟩) cp g1 g2 g3 r (i : Int) ++ .all (Cx s') :: [.oldx w wb.heap.size (feet (zCE c A ca (some ⟨bb, o, none⟩) cb C cc pl (some ⟨b2, o2, none⟩) cp g1 g2 g3 r (i : Int) ++ Cx s0))]) from h.sub (by (repeat (first | exact oK1 _ | (refine oK2 (by (repeat (first | exact tK1 _ _ | apply tK2))) ?_))))))
  ·simp only [hgk] at hY
   have hmk : k + 1 < m := by
    rcases hend with h9 | ⟨h9, h10⟩
    ·omega
    ·rcases Nat.lt_or_ge (k + 1) m with h11 | h11
     ·exact h11
     ·have : m - 1 = k := by omega
      rw [this, hgk] at h10; cases h10
   unfold zA3
   (repeat' (first | ((with_reducible refine zG ?_); first | refine zE rfl rfl rfl rfl rfl ?_ | refine zC rfl rfl rfl rfl rfl ?_ | (refine zJ rfl rfl rfl rfl rfl ?_; refine ⟨_, rfl, ?_⟩) | refine zd rfl rfl rfl rfl rfl ?_ | (refine zR rfl rfl rfl rfl rfl rfl rfl (fun h => ?_) (fun h => ?_) <;> (dsimp only [cmpP] at h; (try (exfalso; omega)))) | (refine zE7 (D := zCE c A ca (some ⟨bb, o, none⟩) cb C cc pl (some ⟨b2, o2, none⟩) cp g1 g2 g3 r (i : Int)) (L := Cx s) (C := Cx) (p := I (k + 1)) (go := true) rfl rfl rfl rfl rfl rfl [.blk bt (zA3 t), .oldx w wb.heap.size (feet (zCE c A ca (some ⟨bb, o, none⟩) cb C cc pl (some ⟨b2, o2, none⟩) cp g1 g2 g3 r (i : Int) ++ Cx s0))] (by (repeat (first | exact oK1 _ | (refine oK2 (by (repeat (first | exact tK1 _ _ | apply tK2))) ?_)))) (fun _ W q => hY W q.below (Own.append.1 (zBC.2 q.own)).1) ?_; rintro s' hs'; simp only [zCE, zM, List.cons_append, List.nil_append]; unfold zA3) | refine zY rfl rfl rfl rfl rfl rfl (fun _ _ q => hL _ q.below (hr.below q.below)) ?_ | refine zAe rfl rfl rfl rfl rfl ?_ | refine zCC rfl rfl rfl rfl rfl rfl (IntWalk.i64_in _ (by omega)) ?_ | (refine zj rfl rfl rfl rfl rfl ?_; refine And.intro rfl (And.intro (by first | decide | exact Nat.le_of_ble_eq_true rfl | (simp; omega)) ⟨_, rfl, ?_⟩)) | (refine zt rfl rfl rfl rfl (fun b => ?_)) | (refine zA4 rfl rfl rfl rfl rfl ?_; refine ⟨_, rfl, ?_⟩) | refine zJD rfl rfl rfl rfl rfl rfl ?_) | (with_reducible first | refine zH ?_ | refine zB ?_ | refine zD ?_ | refine zA ?_ | refine zU ?_ | refine zQ ?_) | ((with_reducible refine zI ?_ ?_); (· exact rfl)) | ((with_reducible refine zF ?_ ?_); (· exact rfl))))
   (refine zBv (by kernel_rfl) (by kernel_rfl) (by kernel_rfl) ?_)
   (repeat' (first | ((with_reducible refine zCb ?_); first | refine zl (zAm rfl rfl) rfl rfl rfl ?_ | refine zl (zAH rfl rfl (by exact rfl)) rfl rfl rfl ?_ | refine zl (zAt (I := k) rfl rfl rfl (by omega) (by first | omega | (dsimp only; omega))) rfl rfl rfl ?_ | (refine zK6 rfl rfl rfl rfl rfl rfl (fun _ _ q => hH _ q.below) (fun h => ?_) (fun h => ?_))) | (with_reducible refine zDj ?_)))
   ·(repeat' (first | (with_reducible first | refine zA ?_) | ((with_reducible refine zI ?_ ?_); (· exact rfl))))
    (refine zAo (by kernel_rfl) [[], [I0], [O0, O0], [I0, O0, O0], [I0, I0, O0, O0], [I0, I0, I0, O0, O0], [I0, I0, I0, I0, O0, O0], [I0, I0, I0, I0, I0, O0, O0], [I0, I0, I0, I0, I0, I0, I0, I0], [O0, O0, O0, O0, O0, O0, O0, O0, O0], [I0, O0, O0, O0, O0, O0, O0, O0, O0, O0], [O0, O0, O0, O0, O0, O0, O0, O0, O0, O0, O0], [I0, O0, O0, O0, O0, O0, O0, O0, O0, O0, O0, O0], [I0, I0, O0, O0, O0, O0, O0, O0, O0, O0, O0, O0, O0], [I0, I0, I0, O0, O0, O0, O0, O0, O0, O0, O0, O0, O0, O0], [I0, I0, I0, I0, O0, O0, O0, O0, O0, O0, O0, O0, O0, O0, O0], [I0, I0, I0, I0, I0, O0, O0, O0, O0, O0, O0, O0, O0, O0, O0, O0], [I0, I0, I0, I0, I0, I0, I0, I0, O0, O0, O0, O0, O0, O0, O0, O0, O0], [I0, I0, I0, I0, I0, I0, I0, I0, I0, I0, I0, I0, I0, I0, I0, I0, I0, I0], [I0, I0, I0, I0, I0, I0, I0, I0, I0, I0, I0, I0, I0, I0, I0, I0, I0, I0, I0]] (by kernel_rfl) (by kernel_rfl) (by kernel_rfl) ?_)
    (repeat' (first | (((with_reducible refine zC6 ?_ ?_); (· exact rfl); refine ⟨_, fun G => (by (try simp only [fltT, zw, List.nil_append, List.cons_append]); rfl), ?_⟩); first | refine za _ (fun _ => zAH rfl rfl (by exact rfl)) (fun _ => rfl) rfl (by first | exact fun _ _ _ => rfl | (intro G G' h; simp (decide := true) only [h])) ?_ | (refine zAU rfl ?_; refine za _ (fun _ => zAY rfl rfl) (fun _ => rfl) rfl (by first | exact fun _ _ _ => rfl | (intro G G' h; simp (decide := true) only [h])) ?_) | refine za _ (fun _ => zLn rfl rfl rfl (IntWalk.i64_in _ (by omega))) (fun _ => rfl) rfl (by first | exact fun _ _ _ => rfl | (intro G G' h; simp (decide := true) only [h])) ?_ | refine za _ (fun _ => zAc rfl rfl) (fun _ => rfl) rfl (by first | exact fun _ _ _ => rfl | (intro G G' h; simp (decide := true) only [h])) ?_ | refine za _ (fun _ => zDa rfl rfl (by exact rfl)) (fun _ => rfl) rfl (by first | exact fun _ _ _ => rfl | (intro G G' h; simp (decide := true) only [h])) ?_) | ((with_reducible refine zBp ?_ ?_); (· exact rfl))))
    (intro G; simp only [regsT, zw, Pend.zBS, List.nil_append, List.cons_append])
    (repeat' (first | ((with_reducible refine zG ?_); first | refine zE rfl rfl rfl rfl rfl ?_ | refine zg rfl rfl rfl rfl rfl rfl (by omega) ?_ | (refine zj rfl rfl rfl rfl rfl ?_; refine And.intro rfl (And.intro (by first | decide | exact Nat.le_of_ble_eq_true rfl | (simp; omega)) ⟨_, rfl, ?_⟩))) | (with_reducible first | refine zB ?_ | refine zD ?_ | refine zA ?_ | refine zi ?_)))
    exact ze (k + 1, s') ⟨by omega, hmk, hs'⟩ (by simp only; omega) (by (first | exact lK1 | (repeat (first | exact lK1 | (refine zK rfl ?_))))) (by
     dsimp only
     rw [e1]
     subst h
     simp only [layered, thinned, if_true, if_false, Bool.false_eq_true]
     (repeat (first | exact oK1 _ | (refine oK2 (by (repeat (first | exact tK1 _ _ | apply tK2))) ?_))))
   ·(repeat' (first | ((with_reducible refine zG ?_); first | refine zE rfl rfl rfl rfl rfl ?_ | refine zg rfl rfl rfl rfl rfl rfl (by omega) ?_) | (with_reducible first | refine zB ?_ | refine zD ?_ | refine zA ?_ | refine zU ?_ | refine zi ?_) | ((with_reducible refine zF ?_ ?_); (· exact rfl))))
    exact ze (k + 1, s') ⟨by omega, hmk, hs'⟩ (by simp only; omega) (by (first | exact lK1 | (repeat (first | exact lK1 | (refine zK rfl ?_))))) (by
     dsimp only
     rw [e1]
     subst h
     simp only [layered, thinned, if_true, if_false, Bool.false_eq_true]
     (repeat (first | exact oK1 _ | (refine oK2 (by (repeat (first | exact tK1 _ _ | apply tK2))) ?_))))
 ·obtain rfl : k = c.hours.length := by omega
  (repeat' (first | ((with_reducible refine zG ?_); first | (refine zR rfl rfl rfl rfl rfl rfl rfl (fun h => ?_) (fun h => ?_) <;> (dsimp only [cmpP] at h; (try (exfalso; omega))))) | (with_reducible first | refine zH ?_ | refine zB ?_ | refine zD ?_ | refine zA ?_ | refine zk ?_ | refine zT ?_ | refine zW ?_) | ((with_reducible refine zF ?_ ?_); (· exact rfl))))
  (refine zAo (by kernel_rfl) [[], [O0], [I0, O0], [I0, I0, O0], [I0, I0, I0, O0], [I0, I0, I0, I0, O0], [I0, I0, I0, I0, I0, O0], [O0, O0, O0, O0, O0, O0, O0], [I0, I0, I0, I0, I0, I0, I0, I0]] (by kernel_rfl) (by kernel_rfl) (by kernel_rfl) ?_)
  (repeat' (first | (((with_reducible refine zC6 ?_ ?_); (· exact rfl); refine ⟨_, fun G => (by (try simp only [fltT, zw, List.nil_append, List.cons_append]); rfl), ?_⟩); first | refine za _ (fun _ => zAm rfl rfl) (fun _ => rfl) rfl (by first | exact fun _ _ _ => rfl | (intro G G' h; simp (decide := true) only [h])) ?_ | refine za _ (fun _ => zAH rfl rfl (by exact rfl)) (fun _ => rfl) rfl (by first | exact fun _ _ _ => rfl | (intro G G' h; simp (decide := true) only [h])) ?_ | (refine zAU rfl ?_; refine za _ (fun _ => zAY rfl rfl) (fun _ => rfl) rfl (by first | exact fun _ _ _ => rfl | (intro G G' h; simp (decide := true) only [h])) ?_) | refine za _ (fun _ => zEI rfl rfl) (fun _ => rfl) rfl (by first | exact fun _ _ _ => rfl | (intro G G' h; simp (decide := true) only [h])) ?_ | refine za _ (fun _ => zAc rfl rfl) (fun _ => rfl) rfl (by first | exact fun _ _ _ => rfl | (intro G G' h; simp (decide := true) only [h])) ?_) | ((with_reducible refine zBp ?_ ?_); (· exact rfl))))
  (intro G; simp only [regsT, zw, Pend.zBS, List.nil_append, List.cons_append])
  unfold zA3
  (repeat' (first | ((with_reducible refine zG ?_); first | (refine zE7 (D := zCE c A ca (some ⟨bb, o, none⟩) cb C cc pl (some ⟨b2, o2, none⟩) cp g1 g2 g3 r (i : Int)) (L := Cx s) (C := Cx) (p := I (c.hours.length + 1)) (go := go c.hours.length) rfl rfl rfl rfl rfl rfl [.blk bt (zA3 (thickN c pl z i c.hours.length)), .oldx w wb.heap.size (feet (zCE c A ca (some ⟨bb, o, none⟩) cb C cc pl (some ⟨b2, o2, none⟩) cp g1 g2 g3 r (i : Int) ++ Cx s0))] (by (repeat (first | exact oK1 _ | (refine oK2 (by (repeat (first | exact tK1 _ _ | apply tK2))) ?_)))) (fun _ W q => hY W q.below (Own.append.1 (zBC.2 q.own)).1) ?_; rintro s' hs'; simp only [zCE, zM, List.cons_append, List.nil_append])) | (with_reducible first | refine zD ?_)))
  refine u_endG ?_
  have hmk : m = c.hours.length + 1 := by omega
  exact zHe (vs := []) zP.nil s' (hmk ▸ hs') rfl hwb (fun W9 h => zBC.2 (show Own wb.heap.size W9 (zCE c A ca (some ⟨bb, o, none⟩) cb C cc pl (some ⟨b2, o2, none⟩) cp g1 g2 g3 r (i : Int) ++ .all (Cx s') :: [.oldx w wb.heap.size (feet (zCE c A ca (some ⟨bb, o, none⟩) cb C cc pl (some ⟨b2, o2, none⟩) cp g1 g2 g3 r (i : Int) ++ Cx s0))]) from h.sub (by (repeat (first | exact oK1 _ | (refine oK2 (by (repeat (first | exact tK1 _ _ | apply tK2))) ?_))))))
end Go.Proofs.YtdigopgncfhiaaaGreatDoor
namespace Go.Proofs.YtdigopgncfhiaaaGreatDoor
open Go.RowKit
set_option maxRecDepth 20000
theorem zJf (r i : Nat) (pl : List Sli) (P : Option Addr) (cp : Nat) (w : World) : Ret Tryz.prog 61 [.pointer (some ⟨r, 0, none⟩), .slice P pl.length cp, .int .i64 (i : Int)] w (fun g : Nat × Nat × Nat => .func (.func 104) #[] #[.pointer (some ⟨g.1, 0, none⟩), .pointer (some ⟨g.2.1, 0, none⟩), .pointer (some ⟨g.2.2, 0, none⟩)])
  (fun g => [.blk g.1 [.pointer (some ⟨r, 0, none⟩)], .blk g.2.1 [.int .i64 (i : Int)], .blk g.2.2 [.slice P pl.length cp]]) (fun _ => True) := by
 (refine zL (n := 8) Tryz.func61 rfl rfl rfl ?_)
 (repeat' (first | ((with_reducible refine zG ?_); first | refine zC rfl rfl rfl rfl rfl ?_ | (refine zAD rfl rfl rfl rfl rfl rfl (fun b => ?_)) | refine zBx rfl rfl rfl rfl rfl rfl ?_) | (with_reducible first | refine zH ?_ | refine zB ?_ | refine zD ?_ | refine zA ?_ | refine zX ?_)))
 rename_i b1 b3
 exact zV (by (exact zP.cons (by exact zf.tmp rfl) zP.nil)) (b1, b, b3) trivial rfl (fun _ h => h.sub (by (repeat (first | exact oK1 _ | (refine oK2 (by (repeat (first | exact tK1 _ _ | apply tK2))) ?_)))))
def zEW (c : Cov) (pl : List Sli) (i h : Int) : Sp × Int :=
 if zCG c pl = 0 then (if inB 0 ((c.beds.length : Int) - 1) i = true ∧ inB 0 (c.hours.length : Int) h = true then (thickN c pl (c.beds.getD i.toNat default) i h.toNat, 0) else (⟨0, 0⟩, 2)) else (⟨0, 0⟩, zCG c pl)
theorem zEG {c : Cov} {pl : List Sli} (h : zCG c pl = 0) : zAh c = 0 ∧ zB1 c pl = true := by
 unfold zCG at h
 by_cases h0 : zAh c = 0
 ·rw [if_pos h0] at h
  cases hp : zB1 c pl with
  | true => exact ⟨h0, rfl⟩
  | false => rw [hp] at h; simp at h
 ·rw [if_neg h0] at h; exact absurd h h0
set_option maxHeartbeats 4000000 in
theorem zMY (c : Cov) (A : Option Addr) (ca : Nat) (B : Option Addr) (cb : Nat) (C : Option Addr) (cc : Nat) (pl : List Sli) (P : Option Addr) (cp : Nat) (i h : Int) (w : World) (hc : zAq w c A B C) (hs : Small c) (hp : zBK w P pl) (hl : pl.length ≤ 12) (hrl : ∀ s ∈ pl, s.xs.length ≤ 20) :
  Gv Tryz.prog 23 [zAS c A ca B cb C cc, .slice P pl.length cp, .int .i64 i, .int .i64 h] w (.tuple #[vSp (zEW c pl i h).1, .int .i64 (zEW c pl i h).2]) := by
 have hl4 := hs.b; have hl5 := hs.h
 have h1 := fun W (hb : Below w.heap.size w W) => zEB c A ca B cb C cc pl P cp W (hc.below hb) hs (hp.below hb) hl hrl
 have h2 := fun W (hb : Below w.heap.size w W) => zEA c A ca B cb C cc pl P cp W (hc.below hb) hs (hp.below hb) hl hrl
 unfold zAS at h1 h2
 unfold Gv zAS zEW
 by_cases h0 : zCG c pl = 0
 ·rw [if_pos h0]
  obtain ⟨h00, hpl⟩ := zEG h0
  have hf := zBg h00
  have h2 := fun W hb => h2 W hb h00 hpl
  by_cases hin : inB 0 ((c.beds.length : Int) - 1) i = true ∧ inB 0 (c.hours.length : Int) h = true
  ·rw [if_pos hin]
   obtain ⟨I, rfl, hI⟩ := zMI hin.1
   obtain ⟨J, rfl, hJ⟩ : ∃ J : Nat, h = (J : Int) ∧ J ≤ c.hours.length := by have := zAJ.1 hin.2; exact ⟨h.toNat, by omega, by omega⟩
   obtain ⟨hi1, hi2⟩ := hin
   obtain ⟨z, hz⟩ : ∃ z, c.beds[I]? = some z := ⟨_, List.getElem?_eq_getElem hI⟩
   simp only [Int.toNat_natCast]
   rw [zAv hz]
   have hseq := fun g1 g2 g3 r => days_seq c A ca B cb C cc pl P cp I g1 g2 g3 r z w hc hs hf hp hrl (zB0.1 hpl).1 hz
   unfold vSp
   unfold zM at h2 ⊢
   (refine zL (n := 54) Tryz.func23 rfl rfl rfl ?_)
   (repeat' (first | ((with_reducible refine zG ?_); first | refine zE rfl rfl rfl rfl rfl ?_ | refine zC rfl rfl rfl rfl rfl ?_ | (refine zJ rfl rfl rfl rfl rfl ?_; refine ⟨_, rfl, ?_⟩) | refine zd rfl rfl rfl rfl rfl ?_ | refine zAO rfl rfl rfl rfl rfl rfl ?_ | (refine zR rfl rfl rfl rfl rfl rfl rfl (fun h => ?_) (fun h => ?_) <;> (dsimp only [cmpP] at h; (try (exfalso; omega)))) | (refine zAR rfl rfl rfl rfl rfl rfl (fun _ _ q => h2 _ q.below) ?_; rintro g -; dsimp only [List.cons_append, List.nil_append]) | (refine zY rfl rfl rfl rfl rfl rfl (fun _ _ q => hi1 ▸ iin1 _ _ _ _ _ _ (zAk (enc := encI) (by exact rfl) _ q.below q.own)) ?_) | (refine zY rfl rfl rfl rfl rfl rfl (fun _ _ q => hi2 ▸ iin1 _ _ _ _ _ _ (zAk (enc := encI) (by exact rfl) _ q.below q.own)) ?_) | (refine zAR rfl rfl rfl rfl rfl rfl (fun _ _ q => zJf _ I pl P cp _) ?_; rintro ⟨g1, g2, g3⟩ -; dsimp only [List.cons_append, List.nil_append]) | refine zh rfl rfl rfl rfl rfl rfl ?_ | refine zAe rfl rfl rfl rfl rfl ?_ | refine zCC rfl rfl rfl rfl rfl rfl (IntWalk.i64_in _ (by omega)) ?_ | refine zr rfl rfl rfl rfl rfl ?_ | (refine zt rfl rfl rfl rfl (fun b => ?_)) | (refine zAD rfl rfl rfl rfl rfl rfl (fun b => ?_)) | (refine zz rfl rfl rfl rfl rfl ?_; refine ⟨rfl, _, rfl, fun b => ?_⟩)) | (with_reducible first | refine zH ?_ | refine zB ?_ | refine zD ?_ | refine zA ?_ | refine zU ?_ | refine zQ ?_) | ((with_reducible refine zF ?_ ?_); (· exact rfl))))
   rename_i b4 b7 b8 ba1 ba2
   refine u_dfr0 ?_
   refine zMu (ι := Sp) (α := Nat × Sp) (gf := 104) (lb := [.pointer (some ⟨g1, 0, none⟩), .pointer (some ⟨g2, 0, none⟩), .pointer (some ⟨g3, 0, none⟩)]) (bs := []) (zCF c A ca B cb C cc pl P cp g1 g2 g3 g (I : Int)) zE2 (zHU c pl z I) (J + 1) (fun k s => k = J + 1 → s = thickN c pl z I J) (fun s => [.blk b (zA3 s), .blk b8 [.int .i64 0, .int .i64 0], .blk b7 [.int .i64 (J : Int)], .blk b4 (zM c A ca B cb C cc)]) (fun k => !decide (k = J)) (.exit 0) ⟨0, 0⟩ rfl (by unfold zCF zM; simp only [List.cons_append, List.nil_append]; (repeat (first | exact oK1 _ | (refine oK2 (by (repeat (first | exact tK1 _ _ | apply tK2))) ?_)))) (fun h => by omega) (by rw [zEK]; omega) (fun k hk => by simp; omega) (.inr ⟨by omega, by simp⟩) (fun x => rfl) (by decide) (.inr ⟨0, rfl⟩) (hseq g1 g2 g3 g) ?_ ?_ ?_
   ·rintro l k x s ⟨⟩ W hk hx hI hr hrp hW
    simp only at hr hrp
    subst hr hrp
    rw [zGW (by omega)] at hx
    cases hx
    simp only [zE2, parR, zCF, zM, vSp, List.cons_append, List.nil_append]
    by_cases hkJ : k = J
    ·subst hkJ
     simp only [decide_true, Bool.not_true, Bool.false_eq_true, if_false]
     (repeat' (first | ((with_reducible refine zG ?_); first | refine zC rfl rfl rfl rfl rfl ?_ | (refine zj rfl rfl rfl rfl rfl ?_; refine And.intro rfl (And.intro (by first | decide | exact Nat.le_of_ble_eq_true rfl | (simp; omega)) ⟨_, rfl, ?_⟩)) | (refine zt rfl rfl rfl rfl (fun b => ?_))) | (with_reducible first | refine zH ?_ | refine zB ?_ | refine zD ?_ | refine zA ?_)))
     refine zJ1 (by (repeat (first | exact tK1 _ _ | apply tK2))) rfl ?_
     (repeat' (first | ((with_reducible refine zG ?_); first | refine zE rfl rfl rfl rfl rfl ?_ | (refine zJ rfl rfl rfl rfl rfl ?_; refine ⟨_, rfl, ?_⟩) | (refine zR rfl rfl rfl rfl rfl rfl rfl (fun h => ?_) (fun h => ?_) <;> (dsimp only [cmpP] at h; (try (exfalso; omega)))) | (refine zj rfl rfl rfl rfl rfl ?_; refine And.intro rfl (And.intro (by first | decide | exact Nat.le_of_ble_eq_true rfl | (simp; omega)) ⟨_, rfl, ?_⟩))) | (with_reducible first | refine zH ?_ | refine zB ?_ | refine zD ?_ | refine zA ?_ | refine zQ ?_ | refine zk ?_) | ((with_reducible refine zAl ?_ ?_); (· exact rfl)) | ((with_reducible refine zI ?_ ?_); (· exact rfl))))
     exact zEp (some (.exit 0)) (.inr (.inr ⟨0, rfl, rfl⟩)) rfl (by (repeat (first | exact tK1 _ _ | apply tK2))) (thickN c pl z I k) (fun _ => rfl) hW (fun _ h => h.sub (by (repeat (first | exact oK1 _ | (refine oK2 (by (repeat (first | exact tK1 _ _ | apply tK2))) ?_)))))
    ·simp only [hkJ, decide_false, Bool.not_false, if_true]
     (repeat' (first | ((with_reducible refine zG ?_); first | refine zC rfl rfl rfl rfl rfl ?_ | (refine zj rfl rfl rfl rfl rfl ?_; refine And.intro rfl (And.intro (by first | decide | exact Nat.le_of_ble_eq_true rfl | (simp; omega)) ⟨_, rfl, ?_⟩)) | (refine zt rfl rfl rfl rfl (fun b => ?_))) | (with_reducible first | refine zH ?_ | refine zB ?_ | refine zD ?_ | refine zA ?_)))
     refine zJ1 (by (repeat (first | exact tK1 _ _ | apply tK2))) rfl ?_
     (repeat' (first | ((with_reducible refine zG ?_); first | refine zE rfl rfl rfl rfl rfl ?_ | (refine zJ rfl rfl rfl rfl rfl ?_; refine ⟨_, rfl, ?_⟩) | (refine zR rfl rfl rfl rfl rfl rfl rfl (fun h => ?_) (fun h => ?_) <;> (dsimp only [cmpP] at h; (try (exfalso; omega))))) | (with_reducible first | refine zH ?_ | refine zB ?_ | refine zD ?_ | refine zA ?_ | refine zU ?_ | refine zQ ?_ | refine zi ?_) | ((with_reducible refine zF ?_ ?_); (· exact rfl))))
     exact zEp none (.inl ⟨rfl, rfl⟩) rfl (by (repeat (first | exact tK1 _ _ | apply tK2))) s (fun h => by omega) hW (fun _ h => h.sub (by (repeat (first | exact oK1 _ | (refine oK2 (by (repeat (first | exact tK1 _ _ | apply tK2))) ?_)))))
   ·intro h9; simp at h9
   ·intro _ _ bd s hI
    have := hI rfl
    subst this
    simp only [zCF, zM, List.cons_append, List.nil_append]
    (repeat' (first | ((with_reducible refine zG ?_); first | refine zC rfl rfl rfl rfl rfl ?_ | (refine zJ rfl rfl rfl rfl rfl ?_; refine ⟨_, rfl, ?_⟩) | (refine zj rfl rfl rfl rfl rfl ?_; refine And.intro rfl (And.intro (by first | decide | exact Nat.le_of_ble_eq_true rfl | (simp; omega)) ⟨_, rfl, ?_⟩))) | (with_reducible first | refine zH ?_ | refine zB ?_ | refine zD ?_ | refine zA ?_ | refine zX ?_ | refine zk ?_ | refine zT ?_)))
    exact zMx (by (repeat (first | exact tK1 _ _ | apply tK2))) (by (exact zP.cons (by exact res1c rfl (by exact rfl)) (zP.cons (by exact zf.tmp rfl) zP.nil))) () trivial rfl (fun _ _ => Own.nil _ _)
  ·rw [if_neg hin]
   unfold vSp
   unfold zM at h2 ⊢
   (refine zL (n := 54) Tryz.func23 rfl rfl rfl ?_)
   (repeat' (first | ((with_reducible refine zG ?_); first | refine zE rfl rfl rfl rfl rfl ?_ | refine zC rfl rfl rfl rfl rfl ?_ | (refine zJ rfl rfl rfl rfl rfl ?_; refine ⟨_, rfl, ?_⟩) | refine zd rfl rfl rfl rfl rfl ?_ | refine zAO rfl rfl rfl rfl rfl rfl ?_ | refine zu rfl rfl rfl ?_ | (refine zR rfl rfl rfl rfl rfl rfl rfl (fun h => ?_) (fun h => ?_) <;> (dsimp only [cmpP] at h; (try (exfalso; omega)))) | (refine zAR rfl rfl rfl rfl rfl rfl (fun _ _ q => h2 _ q.below) ?_; rintro g -; dsimp only [List.cons_append, List.nil_append]) | (refine zAG rfl rfl rfl rfl rfl rfl (fun _ _ q => iin1 _ _ _ _ _ _ (zAk (enc := encI) (by exact rfl) _ q.below q.own)) (fun h => ?_) (fun h => ?_) <;> (try (exfalso; omega))) | refine zh rfl rfl rfl rfl rfl rfl ?_ | refine zAe rfl rfl rfl rfl rfl ?_ | refine zCC rfl rfl rfl rfl rfl rfl (IntWalk.i64_in _ (by omega)) ?_ | refine zr rfl rfl rfl rfl rfl ?_ | (refine zj rfl rfl rfl rfl rfl ?_; refine And.intro rfl (And.intro (by first | decide | exact Nat.le_of_ble_eq_true rfl | (simp; omega)) ⟨_, rfl, ?_⟩)) | (refine zt rfl rfl rfl rfl (fun b => ?_)) | (refine zAD rfl rfl rfl rfl rfl rfl (fun b => ?_)) | (refine zA4 rfl rfl rfl rfl rfl ?_; refine ⟨_, rfl, ?_⟩) | (refine zz rfl rfl rfl rfl rfl ?_; refine ⟨rfl, _, rfl, fun b => ?_⟩)) | (with_reducible first | refine zH ?_ | refine zB ?_ | refine zD ?_ | refine zA ?_ | refine zX ?_ | refine zU ?_ | refine zZ ?_) | ((with_reducible refine zI ?_ ?_); (· exact rfl)) | ((with_reducible refine zF ?_ ?_); (· exact rfl))))
   all_goals first | exact zV (by (exact zP.cons (by exact res1c rfl (by exact rfl)) (zP.cons (by exact zf.tmp rfl) zP.nil))) () trivial rfl (fun _ _ => Own.nil _ _) | (exfalso; exact hin ⟨by assumption, by assumption⟩)
 ·rw [if_neg h0]
  unfold vSp
  unfold zM at h1 ⊢
  generalize zCG c pl = e at *
  (refine zL (n := 54) Tryz.func23 rfl rfl rfl ?_)
  (repeat' (first | ((with_reducible refine zG ?_); first | refine zE rfl rfl rfl rfl rfl ?_ | refine zC rfl rfl rfl rfl rfl ?_ | (refine zJ rfl rfl rfl rfl rfl ?_; refine ⟨_, rfl, ?_⟩) | (refine zR rfl rfl rfl rfl rfl rfl rfl (fun h => ?_) (fun h => ?_) <;> (dsimp only [cmpP] at h; (try (exfalso; omega)))) | refine zY rfl rfl rfl rfl rfl rfl (fun _ _ q => h1 _ q.below h0) ?_ | refine zh rfl rfl rfl rfl rfl rfl ?_ | (refine zj rfl rfl rfl rfl rfl ?_; refine And.intro rfl (And.intro (by first | decide | exact Nat.le_of_ble_eq_true rfl | (simp; omega)) ⟨_, rfl, ?_⟩)) | (refine zt rfl rfl rfl rfl (fun b => ?_)) | (refine zAD rfl rfl rfl rfl rfl rfl (fun b => ?_)) | (refine zA4 rfl rfl rfl rfl rfl ?_; refine ⟨_, rfl, ?_⟩)) | (with_reducible first | refine zH ?_ | refine zB ?_ | refine zD ?_ | refine zA ?_ | refine zX ?_ | refine zZ ?_) | ((with_reducible refine zI ?_ ?_); (· exact rfl))))
  all_goals exact zV (by (exact zP.cons (by exact res1c rfl (by exact rfl)) (zP.cons (by exact zf.tmp rfl) zP.nil))) () trivial rfl (fun _ _ => Own.nil _ _)
end Go.Proofs.YtdigopgncfhiaaaGreatDoor
namespace Go.Proofs.YtdigopgncfhiaaaGreatDoor
open Go.Shelf
set_option maxRecDepth 20000
def zL3 : Ren where
 f := fun x => match x with | 6 => 100 | 15 => 132 | 14 => 131 | 28 => 153 | 29 => 154 | 20 => 145 | 21 => 146 | 22 => 147 | 23 => 148 | 24 => 149 | 25 => 150 | 26 => 151 | 27 => 152 | 46 => 157 | 47 => 158 | 48 => 159 | 49 => 160 | 50 => 161 | 57 => 162 | n => n
 t := fun x => match x with | 22 => 36 | 24 => 75 | 25 => 162 | 3 => 3 | 39 => 126 | 0 => 0 | 53 => 80 | 55 => 179 | 4 => 4 | 46 => 222 | 45 => 221 | 50 => 169 | 5 => 5 | 9 => 9 | 66 => 229 | 70 => 233 | 76 => 235 | 77 => 236 | n => n
 g := fun n => n
theorem sortPr : SlLaysF0.n6 Tryz.prog zL3 where
 mixed := by kernel_rfl
 f6 := ⟨"slices.SortFunc[[][2]int,[2]int]", by decide, Tryz.func100.trans (congrArg some (by kernel_rfl))⟩
 f14 := ⟨"slices.pdqsortCmpFunc[[2]int]", by decide, Tryz.func131.trans (congrArg some (by kernel_rfl))⟩
 f15 := Tryz.func132.trans (congrArg some (by kernel_rfl))
 f20 := ⟨"slices.insertionSortCmpFunc[[2]int]", by decide, Tryz.func145.trans (congrArg some (by kernel_rfl))⟩
 f21 := ⟨"slices.heapSortCmpFunc[[2]int]", by decide, Tryz.func146.trans (congrArg some (by kernel_rfl))⟩
 f22 := ⟨"slices.breakPatternsCmpFunc[[2]int]", by decide, Tryz.func147.trans (congrArg some (by kernel_rfl))⟩
 f23 := ⟨"slices.choosePivotCmpFunc[[2]int]", by decide, Tryz.func148.trans (congrArg some (by kernel_rfl))⟩
 f24 := ⟨"slices.reverseRangeCmpFunc[[2]int]", by decide, Tryz.func149.trans (congrArg some (by kernel_rfl))⟩
 f25 := ⟨"slices.partialInsertionSortCmpFunc[[2]int]", by decide, Tryz.func150.trans (congrArg some (by kernel_rfl))⟩
 f26 := ⟨"slices.partitionEqualCmpFunc[[2]int]", by decide, Tryz.func151.trans (congrArg some (by kernel_rfl))⟩
 f27 := ⟨"slices.partitionCmpFunc[[2]int]", by decide, Tryz.func152.trans (congrArg some (by kernel_rfl))⟩
 f28 := Tryz.func153.trans (congrArg some (by kernel_rfl))
 f29 := Tryz.func154.trans (congrArg some (by kernel_rfl))
 f46 := ⟨"slices.siftDownCmpFunc[[2]int]", by decide, Tryz.func157.trans (congrArg some (by kernel_rfl))⟩
 f47 := Tryz.func158.trans (congrArg some (by kernel_rfl))
 f48 := Tryz.func159.trans (congrArg some (by kernel_rfl))
 f49 := ⟨"slices.medianAdjacentCmpFunc[[2]int]", by decide, Tryz.func160.trans (congrArg some (by kernel_rfl))⟩
 f50 := ⟨"slices.medianCmpFunc[[2]int]", by decide, Tryz.func161.trans (congrArg some (by kernel_rfl))⟩
 f57 := ⟨"slices.order2CmpFunc[[2]int]", by decide, Tryz.func162.trans (congrArg some (by kernel_rfl))⟩
 t0 := Tryz.underlying0
 a0 := Tryz.isAgg0
 z0 := Tryz.sizeOf0
 v0 := Tryz.zeroValue0
 t3 := Tryz.underlying3
 a3 := Tryz.isAgg3
 z3 := Tryz.sizeOf3
 v3 := Tryz.zeroValue3
 t4 := Tryz.underlying4
 a4 := Tryz.isAgg4
 z4 := Tryz.sizeOf4
 v4 := Tryz.zeroValue4
 t5 := Tryz.underlying5
 a5 := Tryz.isAgg5
 z5 := Tryz.sizeOf5
 v5 := Tryz.zeroValue5
 t9 := Tryz.underlying9
 a9 := Tryz.isAgg9
 z9 := Tryz.sizeOf9
 v9 := Tryz.zeroValue9
 t22 := Tryz.underlying36
 a22 := Tryz.isAgg36
 z22 := Tryz.sizeOf36
 v22 := Tryz.zeroValue36
 t25 := Tryz.underlying162
 a25 := Tryz.isAgg162
 z25 := Tryz.sizeOf162
 v25 := Tryz.zeroValue162
 t39 := Tryz.underlying126
 a39 := Tryz.isAgg126
 z39 := Tryz.sizeOf126
 v39 := Tryz.zeroValue126
 t45 := Tryz.underlying221
 a45 := Tryz.isAgg221
 z45 := Tryz.sizeOf221
 v45 := Tryz.zeroValue221
 t46 := Tryz.underlying222
 a46 := Tryz.isAgg222
 z46 := Tryz.sizeOf222
 v46 := Tryz.zeroValue222
 t50 := Tryz.underlying169
 a50 := Tryz.isAgg169
 z50 := Tryz.sizeOf169
 v50 := Tryz.zeroValue169
 t53 := Tryz.underlying80
 a53 := Tryz.isAgg80
 z53 := Tryz.sizeOf80
 v53 := Tryz.zeroValue80
 t55 := Tryz.underlying179
 a55 := Tryz.isAgg179
 z55 := Tryz.sizeOf179
 v55 := Tryz.zeroValue179
 t66 := Tryz.underlying229
 a66 := Tryz.isAgg229
 z66 := Tryz.sizeOf229
 v66 := Tryz.zeroValue229
 t70 := Tryz.underlying233
 a70 := Tryz.isAgg233
 z70 := Tryz.sizeOf233
 v70 := Tryz.zeroValue233
 t76 := Tryz.underlying235
 a76 := Tryz.isAgg235
 z76 := Tryz.sizeOf235
 v76 := Tryz.zeroValue235
 t77 := Tryz.underlying236
 a77 := Tryz.isAgg236
 z77 := Tryz.sizeOf236
 v77 := Tryz.zeroValue236
def zMk : Ren where
 f := fun x => match x with | 5 => 115 | 7 => 138 | n => n
 t := fun x => match x with | 22 => 3 | 3 => 3 | 4 => 4 | n => n
 g := fun n => n
theorem cmpInt : SlLaysC2.n5 Tryz.prog zMk where
 mixed := by kernel_rfl
 f5 := ⟨"cmp.Compare[int]", by decide, Tryz.func115.trans (congrArg some (by kernel_rfl))⟩
 f7 := ⟨"cmp.isNaN[int]", by decide, Tryz.func138.trans (congrArg some (by kernel_rfl))⟩
 t3 := Tryz.underlying3
 a3 := Tryz.isAgg3
 z3 := Tryz.sizeOf3
 v3 := Tryz.zeroValue3
 t4 := Tryz.underlying4
 a4 := Tryz.isAgg4
 z4 := Tryz.sizeOf4
 v4 := Tryz.zeroValue4
 t22 := Tryz.underlying3
 a22 := Tryz.isAgg3
 z22 := Tryz.sizeOf3
 v22 := Tryz.zeroValue3
end Go.Proofs.YtdigopgncfhiaaaGreatDoor
