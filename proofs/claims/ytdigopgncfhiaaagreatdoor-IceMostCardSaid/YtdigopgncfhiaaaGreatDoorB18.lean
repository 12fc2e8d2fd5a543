/- B18 -/
import Derived.Test.YtdigopgncfhiaaaGreatDoorB17
import Derived.Test.YtdigopgncfhiaaaGreatDoorB10
import Derived.Test.YtdigopgncfhiaaaGreatDoorB5
set_option linter.unusedSimpArgs false
set_option linter.unusedVariables false
namespace Go.Proofs.YtdigopgncfhiaaaGreatDoor
open Go.RowKit
set_option maxRecDepth 20000
def zAr (b : Bool) : List Value := [.bool b]
instance encI_bl : zBv zAr 1 := ⟨fun _ => rfl, fun b v hv => by simp [zAr] at hv; subst hv; rfl⟩
theorem elem_bo : zIg Tryz.prog 121 4 1 1 (.bool false) :=
 ⟨by rfl, by exact ⟨_, rfl, rfl, rfl, rfl⟩, by decide, by decide⟩
instance elI_bo : ElI Tryz.prog 121 4 1 1 := ⟨⟨_, elem_bo⟩⟩
def zDV (c : Cov) (h : Nat) : List Bool := (c.hours.take h).map (·.cold)
def zFt (c : Cov) : List (List Bool) := List.replicate c.beds.length (c.hours.map (·.cold))
def zHK (u : Hour) : Int := if u.cold then u.crew else 0
def zBT (c : Cov) : List Int := c.hours.map zHK
def zBl (c : Cov) (h : Nat) : List Int := (c.hours.take h).map zHK ++ List.replicate (c.hours.length - h) 0
def zFs (c : Cov) (h i : Nat) : List (List Bool) := List.replicate i (zDV c (h + 1)) ++ List.replicate (c.beds.length - i) (zDV c h)
theorem zN5 {c : Cov} {h : Nat} (hh : h ≤ c.hours.length) : (zDV c h).length = h := by simp [zDV]; omega
theorem zMP {c : Cov} {h : Nat} {u : Hour} (hu : c.hours[h]? = some u) : zDV c (h + 1) = zDV c h ++ [u.cold] := by unfold zDV; rw [List.take_add_one, hu]; simp
theorem zME {c : Cov} {h : Nat} (hh : h ≤ c.hours.length) : (zBl c h).length = c.hours.length := by simp [zBl]; omega
theorem zIN {c : Cov} {h : Nat} {u : Hour} (hu : c.hours[h]? = some u) : (zBl c h).set h (zHK u) = zBl c (h + 1) := by
 obtain ⟨hi, e⟩ := List.getElem?_eq_some_iff.1 hu
 unfold zBl
 have hl : ((c.hours.take h).map zHK).length = h := by simp; omega
 rw [List.set_append_right _ _ (by omega), hl, Nat.sub_self]
 have e1 : c.hours.take (h + 1) = c.hours.take h ++ [u] := by rw [List.take_add_one, hu]; rfl
 rw [e1, List.map_append, List.append_assoc]
 congr 1
 obtain ⟨m, hm⟩ : ∃ m, c.hours.length - h = m + 1 := ⟨c.hours.length - h - 1, by omega⟩
 rw [hm, show c.hours.length - (h + 1) = m by omega, List.replicate_succ]
 rfl
theorem zK9 {c : Cov} {h : Nat} {u : Hour} (hu : c.hours[h]? = some u) (h0 : zHK u = 0) : zBl c h = zBl c (h + 1) := by
 rw [← zIN hu, h0]
 obtain ⟨hi, e⟩ := List.getElem?_eq_some_iff.1 hu
 have : (zBl c h)[h]? = some 0 := by
  unfold zBl
  have hl : ((c.hours.take h).map zHK).length = h := by simp; omega
  rw [List.getElem?_append_right (by omega), hl, List.getElem?_replicate, if_pos (by omega)]
 obtain ⟨h1, h2⟩ := List.getElem?_eq_some_iff.1 this
 conv => lhs; rw [← List.set_getElem_self h1]
 rw [h2]
theorem zMF {c : Cov} : zBl c c.hours.length = zBT c := by simp [zBl, zBT]
theorem zK8 {c : Cov} : zBl c 0 = List.replicate c.hours.length 0 := by simp [zBl]
theorem zFI {c : Cov} {h : Nat} : zFs c h 0 = List.replicate c.beds.length (zDV c h) := by simp [zFs]
theorem zKy {c : Cov} {h : Nat} : zFs c h c.beds.length = List.replicate c.beds.length (zDV c (h + 1)) := by simp [zFs]
theorem zMn {c : Cov} {h i : Nat} (hi : i < c.beds.length) : (zFs c h i)[i]? = some (zDV c h) := by
 unfold zFs
 rw [List.getElem?_append_right (by simp), List.length_replicate, Nat.sub_self, List.getElem?_replicate, if_pos (by omega)]
theorem zKx {c : Cov} {h i : Nat} (hi : i < c.beds.length) : (zFs c h i).set i (zDV c (h + 1)) = zFs c h (i + 1) := by
 unfold zFs
 rw [List.set_append_right _ _ (by simp), List.length_replicate, Nat.sub_self]
 obtain ⟨m, hm⟩ : ∃ m, c.beds.length - i = m + 1 := ⟨c.beds.length - i - 1, by omega⟩
 rw [hm, show c.beds.length - (i + 1) = m by omega, List.replicate_succ, List.set_cons_zero, List.replicate_succ', List.append_assoc]
 rfl
end Go.Proofs.YtdigopgncfhiaaaGreatDoor
namespace Go.Proofs.YtdigopgncfhiaaaGreatDoor.Two
open Go.RowKit
set_option maxRecDepth 20000
set_option maxHeartbeats 4000000 in
theorem zEw (c : Cov) (A : Option Addr) (ca : Nat) (B : Option Addr) (cb : Nat) (C : Option Addr) (cc g : Nat) (w : World) (hr : InC w g 0 (zM c A ca B cb C cc)) (hG : InC w 0 0 zCT) (h : zAd w c A B C) (hs : Small c) (hf : zDY c) :
  Ret Tryz.prog 65 [.pointer (some ⟨g, 0, none⟩)] w (fun p : (Nat × List (zr Int)) × (Nat × List (zr Bool)) × Nat => .agg #[.slice (some ⟨p.1.1, 0, none⟩) c.beds.length c.beds.length, .slice (some ⟨p.2.1.1, 0, none⟩) c.beds.length c.beds.length, .slice (some ⟨p.2.2, 0, none⟩) c.hours.length c.hours.length])
   (fun p => [.zAw zm (rowOf encI 1 3) p.1.1 p.1.2, .zAw zm (rowOf zAr 1 4) p.2.1.1 p.2.1.2, .row encI 1 3 (.slice (some ⟨p.2.2, 0, none⟩) c.hours.length c.hours.length) (zBT c)]) (fun p => p.1.2.map (·.xs) = zBo c ∧ p.2.1.2.map (·.xs) = zFt c) := by
 have h4 := hs.b; have h5 := hs.h
 have hb := h.b; have hh := h.h
 have hnd := fun W (hb : Below w.heap.size w W) => zIJ c A ca B cb C cc g W (hr.below hb) (hG.below hb) (h.below hb) hs hf
 unfold zM at hr
 (refine zI (n := 68) Tryz.func65 rfl rfl rfl ?_)
 (repeat' (first | ((with_reducible refine zF ?_); first | (refine zn rfl rfl rfl rfl (fun b => ?_))) | (with_reducible first | refine zH ?_ | refine zB ?_ | refine zD ?_ | refine zA ?_)))
 (refine zAt [] [] [] rfl (show ([] : List Nat).Nodup by decide) (H0 := [.blk b [.slice none 0 0, .slice none 0 0, .slice none 0 0]]) (fun _ h => h.sub (by (repeat (first | exact oK1 _ | (refine oK2 (by (repeat (first | exact tK1 _ _ | apply tK2))) ?_))))) (by kernel_rfl) [[], [I0], [O0, O0], [I0, O0, O0], [I0, I0, O0, O0], [I0, I0, I0, O0, O0], [I0, I0, I0, I0, O0, O0], [I0, I0, I0, I0, I0, O0, O0], [I0, I0, I0, I0, I0, I0, O0, O0], [O0, O0, O0, O0, O0, O0, O0, O0, O0], [I0, O0, O0, O0, O0, O0, O0, O0, O0, O0], [I0, I0, O0, O0, O0, O0, O0, O0, O0, O0, O0], [I0, I0, I0, O0, O0, O0, O0, O0, O0, O0, O0, O0], [I0, I0, I0, I0, O0, O0, O0, O0, O0, O0, O0, O0, O0], [I0, I0, I0, I0, I0, O0, O0, O0, O0, O0, O0, O0, O0, O0], [I0, I0, I0, I0, I0, I0, O0, O0, O0, O0, O0, O0, O0, O0, O0], [I0, I0, I0, I0, I0, I0, I0, I0, I0, I0, I0, I0, I0, I0, I0, I0], [O0, O0, O0, O0, O0, O0, O0, O0, O0, O0, O0, O0, O0, O0, O0, O0, O0], [I0, I0, I0, I0, I0, I0, I0, I0, I0, I0, I0, I0, I0, I0, I0, I0, I0, I0]] (by kernel_rfl) (by kernel_rfl) (by kernel_rfl) (by kernel_rfl) (by kernel_rfl) ?_)
 (repeat' (first | (((with_reducible refine zC3 ?_ ?_); (· exact rfl); refine ⟨_, fun G => (by (try simp (decide := true) only [vis, see, fltT, zx, Nat.reduceAdd, Nat.reduceSub, if_true, if_false, List.set_cons_zero, List.set_cons_succ, List.set_nil, List.nil_append, List.cons_append]); rfl), ?_⟩); first | refine za _ (fun _ => zAk rfl rfl) (fun _ => rfl) rfl (by first | exact fun _ _ _ => rfl | (intro G G' h; simp (decide := true) only [h])) ?_ | refine za _ (fun _ => zAD rfl rfl (by exact rfl)) (fun _ => rfl) rfl (by first | exact fun _ _ _ => rfl | (intro G G' h; simp (decide := true) only [h])) ?_ | (refine zAU rfl ?_; refine za _ (fun _ => zAS rfl rfl) (fun _ => rfl) rfl (by first | exact fun _ _ _ => rfl | (intro G G' h; simp (decide := true) only [h])) ?_) | (refine c_tab (enc := encI) (kk := 1) (e := 3) (nn := c.beds.length) zFr rfl (fun _ => rfl) rfl (fun _ => rfl) (fun _ => rfl) (fun _ _ _ q => hnd _ q.below) ?_) | (refine zMz (enc := zAr) (kk := 1) (e2 := 4) (n0 := c.beds.length) rfl rfl rfl rfl rfl (fun _ => rfl) rfl (fun _ => rfl) (fun _ => rfl) (by omega) ?_) | (refine zM0 (enc := encI) (0 : Int) (n0 := c.hours.length) rfl rfl rfl rfl rfl rfl rfl (fun _ => rfl) rfl (fun _ => rfl) (fun _ => rfl) (by omega) ?_) | refine za _ (fun _ => zDm rfl rfl) (fun _ => rfl) rfl (by first | exact fun _ _ _ => rfl | (intro G G' h; simp (decide := true) only [h])) ?_ | refine za _ (fun _ => zAa rfl rfl) (fun _ => rfl) rfl (by first | exact fun _ _ _ => rfl | (intro G G' h; simp (decide := true) only [h])) ?_ | refine za _ (fun _ => zDS rfl rfl (by exact rfl)) (fun _ => rfl) rfl (by first | exact fun _ _ _ => rfl | (intro G G' h; simp (decide := true) only [h])) ?_ | refine zGU rfl (fun _ => rfl) rfl ?_) | ((with_reducible refine zBu ?_ ?_); (· exact rfl))))
 intro G
 simp only [regsT, List.nil_append, List.cons_append]
 refine zEi (H' := [.blk (G 17).g [.slice none 0 0, .slice none 0 0, .slice none 0 0], .row encI 1 3 (.slice (some ⟨(G 15).g, 0, none⟩) c.hours.length c.hours.length) (List.replicate c.hours.length 0), .zAw zm (rowOf zAr 1 4) (G 8).g (List.replicate c.beds.length zAh), .hidT encI 1 3 (G 1).g ((G 1).A.getD ⟨0, 0, none⟩).block (G 1).m (zBo c), .blk b [.slice none 0 0, .slice none 0 0, .slice none 0 0]]) (fun _ h => h) ?_
 simp only [Nat.zero_add, Nat.reduceAdd]
 generalize (G 17).g = gx
 generalize (G 15).g = gh
 generalize (G 8).g = gm
 generalize (G 1).m = hi
 generalize ((G 1).A.getD ⟨0, 0, none⟩).block = lo
 generalize (G 1).g = gn
 refine u_hidT (by (repeat (first | exact tK1 _ _ | apply tK2))) (fun L hL => ?_)
 (repeat' (first | ((with_reducible refine zF ?_); first | refine zE rfl rfl rfl rfl rfl ?_ | (refine zK rfl rfl rfl rfl rfl ?_; refine ⟨_, rfl, ?_⟩) | refine zc rfl rfl rfl rfl rfl ?_ | refine zq rfl rfl rfl rfl rfl ?_ | (refine zf rfl rfl rfl rfl rfl ?_; refine And.intro rfl (And.intro (by first | decide | exact Nat.le_of_ble_eq_true rfl | (simp; omega)) ⟨_, rfl, ?_⟩)) | refine zA8 rfl rfl rfl rfl rfl ?_) | (with_reducible first | refine zH ?_ | refine zB ?_ | refine zD ?_ | refine zA ?_ | refine zQ ?_)))
 obtain ⟨b2, hb2⟩ : ∃ b2, b2 = b := ⟨_, rfl⟩
 subst hb2
 refine zu (ι := Nat × List (zr Bool)) [0, 2, 3, 28, 29] rfl (fun p => p.1 ≤ c.hours.length ∧ p.2.map (·.xs) = zFs c p.1 0) (fun p => [(30, .int .i64 (p.1 : Int))]) (fun p => [.zAw zm (rowOf zAr 1 4) gm p.2, .row encI 1 3 (.slice (some ⟨gh, 0, none⟩) c.hours.length c.hours.length) (zBl c p.1), .zAw zm (rowOf encI 1 3) gn L, .blk gx [.slice (some ⟨gn, 0, none⟩) c.beds.length c.beds.length, .slice (some ⟨gm, 0, none⟩) c.beds.length c.beds.length, .slice (some ⟨gh, 0, none⟩) c.hours.length c.hours.length], .blk b2 [.slice none 0 0, .slice none 0 0, .slice none 0 0]]) (fun p => c.hours.length - p.1) (0, List.replicate c.beds.length zAh) ⟨Nat.zero_le _, by simp [zFI, zAh, zDV]⟩ (by (first | exact lK1 | (repeat (first | exact lK1 | (refine zL rfl ?_))))) (by simp only [zK8]; (repeat (first | exact oK1 _ | (refine oK2 (by (repeat (first | exact tK1 _ _ | apply tK2))) ?_)))) ?_
 rintro ⟨j, M⟩ ⟨hj, hM⟩
 simp only at hj hM
 simp only [zAx, List.cons_append, List.nil_append]
 have hMl : M.length = c.beds.length := by
  have := congrArg List.length hM
  simp [zFs] at this; omega
 by_cases hjl : j < c.hours.length
 ·obtain ⟨u, hu⟩ : ∃ u, c.hours[j]? = some u := ⟨_, List.getElem?_eq_getElem hjl⟩
  obtain ⟨bc, oc, rfl, _, _⟩ := hh.at_ hjl
  have : InS w bc oc zy 5 c.hours := ⟨hh⟩
  have : zAT c.hours j u := ⟨hu⟩
  have hhl := zME (c := c) (h := j) (by omega)
  have hcs := zMP hu
  have hce := zIN hu
  have hcn := zK9 hu
  have hcl := zN5 (c := c) (h := j) (by omega)
  obtain ⟨um, ur, uc, cold⟩ := u
  unfold zHK at hce hcn
  simp only at hce hcn hcs
  cases cold
  ·simp only [Bool.false_eq_true, if_false] at hce hcn
   rw [hcn trivial]
   (repeat' (first | ((with_reducible refine zF ?_); first | refine zE rfl rfl rfl rfl rfl ?_ | refine zC rfl rfl rfl rfl rfl ?_ | (refine zK rfl rfl rfl rfl rfl ?_; refine ⟨_, rfl, ?_⟩) | refine zc rfl rfl rfl rfl rfl ?_ | (refine zT rfl rfl rfl rfl rfl rfl rfl (fun h => ?_) (fun h => ?_) <;> (dsimp only [cmpP] at h; (try (exfalso; omega)))) | refine zd rfl rfl rfl rfl rfl rfl rfl (by omega) ?_ | refine zq rfl rfl rfl rfl rfl ?_ | (refine zf rfl rfl rfl rfl rfl ?_; refine And.intro rfl (And.intro (by first | decide | exact Nat.le_of_ble_eq_true rfl | (simp; omega)) ⟨_, rfl, ?_⟩)) | (refine zn rfl rfl rfl rfl (fun b => ?_)) | refine zA8 rfl rfl rfl rfl rfl ?_) | (with_reducible first | refine zH ?_ | refine zB ?_ | refine zD ?_ | refine zA ?_ | refine zU ?_ | refine zQ ?_) | ((with_reducible refine zJ ?_ ?_); (· exact rfl)) | ((with_reducible refine zG ?_ ?_); (· exact rfl))))
   obtain ⟨b5, hb5⟩ : ∃ b5, b5 = b := ⟨_, rfl⟩
   subst hb5
   refine zu (ι := Nat × List (zr Bool)) [0, 2, 3, 5, 28, 29, 30, 48] rfl (fun p => p.1 ≤ c.beds.length ∧ p.2.map (·.xs) = zFs c j p.1) (fun p => [(49, .int .i64 (p.1 : Int))]) (fun p => [.zAw zm (rowOf zAr 1 4) gm p.2, .row encI 1 3 (.slice (some ⟨gh, 0, none⟩) c.hours.length c.hours.length) (zBl c (j + 1)), .zAw zm (rowOf encI 1 3) gn L, .blk gx [.slice (some ⟨gn, 0, none⟩) c.beds.length c.beds.length, .slice (some ⟨gm, 0, none⟩) c.beds.length c.beds.length, .slice (some ⟨gh, 0, none⟩) c.hours.length c.hours.length], .blk b5 (zy ⟨um, ur, uc, false⟩), .blk b2 [.slice none 0 0, .slice none 0 0, .slice none 0 0]]) (fun p => c.beds.length - p.1) (0, M) ⟨Nat.zero_le _, hM⟩ (by (first | exact lK1 | (repeat (first | exact lK1 | (refine zL rfl ?_))))) (by (repeat (first | exact oK1 _ | (refine oK2 (by (repeat (first | exact tK1 _ _ | apply tK2))) ?_)))) ?_
   rintro ⟨i, M⟩ ⟨hi, hM⟩
   simp only at hi hM
   simp only [zAx, List.cons_append, List.nil_append]
   have hMl : M.length = c.beds.length := by
    have := congrArg List.length hM
    simp [zFs] at this; omega
   by_cases hil : i < c.beds.length
   ·obtain ⟨s, hs1⟩ : ∃ s, M[i]? = some s := ⟨_, List.getElem?_eq_getElem (by omega)⟩
    have hsx : s.xs = zDV c j := by
     have h1 := zMn (c := c) (h := j) hil
     rw [← hM, List.getElem?_map, hs1] at h1
     exact Option.some.inj h1
    have hsl : s.xs.length ≤ 12 := by rw [hsx, hcl]; omega
    (repeat' (first | ((with_reducible refine zF ?_); first | refine zE rfl rfl rfl rfl rfl ?_ | refine zC rfl rfl rfl rfl rfl ?_ | (refine zT rfl rfl rfl rfl rfl rfl rfl (fun h => ?_) (fun h => ?_) <;> (dsimp only [cmpP] at h; (try (exfalso; omega))))) | (with_reducible first | refine zH ?_ | refine zB ?_ | refine zD ?_ | refine zA ?_ | refine zU ?_ | refine zQ ?_) | ((with_reducible refine zJ ?_ ?_); (· exact rfl))))
    refine zCO i hs1 (by (repeat (first | exact tK1 _ _ | apply tK2))) ?_
    have : zAT (M.set i s) i s := ⟨List.getElem?_set_self (by omega)⟩
    simp only [rowOf]
    (refine zAt [] [(11, 0, 0, [.row zAr 1 4 (.slice s.A s.xs.length s.c) s.xs])] [(11, 0, 0)] rfl (show ([11] : List Nat).Nodup by decide) (H0 := [.arr zm 1 gm (M.set i s), .blk gx [.slice (some ⟨gn, 0, none⟩) c.beds.length c.beds.length, .slice (some ⟨gm, 0, none⟩) c.beds.length c.beds.length, .slice (some ⟨gh, 0, none⟩) c.hours.length c.hours.length], .blk b5 (zy ⟨um, ur, uc, false⟩), .all ((M.eraseIdx i).map (rowOf zAr 1 4)), .row encI 1 3 (.slice (some ⟨gh, 0, none⟩) c.hours.length c.hours.length) (zBl c (j + 1)), .zAw zm (rowOf encI 1 3) gn L, .blk b2 [.slice none 0 0, .slice none 0 0, .slice none 0 0]]) (fun _ h => h.sub (by (repeat (first | exact oK1 _ | (refine oK2 (by (repeat (first | exact tK1 _ _ | apply tK2))) ?_))))) (by kernel_rfl) [[], [I0], [O0, O0], [O0, O0, O0], [I0, O0, O0, O0], [O0, O0, O0, O0, O0], [I0, I0, I0, O0, O0, O0], [I0, I0, I0, I0, O0, O0, O0], [O0, O0, O0, O0, O0, O0, O0, O0], [I0, O0, O0, O0, O0, O0, O0, O0, O0], [I0, I0, O0, O0, O0, O0, O0, O0, O0, O0], [I0, I0, I0, I0, I0, I0, I0, I0, O0, O0, O0], [I0, I0, I0, I0, I0, I0, I0, I0, I0, I0, I0, I0], [I0, I0, I0, I0, I0, I0, I0, I0, I0, I0, I0, I0, I0]] (by kernel_rfl) (by kernel_rfl) (by kernel_rfl) (by kernel_rfl) (by kernel_rfl) ?_)
    (repeat' (first | (((with_reducible refine zC3 ?_ ?_); (· exact rfl); refine ⟨_, fun G => (by (try simp (decide := true) only [vis, see, fltT, zx, Nat.reduceAdd, Nat.reduceSub, if_true, if_false, List.set_cons_zero, List.set_cons_succ, List.set_nil, List.nil_append, List.cons_append]); rfl), ?_⟩); first | refine za _ (fun _ => zAk rfl rfl) (fun _ => rfl) rfl (by first | exact fun _ _ _ => rfl | (intro G G' h; simp (decide := true) only [h])) ?_ | refine za _ (fun _ => zAD rfl rfl (by exact rfl)) (fun _ => rfl) rfl (by first | exact fun _ _ _ => rfl | (intro G G' h; simp (decide := true) only [h])) ?_ | (refine zAU rfl ?_; refine za _ (fun _ => zAS rfl rfl) (fun _ => rfl) rfl (by first | exact fun _ _ _ => rfl | (intro G G' h; simp (decide := true) only [h])) ?_) | refine za _ (fun _ => zAq rfl rfl rfl rfl (by omega)) (fun _ => rfl) rfl (by first | exact fun _ _ _ => rfl | (intro G G' h; simp (decide := true) only [h])) ?_ | refine zBb rfl (fun _ => rfl) rfl (fun _ => rfl) (by exact rfl) (by exact fun _ => rfl) (by first | exact fun _ _ _ => rfl | (intro G G' h; simp (decide := true) only [h])) ?_) | (refine zEF (enc := zAr) (xs := s.xs) (vx := .slice s.A s.xs.length s.c) [false] List.mem_cons_self rfl rfl (fun _ => rfl) rfl (fun _ => rfl) (fun _ => rfl) rfl (fun G => (by (try simp (decide := true) only [vis, see, fltT, zx, Nat.reduceAdd, Nat.reduceSub, if_true, if_false, List.set_cons_zero, List.set_cons_succ, List.set_nil, List.nil_append, List.cons_append]); rfl)) (fun _ W hW h => zAf (enc := zAr) (by exact rfl) W hW h) ⟨by simp; omega, by decide⟩ ?_) | ((with_reducible refine zBu ?_ ?_); (· exact rfl))))
    intro G
    simp only [regsT, List.nil_append, List.cons_append]
    refine zEi (H' := [.row zAr 1 4 (.slice (G 11).A (s.xs ++ [false]).length (G 11).m) (s.xs ++ [false]), .arr zm 1 gm (M.set i s), .blk gx [.slice (some ⟨gn, 0, none⟩) c.beds.length c.beds.length, .slice (some ⟨gm, 0, none⟩) c.beds.length c.beds.length, .slice (some ⟨gh, 0, none⟩) c.hours.length c.hours.length], .blk b5 (zy ⟨um, ur, uc, false⟩), .all ((M.eraseIdx i).map (rowOf zAr 1 4)), .row encI 1 3 (.slice (some ⟨gh, 0, none⟩) c.hours.length c.hours.length) (zBl c (j + 1)), .zAw zm (rowOf encI 1 3) gn L, .blk b2 [.slice none 0 0, .slice none 0 0, .slice none 0 0]]) (fun _ h => h.sub (by (repeat (first | exact oK1 _ | (refine oK2 (by (repeat (first | exact tK1 _ _ | apply tK2))) ?_))))) ?_
    (repeat' (first | ((with_reducible refine zF ?_); first | refine zE rfl rfl rfl rfl rfl ?_ | refine zCV (i := i) (s := s) ⟨(G 11).A, s.xs ++ [false], (G 11).m⟩ rfl rfl rfl rfl rfl rfl (by (repeat (first | exact tK1 _ _ | apply tK2))) (by omega) ?_ | refine zj rfl rfl rfl rfl rfl rfl (by omega) ?_) | (with_reducible first | refine zB ?_ | refine zD ?_ | refine zA ?_ | refine zk ?_)))
    refine zCN i (re := rowOf zAr 1 4) ⟨(G 11).A, s.xs ++ [false], (G 11).m⟩ hs1 (by (repeat (first | exact tK1 _ _ | apply tK2))) (by (repeat (first | exact tK1 _ _ | apply tK2))) (by (repeat (first | exact tK1 _ _ | apply tK2))) ?_
    refine ze (i + 1, M.set i ⟨(G 11).A, s.xs ++ [false], (G 11).m⟩) ⟨by simp only; omega, ?_⟩ (by simp only; omega) (by (first | exact lK1 | (repeat (first | exact lK1 | (refine zL rfl ?_))))) (by (repeat (first | exact oK1 _ | (refine oK2 (by (repeat (first | exact tK1 _ _ | apply tK2))) ?_))))
    simp only
    rw [List.map_set, hM, hsx, ← hcs, zKx hil]
   ·obtain rfl : i = c.beds.length := by omega
    (repeat' (first | ((with_reducible refine zF ?_); first | refine zE rfl rfl rfl rfl rfl ?_ | (refine zT rfl rfl rfl rfl rfl rfl rfl (fun h => ?_) (fun h => ?_) <;> (dsimp only [cmpP] at h; (try (exfalso; omega)))) | refine zj rfl rfl rfl rfl rfl rfl (by omega) ?_) | (with_reducible first | refine zH ?_ | refine zB ?_ | refine zD ?_ | refine zA ?_ | refine zl ?_ | refine zk ?_ | refine zV ?_ | refine zY ?_) | ((with_reducible refine zG ?_ ?_); (· exact rfl))))
    refine ze (j + 1, M) ⟨by simp only; omega, ?_⟩ (by simp only; omega) (by (first | exact lK1 | (repeat (first | exact lK1 | (refine zL rfl ?_))))) (by (repeat (first | exact oK1 _ | (refine oK2 (by (repeat (first | exact tK1 _ _ | apply tK2))) ?_))))
    simp only
    rw [hM, zKy, zFI]

  ·simp only [if_true] at hce
   (repeat' (first | ((with_reducible refine zF ?_); first | refine zE rfl rfl rfl rfl rfl ?_ | refine zC rfl rfl rfl rfl rfl ?_ | (refine zK rfl rfl rfl rfl rfl ?_; refine ⟨_, rfl, ?_⟩) | refine zc rfl rfl rfl rfl rfl ?_ | (refine zT rfl rfl rfl rfl rfl rfl rfl (fun h => ?_) (fun h => ?_) <;> (dsimp only [cmpP] at h; (try (exfalso; omega)))) | refine zCr (enc := encI) (i := j) uc rfl rfl rfl rfl rfl rfl rfl rfl (by omega) ?_ | refine zd rfl rfl rfl rfl rfl rfl rfl (by omega) ?_ | refine zq rfl rfl rfl rfl rfl ?_ | (refine zf rfl rfl rfl rfl rfl ?_; refine And.intro rfl (And.intro (by first | decide | exact Nat.le_of_ble_eq_true rfl | (simp; omega)) ⟨_, rfl, ?_⟩)) | (refine zn rfl rfl rfl rfl (fun b => ?_)) | refine zA8 rfl rfl rfl rfl rfl ?_) | (with_reducible first | refine zH ?_ | refine zB ?_ | refine zD ?_ | refine zA ?_ | refine zU ?_ | refine zQ ?_) | ((with_reducible refine zJ ?_ ?_); (· exact rfl))))
   rw [hce]
   obtain ⟨b5, hb5⟩ : ∃ b5, b5 = b := ⟨_, rfl⟩
   subst hb5
   refine zu (ι := Nat × List (zr Bool)) [0, 2, 3, 5, 28, 29, 30, 48] rfl (fun p => p.1 ≤ c.beds.length ∧ p.2.map (·.xs) = zFs c j p.1) (fun p => [(49, .int .i64 (p.1 : Int))]) (fun p => [.zAw zm (rowOf zAr 1 4) gm p.2, .row encI 1 3 (.slice (some ⟨gh, 0, none⟩) c.hours.length c.hours.length) (zBl c (j + 1)), .zAw zm (rowOf encI 1 3) gn L, .blk gx [.slice (some ⟨gn, 0, none⟩) c.beds.length c.beds.length, .slice (some ⟨gm, 0, none⟩) c.beds.length c.beds.length, .slice (some ⟨gh, 0, none⟩) c.hours.length c.hours.length], .blk b5 (zy ⟨um, ur, uc, true⟩), .blk b2 [.slice none 0 0, .slice none 0 0, .slice none 0 0]]) (fun p => c.beds.length - p.1) (0, M) ⟨Nat.zero_le _, hM⟩ (by (first | exact lK1 | (repeat (first | exact lK1 | (refine zL rfl ?_))))) (by (repeat (first | exact oK1 _ | (refine oK2 (by (repeat (first | exact tK1 _ _ | apply tK2))) ?_)))) ?_
   rintro ⟨i, M⟩ ⟨hi, hM⟩
   simp only at hi hM
   simp only [zAx, List.cons_append, List.nil_append]
   have hMl : M.length = c.beds.length := by
    have := congrArg List.length hM
    simp [zFs] at this; omega
   by_cases hil : i < c.beds.length
   ·obtain ⟨s, hs1⟩ : ∃ s, M[i]? = some s := ⟨_, List.getElem?_eq_getElem (by omega)⟩
    have hsx : s.xs = zDV c j := by
     have h1 := zMn (c := c) (h := j) hil
     rw [← hM, List.getElem?_map, hs1] at h1
     exact Option.some.inj h1
    have hsl : s.xs.length ≤ 12 := by rw [hsx, hcl]; omega
    (repeat' (first | ((with_reducible refine zF ?_); first | refine zE rfl rfl rfl rfl rfl ?_ | refine zC rfl rfl rfl rfl rfl ?_ | (refine zT rfl rfl rfl rfl rfl rfl rfl (fun h => ?_) (fun h => ?_) <;> (dsimp only [cmpP] at h; (try (exfalso; omega))))) | (with_reducible first | refine zH ?_ | refine zB ?_ | refine zD ?_ | refine zA ?_ | refine zU ?_ | refine zQ ?_) | ((with_reducible refine zJ ?_ ?_); (· exact rfl))))
    refine zCO i hs1 (by (repeat (first | exact tK1 _ _ | apply tK2))) ?_
    have : zAT (M.set i s) i s := ⟨List.getElem?_set_self (by omega)⟩
    simp only [rowOf]
    (refine zAt [] [(11, 0, 0, [.row zAr 1 4 (.slice s.A s.xs.length s.c) s.xs])] [(11, 0, 0)] rfl (show ([11] : List Nat).Nodup by decide) (H0 := [.arr zm 1 gm (M.set i s), .blk gx [.slice (some ⟨gn, 0, none⟩) c.beds.length c.beds.length, .slice (some ⟨gm, 0, none⟩) c.beds.length c.beds.length, .slice (some ⟨gh, 0, none⟩) c.hours.length c.hours.length], .blk b5 (zy ⟨um, ur, uc, true⟩), .all ((M.eraseIdx i).map (rowOf zAr 1 4)), .row encI 1 3 (.slice (some ⟨gh, 0, none⟩) c.hours.length c.hours.length) (zBl c (j + 1)), .zAw zm (rowOf encI 1 3) gn L, .blk b2 [.slice none 0 0, .slice none 0 0, .slice none 0 0]]) (fun _ h => h.sub (by (repeat (first | exact oK1 _ | (refine oK2 (by (repeat (first | exact tK1 _ _ | apply tK2))) ?_))))) (by kernel_rfl) [[], [I0], [O0, O0], [O0, O0, O0], [I0, O0, O0, O0], [O0, O0, O0, O0, O0], [I0, I0, I0, O0, O0, O0], [I0, I0, I0, I0, O0, O0, O0], [O0, O0, O0, O0, O0, O0, O0, O0], [I0, O0, O0, O0, O0, O0, O0, O0, O0], [I0, I0, O0, O0, O0, O0, O0, O0, O0, O0], [I0, I0, I0, I0, I0, I0, I0, I0, O0, O0, O0], [I0, I0, I0, I0, I0, I0, I0, I0, I0, I0, I0, I0], [I0, I0, I0, I0, I0, I0, I0, I0, I0, I0, I0, I0, I0]] (by kernel_rfl) (by kernel_rfl) (by kernel_rfl) (by kernel_rfl) (by kernel_rfl) ?_)
    (repeat' (first | (((with_reducible refine zC3 ?_ ?_); (· exact rfl); refine ⟨_, fun G => (by (try simp (decide := true) only [vis, see, fltT, zx, Nat.reduceAdd, Nat.reduceSub, if_true, if_false, List.set_cons_zero, List.set_cons_succ, List.set_nil, List.nil_append, List.cons_append]); rfl), ?_⟩); first | refine za _ (fun _ => zAk rfl rfl) (fun _ => rfl) rfl (by first | exact fun _ _ _ => rfl | (intro G G' h; simp (decide := true) only [h])) ?_ | refine za _ (fun _ => zAD rfl rfl (by exact rfl)) (fun _ => rfl) rfl (by first | exact fun _ _ _ => rfl | (intro G G' h; simp (decide := true) only [h])) ?_ | (refine zAU rfl ?_; refine za _ (fun _ => zAS rfl rfl) (fun _ => rfl) rfl (by first | exact fun _ _ _ => rfl | (intro G G' h; simp (decide := true) only [h])) ?_) | refine za _ (fun _ => zAq rfl rfl rfl rfl (by omega)) (fun _ => rfl) rfl (by first | exact fun _ _ _ => rfl | (intro G G' h; simp (decide := true) only [h])) ?_ | refine zBb rfl (fun _ => rfl) rfl (fun _ => rfl) (by exact rfl) (by exact fun _ => rfl) (by first | exact fun _ _ _ => rfl | (intro G G' h; simp (decide := true) only [h])) ?_) | (refine zEF (enc := zAr) (xs := s.xs) (vx := .slice s.A s.xs.length s.c) [true] List.mem_cons_self rfl rfl (fun _ => rfl) rfl (fun _ => rfl) (fun _ => rfl) rfl (fun G => (by (try simp (decide := true) only [vis, see, fltT, zx, Nat.reduceAdd, Nat.reduceSub, if_true, if_false, List.set_cons_zero, List.set_cons_succ, List.set_nil, List.nil_append, List.cons_append]); rfl)) (fun _ W hW h => zAf (enc := zAr) (by exact rfl) W hW h) ⟨by simp; omega, by decide⟩ ?_) | ((with_reducible refine zBu ?_ ?_); (· exact rfl))))
    intro G
    simp only [regsT, List.nil_append, List.cons_append]
    refine zEi (H' := [.row zAr 1 4 (.slice (G 11).A (s.xs ++ [true]).length (G 11).m) (s.xs ++ [true]), .arr zm 1 gm (M.set i s), .blk gx [.slice (some ⟨gn, 0, none⟩) c.beds.length c.beds.length, .slice (some ⟨gm, 0, none⟩) c.beds.length c.beds.length, .slice (some ⟨gh, 0, none⟩) c.hours.length c.hours.length], .blk b5 (zy ⟨um, ur, uc, true⟩), .all ((M.eraseIdx i).map (rowOf zAr 1 4)), .row encI 1 3 (.slice (some ⟨gh, 0, none⟩) c.hours.length c.hours.length) (zBl c (j + 1)), .zAw zm (rowOf encI 1 3) gn L, .blk b2 [.slice none 0 0, .slice none 0 0, .slice none 0 0]]) (fun _ h => h.sub (by (repeat (first | exact oK1 _ | (refine oK2 (by (repeat (first | exact tK1 _ _ | apply tK2))) ?_))))) ?_
    (repeat' (first | ((with_reducible refine zF ?_); first | refine zE rfl rfl rfl rfl rfl ?_ | refine zCV (i := i) (s := s) ⟨(G 11).A, s.xs ++ [true], (G 11).m⟩ rfl rfl rfl rfl rfl rfl (by (repeat (first | exact tK1 _ _ | apply tK2))) (by omega) ?_ | refine zj rfl rfl rfl rfl rfl rfl (by omega) ?_) | (with_reducible first | refine zB ?_ | refine zD ?_ | refine zA ?_ | refine zk ?_)))
    refine zCN i (re := rowOf zAr 1 4) ⟨(G 11).A, s.xs ++ [true], (G 11).m⟩ hs1 (by (repeat (first | exact tK1 _ _ | apply tK2))) (by (repeat (first | exact tK1 _ _ | apply tK2))) (by (repeat (first | exact tK1 _ _ | apply tK2))) ?_
    refine ze (i + 1, M.set i ⟨(G 11).A, s.xs ++ [true], (G 11).m⟩) ⟨by simp only; omega, ?_⟩ (by simp only; omega) (by (first | exact lK1 | (repeat (first | exact lK1 | (refine zL rfl ?_))))) (by (repeat (first | exact oK1 _ | (refine oK2 (by (repeat (first | exact tK1 _ _ | apply tK2))) ?_))))
    simp only
    rw [List.map_set, hM, hsx, ← hcs, zKx hil]
   ·obtain rfl : i = c.beds.length := by omega
    (repeat' (first | ((with_reducible refine zF ?_); first | refine zE rfl rfl rfl rfl rfl ?_ | (refine zT rfl rfl rfl rfl rfl rfl rfl (fun h => ?_) (fun h => ?_) <;> (dsimp only [cmpP] at h; (try (exfalso; omega)))) | refine zj rfl rfl rfl rfl rfl rfl (by omega) ?_) | (with_reducible first | refine zH ?_ | refine zB ?_ | refine zD ?_ | refine zA ?_ | refine zl ?_ | refine zk ?_ | refine zV ?_ | refine zY ?_) | ((with_reducible refine zG ?_ ?_); (· exact rfl))))
    refine ze (j + 1, M) ⟨by simp only; omega, ?_⟩ (by simp only; omega) (by (first | exact lK1 | (repeat (first | exact lK1 | (refine zL rfl ?_))))) (by (repeat (first | exact oK1 _ | (refine oK2 (by (repeat (first | exact tK1 _ _ | apply tK2))) ?_))))
    simp only
    rw [hM, zKy, zFI]

 ·obtain rfl : j = c.hours.length := by omega
  (repeat' (first | ((with_reducible refine zF ?_); first | (refine zK rfl rfl rfl rfl rfl ?_; refine ⟨_, rfl, ?_⟩) | (refine zT rfl rfl rfl rfl rfl rfl rfl (fun h => ?_) (fun h => ?_) <;> (dsimp only [cmpP] at h; (try (exfalso; omega)))) | (refine zf rfl rfl rfl rfl rfl ?_; refine And.intro rfl (And.intro (by first | decide | exact Nat.le_of_ble_eq_true rfl | (simp; omega)) ⟨_, rfl, ?_⟩))) | (with_reducible first | refine zH ?_ | refine zB ?_ | refine zD ?_ | refine zA ?_ | refine zX ?_ | refine zl ?_ | refine zV ?_ | refine zY ?_) | ((with_reducible refine zG ?_ ?_); (· exact rfl))))
  refine zS (by (exact zN.cons (by exact res1c rfl (by exact rfl)) zN.nil)) ((gn, L), (gm, M), gh) ⟨hL, ?_⟩ rfl (fun _ h => ?_)
  ·simp only; rw [hM, zFI]; simp [zDV, zFt]
  ·rw [← zMF]; exact h.sub (by (repeat (first | exact oK1 _ | (refine oK2 (by (repeat (first | exact tK1 _ _ | apply tK2))) ?_))))
end Go.Proofs.YtdigopgncfhiaaaGreatDoor.Two
namespace Go.Proofs.YtdigopgncfhiaaaGreatDoor
variable {ro : Option Nat}
open Go.RowKit
set_option linter.unusedSectionVars false
section
variable {P : Program} {w0 : World} {n : Nat} {d : List Deferred} {R : List (Nat × Value)} {H : List Ent} {Q : Exit → Act → World → Prop} {ops : Array Oper} {rest : List Oper} {o : Oper} {t : Tmp} {x y : Operand} {T T' : TypeId} {k k' : IntKind} {i j : Int}
theorem e_shr {m h : Nat} (hop : o.op = .binOp .shr T x y T') (hx : evR R x = some (.int .i64 (m : Int))) (hy : evR R y = some (.int k' (h : Int))) (hh : h ≤ 64) : Ev P w0 n d R H o (.int .i64 ((m >>> h : Nat) : Int)) :=
 (fun a w q => by
  unfold execOp; rw [hop]
  have e1 : ((m : Int).fdiv (2 ^ h)) = ((m >>> h : Nat) : Int) := by
   rw [Nat.shiftRight_eq_div_pow, Int.fdiv_eq_ediv_of_nonneg _ (by exact Int.le_of_lt (Int.pow_pos (by omega)))]
   rw [Int.natCast_ediv, Int.natCast_pow]; rfl
  have e2 : min (h : Int).toNat IntKind.i64.bits = h := by simp [IntKind.bits]; omega
  have e3 : ¬ ((h : Int) < 0) := by omega
  simp only [Sem.run_bind, q.ev hx, q.ev hy, eqGuard, binOp, Op.shift, e3, if_false, e2, e1, Bool.not_false, if_true, Sem.run_pure, Result.andThen_ok])
theorem zJ6 {m : Nat} (hop : o.op = .binOp .and T x y T') (hx : evR R x = some (.int .i64 (m : Int))) (hy : evR R y = some (.int .i64 1)) (hm : m < 4611686018427387904) : Ev P w0 n d R H o (.int .i64 ((m % 2 : Nat) : Int)) :=
 (fun a w q => by
  unfold execOp; rw [hop]
  have e1 : (BitVec.ofInt IntKind.i64.bits (m : Int) &&& BitVec.ofInt IntKind.i64.bits 1).toNat = m % 2 := by
   show (BitVec.ofInt 64 (m : Int) &&& BitVec.ofInt 64 1).toNat = m % 2
   rw [BitVec.toNat_and, BitVec.ofInt_natCast, BitVec.toNat_ofNat, Nat.mod_eq_of_lt (by omega)]
   have : (BitVec.ofInt 64 1).toNat = 1 := by decide
   rw [this, Nat.and_one_is_mod]
  have e2 := IntWalk.i64_in ((m % 2 : Nat) : Int) (by omega)
  simp only [Sem.run_bind, q.ev hx, q.ev hy, eqGuard, binOp, Op.intBits, ne_eq, not_true_eq_false, if_false, e1, e2, Bool.not_false, if_true, Sem.run_pure, Result.andThen_ok])
theorem e_shl1 {h : Nat} (hop : o.op = .binOp .shl T x y T') (hx : evR R x = some (.int .i64 1)) (hy : evR R y = some (.int k' (h : Int))) (hh : h ≤ 60) : Ev P w0 n d R H o (.int .i64 ((2 ^ h : Nat) : Int)) :=
 (fun a w q => by
  unfold execOp; rw [hop]
  have e2 : min (h : Int).toNat IntKind.i64.bits = h := by simp [IntKind.bits]; omega
  have e3 : ¬ ((h : Int) < 0) := by omega
  have hp : 2 ^ h ≤ 2 ^ 60 := Nat.pow_le_pow_right (by omega) hh
  have e4 : (1 : Int) * 2 ^ h = ((2 ^ h : Nat) : Int) := by rw [Int.one_mul, Int.natCast_pow]; rfl
  have e5 : IntKind.i64.wrap ((2 ^ h : Nat) : Int) = ((2 ^ h : Nat) : Int) := by
   generalize 2 ^ h = p at hp
   exact IntWalk.i64_in _ (by omega)
  simp only [Sem.run_bind, q.ev hx, q.ev hy, eqGuard, binOp, Op.shift, e3, if_false, e2, e4, e5, Bool.not_false, if_true, Sem.run_pure, Result.andThen_ok])
theorem u_anyShr {k' : IntKind} (hop : o.op = .binOp .shr T x y T') (hw : want R ops o = some true) (hd : o.dst = some t) (ht : Nat.blt t n = true) (hx : evR R x = some (.int k i)) (hy : evR R y = some (.int k' j)) (hj : 0 ≤ j) (h : ∀ z, U w0 n d ((t, .int k z) :: R) H (wpL ro P ops Q rest)) : U w0 n d R H (wpL ro P ops Q (o :: rest)) := by
 have e3 : ¬ (j < 0) := by omega
 exact zAJ (v := .int k (i.fdiv (2 ^ (min j.toNat k.bits)))) hw hd ht (fun a w q => by unfold execOp; rw [hop]; simp only [Sem.run_bind, q.ev hx, q.ev hy, eqGuard, binOp, Op.shift, e3, if_false, Bool.not_false, if_true, Sem.run_pure, Result.andThen_ok]) (h _)
theorem zIw {T1 T2 : TypeId} {d1 : TypeDesc} {s1 s2 : Nat} {g1 g2 : Bool} {k' : IntKind} (hop : o.op = .convert T1 T2 x) [i1 : TyI P T1 d1 s1 g1] [i2 : TyI P T2 (.int k') s2 g2] (hw : want R ops o = some true) (hd : o.dst = some t) (ht : Nat.blt t n = true) (hx : evR R x = some (.int k i)) (h : ∀ z, U w0 n d ((t, .int k' z) :: R) H (wpL ro P ops Q rest)) : U w0 n d R H (wpL ro P ops Q (o :: rest)) :=
 zAJ (v := .int k' (k'.wrap i)) hw hd ht (fun a w q => by
  unfold execOp; rw [hop]
  have e1 := run_underlying i1.und w
  have e2 := run_underlying i2.und w
  simp [q.ev hx, convert, e1, e2, Conv.intToInt]) (h _)
theorem u_and127 (hop : o.op = .binOp .and T x y T') (hw : want R ops o = some true) (hd : o.dst = some t) (ht : Nat.blt t n = true) (hx : evR R x = some (.int .i64 i)) (hy : evR R y = some (.int .i64 127)) (h : ∀ z : Nat, z ≤ 127 → U w0 n d ((t, .int .i64 (z : Int)) :: R) H (wpL ro P ops Q rest)) : U w0 n d R H (wpL ro P ops Q (o :: rest)) := by
 have hle : (BitVec.ofInt IntKind.i64.bits i &&& BitVec.ofInt IntKind.i64.bits 127).toNat ≤ 127 := by
  show (BitVec.ofInt 64 i &&& BitVec.ofInt 64 127).toNat ≤ 127
  rw [BitVec.toNat_and]
  have : (BitVec.ofInt 64 127).toNat = 127 := by decide
  rw [this]; exact Nat.and_le_right
 refine zAJ (v := .int .i64 (((BitVec.ofInt IntKind.i64.bits i &&& BitVec.ofInt IntKind.i64.bits 127).toNat : Nat) : Int)) hw hd ht (fun a w q => ?_) (h _ hle)
 unfold execOp; rw [hop]
 have e2 := IntWalk.i64_in ((((BitVec.ofInt IntKind.i64.bits i &&& BitVec.ofInt IntKind.i64.bits 127).toNat : Nat)) : Int) (by omega)
 simp only [Sem.run_bind, q.ev hx, q.ev hy, eqGuard, binOp, Op.intBits, ne_eq, not_true_eq_false, if_false, e2, Bool.not_false, if_true, Sem.run_pure, Result.andThen_ok]
end
theorem zKE {m h : Nat} : m.testBit h = decide ((m >>> h) % 2 = 1) := by
 rw [Nat.testBit_eq_decide_div_mod_eq, Nat.shiftRight_eq_div_pow]
theorem bit_zero {m h : Nat} : (!m.testBit h) = decide ((m >>> h) % 2 = 0) := by
 rw [zKE]
 have := Nat.mod_two_eq_zero_or_one (m >>> h)
 rcases this with h | h <;> simp [h]
end Go.Proofs.YtdigopgncfhiaaaGreatDoor
namespace Go.Proofs.YtdigopgncfhiaaaGreatDoor
open Go.RowKit
open Flow (lackF sumL)
set_option maxRecDepth 20000
theorem zIG {nd : Nat → Int} {my sm : Nat → Bool} (hb : ∀ h, -1000000 ≤ nd h ∧ nd h ≤ 1000000) : ∀ k : Nat, 0 ≤ (lackF nd my sm k).1 ∧ (lackF nd my sm k).1 ≤ 1000000 ∧ 0 ≤ (lackF nd my sm k).2 ∧ (lackF nd my sm k).2 ≤ k
 | 0 => by simp [lackF]
 | k + 1 => by
  obtain ⟨h1, h2, h3, h4⟩ := zIG (my := my) (sm := sm) hb k
  have := hb k
  simp only [lackF]
  refine ⟨by omega, by omega, ?_, ?_⟩ <;> split <;> omega
theorem zJ3 {l : List Int} (h : ∀ x ∈ l, -1000000 ≤ x ∧ x ≤ 1000000) (i : Nat) : -1000000 ≤ l.getD i 0 ∧ l.getD i 0 ≤ 1000000 := by
 by_cases hi : i < l.length
 ·rw [Flow.zAc hi]; exact h _ (List.getElem_mem hi)
 ·rw [List.getD_eq_getElem?_getD, List.getElem?_eq_none (by omega)]; simp
def zEg (nds : List (List Int)) (mys : List (List Bool)) (m i k : Nat) : Int := (lackF (fun h => (nds.getD i []).getD h 0) (fun h => (mys.getD i []).getD h false) m.testBit k).1
def zD4 (hs : List Int) (m k : Nat) : Int := sumL (List.range k) (fun h => if m.testBit h then hs.getD h 0 else 0)
def zLe (nds : List (List Int)) (mys : List (List Bool)) (hs : List Int) (m : Nat) : Int := sumL (List.range nds.length) (fun i => zEg nds mys m i (nds.getD i []).length) - zD4 hs m hs.length
theorem zF7 {f : Nat → Int} {u : Int} (h : ∀ i, 0 ≤ f i ∧ f i ≤ u) : ∀ k : Nat, 0 ≤ sumL (List.range k) f ∧ sumL (List.range k) f ≤ u * k
 | 0 => by simp [sumL]
 | k + 1 => by
  obtain ⟨h1, h2⟩ := zF7 h k
  obtain ⟨h3, h4⟩ := h k
  rw [Flow.zAu, Int.natCast_add, Int.mul_add]
  exact ⟨by omega, by omega⟩
theorem getD_map {α β : Type} {f : α → β} {l : List α} {i : Nat} {x : α} {d : β} (h : l[i]? = some x) : (l.map f).getD i d = f x := by
 rw [List.getD_eq_getElem?_getD, List.getElem?_map, h]; rfl
structure zDr (L : List (zr Int)) (M : List (zr Bool)) (hs : List Int) : Prop where
 len : L.length ≤ 20
 len2 : M.length = L.length
 row : ∀ (i : Nat) (s : zr Int) (t : zr Bool), L[i]? = some s → M[i]? = some t → s.xs.length ≤ t.xs.length
 rlen : ∀ s ∈ L, s.xs.length ≤ 12
 big : ∀ s ∈ L, ∀ x ∈ s.xs, -1000000 ≤ x ∧ x ≤ 1000000
 hlen : hs.length ≤ 12
 hbig : ∀ x ∈ hs, 0 ≤ x ∧ x ≤ 1000
theorem zDr.big2 {L : List (zr Int)} {M : List (zr Bool)} {hs : List Int} (h : zDr L M hs) (i k : Nat) : -1000000 ≤ ((L.map (·.xs)).getD i []).getD k 0 ∧ ((L.map (·.xs)).getD i []).getD k 0 ≤ 1000000 := by
 by_cases hi : i < L.length
 ·rw [getD_map (List.getElem?_eq_getElem hi)]
  exact zJ3 (h.big _ (List.getElem_mem hi)) k
 ·have e : (L.map (·.xs)).getD i [] = [] := by rw [List.getD_eq_getElem?_getD, List.getElem?_eq_none (by rw [List.length_map]; omega)]; rfl
  rw [e]; simp
theorem zDr.zIF {L : List (zr Int)} {M : List (zr Bool)} {hs : List Int} (h : zDr L M hs) (m i k : Nat) : 0 ≤ zEg (L.map (·.xs)) (M.map (·.xs)) m i k ∧ zEg (L.map (·.xs)) (M.map (·.xs)) m i k ≤ 1000000 := by
 have := zIG (nd := fun h => ((L.map (·.xs)).getD i []).getD h 0) (my := fun h => ((M.map (·.xs)).getD i []).getD h false) (sm := m.testBit) (h.big2 i) k
 exact ⟨this.1, this.2.1⟩
theorem zDr.zMr {L : List (zr Int)} {M : List (zr Bool)} {hs : List Int} (h : zDr L M hs) (m k : Nat) : 0 ≤ (if m.testBit k then hs.getD k 0 else 0) ∧ (if m.testBit k then hs.getD k 0 else 0) ≤ 1000 := by
 split
 ·by_cases hi : k < hs.length
  ·rw [Flow.zAc hi]; exact h.hbig _ (List.getElem_mem hi)
  ·rw [List.getD_eq_getElem?_getD, List.getElem?_eq_none (by omega)]; simp
 ·omega
end Go.Proofs.YtdigopgncfhiaaaGreatDoor
namespace Go.Proofs.YtdigopgncfhiaaaGreatDoor
open Go.RowKit
open Flow (lackF sumL)
set_option maxRecDepth 20000
def zA5 (A : Option Addr) (la ca : Nat) (B : Option Addr) (lb cb : Nat) (C : Option Addr) (lc cc : Nat) : List Value := [.slice A la ca, .slice B lb cb, .slice C lc cc]
def zHr (nds : List (List Int)) (mys : List (List Bool)) (hs : List Int) (hour m : Nat) : Int := sumL (List.range nds.length) (fun i => zEg nds mys m i (hour + 1)) - zD4 hs m hour
set_option maxHeartbeats 2000000 in
theorem zL0 (L : List (zr Int)) (A : Option Addr) (ca : Nat) (M : List (zr Bool)) (B : Option Addr) (cb : Nat) (hs : List Int) (C : Option Addr) (cc hour m : Nat) (w : World) (hL : zCc encI 1 w A L) (hM : zCc zAr 1 w B M) (hh : zt encI 1 w C hs) (hok : zDr L M hs) (hmb : m < 1000000) (hr : ∀ s ∈ L, hour < s.xs.length) (hr2 : ∀ t ∈ M, hour < t.xs.length) (hr3 : hour ≤ hs.length) :
  Gv Tryz.prog 70 [.agg (zA5 A L.length ca B M.length cb C hs.length cc).toArray, .int .i64 (hour : Int), .int .i64 (m : Int)] w (.bool (decide (0 < zHr (L.map (·.xs)) (M.map (·.xs)) hs hour m))) := by
 have n1 := hok.len; have n2 := hok.len2; have n3 := hok.hlen
 have hLp := hL.p; have hMp := hM.p
 unfold Gv zA5
 (refine zI (n := 76) Tryz.func70 rfl rfl rfl ?_)
 (repeat' (first | ((with_reducible refine zF ?_); first | refine zE rfl rfl rfl rfl rfl ?_ | refine zC rfl rfl rfl rfl rfl ?_ | (refine zK rfl rfl rfl rfl rfl ?_; refine ⟨_, rfl, ?_⟩) | refine zc rfl rfl rfl rfl rfl ?_ | refine zq rfl rfl rfl rfl rfl ?_ | (refine zAB rfl rfl rfl rfl rfl rfl (fun b => ?_))) | (with_reducible first | refine zH ?_ | refine zB ?_ | refine zD ?_ | refine zA ?_ | refine zQ ?_)))
 obtain ⟨b1, hb1⟩ : ∃ b1, b1 = b := ⟨_, rfl⟩
 subst hb1
 refine zu (ι := Nat) [3, 1, 2, 15, 16] rfl (fun i => i ≤ L.length) (fun i => [(17, .int .i64 (i : Int)), (7, .int .i64 (sumL (List.range i) (fun i => zEg (L.map (·.xs)) (M.map (·.xs)) m i (hour + 1))))]) (fun _ => [.blk b1 [.slice A L.length ca, .slice B M.length cb, .slice C hs.length cc]]) (fun i => L.length - i) 0 (Nat.zero_le _) (by (first | exact lK1 | (repeat (first | exact lK1 | (refine zL rfl ?_))))) (by (repeat (first | exact oK1 _ | (refine oK2 (by (repeat (first | exact tK1 _ _ | apply tK2))) ?_)))) ?_
 rintro i hi
 simp only [zAx, List.cons_append, List.nil_append]
 by_cases hlt : i < L.length
 ·obtain ⟨s, hs1⟩ : ∃ s, L[i]? = some s := ⟨_, List.getElem?_eq_getElem hlt⟩
  obtain ⟨t, ht1⟩ : ∃ t, M[i]? = some t := ⟨_, List.getElem?_eq_getElem (by omega)⟩
  obtain ⟨b2, o2, rfl, _, _⟩ := hLp.at_ hlt
  obtain ⟨b3, o3, rfl, _, _⟩ := hMp.at_ (i := i) (by omega)
  have : InS w b2 o2 zm 1 L := ⟨hLp⟩
  have : InS w b3 o3 zm 1 M := ⟨hMp⟩
  have : zAT L i s := ⟨hs1⟩
  have : zAT M i t := ⟨ht1⟩
  have hsx := hL.rows s (List.mem_of_getElem? hs1)
  have htx := hM.rows t (List.mem_of_getElem? ht1)
  have hsl := hr s (List.mem_of_getElem? hs1)
  have htl := hr2 t (List.mem_of_getElem? ht1)
  have hsum := zF7 (fun i => hok.zIF m i (hour + 1)) i
  have e2 := Flow.zAu (fun i => zEg (L.map (·.xs)) (M.map (·.xs)) m i (hour + 1)) i
  have e3 : ∀ k, zEg (L.map (·.xs)) (M.map (·.xs)) m i k = (lackF (fun h => s.xs.getD h 0) (fun h => t.xs.getD h false) m.testBit k).1 := fun k => by
   unfold zEg
   rw [getD_map hs1, getD_map ht1]
  have e4 := hok.zIF m i (hour + 1)
  have hbg := zJ3 (hok.big s (List.mem_of_getElem? hs1))
  have hrl := hok.rlen s (List.mem_of_getElem? hs1)
  rw [e3] at e2 e4
  generalize sumL (List.range i) (fun i => zEg (L.map (·.xs)) (M.map (·.xs)) m i (hour + 1)) = p at *
  clear e3
  obtain ⟨sA, sx, sc⟩ := s
  obtain ⟨tA, tx, tc⟩ := t
  simp only at hsx htx hsl htl e2 e4 hbg hrl
  obtain ⟨b4, o4, rfl, _, _⟩ := hsx.at_ (i := 0) (by omega)
  obtain ⟨b5, o5, rfl, _, _⟩ := htx.at_ (i := 0) (by omega)
  have : InS w b4 o4 encI 1 sx := ⟨hsx⟩
  have : InS w b5 o5 zAr 1 tx := ⟨htx⟩
  (repeat' (first | ((with_reducible refine zF ?_); first | refine zE rfl rfl rfl rfl rfl ?_ | refine zC rfl rfl rfl rfl rfl ?_ | (refine zK rfl rfl rfl rfl rfl ?_; refine ⟨_, rfl, ?_⟩) | (refine zT rfl rfl rfl rfl rfl rfl rfl (fun h => ?_) (fun h => ?_) <;> (dsimp only [cmpP] at h; (try (exfalso; omega)))) | refine zj rfl rfl rfl rfl rfl rfl (by omega) ?_ | refine zd rfl rfl rfl rfl rfl rfl rfl (by omega) ?_) | (with_reducible first | refine zH ?_ | refine zB ?_ | refine zD ?_ | refine zA ?_ | refine zU ?_ | refine zQ ?_) | ((with_reducible refine zJ ?_ ?_); (· exact rfl))))
  refine zu (ι := Nat) [3, 1, 2, 15, 16, 17, 7, 8, 9, 23] rfl (fun k => k ≤ hour + 1) (fun k => [(24, .int .i64 (k : Int)), (10, .int .i64 (lackF (fun h => sx.getD h 0) (fun h => tx.getD h false) m.testBit k).1), (11, .int .i64 (lackF (fun h => sx.getD h 0) (fun h => tx.getD h false) m.testBit k).2)]) (fun _ => [.blk b1 [.slice (some ⟨b2, o2, none⟩) L.length ca, .slice (some ⟨b3, o3, none⟩) M.length cb, .slice C hs.length cc]]) (fun k => hour + 1 - k) 0 (Nat.zero_le _) (by (first | exact lK1 | (repeat (first | exact lK1 | (refine zL rfl ?_))))) (by (repeat (first | exact oK1 _ | (refine oK2 (by (repeat (first | exact tK1 _ _ | apply tK2))) ?_)))) ?_
  rintro k hk
  simp only [zAx, List.cons_append, List.nil_append]
  by_cases hkl : k < hour + 1
  ·have hin := zIG (nd := fun h => sx.getD h 0) (my := fun h => tx.getD h false) (sm := m.testBit) hbg k
   have hbx := hbg k
   have : zAT sx k (sx.getD k 0) := ⟨by rw [Flow.zAc (by omega)]; simp⟩
   have e1 : lackF (fun h => sx.getD h 0) (fun h => tx.getD h false) m.testBit (k + 1) = (max (lackF (fun h => sx.getD h 0) (fun h => tx.getD h false) m.testBit k).1 (sx.getD k 0 - (lackF (fun h => sx.getD h 0) (fun h => tx.getD h false) m.testBit k).2), if (tx.getD k false && !m.testBit k) = true then (lackF (fun h => sx.getD h 0) (fun h => tx.getD h false) m.testBit k).2 + 1 else (lackF (fun h => sx.getD h 0) (fun h => tx.getD h false) m.testBit k).2) := rfl
   have hg : tx[k]? = some (tx.getD k false) := by rw [Flow.zAc (by omega)]; simp
   have hb2 := Nat.shiftRight_le m k
   rw [bit_zero] at e1
   clear e2 e4
   generalize lackF (fun h => sx.getD h 0) (fun h => tx.getD h false) m.testBit k = pp at *
   generalize tx.getD k false = z at *
   generalize sx.getD k 0 = x at *
   have : zAT tx k z := ⟨hg⟩
   cases z
   ·simp only [Bool.false_and, Bool.false_eq_true, if_false] at e1
    (repeat' (first | ((with_reducible refine zF ?_); first | refine zE rfl rfl rfl rfl rfl ?_ | refine zC rfl rfl rfl rfl rfl ?_ | (refine zK rfl rfl rfl rfl rfl ?_; refine ⟨_, rfl, ?_⟩) | refine zc rfl rfl rfl rfl rfl ?_ | refine zAm rfl rfl rfl rfl rfl rfl ?_ | refine zAA rfl rfl rfl ?_ | (refine zT rfl rfl rfl rfl rfl rfl rfl (fun h => ?_) (fun h => ?_) <;> (dsimp only [cmpP] at h; (try (exfalso; omega)))) | refine zd (I := k) rfl rfl rfl rfl rfl rfl rfl (by dsimp only; omega) ?_ | refine zj rfl rfl rfl rfl rfl rfl (by omega) ?_ | refine zCP rfl rfl rfl rfl rfl rfl (IntWalk.i64_in _ (by omega)) ?_ | refine zd rfl rfl rfl rfl rfl rfl rfl (by omega) ?_ | refine zIv rfl rfl rfl rfl rfl rfl ?_) | (with_reducible first | refine zH ?_ | refine zB ?_ | refine zD ?_ | refine zA ?_ | refine zU ?_ | refine zQ ?_ | refine zk ?_) | ((with_reducible refine zJ ?_ ?_); (· exact rfl)) | ((with_reducible refine zG ?_ ?_); (· exact rfl))))
    exact ze (k + 1) (by omega) (by omega) (by rw [e1]; (first | exact lK1 | (repeat (first | exact lK1 | (refine zL rfl ?_))))) (by (repeat (first | exact oK1 _ | (refine oK2 (by (repeat (first | exact tK1 _ _ | apply tK2))) ?_))))
   ·simp only [Bool.true_and, decide_eq_true_eq] at e1
    (repeat' (first | ((with_reducible refine zF ?_); first | refine zE rfl rfl rfl rfl rfl ?_ | refine zC rfl rfl rfl rfl rfl ?_ | (refine zK rfl rfl rfl rfl rfl ?_; refine ⟨_, rfl, ?_⟩) | refine zc rfl rfl rfl rfl rfl ?_ | refine zAm rfl rfl rfl rfl rfl rfl ?_ | (refine zT rfl rfl rfl rfl rfl rfl rfl (fun h => ?_) (fun h => ?_) <;> (dsimp only [cmpP] at h; (try (exfalso; omega)))) | refine zd (I := k) rfl rfl rfl rfl rfl rfl rfl (by dsimp only; omega) ?_ | refine zAJ rfl rfl rfl (e_shr rfl rfl rfl (by omega)) ?_ | refine zAJ rfl rfl rfl (zJ6 rfl rfl rfl (by omega)) ?_ | refine zj rfl rfl rfl rfl rfl rfl (by omega) ?_ | refine zCX rfl rfl rfl rfl rfl rfl (IntWalk.i64_in _ (by omega)) ?_ | refine zCP rfl rfl rfl rfl rfl rfl (IntWalk.i64_in _ (by omega)) ?_ | refine zd rfl rfl rfl rfl rfl rfl rfl (by omega) ?_ | refine zIv rfl rfl rfl rfl rfl rfl ?_) | (with_reducible first | refine zH ?_ | refine zB ?_ | refine zD ?_ | refine zA ?_ | refine zU ?_ | refine zQ ?_ | refine zk ?_) | ((with_reducible refine zJ ?_ ?_); (· exact rfl)) | ((with_reducible refine zG ?_ ?_); (· exact rfl))))
    ·exact ze (k + 1) (by omega) (by omega) (by rw [e1, if_pos (by omega)]; (first | exact lK1 | (repeat (first | exact lK1 | (refine zL rfl ?_))))) (by (repeat (first | exact oK1 _ | (refine oK2 (by (repeat (first | exact tK1 _ _ | apply tK2))) ?_))))
    ·exact ze (k + 1) (by omega) (by omega) (by rw [e1, if_neg (by omega)]; (first | exact lK1 | (repeat (first | exact lK1 | (refine zL rfl ?_))))) (by (repeat (first | exact oK1 _ | (refine oK2 (by (repeat (first | exact tK1 _ _ | apply tK2))) ?_))))
  ·obtain rfl : k = hour + 1 := by omega
   (repeat' (first | ((with_reducible refine zF ?_); first | refine zE rfl rfl rfl rfl rfl ?_ | refine zC rfl rfl rfl rfl rfl ?_ | (refine zT rfl rfl rfl rfl rfl rfl rfl (fun h => ?_) (fun h => ?_) <;> (dsimp only [cmpP] at h; (try (exfalso; omega)))) | refine zj rfl rfl rfl rfl rfl rfl (by omega) ?_ | refine zCX rfl rfl rfl rfl rfl rfl (IntWalk.i64_in _ (by omega)) ?_) | (with_reducible first | refine zH ?_ | refine zB ?_ | refine zD ?_ | refine zA ?_ | refine zl ?_ | refine zk ?_ | refine zV ?_ | refine zY ?_) | ((with_reducible refine zG ?_ ?_); (· exact rfl))))
   exact ze (i + 1) (by omega) (by omega) (by rw [e2]; (first | exact lK1 | (repeat (first | exact lK1 | (refine zL rfl ?_))))) (by (repeat (first | exact oK1 _ | (refine oK2 (by (repeat (first | exact tK1 _ _ | apply tK2))) ?_))))
 obtain rfl : i = L.length := by omega
 (repeat' (first | ((with_reducible refine zF ?_); first | refine zE rfl rfl rfl rfl rfl ?_ | (refine zT rfl rfl rfl rfl rfl rfl rfl (fun h => ?_) (fun h => ?_) <;> (dsimp only [cmpP] at h; (try (exfalso; omega))))) | (with_reducible first | refine zH ?_ | refine zB ?_ | refine zD ?_ | refine zA ?_ | refine zQ ?_ | refine zl ?_ | refine zV ?_ | refine zY ?_) | ((with_reducible refine zG ?_ ?_); (· exact rfl))))
 have hsum := zF7 (fun i => hok.zIF m i (hour + 1)) L.length
 have hfin : zHr (L.map (·.xs)) (M.map (·.xs)) hs hour m = sumL (List.range L.length) (fun i => zEg (L.map (·.xs)) (M.map (·.xs)) m i (hour + 1)) - zD4 hs m hour := by unfold zHr; rw [List.length_map]
 rw [hfin]
 generalize sumL (List.range L.length) (fun i => zEg (L.map (·.xs)) (M.map (·.xs)) m i (hour + 1)) = p at *
 refine zu (ι := Nat) [3, 2, 57] rfl (fun h => h ≤ hour) (fun h => [(58, .int .i64 (h : Int)), (7, .int .i64 (p - zD4 hs m h))]) (fun _ => [.blk b1 [.slice A L.length ca, .slice B M.length cb, .slice C hs.length cc]]) (fun h => hour - h) 0 (Nat.zero_le _) (by rw [show zD4 hs m 0 = 0 from rfl, Int.sub_zero]; (first | exact lK1 | (repeat (first | exact lK1 | (refine zL rfl ?_))))) (by (repeat (first | exact oK1 _ | (refine oK2 (by (repeat (first | exact tK1 _ _ | apply tK2))) ?_)))) ?_
 rintro k hk
 simp only [zAx, List.cons_append, List.nil_append]
 by_cases hlt : k < hour
 ·obtain ⟨b2, o2, rfl, _, _⟩ := hh.at_ (i := k) (by omega)
  have : InS w b2 o2 encI 1 hs := ⟨hh⟩
  have : zAT hs k (hs.getD k 0) := ⟨by rw [Flow.zAc (by omega)]; simp⟩
  have hsum2 : 0 ≤ zD4 hs m k ∧ zD4 hs m k ≤ 1000 * k := zF7 (hok.zMr m) k
  have e2 : zD4 hs m (k + 1) = zD4 hs m k + (if m.testBit k then hs.getD k 0 else 0) := Flow.zAu _ k
  have hx : 0 ≤ hs.getD k 0 ∧ hs.getD k 0 ≤ 1000 := by rw [Flow.zAc (by omega)]; exact hok.hbig _ (List.getElem_mem (by omega))
  rw [zKE] at e2
  have hb2 := Nat.shiftRight_le m k
  generalize hs.getD k 0 = x at *
  generalize zD4 hs m k = r at *
  have e5 : (if decide ((m >>> k) % 2 = 1) = true then x else 0) = ((m >>> k % 2 : Nat) : Int) * x := by
   rcases Nat.mod_two_eq_zero_or_one (m >>> k) with h | h <;> simp [h]
  rw [e5] at e2
  have e6 : 0 ≤ ((m >>> k % 2 : Nat) : Int) * x ∧ ((m >>> k % 2 : Nat) : Int) * x ≤ 1000 := by
   rw [← e5]; split <;> omega
  (repeat' (first | ((with_reducible refine zF ?_); first | refine zE rfl rfl rfl rfl rfl ?_ | refine zC rfl rfl rfl rfl rfl ?_ | (refine zT rfl rfl rfl rfl rfl rfl rfl (fun h => ?_) (fun h => ?_) <;> (dsimp only [cmpP] at h; (try (exfalso; omega))))) | (with_reducible first | refine zH ?_ | refine zB ?_ | refine zD ?_ | refine zA ?_ | refine zU ?_ | refine zQ ?_) | ((with_reducible refine zJ ?_ ?_); (· exact rfl))))
  (refine zBh (by kernel_rfl) (by kernel_rfl) (by kernel_rfl) ?_)
  (repeat' (first | ((with_reducible refine zCH ?_); first | refine zh (zAk rfl rfl) rfl rfl rfl ?_ | refine zh (zAD rfl rfl (by exact rfl)) rfl rfl rfl ?_ | refine zh (zAS rfl rfl) rfl rfl rfl ?_ | refine zh (zB3 rfl rfl) rfl rfl rfl ?_ | refine zh (e_shr rfl rfl rfl (by omega)) rfl rfl rfl ?_ | refine zh (zJ6 rfl rfl rfl (by omega)) rfl rfl rfl ?_ | refine zh (e_sub rfl rfl rfl (IntWalk.i64_in _ (by omega))) rfl rfl rfl ?_ | refine zh (e_mul rfl rfl rfl (IntWalk.i64_in _ (by omega))) rfl rfl rfl ?_ | refine zh (zAq rfl rfl rfl rfl (by omega)) rfl rfl rfl ?_) | (with_reducible refine zC4 ?_)))
  (repeat' (first | ((with_reducible refine zF ?_); first | refine zE rfl rfl rfl rfl rfl ?_ | refine zj rfl rfl rfl rfl rfl rfl (by omega) ?_) | (with_reducible first | refine zB ?_ | refine zD ?_ | refine zA ?_ | refine zk ?_)))
  exact ze (k + 1) (by omega) (by omega) (by rw [e2, ← Int.sub_sub]; (first | exact lK1 | (repeat (first | exact lK1 | (refine zL rfl ?_))))) (by (repeat (first | exact oK1 _ | (refine oK2 (by (repeat (first | exact tK1 _ _ | apply tK2))) ?_))))
 ·obtain rfl : k = hour := by omega
  have hsum2 : 0 ≤ zD4 hs m k ∧ zD4 hs m k ≤ 1000 * k := zF7 (hok.zMr m) k
  (repeat' (first | ((with_reducible refine zF ?_); first | refine zE rfl rfl rfl rfl rfl ?_ | refine zC rfl rfl rfl rfl rfl ?_ | (refine zT rfl rfl rfl rfl rfl rfl rfl (fun h => ?_) (fun h => ?_) <;> (dsimp only [cmpP] at h; (try (exfalso; omega))))) | (with_reducible first | refine zH ?_ | refine zB ?_ | refine zD ?_ | refine zA ?_ | refine zX ?_ | refine zl ?_ | refine zV ?_ | refine zY ?_) | ((with_reducible refine zG ?_ ?_); (· exact rfl))))
  all_goals exact zS (by (exact zN.cons (by exact zg.tmp rfl) zN.nil)) () trivial (by simp [resV]; omega) (fun _ h => h.sub (by (repeat (first | exact oK1 _ | (refine oK2 (by (repeat (first | exact tK1 _ _ | apply tK2))) ?_)))))
def zG2 (nds : List (List Int)) (mys : List (List Bool)) (hs : List Int) : Bool := (List.range (2 ^ hs.length)).all fun m => !decide (0 < zLe nds mys hs m)
def zC5 (l : List Int) : List Int := l.map fun x => max 0 (x - 1)
end Go.Proofs.YtdigopgncfhiaaaGreatDoor
