/- Ice: the network in memory; an edge is laid. -/
import Derived.Test.YtdigopgncfhiaaaDoorA19
import Derived.Test.YtdigopgncfhiaaaDoorA10
namespace Go.Proofs.YtdigopgncfhiaaaDoor
open Go.RowKit
open Flow (Nd)
set_option linter.unusedSimpArgs false
set_option linter.unusedVariables false
set_option maxRecDepth 20000
def vSl (s : SlOf Nd) : Value := .slice s.A s.xs.length s.c
def vI (z : Int) : Value := .int .i64 z
def vB (b : Bool) : Value := .bool b
abbrev NetL := List (Nd × SlOf Nd)
def lookN : NetL → Nd → Option (SlOf Nd)
  | [], _ => none
  | x :: r, k => if k = x.1 then some x.2 else lookN r k
def rowN (p : Nd × SlOf Nd) : Ent := rowOf encNd 3 155 p.2
def rmN (N : NetL) (k : Nd) : NetL := N.filter fun p => decide (p.1 ≠ k)
def nxN (N : NetL) (k : Nd) : List Nd := ((lookN N k).getD nilOf).xs
/-- keys told apart, rows not empty -/
structure NetOk (N : NetL) : Prop where
  keys : (N.map (·.1)).Nodup
  ne : ∀ p ∈ N, p.2.xs ≠ []
def Ent.net (mn : Nat) (N : NetL) : Ent := .all (.fm mn vNd vSl (lookN N) :: N.map rowN)
theorem lookN_rm {N : NetL} {k k' : Nd} : lookN (rmN N k) k' = if k' = k then none else lookN N k' := by
  induction N with
  | nil => simp [rmN, lookN]
  | cons x r ih =>
    unfold rmN at ih ⊢
    by_cases h : x.1 = k
    · rw [List.filter_cons_of_neg (by simp [h]), ih]
      by_cases h2 : k' = k
      · rw [if_pos h2, if_pos h2]
      · rw [if_neg h2, if_neg h2]
        simp only [lookN]
        rw [if_neg (fun e => h2 (e.trans h))]
    · rw [List.filter_cons_of_pos (by simp [h])]
      simp only [lookN]
      rw [ih]
      by_cases h2 : k' = x.1
      · rw [if_pos h2, if_pos h2, if_neg (fun e => h (h2.symm.trans e))]
      · rw [if_neg h2, if_neg h2]
theorem lookN_none {N : NetL} {k : Nd} (h : lookN N k = none) : rmN N k = N := by
  induction N with
  | nil => rfl
  | cons x r ih =>
    simp only [lookN] at h
    by_cases e : k = x.1
    · rw [if_pos e] at h; cases h
    · rw [if_neg e] at h
      have := ih h
      unfold rmN at this ⊢
      rw [List.filter_cons_of_pos (by simp; exact fun h => e h.symm), this]
theorem lookN_some {N : NetL} {k : Nd} {s : SlOf Nd} (hn : (N.map (·.1)).Nodup) (h : lookN N k = some s) : N.Perm ((k, s) :: rmN N k) := by
  induction N with
  | nil => cases h
  | cons x r ih =>
    rw [List.map_cons, List.nodup_cons] at hn
    simp only [lookN] at h
    by_cases e : k = x.1
    · rw [if_pos e] at h
      cases h
      subst e
      unfold rmN
      rw [List.filter_cons_of_neg (by simp)]
      have : r.filter (fun p => decide (p.1 ≠ x.1)) = r := by
        rw [List.filter_eq_self]
        intro p hp
        have : p.1 ≠ x.1 := fun e => hn.1 (List.mem_map.2 ⟨p, hp, e⟩)
        simp [this]
      rw [this]
    · rw [if_neg e] at h
      have := ih hn.2 h
      unfold rmN at this ⊢
      rw [List.filter_cons_of_pos (by simp; exact fun h => e h.symm)]
      exact (List.Perm.cons x this).trans (List.Perm.swap _ _ _)
theorem lookN_mem {N : NetL} {k : Nd} {s : SlOf Nd} (h : lookN N k = some s) : (k, s) ∈ N := by
  induction N with
  | nil => cases h
  | cons x r ih =>
    simp only [lookN] at h
    by_cases e : k = x.1
    · rw [if_pos e] at h; cases h; subst e; exact List.mem_cons_self
    · rw [if_neg e] at h; exact List.mem_cons_of_mem _ (ih h)
theorem rmN_sub {N : NetL} {k : Nd} : (rmN N k).Sublist N := List.filter_sublist
theorem rmN_keys {N : NetL} {k : Nd} (h : (N.map (·.1)).Nodup) : ((rmN N k).map (·.1)).Nodup := h.sublist (rmN_sub.map _)
theorem rmN_not {N : NetL} {k : Nd} : k ∉ (rmN N k).map (·.1) := by
  intro h
  obtain ⟨p, hp, e⟩ := List.mem_map.1 h
  have := (List.mem_filter.1 hp).2
  simp [e] at this
theorem rmN_not2 {N : NetL} {k k' : Nd} (h : k' ∉ N.map (·.1)) : k' ∉ (rmN N k).map (·.1) := fun hm => h ((rmN_sub.map _).subset hm)
section
variable {base mn : Nat} {w : World} {H : List Ent} {N : NetL}
theorem own_takeRow (k : Nd) (hn : (N.map (·.1)).Nodup) {A : List Ent} (h : Own base w (A ++ (N.map rowN ++ H))) : Own base w (A ++ (rowOf encNd 3 155 ((lookN N k).getD nilOf) :: ((rmN N k).map rowN ++ H))) := by
  cases hl : lookN N k with
  | none =>
    rw [lookN_none hl]
    obtain ⟨a1, a2, a3⟩ := Own.append.1 h
    refine Own.append.2 ⟨a1, ⟨fun f hf => ?_, fun f hf b hb => ?_, List.pairwise_cons.2 ⟨fun f hf b hb => ?_, a2.apart⟩⟩, fun e he f hf b hb hb' => ?_⟩
    · rcases List.mem_cons.1 hf with rfl | hf
      · exact Row.nil
      · exact a2.here f hf
    · rcases List.mem_cons.1 hf with rfl | hf
      · cases hb
      · exact a2.foot f hf b hb
    · cases hb
    · rcases List.mem_cons.1 hf with rfl | hf
      · cases hb'
      · exact a3 e he f hf b hb hb'
  | some s =>
    refine h.perm (List.Perm.append_left A ?_)
    have := ((lookN_some hn hl).map rowN).append_right H
    exact this
theorem own_netOpen (k1 k2 : Nd) (hne : k1 ≠ k2) (hn : (N.map (·.1)).Nodup) (h : Own base w (.net mn N :: H)) : Own base w (.fm mn vNd vSl (lookN N) :: rowOf encNd 3 155 ((lookN N k1).getD nilOf) :: rowOf encNd 3 155 ((lookN N k2).getD nilOf) :: .all ((rmN (rmN N k1) k2).map rowN) :: H) := by
  have h1 : Own base w ((.fm mn vNd vSl (lookN N) :: N.map rowN) ++ H) := own_all.2 h
  have h2 := own_takeRow (A := [.fm mn vNd vSl (lookN N)]) k1 hn h1
  have h3 := own_takeRow (A := [.fm mn vNd vSl (lookN N), rowOf encNd 3 155 ((lookN N k1).getD nilOf)]) (N := rmN N k1) k2 (rmN_keys hn) h2
  rw [lookN_rm, if_neg (fun e => hne e.symm)] at h3
  exact (own_mid (D := [.fm mn vNd vSl (lookN N), rowOf encNd 3 155 ((lookN N k1).getD nilOf), rowOf encNd 3 155 ((lookN N k2).getD nilOf)]) (L := (rmN (rmN N k1) k2).map rowN) (B := H)).1 h3
def putN (N : NetL) (k1 k2 : Nd) (s1 s2 : SlOf Nd) : NetL := (k1, s1) :: (k2, s2) :: rmN (rmN N k1) k2
theorem lookN_put {k1 k2 : Nd} {s1 s2 : SlOf Nd} (hne : k1 ≠ k2) : lookN (putN N k1 k2 s1 s2) = updF (updF (lookN N) k1 (some s1)) k2 (some s2) := by
  funext k
  simp only [putN, lookN, updF, lookN_rm]
  by_cases h1 : k = k1
  · rw [if_pos h1, if_neg (fun e => hne (h1.symm.trans e)), if_pos h1]
  · rw [if_neg h1]
    by_cases h2 : k = k2
    · rw [if_pos h2, if_pos h2]
    · rw [if_neg h2, if_neg h2, if_neg h2, if_neg h1, if_neg h1]
theorem putN_ok {k1 k2 : Nd} {s1 s2 : SlOf Nd} (hne : k1 ≠ k2) (h : NetOk N) (h1 : s1.xs ≠ []) (h2 : s2.xs ≠ []) : NetOk (putN N k1 k2 s1 s2) := by
  refine ⟨?_, fun p hp => ?_⟩
  · unfold putN
    rw [List.map_cons, List.nodup_cons, List.map_cons, List.nodup_cons]
    refine ⟨fun hm => ?_, rmN_not, rmN_keys (rmN_keys h.keys)⟩
    rcases List.mem_cons.1 hm with e | hm
    · exact hne e
    · exact rmN_not2 rmN_not hm
  · unfold putN at hp
    rcases List.mem_cons.1 hp with rfl | hp
    · exact h1
    · rcases List.mem_cons.1 hp with rfl | hp
      · exact h2
      · exact h.ne p (rmN_sub.subset (rmN_sub.subset hp))
theorem own_netShut {k1 k2 : Nd} {s1 s2 : SlOf Nd} (hne : k1 ≠ k2) (h : Own base w (.fm mn vNd vSl (updF (updF (lookN N) k1 (some s1)) k2 (some s2)) :: rowOf encNd 3 155 s1 :: rowOf encNd 3 155 s2 :: .all ((rmN (rmN N k1) k2).map rowN) :: H)) : Own base w (.net mn (putN N k1 k2 s1 s2) :: H) := by
  rw [← lookN_put hne] at h
  have h1 := (own_mid (D := [.fm mn vNd vSl (lookN (putN N k1 k2 s1 s2)), rowOf encNd 3 155 s1, rowOf encNd 3 155 s2]) (L := (rmN (rmN N k1) k2).map rowN) (B := H)).2 h
  exact own_all.1 h1
end
theorem nxN_put {N : NetL} {k1 k2 : Nd} {s1 s2 : SlOf Nd} (hne : k1 ≠ k2) : nxN (putN N k1 k2 s1 s2) = updF (updF (nxN N) k1 s1.xs) k2 s2.xs := by
  funext k
  unfold nxN
  rw [lookN_put hne]
  simp only [updF]
  by_cases h2 : k = k2
  · rw [if_pos h2, if_pos h2]; rfl
  · rw [if_neg h2, if_neg h2]
    by_cases h1 : k = k1
    · rw [if_pos h1, if_pos h1]; rfl
    · rw [if_neg h1, if_neg h1]
theorem u_netOpen {w0 : World} {n : Nat} {d : List Deferred} {R : List (Nat × Value)} {H H' : List Ent} {X : Act → World → Prop} {mn : Nat} {N : NetL} (k1 k2 : Nd) (hne : k1 ≠ k2) (hn : NetOk N) (ht : Take H (.net mn N) H') (h : U w0 n d R (.fm mn vNd vSl (lookN N) :: rowOf encNd 3 155 ((lookN N k1).getD nilOf) :: rowOf encNd 3 155 ((lookN N k2).getD nilOf) :: .all ((rmN (rmN N k1) k2).map rowN) :: H') X) : U w0 n d R H X := fun a w q =>
  h a w (q.heap q.below (own_netOpen k1 k2 hne hn.keys (q.own.take ht)))
end Go.Proofs.YtdigopgncfhiaaaDoor
/- Ice: an edge is laid. -/
namespace Go.Proofs.YtdigopgncfhiaaaDoor
open Go.RowKit
open Flow (Nd)
set_option linter.unusedSimpArgs false
set_option linter.unusedVariables false
set_option maxRecDepth 20000
theorem zero_int : ∀ w, (zeroValue 3).run Tryd.prog w = .ok (vI 0) w := fun w => Tryd.zeroValue3 w
theorem zero_bool : ∀ w, (zeroValue 4).run Tryd.prog w = .ok (vB false) w := fun w => Tryd.zeroValue4 w
theorem zero_nds : ∀ w, (zeroValue 158).run Tryd.prog w = .ok (vSl nilOf) w := fun w => Tryd.zeroValue158 w
/-- the network's variables, rooms and neighbours -/
def EdgeH (br bn mr mn : Nat) (rm : Nd × Nd → Option Int) (N : NetL) : List Ent := [.blk br [.map (some mr)], .blk bn [.map (some mn)], .fm mr vNN vI rm, .net mn N]
def grN (rm : Nd × Nd → Option Int) (N : NetL) : Flow.Gr := ⟨rm, nxN N⟩
end Go.Proofs.YtdigopgncfhiaaaDoor
namespace Go.Proofs.YtdigopgncfhiaaaDoor.Two
open Go.RowKit
open Flow (Nd)
set_option linter.unusedSimpArgs false
set_option linter.unusedVariables false
set_option maxRecDepth 20000
set_option maxHeartbeats 4000000 in
theorem edge_any (x y : Nd) (c : Int) (hne : x ≠ y) (br bn mr mn : Nat) (rm : Nd × Nd → Option Int) (N : NetL) (hN : NetOk N) (hlen : ∀ k, (nxN N k).length ≤ 100000) (lo : Nat) (w : World) (hlo : lo ≤ w.heap.size) (hO : Own lo w (EdgeH br bn mr mn rm N)) :
    RetF Tryd.prog 89 [vNd x, vNd y, .int .i64 c, .pointer (some ⟨br, 0, none⟩), .pointer (some ⟨bn, 0, none⟩)] w (EdgeH br bn mr mn rm N) (fun _ : NetL => .tuple #[])
      (fun N' => EdgeH br bn mr mn (updF rm (x, y) (some c)) N') (fun N' => NetOk N' ∧ grN (updF rm (x, y) (some c)) N' = Flow.addE (grN rm N) (x, y, c)) := by
  have hadd : Flow.addE (grN rm N) (x, y, c) = ⟨updF rm (x, y) (some c), if (rm (x, y)).isSome then nxN N else updF (updF (nxN N) x (nxN N x ++ [y])) y (nxN N y ++ [x])⟩ := rfl
  unfold EdgeH at hO ⊢
  unfold vNd
  refine ret_enterF (n := 43) lo hlo hO Tryd.func89 rfl rfl rfl ?_
  simp only [List.cons_append, List.nil_append]
  rw [hadd]
  cases hrm : rm (x, y) with
  | some c0 =>
    (repeat' (first | ((with_reducible refine isOps ?_); first | refine u_move rfl rfl rfl rfl rfl ?_ | refine u_assign rfl rfl rfl rfl rfl ?_ | (refine x_load rfl rfl rfl rfl rfl ?_; refine ⟨_, rfl, ?_⟩) | (refine x_buildA rfl rfl rfl rfl rfl ?_; refine ⟨_, rfl, ?_⟩) | refine u_val rfl rfl rfl (ev_look2 (kv := vNN) (vv := vI) (f := rm) (x, y) c0 true rfl key_nn zero_int rfl rfl (by rw [hrm]; rfl) (by rw [hrm]; rfl)) ?_ | refine u_fmSet (kv := vNN) (vv := vI) (x, y) c rfl key_nn rfl rfl rfl rfl rfl (by (repeat (first | exact Take.here _ _ | apply Take.there))) ?_ | refine u_extract rfl rfl rfl rfl rfl rfl ?_ | refine u_not rfl rfl rfl rfl rfl ?_ | (refine u_box rfl rfl rfl rfl rfl rfl (fun b => ?_))) | (with_reducible first | refine u_seq ?_ | refine u_region ?_ | refine u_nil ?_ | refine u_then_n ?_ | refine u_skip ?_) | ((with_reducible refine u_cond_f ?_ ?_); (· exact rfl))))
    exact u_endF (u_doneF (by (exact ResL.nil)) N ⟨hN, rfl⟩ rfl hlo (fun _ h => h.sub (by (repeat (first | exact Out.nil _ | (refine Out.cons (by (repeat (first | exact Take.here _ _ | apply Take.there))) ?_))))))
  | none =>
    (repeat' (first | ((with_reducible refine isOps ?_); first | refine u_move rfl rfl rfl rfl rfl ?_ | refine u_assign rfl rfl rfl rfl rfl ?_ | (refine x_load rfl rfl rfl rfl rfl ?_; refine ⟨_, rfl, ?_⟩) | (refine x_buildA rfl rfl rfl rfl rfl ?_; refine ⟨_, rfl, ?_⟩) | refine u_val rfl rfl rfl (ev_look2 (kv := vNN) (vv := vI) (f := rm) (x, y) 0 false rfl key_nn zero_int rfl rfl (by rw [hrm]; rfl) (by rw [hrm]; rfl)) ?_ | refine u_extract rfl rfl rfl rfl rfl rfl ?_ | refine u_not rfl rfl rfl rfl rfl ?_ | (refine u_box rfl rfl rfl rfl rfl rfl (fun b => ?_))) | (with_reducible first | refine u_seq ?_ | refine u_region ?_ | refine u_nil ?_ | refine u_then_n ?_) | ((with_reducible refine u_cond_t ?_ ?_); (· exact rfl))))
    rename_i bx
    refine u_netOpen x y hne hN (by (repeat (first | exact Take.here _ _ | apply Take.there))) ?_
    have hx1 : nxN N x = ((lookN N x).getD nilOf).xs := rfl
    have hy1 : nxN N y = ((lookN N y).getD nilOf).xs := rfl
    have hlx := hlen x
    have hly := hlen y
    rw [hx1] at hlx
    rw [hy1] at hly
    rw [hx1, hy1]
    obtain ⟨s1, hs1⟩ : ∃ s, (lookN N x).getD nilOf = s := ⟨_, rfl⟩
    obtain ⟨s2, hs2⟩ : ∃ s, (lookN N y).getD nilOf = s := ⟨_, rfl⟩
    rw [hs1] at hlx ⊢
    rw [hs2] at hly ⊢
    simp only [rowOf]
    (refine u_chain [(16, 18)] [(9, 0, 0, [.row encNd 3 155 (.slice s1.A s1.xs.length s1.c) s1.xs]), (15, 0, 0, [.row encNd 3 155 (.slice s2.A s2.xs.length s2.c) s2.xs]), (16, 6, 13, [.fm mn vNd vSl (lookN N)])] [(9, 0, 0), (15, 0, 0), (16, 6, 13)] rfl (show ([9, 15, 16] : List Nat).Nodup by decide) (H0 := [.blk b (encNd y), .blk bx (encNd x), .blk br [.map (some mr)], .blk bn [.map (some mn)], .fm mr vNN vI rm, .all ((rmN (rmN N x) y).map rowN), .oldx w lo (feet [.blk br [.map (some mr)], .blk bn [.map (some mn)], .fm mr vNN vI rm, .net mn N])]) (fun _ h => h.sub (by (repeat (first | exact Out.nil _ | (refine Out.cons (by (repeat (first | exact Take.here _ _ | apply Take.there))) ?_))))) (by kernel_rfl) [[], [false], [false, false], [false, false, false], [false, false, false, false], [false, false, false, false, false], [true, true, false, false, false, false], [false, false, false, false, false, false, false], [true, false, false, false, false, false, false, false], [true, true, true, true, true, false, false, false, false], [false, false, false, false, false, false, false, false, false, false], [false, false, false, false, false, false, false, false, false, false, false], [true, true, false, false, false, false, false, false, false, false, false, false], [false, false, false, false, false, false, false, false, false, false, false, false, false], [true, false, false, false, false, false, false, false, false, false, false, false, false, false], [true, true, true, true, true, true, true, true, true, true, true, false, false, false, false], [true, true, true, true, true, true, true, true, true, true, true, true, false, false, true, true], [true, true, true, true, true, true, true, true, true, true, true, true, true, false, false, true, true], [true, true, true, true, true, true, true, true, true, true, true, true, true, true, false, false, true, true], [true, true, true, true, true, true, true, true, true, true, true, true, true, true, true, true, true, true, true]] (by kernel_rfl) (by kernel_rfl) (by kernel_rfl) (by kernel_rfl) (by kernel_rfl) ?_)
    (repeat' (first | (((with_reducible refine c_go ?_ ?_); (· exact rfl); refine ⟨_, fun G => (by (try simp (decide := true) only [vis, see, fltT, entsT, Nat.reduceAdd, Nat.reduceSub, if_true, if_false, List.set_cons_zero, List.set_cons_succ, List.set_nil, List.nil_append, List.cons_append]); rfl), ?_⟩); first | refine c_val _ (fun _ => e_load' rfl rfl (by exact rfl)) (fun _ => rfl) rfl (by first | exact fun _ _ _ => rfl | (intro G G' h; simp (decide := true) only [h])) ?_ | refine c_val _ (fun _ => ev_look (kv := vNd) (vv := vSl) (f := lookN N) x s1 rfl key_nd zero_nds rfl rfl hs1) (fun _ => rfl) rfl (by exact fun _ _ _ => rfl) ?_ | refine c_val _ (fun _ => ev_look (kv := vNd) (vv := vSl) (f := lookN N) y s2 rfl key_nd zero_nds rfl rfl hs2) (fun _ => rfl) rfl (by exact fun _ _ _ => rfl) ?_ | refine c_val _ (fun _ => e_extract rfl rfl rfl) (fun _ => rfl) rfl (by first | exact fun _ _ _ => rfl | (intro G G' h; simp (decide := true) only [h])) ?_ | refine c_buildSlice rfl (fun _ => rfl) rfl (fun _ => rfl) (by exact rfl) (by exact fun _ => rfl) (by first | exact fun _ _ _ => rfl | (intro G G' h; simp (decide := true) only [h])) ?_) | (refine c_appendI (enc := encNd) (xs := s1.xs) (vx := .slice s1.A s1.xs.length s1.c) [y] List.mem_cons_self rfl rfl (fun _ => rfl) rfl (fun _ => rfl) (fun _ => rfl) rfl (fun G => (by (try simp (decide := true) only [vis, see, fltT, entsT, Nat.reduceAdd, Nat.reduceSub, if_true, if_false, List.set_cons_zero, List.set_cons_succ, List.set_nil, List.nil_append, List.cons_append]); rfl)) (fun _ W hW h => src_one (enc := encNd) (by exact rfl) W hW h) ⟨by simp; omega, by decide⟩ ?_) | (refine c_appendI (enc := encNd) (xs := s2.xs) (vx := .slice s2.A s2.xs.length s2.c) [x] (List.mem_cons_of_mem _ List.mem_cons_self) rfl rfl (fun _ => rfl) rfl (fun _ => rfl) (fun _ => rfl) rfl (fun G => (by (try simp (decide := true) only [vis, see, fltT, entsT, Nat.reduceAdd, Nat.reduceSub, if_true, if_false, List.set_cons_zero, List.set_cons_succ, List.set_nil, List.nil_append, List.cons_append]); rfl)) (fun _ W hW h => src_one (enc := encNd) (by exact rfl) W hW h) ⟨by simp; omega, by decide⟩ ?_) | (refine c_fmEnt (kv := vNd) (vv := vSl) (f := lookN N) x (List.mem_cons_of_mem _ (List.mem_cons_of_mem _ List.mem_cons_self)) rfl rfl key_nd zero_nds (fun _ => rfl) rfl (fun _ => rfl) (fun _ => rfl) ?_) | (refine c_fmSto (kv := vNd) (vv := vSl) (fun G => ⟨(G 9).A, s1.xs ++ [y], (G 9).m⟩) (fun G => (G 16).g) 16 List.mem_cons_self rfl rfl (fun _ => rfl) rfl (fun _ => rfl) (fun _ => rfl) (fun _ => rfl) (fun _ => rfl) (by intro G G' h; simp (decide := true) only [h]) ?_) | ((with_reducible refine c_tail ?_ ?_); (· exact rfl))))
    intro G
    simp only [regsT, List.nil_append, List.cons_append]
    refine u_own (H' := [.fm mn vNd vSl (updF (updF (lookN N) x (some ((lookN N x).getD nilOf))) x (some ⟨(G 9).A, s1.xs ++ [y], (G 9).m⟩)), .row encNd 3 155 (.slice (G 15).A (s2.xs ++ [x]).length (G 15).m) (s2.xs ++ [x]), .blk (G 14).g (encNd x), .row encNd 3 155 (.slice (G 9).A (s1.xs ++ [y]).length (G 9).m) (s1.xs ++ [y]), .blk (G 8).g (encNd y), .blk b (encNd y), .blk bx (encNd x), .blk br [.map (some mr)], .blk bn [.map (some mn)], .fm mr vNN vI rm, .all ((rmN (rmN N x) y).map rowN), .oldx w lo (feet [.blk br [.map (some mr)], .blk bn [.map (some mn)], .fm mr vNN vI rm, .net mn N])]) (fun _ h => h) ?_
    rw [updF_twice]
    (repeat' (first | ((with_reducible refine isOps ?_); first | refine u_move rfl rfl rfl rfl rfl ?_ | (refine x_load rfl rfl rfl rfl rfl ?_; refine ⟨_, rfl, ?_⟩) | (refine x_buildA rfl rfl rfl rfl rfl ?_; refine ⟨_, rfl, ?_⟩) | refine u_fmSet (kv := vNd) (vv := vSl) y ⟨(G 15).A, s2.xs ++ [x], (G 15).m⟩ rfl key_nd rfl rfl rfl rfl rfl (by (repeat (first | exact Take.here _ _ | apply Take.there))) ?_ | refine u_fmSet (kv := vNN) (vv := vI) (x, y) c rfl key_nn rfl rfl rfl rfl rfl (by (repeat (first | exact Take.here _ _ | apply Take.there))) ?_) | (with_reducible first | refine u_region ?_ | refine u_nil ?_ | refine u_then_n ?_)))
    refine u_endF (u_doneF (by (exact ResL.nil)) (putN N x y ⟨(G 9).A, s1.xs ++ [y], (G 9).m⟩ ⟨(G 15).A, s2.xs ++ [x], (G 15).m⟩) ⟨putN_ok hne hN (by simp) (by simp), ?_⟩ rfl hlo (fun w' h => ?_))
    · unfold grN; rw [nxN_put hne]; rfl
    · have h1 : Own lo w' [.fm mn vNd vSl (updF (updF (lookN N) x (some ⟨(G 9).A, s1.xs ++ [y], (G 9).m⟩)) y (some ⟨(G 15).A, s2.xs ++ [x], (G 15).m⟩)), rowOf encNd 3 155 ⟨(G 9).A, s1.xs ++ [y], (G 9).m⟩, rowOf encNd 3 155 ⟨(G 15).A, s2.xs ++ [x], (G 15).m⟩, .all ((rmN (rmN N x) y).map rowN), .blk br [.map (some mr)], .blk bn [.map (some mn)], .fm mr vNN vI (updF rm (x, y) (some c)), .oldx w lo (feet [.blk br [.map (some mr)], .blk bn [.map (some mn)], .fm mr vNN vI rm, .net mn N])] := h.sub (by (repeat (first | exact Out.nil _ | (refine Out.cons (by (repeat (first | exact Take.here _ _ | apply Take.there))) ?_))))
      have h2 := own_netShut hne h1
      exact h2.sub (by (repeat (first | exact Out.nil _ | (refine Out.cons (by (repeat (first | exact Take.here _ _ | apply Take.there))) ?_))))
end Go.Proofs.YtdigopgncfhiaaaDoor.Two
/- Regions in all orders, state by state. -/
namespace Go.Proofs.YtdigopgncfhiaaaDoor
variable {ro : Option Nat}
open Go.RowKit
section
variable {P : Program} {w0 : World} {n : Nat} {d : List Deferred} {R R' : List (Nat × Value)} {H H' : List Ent} {Q : Exit → Act → World → Prop} {ops : Array Oper} {o : Oper} {K : Act → World → Prop} {c : Code}
theorem a_cons {i : Nat} {l : List Nat} {fuel : Nat} {listed : Array Bool} (listed' : Array Bool) (hl : listed.setIfInBounds i true = listed') (ho : ops[i]? = some o) (h : U w0 n d R H (wpL ro P ops (qk (wpA ro P ops Q fuel listed')) [o])) (hr : AllU w0 n d R H ro P ops Q fuel listed l) : AllU w0 n d R H ro P ops Q fuel listed (i :: l) :=
  AllU.cons ho (by rw [hl]; exact h) hr
theorem u_viaN (R1 : List (Nat × Value)) (H1 : List Ent) (hreg : ∀ K : Act → World → Prop, U w0 n d R1 H1 K → U w0 n d R H (c.wpI ro P (qk K))) (h : U w0 n d R1 H1 (Q .normal)) : U w0 n d R H (c.wpI ro P Q) := fun a w q =>
  Code.wpIn_mono (fun e a w hq => by cases e <;> first | exact hq | exact False.elim hq) (hreg (Q .normal) h a w q)
theorem u_ordersD {id : Nat} {l : List Oper} (N : Nat) (hN : l.length = N) (hm : P.follows .mixedOrders = true) (h : ∀ ops : Array Oper, ops = l.toArray → U w0 n d R H (wpA ro P ops (qk K) N (Array.replicate N false))) : U w0 n d R H ((Code.region id l.toArray true).wpI ro P (qk K)) := by
  subst hN
  refine u_orders hm ?_
  have := h l.toArray rfl
  simpa using this
end
end Go.Proofs.YtdigopgncfhiaaaDoor
/- Ice: a way is looked for. -/
namespace Go.Proofs.YtdigopgncfhiaaaDoor
variable {ro : Option Nat}
open Go.RowKit
open Flow (Nd nE)
set_option linter.unusedSimpArgs false
set_option linter.unusedVariables false
set_option maxRecDepth 20000
section
variable {w0 : World} {n : Nat} {d : List Deferred} {R R' : List (Nat × Value)} {H H' : List Ent} {Q : Exit → Act → World → Prop} {ops : Array Oper} {rest : List Oper} {o : Oper} {t : Tmp} {x y : Operand}
theorem run_eql_nd (u v : Nd) (w : World) : (binOp .eql 155 (vNd u) (vNd v)).run Tryd.prog w = .ok (.bool (decide (u = v))) w := by
  have := run_eqIn_nd 9998 u v w
  unfold vNd at this ⊢
  rw [run_eql_struct, this]; rfl
theorem u_eqnd (u v : Nd) {T' : TypeId} (hop : o.op = .binOp .eql 155 x y T') (hw : want R ops o = some true) (hd : o.dst = some t) (ht : Nat.blt t n = true) (hx : evR R x = some (vNd u)) (hy : evR R y = some (vNd v))
    (h1 : u = v → U w0 n d ((t, .bool true) :: R) H (wpL ro Tryd.prog ops Q rest)) (h2 : ¬ u = v → U w0 n d ((t, .bool false) :: R) H (wpL ro Tryd.prog ops Q rest)) : U w0 n d R H (wpL ro Tryd.prog ops Q (o :: rest)) :=
  u_eql hop hw hd ht hx hy (fun w => by unfold vNd; exact run_eqGuard_agg _ _ _ _ _ _ _ (by kernel_rfl)) (fun w => run_eql_nd u v w) (fun h => h1 (of_decide_eq_true h)) (fun h => h2 (of_decide_eq_false h))
end
/-- what isn't seen yet, as a map -/
def fuM (un : Nd → Bool) : Nd → Option Bool := fun k => cond (un k) (some true) none
theorem fuM_del {un : Nd → Bool} {u : Nd} : updF (fuM un) u none = fuM (Flow.upd un u false) := by
  funext k
  simp only [updF, fuM, Flow.upd]
  by_cases h : k = u <;> simp [h]
theorem fuM_set {un : Nd → Bool} {u : Nd} : updF (fuM un) u (some true) = fuM (Flow.upd un u true) := by
  funext k
  simp only [updF, fuM, Flow.upd]
  by_cases h : k = u <;> simp [h]
theorem fuM_get {un : Nd → Bool} {u : Nd} : (fuM un u).getD false = un u := by
  unfold fuM; cases un u <;> rfl
class TakeNt (H : List Ent) (mn : outParam Nat) (N : outParam NetL) (H' : outParam (List Ent)) : Prop where tk : Take H (.net mn N) H'
instance (priority := high) takeNt_here {H : List Ent} {mn : Nat} {N : NetL} : TakeNt (.net mn N :: H) mn N H := ⟨Take.here _ _⟩
instance takeNt_there {H H' : List Ent} {f : Ent} {mn : Nat} {N : NetL} [i : TakeNt H mn N H'] : TakeNt (f :: H) mn N (f :: H') := ⟨Take.there _ i.tk⟩
class RowIn (N : NetL) (gs : Nat) (xs : outParam (List Nd)) : Prop where mem : ∃ p ∈ N, p.2.A = some ⟨gs, 0, none⟩ ∧ p.2.xs = xs
theorem net_row {base mn : Nat} {w : World} {H H' : List Ent} {N : NetL} (ho : Own base w H) (ht : Take H (.net mn N) H') : ∀ p ∈ N, Row encNd 3 155 0 w (.slice p.2.A p.2.xs.length p.2.c) p.2.xs := fun p hp => by
  have h1 : Own base w ((.fm mn vNd vSl (lookN N) :: N.map rowN) ++ H') := own_all.2 (ho.take ht)
  exact h1.here (rowN p) (by simp; exact .inr (.inl ⟨p.1, p.2, hp, rfl⟩))
instance srcI_net {w0 : World} {H H' : List Ent} {mn : Nat} {N : NetL} {gs i : Nat} {xs : List Nd} {z : Nd} [i1 : TakeNt H mn N H'] [i2 : RowIn N gs xs] [i3 : GetI xs i z] : SrcI w0 H gs (0 + i * 3) (encNd z) := ⟨fun w hb ho j v hv => by
  obtain ⟨p, hp, hA, hxs⟩ := i2.mem
  have h1 := (slAt_row (encI_nd.len) (net_row ho i1.tk p hp)).2
  rw [hA, hxs] at h1
  obtain ⟨b, o, hA2, hlt, hc⟩ := h1 i z i3.get
  cases hA2
  exact hc j v hv⟩
instance mapR_net {H : List Ent} {mn : Nat} {N : NetL} : MapR (.net mn N :: H) mn vNd vSl (lookN N) := ⟨fun b w ho => by
  have h1 : Own b w ((.fm mn vNd vSl (lookN N) :: N.map rowN) ++ H) := own_all.2 ho
  exact h1.here (.fm mn vNd vSl (lookN N)) (by simp)⟩
theorem u_netSome {w0 : World} {n : Nat} {d : List Deferred} {R : List (Nat × Value)} {H H' : List Ent} {X : Act → World → Prop} {mn : Nat} {N : NetL} {k : Nd} {s : SlOf Nd} (ht : Take H (.net mn N) H') (hl : lookN N k = some s) (h0 : 0 < s.xs.length) (h : ∀ g, s.A = some ⟨g, 0, none⟩ → U w0 n d R H X) : U w0 n d R H X := fun a w q => by
  have hr := net_row q.own ht (k, s) (lookN_mem hl)
  rcases hr.2 with ⟨_, h4⟩ | ⟨b, cap, cur, hv, _⟩
  · simp only at h4; omega
  · simp only at hv
    cases hA : s.A with
    | none => rw [hA] at hv; cases hv
    | some g =>
      rw [hA] at hv
      cases hv
      exact h b hA a w q
end Go.Proofs.YtdigopgncfhiaaaDoor
