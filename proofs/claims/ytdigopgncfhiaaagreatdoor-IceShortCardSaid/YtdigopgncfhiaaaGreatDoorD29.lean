/- D29 -/
import Derived.Test.YtdigopgncfhiaaaGreatDoorD28
import Derived.Test.YtdigopgncfhiaaaGreatDoorD25
import Derived.Test.YtdigopgncfhiaaaGreatDoorD26
set_option linter.unusedSimpArgs false
set_option linter.unusedVariables false
namespace Go.Proofs.YtdigopgncfhiaaaGreatDoor
variable {ro : Option Nat}
open Go.RowKit
set_option maxRecDepth 100000
section
variable {S : Pend} {P : Program} {w0 : World} {n : Nat} {d : List Deferred} {R R0 : List (Nat × Value)} {H H0 : List Ent} {Q : Exit → Act → World → Prop} {ops : Array Oper} {bs : List (List Bool)} {b : List Bool} {k : Nat} {o : Oper} {rest : List Oper} {T : List Rw} {t : Tmp} {Hk : zAT → List Ent} {x y : Operand} {v : Value}
theorem zOS {T1 : TypeId} {ps : Array (Nat × Operand)} {s : Nat} {z cs : List Value} {qs : List (Nat × Value)} (hop : o.op = .build T1 ps) [i1 : TyBA P T1 s z] (hp : evp R ps.toList = some qs) (hf : fillL (fun i => some (i * s, s)) z qs = some cs) : Ev P w0 n d R H o (.agg cs.toArray) := fun a w q => by
 unfold execOp; rw [hop]
 have e1 : (ps.map fun (i, x) => (i, a.eval x)).toList = qs := by rw [Array.toList_map]; exact q.evp hp
 have e2 : P.built T1 (ps.map fun (i, x) => (i, a.eval x)).toList = some cs.toArray := by
  rw [i1.bui, e1]
  exact fill_eq _ qs z cs hf
 simp only [Sem.run_bind, run_build w T1 _ _ e2, Result.andThen_ok, Sem.run_pure]
theorem c_ret {V : Wit → Value} {E : Wit → List Ent} {f : FuncId} {fx : Operand} {xs : Array Operand} {ts : Array TypeId} {vs : zAT → List Value} {cap : Array Value} (hop : o.op = .call ⟨.value fx, xs, ts⟩) (hw : ∀ G, want (Rk R0 ops b o T G) ops o = some true) (hd : o.dst = some t) (hf : ∀ G, evR (Rk R0 ops b o T G) fx = some (.func (.func f) #[] cap)) (hx : ∀ G, evs (Rk R0 ops b o T G) xs.toList = some (vs G)) [ci : zS P f]
  (hc : ∀ G a w, Kn w0 n d (Rk R0 ops b o T G) (Hk G) a w → Ret P f (vs G ++ cap.toList) w V E (fun _ => True)) (h : zAN ro S P w0 n d ops R0 H0 Q bs (k + 1) rest (⟨k, some t, fun G => (V (G k), E (G k))⟩ :: T)) : CAt ro S P w0 n d ops R0 H0 Q b bs k o rest T Hk := by
 refine zCQ (f := fun G => (V (G k), E (G k))) (fun G G' hG => by simp only [hG k (.inl rfl)]) (fun G a w q K hK => ?_) (by rw [hd]; exact h)
 rw [zAn q (hw G), if_pos rfl]
 unfold Oper.wp execOp; rw [hop]
 have e1 : xs.map a.eval = (vs G).toArray := by apply Array.ext'; simpa using q.evs (hx G)
 have e2 : (vs G).toArray ++ cap = (vs G ++ cap.toList).toArray := by apply Array.ext'; simp
 simp only [resolve, q.ev (hf G), e1, Deferred.ofValue, Sem.run_bind, Sem.run_pure, Result.andThen_ok, invoke, Array.empty_append, e2, ci.ent, Oper.upon_enter]
 refine Calls.mono (hc G a w q).calls ?_
 rintro e w' ⟨z, hp, rfl, hb, hE⟩
 exact hK _ _ _ ⟨z, by simp [upW]⟩ hb hE
theorem c_makeC {T1 e : TypeId} {i : TypeInfo} {z v : Value} {n0 s : Nat} {g : Bool} (hop : o.op = .makeSlice T1 x y) [i1 : TyI P T1 (.slice e) s g] (hi : P.info? e = some i) (hz : i.zero = some z) (h1 : i.size = 1) (hcz : z.cells = #[v]) (hb : Nat.ble (i.bytes * 1000) 281474976710656 = true) (hw : ∀ G, want (Rk R0 ops b o T G) ops o = some true) (hd : o.dst = some t) (hx : ∀ G, evR (Rk R0 ops b o T G) x = some (.int .i64 (n0 : Int))) (hy : ∀ G, evR (Rk R0 ops b o T G) y = some (.int .i64 (n0 : Int))) (hn : n0 ≤ 1000)
  (h : zAN ro S P w0 n d ops R0 H0 Q bs (k + 1) rest (⟨k, some t, fun G => (.slice (some ⟨(G k).g, 0, none⟩) n0 n0, [.blk (G k).g (List.replicate n0 v)])⟩ :: T)) : CAt ro S P w0 n d ops R0 H0 Q b bs k o rest T Hk := by
 refine zCQ (f := fun G => (.slice (some ⟨(G k).g, 0, none⟩) n0 n0, [.blk (G k).g (List.replicate n0 v)])) (fun G G' hG => by simp only [hG k (.inl rfl)]) (fun G a w q K hK => ?_) (by rw [hd]; exact h)
 rw [zAn q (hw G), if_pos rfl]
 have hb' : (i.bytes : Int) * (n0 : Int) ≤ 281474976710656 := by
  have h9 := Nat.le_of_ble_eq_true hb
  have h8 : i.bytes * n0 ≤ i.bytes * 1000 := Nat.mul_le_mul_left _ hn
  have h7 : ((i.bytes * n0 : Nat) : Int) ≤ 281474976710656 := by omega
  rwa [Int.natCast_mul] at h7
 have hr := run_make (P := P) w T1 e i z i1.und hi hz .i64 .i64 n0 n0 (by omega) (Int.le_refl _) hb' (by omega)
 simp only [Int.toNat_natCast, h1, Nat.mul_one, hcz] at hr
 unfold Oper.wp execOp; rw [hop]
 simp only [Sem.run_bind, q.ev (hx G), q.ev (hy G), hr, Result.andThen_ok, Sem.run_pure, Oper.upon_value]
 have e1 : madeCells #[v] n0 = (List.replicate n0 v).toArray := by
  apply Array.ext'
  rw [toList_madeCells_one]
 rw [e1]
 exact hK _ _ _ ⟨⟨w.heap.size, none, 0⟩, by simp only [upW, if_true]⟩ (zm w (.cells (List.replicate n0 v).toArray e)) (zDl w (List.replicate n0 v) e)
end
theorem icoverW (k : Int) (w : World) : Ret Tryz.prog 44 [.int .i64 k] w (fun z : Wit => zAS (zBW k) (some ⟨z.g, 0, none⟩) 3 z.A 3 (some ⟨z.m, 0, none⟩) 3) (fun z => [.sl zBU 9 (some ⟨z.g, 0, none⟩) (zBW k).t, .sl zAx 3 z.A (zBW k).beds, .sl zx 5 (some ⟨z.m, 0, none⟩) (zBW k).hours]) (fun _ => True) := by
 (refine zL (n := 22) Tryz.func44 rfl rfl rfl ?_)
 (repeat' (first | ((with_reducible refine zG ?_); first | refine zE rfl rfl rfl rfl rfl ?_ | refine zY rfl rfl rfl rfl rfl rfl (fun _ _ q => zFR _ _ _) ?_ | (refine zAR rfl rfl rfl rfl rfl rfl (fun _ _ q => irun_any _) ?_; rintro gr -; dsimp only [List.cons_append, List.nil_append]) | (refine zj rfl rfl rfl rfl rfl ?_; refine And.intro rfl (And.intro (by first | decide | exact Nat.le_of_ble_eq_true rfl | (simp; omega)) ⟨_, rfl, ?_⟩)) | (refine zt rfl rfl rfl rfl (fun b => ?_)) | (refine zA4 rfl rfl rfl rfl rfl ?_; refine ⟨_, rfl, ?_⟩) | (refine zz rfl rfl rfl rfl rfl ?_; refine ⟨rfl, _, rfl, fun b => ?_⟩)) | (with_reducible first | refine zH ?_ | refine zB ?_ | refine zD ?_ | refine zA ?_ | refine zX ?_)))
 rename_i b2 bb
 exact zV (by (exact zP.cons (by exact res1c rfl (by exact rfl)) zP.nil)) ⟨gr, some ⟨bb, 0, none⟩, b⟩ trivial rfl (fun _ h => (Own.zG9 (enc := zAx) (xs := (zBW k).beds) (b := bb) (Take.there _ (Take.there _ (Take.here _ _))) (Own.zG9 (enc := zx) (xs := (zBW k).hours) (b := b) (Take.there _ (Take.here _ _)) h)).sub (by (repeat (first | exact oK1 _ | (refine oK2 (by (repeat (first | exact tK1 _ _ | apply tK2))) ?_)))))
theorem zJe (w : World) : Ret Tryz.prog 45 [] w (fun z : Wit => .slice z.A 3 3) (fun z => [.zGH z.g z.m z.A zFZ]) (fun _ => True) :=
 (zKM w).conv fun z _ => ⟨⟨z.1, z.2.2, z.2.1⟩, trivial, rfl, fun _ h => h⟩
theorem zIk (k : Int) : Small (zBW k) := ⟨fun s hs => by
 simp only [zBW, runE, List.mem_cons, List.not_mem_nil, or_false] at hs
 rcases hs with rfl | rfl | rfl <;> decide, by simp [zBW, runE], by simp [zBW], by simp [zBW]⟩
theorem evi_need : zJX (zBW 2) = ([1, 2, 1], 0) := by decide +kernel
theorem evi_plan : zCz (zBW 2) = (zFZ, 0) := by decide +kernel
theorem zON : zEW (zBW 2) (zCX zFZ) 1 2 = (⟨294, 328⟩, 0) := by decide +kernel
theorem zFW : zFk (zBW 2) (zCX zFZ) = ⟨33000, 34500⟩ ∧ zCG (zBW 2) (zCX zFZ) = 0 ∧ zH4 (zBW 2) (zCX zFZ) = 2 := by decide +kernel
theorem evi_most : zGK (zBW 2) (zCX zFZ) 2 = (15, 0) := by decide +kernel
theorem zLg : zF7 (zBW 2) (zCX [[], [], []]) = [(2, 0), (2, 1), (2, 2)] ∧ zCG (zBW 2) (zCX [[], [], []]) = 0 := by decide +kernel
theorem zOO : zC8 (zBW 1) = (2, [0, 1], 0) := by decide +kernel
theorem zOP : (zCs (zBW 2) 100 ⟨302, 320⟩).2 = 0 ∧ (zCs (zBW 2) 100 ⟨302, 320⟩).1.beds = [⟨⟨302, 310⟩, 1⟩, ⟨⟨290, 300⟩, 2⟩, ⟨⟨300, 300⟩, 0⟩] := by decide +kernel
theorem plan_nil {g n : Nat} {base : Nat} {w : World} {H H' : List Ent} (h : Own base w H) (ht : Take H (.blk g (List.replicate n (.slice none 0 0))) H') : ∃ pl : List Sli, pl.map Sli.xs = (zCX (List.replicate n [])).map Sli.xs ∧ zBK w (some ⟨g, 0, none⟩) pl := by
 refine ⟨List.replicate n ⟨none, [], 0⟩, by simp [zCX], ?_, fun s hs => ?_⟩
 ·have h1 : Blk w g (List.replicate n (.slice none 0 0)).toArray := h.here _ ht.mem
  have e : (List.replicate n (⟨none, [], 0⟩ : Sli)).flatMap zBN = List.replicate n (.slice none 0 0) := by
   clear h ht h1
   induction n with
   | zero => rfl
   | succ m ih => rw [List.replicate_succ, List.flatMap_cons, ih]; rfl
  rw [← e] at h1
  exact zGC (fun _ => rfl) h1
 ·obtain rfl := List.eq_of_mem_replicate hs
  intro i x hx; cases hx
set_option maxHeartbeats 8000000 in
theorem zMa (w : World) (hG : InC w 0 0 zCe) : Gv Tryz.prog 15 [] w (.bool true) := by
 have s2 := zIk 2
 have h1 := fun W A ca B cb C cc (hC : zAq W (zBW 2) A B C) (hG : InC W 0 0 zCe) => zJh (zBW 2) A ca B cb C cc W hC s2 hG
 have h2 := fun W A ca B cb C cc (hC : zAq W (zBW 2) A B C) (hG : InC W 0 0 zCe) => Ret.zGH (V := fun v => .tuple #[v, .int .i64 (zCz (zBW 2)).2]) (zG2 (zBW 2) A ca B cb C cc W hC s2 hG)
 have h3 := fun W A ca B cb C cc P (hC : zAq W (zBW 2) A B C) hp => iThickP (zBW 2) A ca B cb C cc zFZ P 3 W hC s2 hp (by decide) (by decide) 1 2
 have h4 := fun W A ca B cb C cc P (hC : zAq W (zBW 2) A B C) hp => iWaterP (zBW 2) A ca B cb C cc zFZ P 3 W hC s2 hp (by decide) (by decide)
 have h5 := fun W A ca B cb C cc P (hC : zAq W (zBW 2) A B C) hp (hG : InC W 0 0 zCe) => iSafeP (zBW 2) A ca B cb C cc zFZ P 3 W hC s2 hp (by decide) (by decide) hG
 have h6 := fun W A ca B cb C cc P (hC : zAq W (zBW 2) A B C) hp (hG : InC W 0 0 zCe) => iMostP (zBW 2) A ca B cb C cc zFZ P 3 W hC s2 hp (by decide) (by decide) 2 hG
 have h7 := fun W A ca B cb C cc P (hC : zAq W (zBW 2) A B C) hp (hG : InC W 0 0 zCe) => iThinP (zBW 2) A ca B cb C cc [[], [], []] P 3 W hC s2 hp (by decide) (by decide) hG
 have h8 := fun W A ca B cb C cc (hC : zAq W (zBW 1) A B C) (hG : InC W 0 0 zCe) => zId (zBW 1) A ca B cb C cc W hC (zIk 1) hG
 have h9 := fun W A ca B cb C cc (hC : zAq W (zBW 2) A B C) => Two.zMZ (zBW 2) A ca B cb C cc 100 ⟨302, 320⟩ W hC s2
 rw [evi_need] at h1
 rw [evi_plan] at h2
 rw [zON] at h3
 rw [zFW.1, zFW.2.1] at h4
 rw [zFW.2.2, zFW.2.1] at h5
 rw [evi_most] at h6
 rw [zLg.1, zLg.2] at h7
 rw [zOO] at h8
 obtain ⟨d1, d2⟩ := zOP
 generalize zCs (zBW 2) 100 ⟨302, 320⟩ = dx at *
 unfold vSp at h3 h4 h9
 have d3 : dx.1.beds.length = 3 := by rw [d2]; rfl
 simp only [d1, d2, d3, zAS, zM] at h9
 have h7w : ∀ W A ca B cb C cc P, zAq W (zBW 2) A B C → _ → InC W 0 0 zCe → Ret Tryz.prog 20 [zAS (zBW 2) A ca B cb C cc, .slice P 3 3] W (fun z : Wit => .tuple #[.slice z.A 3 z.m, .int .i64 0]) (fun z => [.sl zAW 2 z.A [(2, 0), (2, 1), (2, 2)]]) (fun _ => True) := fun W A ca B cb C cc P hC hp hG => (h7 W A ca B cb C cc P hC hp hG).conv fun p _ => ⟨⟨0, p.1, p.2⟩, trivial, rfl, fun _ h => h⟩
 have hcv := icoverW
 unfold zAS zM at h1 h2 h3 h4 h5 h6 h7w h8 hcv
 unfold Gv
 (refine zL (n := 166) Tryz.func15 rfl rfl rfl ?_)
 (repeat' (first | ((with_reducible refine zG ?_); first | refine zE rfl rfl rfl rfl rfl ?_ | refine zC rfl rfl rfl rfl rfl ?_ | (refine zAR rfl rfl rfl rfl rfl rfl (fun _ _ q => hcv _ _) ?_; rintro z -; dsimp only [List.cons_append, List.nil_append]) | (refine zAR rfl rfl rfl rfl rfl rfl (fun _ _ q => zJe _) ?_; rintro z -; dsimp only [List.cons_append, List.nil_append]) | (refine zCu rfl rfl rfl rfl rfl rfl (fun _ _ q => h1 _ _ _ _ _ _ _ ⟨(zBF q.own (Below.refl _ _)), (zBF q.own (Below.refl _ _)), (zBF q.own (Below.refl _ _))⟩ (hG.below q.below)) (fun N1 nc1 => ?_)) | (refine zAR rfl rfl rfl rfl rfl rfl (fun _ _ q => h2 _ _ _ _ _ _ _ ⟨(zBF q.own (Below.refl _ _)), (zBF q.own (Below.refl _ _)), (zBF q.own (Below.refl _ _))⟩ (hG.below q.below)) ?_; rintro ⟨pg, pn, pA, pc⟩ -; dsimp only [List.cons_append, List.nil_append]) | refine zY rfl rfl rfl rfl rfl rfl (fun _ _ q => h3 _ _ _ _ _ _ _ _ ⟨(zBF q.own (Below.refl _ _)), (zBF q.own (Below.refl _ _)), (zBF q.own (Below.refl _ _))⟩ (zD4 q.own (by (repeat (first | exact tK1 _ _ | apply tK2))))) ?_ | refine zY rfl rfl rfl rfl rfl rfl (fun _ _ q => h4 _ _ _ _ _ _ _ _ ⟨(zBF q.own (Below.refl _ _)), (zBF q.own (Below.refl _ _)), (zBF q.own (Below.refl _ _))⟩ (zD4 q.own (by (repeat (first | exact tK1 _ _ | apply tK2))))) ?_ | refine zY rfl rfl rfl rfl rfl rfl (fun _ _ q => h5 _ _ _ _ _ _ _ _ ⟨(zBF q.own (Below.refl _ _)), (zBF q.own (Below.refl _ _)), (zBF q.own (Below.refl _ _))⟩ (zD4 q.own (by (repeat (first | exact tK1 _ _ | apply tK2)))) (hG.below q.below)) ?_ | refine zY rfl rfl rfl rfl rfl rfl (fun _ _ q => h6 _ _ _ _ _ _ _ _ ⟨(zBF q.own (Below.refl _ _)), (zBF q.own (Below.refl _ _)), (zBF q.own (Below.refl _ _))⟩ (zD4 q.own (by (repeat (first | exact tK1 _ _ | apply tK2)))) (hG.below q.below)) ?_ | refine zh rfl rfl rfl rfl rfl rfl ?_ | (refine zj rfl rfl rfl rfl rfl ?_; refine And.intro rfl (And.intro (by first | decide | exact Nat.le_of_ble_eq_true rfl | (simp; omega)) ⟨_, rfl, ?_⟩)) | (refine zt rfl rfl rfl rfl (fun b => ?_))) | (with_reducible first | refine zH ?_ | refine zB ?_ | refine zD ?_ | refine zA ?_)))
 rename_i b5 y1 y2 y3 y4 y5
 obtain ⟨b7, hb7⟩ : ∃ x, x = b := ⟨_, rfl⟩
 subst hb7
 refine U.sub (R' := [(0, .bool false), (1, .slice N1 3 nc1), (2, .int .i64 0), (3, .slice pA 3 pc), (4, .int .i64 0), (5, .pointer (some ⟨b5, 0, none⟩)), (6, .int .i64 0), (7, .pointer (some ⟨b7, 0, none⟩)), (8, .int .i64 0), (9, .int .u8 2), (10, .int .i64 0), (11, .int .i64 15), (12, .int .i64 0)]) (H' := [.sl encI 1 N1 [1, 2, 1], .zGH pg pn pA zFZ, .blk b5 [.int .i64 294, .int .i64 328], .blk b7 [.int .i64 33000, .int .i64 34500]]) (by (first | exact lK1 | (repeat (first | exact lK1 | (refine zK rfl ?_))))) (by (repeat (first | exact oK1 _ | (refine oK2 (by (repeat (first | exact tK1 _ _ | apply tK2))) ?_)))) ?_
 (refine zAo (by kernel_rfl) [[], [O0], [I0, I0], [I0, I0, I0], [I0, I0, I0, I0], [O0, I0, I0, I0, I0], [O0, I0, I0, I0, I0, I0], [I0, I0, I0, I0, I0, I0, I0]] (by kernel_rfl) (by kernel_rfl) (by kernel_rfl) ?_)
 (repeat' (first | (((with_reducible refine zC6 ?_ ?_); (· exact rfl); refine ⟨_, fun G => (by (try simp only [fltT, zw, List.nil_append, List.cons_append]); rfl), ?_⟩); first | refine za _ (fun _ => zAm rfl rfl) (fun _ => rfl) rfl (by first | exact fun _ _ _ => rfl | (intro G G' h; simp (decide := true) only [h])) ?_ | refine za _ (fun _ => zB5 rfl rfl) (fun _ => rfl) rfl (by first | exact fun _ _ _ => rfl | (intro G G' h; simp (decide := true) only [h])) ?_ | (refine c_ret rfl (fun _ => rfl) rfl (fun _ => rfl) (fun _ => rfl) (fun _ _ _ _ => hcv _ _) ?_) | (refine c_makeC (v := .slice none 0 0) rfl rfl rfl rfl rfl rfl (fun _ => rfl) rfl (fun _ => rfl) (fun _ => rfl) (by decide) ?_) | (refine c_ret rfl (fun _ => rfl) rfl (fun _ => rfl) (fun _ => rfl) (fun _ _ _ q => h7w _ _ _ _ _ _ _ _ ⟨(zBF q.own (Below.refl _ _)), (zBF q.own (Below.refl _ _)), (zBF q.own (Below.refl _ _))⟩ (plan_nil (n := 3) q.own (by (repeat (first | exact tK1 _ _ | apply tK2)))) (hG.below q.below)) ?_) | refine za _ (fun _ => zG4 rfl rfl rfl) (fun _ => rfl) rfl (by first | exact fun _ _ _ => rfl | (intro G G' h; simp (decide := true) only [h])) ?_) | (with_reducible refine zHW ?_)))
 (intro G; simp only [regsT, zw, Pend.zBS, List.nil_append, List.cons_append])
 (repeat' (first | ((with_reducible refine zG ?_); first | refine zE rfl rfl rfl rfl rfl ?_ | refine zC rfl rfl rfl rfl rfl ?_ | (refine zAR rfl rfl rfl rfl rfl rfl (fun _ _ q => hcv _ _) ?_; rintro z -; dsimp only [List.cons_append, List.nil_append]) | refine zY rfl rfl rfl rfl rfl rfl (fun _ _ q => zFR _ _ _) ?_ | (refine zCu rfl rfl rfl rfl rfl rfl (fun _ _ q => h8 _ _ _ _ _ _ _ ⟨(zBF q.own (Below.refl _ _)), (zBF q.own (Below.refl _ _)), (zBF q.own (Below.refl _ _))⟩ (hG.below q.below)) (fun S1 sc1 => ?_)) | (refine zAR rfl rfl rfl rfl rfl rfl (fun _ _ q => h9 _ _ _ _ _ _ _ ⟨(zBF q.own (Below.refl _ _)), (zBF q.own (Below.refl _ _)), (zBF q.own (Below.refl _ _))⟩) ?_; rintro ⟨⟨E1, ec1⟩, ⟨F1, fc1⟩, ⟨G1, gc1⟩⟩ -; dsimp only [List.cons_append, List.nil_append]) | refine zh rfl rfl rfl rfl rfl rfl ?_ | (refine zj rfl rfl rfl rfl rfl ?_; refine And.intro rfl (And.intro (by first | decide | exact Nat.le_of_ble_eq_true rfl | (simp; omega)) ⟨_, rfl, ?_⟩)) | (refine zt rfl rfl rfl rfl (fun b => ?_))) | (with_reducible first | refine zH ?_ | refine zB ?_ | refine zD ?_ | refine zA ?_)))
 simp only [Nat.reduceAdd]
 generalize (G 2).A = T1
 generalize (G 2).m = tc1
 refine U.sub (R' := [(0, .bool false), (1, .slice N1 3 nc1), (2, .int .i64 0), (3, .slice pA 3 pc), (4, .int .i64 0), (5, .pointer (some ⟨b5, 0, none⟩)), (6, .int .i64 0), (7, .pointer (some ⟨b7, 0, none⟩)), (8, .int .i64 0), (9, .int .u8 2), (10, .int .i64 0), (11, .int .i64 15), (12, .int .i64 0), (13, .slice T1 3 tc1), (14, .int .i64 0), (15, .int .i64 2), (16, .slice S1 2 sc1), (17, .int .i64 0), (18, .pointer (some ⟨b, 0, none⟩)), (19, .int .i64 0)]) (H' := [.blk b [.slice E1 dx.1.t.length ec1, .slice F1 3 fc1, .slice G1 dx.1.hours.length gc1, .int .i64 dx.1.wear.lo, .int .i64 dx.1.wear.hi, .int .i64 dx.1.layer.lo, .int .i64 dx.1.layer.hi, .int .i64 dx.1.rate, .int .i64 dx.1.limit, .int .i64 dx.1.base], .sl zAx 3 F1 [⟨⟨302, 310⟩, 1⟩, ⟨⟨290, 300⟩, 2⟩, ⟨⟨300, 300⟩, 0⟩], .sl zAW 2 T1 [(2, 0), (2, 1), (2, 2)], .sl encI 1 S1 [0, 1], .sl encI 1 N1 [1, 2, 1], .zGH pg pn pA zFZ, .blk b5 [.int .i64 294, .int .i64 328], .blk b7 [.int .i64 33000, .int .i64 34500]]) (by (first | exact lK1 | (repeat (first | exact lK1 | (refine zK rfl ?_))))) (by (repeat (first | exact oK1 _ | (refine oK2 (by (repeat (first | exact tK1 _ _ | apply tK2))) ?_)))) ?_
 refine zKm (enc := zAx) (A := F1) (by (repeat (first | exact tK1 _ _ | apply tK2))) (by decide) ?_
 rintro b9 o9 rfl
 have g0 : zAQ [(⟨⟨302, 310⟩, 1⟩ : Bed), ⟨⟨290, 300⟩, 2⟩, ⟨⟨300, 300⟩, 0⟩] 0 ⟨⟨302, 310⟩, 1⟩ := ⟨rfl⟩
 dsimp only [List.append]
 (refine zAo (by kernel_rfl) [[], [I0], [I0, I0], [I0, I0, I0], [O0, I0, I0, I0], [I0, I0, I0, I0, I0], [I0, I0, I0, I0, I0, I0], [I0, I0, I0, I0, I0, I0, I0], [I0, I0, I0, I0, I0, I0, I0, I0], [I0, I0, I0, I0, I0, I0, I0, I0, I0], [I0, I0, I0, I0, I0, I0, I0, I0, I0, I0], [I0, I0, I0, I0, I0, I0, I0, I0, I0, I0, I0], [I0, I0, I0, I0, I0, I0, I0, I0, I0, I0, I0, I0], [O0, I0, I0, I0, I0, I0, I0, I0, I0, I0, I0, I0, I0], [I0, I0, I0, I0, I0, I0, I0, I0, I0, I0, I0, I0, I0, I0], [I0, I0, I0, I0, I0, I0, I0, I0, I0, I0, I0, I0, I0, I0, I0], [I0, I0, I0, I0, I0, I0, I0, I0, I0, I0, I0, I0, I0, I0, I0, I0], [I0, I0, I0, I0, I0, I0, I0, I0, I0, I0, I0, I0, I0, I0, I0, I0, I0], [I0, I0, I0, I0, I0, I0, I0, I0, I0, I0, I0, I0, I0, I0, I0, I0, I0, I0], [I0, I0, I0, I0, I0, I0, I0, I0, I0, I0, I0, I0, I0, I0, I0, I0, I0, I0, I0], [I0, I0, I0, I0, I0, I0, I0, I0, I0, I0, I0, I0, I0, I0, I0, I0, I0, I0, I0, I0], [I0, I0, I0, I0, I0, I0, I0, I0, I0, I0, I0, I0, I0, I0, I0, I0, I0, I0, I0, I0, I0], [O0, I0, I0, I0, I0, I0, I0, I0, I0, I0, I0, I0, I0, I0, I0, I0, I0, I0, I0, I0, I0, I0], [I0, I0, I0, I0, I0, I0, I0, I0, I0, I0, I0, I0, I0, I0, I0, I0, I0, I0, I0, I0, I0, I0, I0], [I0, I0, I0, I0, I0, I0, I0, I0, I0, I0, I0, I0, I0, I0, I0, I0, I0, I0, I0, I0, I0, I0, I0, I0], [I0, I0, I0, I0, I0, I0, I0, I0, I0, I0, I0, I0, I0, I0, I0, I0, I0, I0, I0, I0, I0, I0, I0, I0, I0], [I0, I0, I0, I0, I0, I0, I0, I0, I0, I0, I0, I0, I0, I0, I0, I0, I0, I0, I0, I0, I0, I0, I0, I0, I0, I0], [I0, I0, I0, I0, I0, I0, I0, I0, I0, I0, I0, I0, I0, I0, I0, I0, I0, I0, I0, I0, I0, I0, I0, I0, I0, I0, I0], [I0, I0, I0, I0, I0, I0, I0, I0, I0, I0, I0, I0, I0, I0, I0, I0, I0, I0, I0, I0, I0, I0, I0, I0, I0, I0, I0, I0], [I0, I0, I0, I0, I0, I0, I0, I0, I0, I0, I0, I0, I0, I0, I0, I0, I0, I0, I0, I0, I0, I0, I0, I0, I0, I0, I0, I0, I0], [I0, I0, I0, I0, I0, I0, I0, I0, I0, I0, I0, I0, I0, I0, I0, I0, I0, I0, I0, I0, I0, I0, I0, I0, I0, I0, I0, I0, I0, I0], [O0, I0, I0, I0, I0, I0, I0, I0, I0, I0, I0, I0, I0, I0, I0, I0, I0, I0, I0, I0, I0, I0, I0, I0, I0, I0, I0, I0, I0, I0, I0], [I0, I0, I0, I0, I0, I0, I0, I0, I0, I0, I0, I0, I0, I0, I0, I0, I0, I0, I0, I0, I0, I0, I0, I0, I0, I0, I0, I0, I0, I0, I0, I0], [I0, I0, I0, I0, I0, I0, I0, I0, I0, I0, I0, I0, I0, I0, I0, I0, I0, I0, I0, I0, I0, I0, I0, I0, I0, I0, I0, I0, I0, I0, I0, I0, I0], [I0, I0, I0, I0, I0, I0, I0, I0, I0, I0, I0, I0, I0, I0, I0, I0, I0, I0, I0, I0, I0, I0, I0, I0, I0, I0, I0, I0, I0, I0, I0, I0, I0, I0], [I0, I0, I0, I0, I0, I0, I0, I0, I0, I0, I0, I0, I0, I0, I0, I0, I0, I0, I0, I0, I0, I0, I0, I0, I0, I0, I0, I0, I0, I0, I0, I0, I0, I0, I0], [I0, I0, I0, I0, I0, I0, I0, I0, I0, I0, I0, I0, I0, I0, I0, I0, I0, I0, I0, I0, I0, I0, I0, I0, I0, I0, I0, I0, I0, I0, I0, I0, I0, I0, I0, I0], [I0, I0, I0, I0, I0, I0, I0, I0, I0, I0, I0, I0, I0, I0, I0, I0, I0, I0, I0, I0, I0, I0, I0, I0, I0, I0, I0, I0, I0, I0, I0, I0, I0, I0, I0, I0, I0], [I0, I0, I0, I0, I0, I0, I0, I0, I0, I0, I0, I0, I0, I0, I0, I0, I0, I0, I0, I0, I0, I0, I0, I0, I0, I0, I0, I0, I0, I0, I0, I0, I0, I0, I0, I0, I0, I0], [I0, I0, I0, I0, I0, I0, I0, I0, I0, I0, I0, I0, I0, I0, I0, I0, I0, I0, I0, I0, I0, I0, I0, I0, I0, I0, I0, I0, I0, I0, I0, I0, I0, I0, I0, I0, I0, I0, I0], [I0, I0, I0, I0, I0, I0, I0, I0, I0, I0, I0, I0, I0, I0, I0, I0, I0, I0, I0, I0, I0, I0, I0, I0, I0, I0, I0, I0, I0, I0, I0, I0, I0, I0, I0, I0, I0, I0, I0, I0], [I0, I0, I0, I0, I0, I0, I0, I0, I0, I0, I0, I0, I0, I0, I0, I0, I0, I0, I0, I0, I0, I0, I0, I0, I0, I0, I0, I0, I0, I0, I0, I0, I0, I0, I0, I0, I0, I0, I0, I0, I0], [I0, I0, I0, I0, I0, I0, I0, I0, I0, I0, I0, I0, I0, I0, I0, I0, I0, I0, I0, I0, I0, I0, I0, I0, I0, I0, I0, I0, I0, I0, I0, I0, I0, I0, I0, I0, I0, I0, I0, I0, I0, I0], [I0, I0, I0, I0, I0, I0, I0, I0, I0, I0, I0, I0, I0, I0, I0, I0, I0, I0, I0, I0, I0, I0, I0, I0, I0, I0, I0, I0, I0, I0, I0, I0, I0, I0, I0, I0, I0, I0, I0, I0, I0, I0, I0], [I0, I0, I0, I0, I0, I0, I0, I0, I0, I0, I0, I0, I0, I0, I0, I0, I0, I0, I0, I0, I0, I0, I0, I0, I0, I0, I0, I0, I0, I0, I0, I0, I0, I0, I0, I0, I0, I0, I0, I0, I0, I0, I0, I0], [I0, I0, I0, I0, I0, I0, I0, I0, I0, I0, I0, I0, I0, I0, I0, I0, I0, I0, I0, I0, I0, I0, I0, I0, I0, I0, I0, I0, I0, I0, I0, I0, I0, I0, I0, I0, I0, I0, I0, I0, I0, I0, I0, I0, I0], [I0, I0, I0, I0, I0, I0, I0, I0, I0, I0, I0, I0, I0, I0, I0, I0, I0, I0, I0, I0, I0, I0, I0, I0, I0, I0, I0, I0, I0, I0, I0, I0, I0, I0, I0, I0, I0, I0, I0, I0, I0, I0, I0, I0, I0, I0], [I0, I0, I0, I0, I0, I0, I0, I0, I0, I0, I0, I0, I0, I0, I0, I0, I0, I0, I0, I0, I0, I0, I0, I0, I0, I0, I0, I0, I0, I0, I0, I0, I0, I0, I0, I0, I0, I0, I0, I0, I0, I0, I0, I0, I0, I0, I0], [I0, I0, I0, I0, I0, I0, I0, I0, I0, I0, I0, I0, I0, I0, I0, I0, I0, I0, I0, I0, I0, I0, I0, I0, I0, I0, I0, I0, I0, I0, I0, I0, I0, I0, I0, I0, I0, I0, I0, I0, I0, I0, I0, I0, I0, I0, I0, I0], [I0, I0, I0, I0, I0, I0, I0, I0, I0, I0, I0, I0, I0, I0, I0, I0, I0, I0, I0, I0, I0, I0, I0, I0, I0, I0, I0, I0, I0, I0, I0, I0, I0, I0, I0, I0, I0, I0, I0, I0, I0, I0, I0, I0, I0, I0, I0, I0, I0], [I0, I0, I0, I0, I0, I0, I0, I0, I0, I0, I0, I0, I0, I0, I0, I0, I0, I0, I0, I0, I0, I0, I0, I0, I0, I0, I0, I0, I0, I0, I0, I0, I0, I0, I0, I0, I0, I0, I0, I0, I0, I0, I0, I0, I0, I0, I0, I0, I0, I0], [I0, I0, I0, I0, I0, I0, I0, I0, I0, I0, I0, I0, I0, I0, I0, I0, I0, I0, I0, I0, I0, I0, I0, I0, I0, I0, I0, I0, I0, I0, I0, I0, I0, I0, I0, I0, I0, I0, I0, I0, I0, I0, I0, I0, I0, I0, I0, I0, I0, I0, I0], [I0, I0, I0, I0, I0, I0, I0, I0, I0, I0, I0, I0, I0, I0, I0, I0, I0, I0, I0, I0, I0, I0, I0, I0, I0, I0, I0, I0, I0, I0, I0, I0, I0, I0, I0, I0, I0, I0, I0, I0, I0, I0, I0, I0, I0, I0, I0, I0, I0, I0, I0, I0], [I0, I0, I0, I0, I0, I0, I0, I0, I0, I0, I0, I0, I0, I0, I0, I0, I0, I0, I0, I0, I0, I0, I0, I0, I0, I0, I0, I0, I0, I0, I0, I0, I0, I0, I0, I0, I0, I0, I0, I0, I0, I0, I0, I0, I0, I0, I0, I0, I0, I0, I0, I0, I0], [I0, I0, I0, I0, I0, I0, I0, I0, I0, I0, I0, I0, I0, I0, I0, I0, I0, I0, I0, I0, I0, I0, I0, I0, I0, I0, I0, I0, I0, I0, I0, I0, I0, I0, I0, I0, I0, I0, I0, I0, I0, I0, I0, I0, I0, I0, I0, I0, I0, I0, I0, I0, I0, I0], [I0, I0, I0, I0, I0, I0, I0, I0, I0, I0, I0, I0, I0, I0, I0, I0, I0, I0, I0, I0, I0, I0, I0, I0, I0, I0, I0, I0, I0, I0, I0, I0, I0, I0, I0, I0, I0, I0, I0, I0, I0, I0, I0, I0, I0, I0, I0, I0, I0, I0, I0, I0, I0, I0, I0], [O0, I0, I0, I0, I0, I0, I0, I0, I0, I0, I0, I0, I0, I0, I0, I0, I0, I0, I0, I0, I0, I0, I0, I0, I0, I0, I0, I0, I0, I0, I0, I0, I0, I0, I0, I0, I0, I0, I0, I0, I0, I0, I0, I0, I0, I0, I0, I0, I0, I0, I0, I0, I0, I0, I0, I0], [O0, O0, I0, I0, I0, I0, I0, I0, I0, I0, I0, I0, I0, I0, I0, I0, I0, I0, I0, I0, I0, I0, I0, I0, I0, I0, I0, I0, I0, I0, I0, I0, I0, I0, I0, I0, I0, I0, I0, I0, I0, I0, I0, I0, I0, I0, I0, I0, I0, I0, I0, I0, I0, I0, I0, I0, I0], [O0, O0, O0, I0, I0, I0, I0, I0, I0, I0, I0, I0, I0, I0, I0, I0, I0, I0, I0, I0, I0, I0, I0, I0, I0, I0, I0, I0, I0, I0, I0, I0, I0, I0, I0, I0, I0, I0, I0, I0, I0, I0, I0, I0, I0, I0, I0, I0, I0, I0, I0, I0, I0, I0, I0, I0, I0, I0], [I0, I0, I0, O0, I0, I0, I0, I0, I0, I0, I0, I0, I0, I0, I0, I0, I0, I0, I0, I0, I0, I0, I0, I0, I0, I0, I0, I0, I0, I0, I0, I0, I0, I0, I0, I0, I0, I0, I0, I0, I0, I0, I0, I0, I0, I0, I0, I0, I0, I0, I0, I0, I0, I0, I0, I0, I0, I0, I0], [I0, I0, I0, I0, I0, I0, I0, I0, I0, I0, I0, I0, I0, I0, I0, I0, I0, I0, I0, I0, I0, I0, I0, I0, I0, I0, I0, I0, I0, I0, I0, I0, I0, I0, I0, I0, I0, I0, I0, I0, I0, I0, I0, I0, I0, I0, I0, I0, I0, I0, I0, I0, I0, I0, I0, I0, I0, I0, I0, I0], [I0, I0, I0, I0, I0, I0, I0, I0, I0, I0, I0, I0, I0, I0, I0, I0, I0, I0, I0, I0, I0, I0, I0, I0, I0, I0, I0, I0, I0, I0, I0, I0, I0, I0, I0, I0, I0, I0, I0, I0, I0, I0, I0, I0, I0, I0, I0, I0, I0, I0, I0, I0, I0, I0, I0, I0, I0, I0, I0, I0, I0], [I0, I0, I0, I0, I0, I0, I0, I0, I0, I0, I0, I0, I0, I0, I0, I0, I0, I0, I0, I0, I0, I0, I0, I0, I0, I0, I0, I0, I0, I0, I0, I0, I0, I0, I0, I0, I0, I0, I0, I0, I0, I0, I0, I0, I0, I0, I0, I0, I0, I0, I0, I0, I0, I0, I0, I0, I0, I0, I0, I0, I0, I0], [I0, I0, I0, I0, I0, I0, I0, I0, I0, I0, I0, I0, I0, I0, I0, I0, I0, I0, I0, I0, I0, I0, I0, I0, I0, I0, I0, I0, I0, I0, I0, I0, I0, I0, I0, I0, I0, I0, I0, I0, I0, I0, I0, I0, I0, I0, I0, I0, I0, I0, I0, I0, I0, I0, I0, I0, I0, I0, I0, I0, I0, I0, I0], [I0, I0, I0, I0, I0, I0, I0, I0, I0, I0, I0, I0, I0, I0, I0, I0, I0, I0, I0, I0, I0, I0, I0, I0, I0, I0, I0, I0, I0, I0, I0, I0, I0, I0, I0, I0, I0, I0, I0, I0, I0, I0, I0, I0, I0, I0, I0, I0, I0, I0, I0, I0, I0, I0, I0, I0, I0, I0, I0, I0, I0, I0, I0, I0], [I0, I0, I0, I0, I0, I0, I0, I0, I0, I0, I0, I0, I0, I0, I0, I0, I0, I0, I0, I0, I0, I0, I0, I0, I0, I0, I0, I0, I0, I0, I0, I0, I0, I0, I0, I0, I0, I0, I0, I0, I0, I0, I0, I0, I0, I0, I0, I0, I0, I0, I0, I0, I0, I0, I0, I0, I0, I0, I0, I0, I0, I0, I0, I0, I0], [I0, I0, I0, I0, I0, I0, I0, I0, I0, I0, I0, I0, I0, I0, I0, I0, I0, I0, I0, I0, I0, I0, I0, I0, I0, I0, I0, I0, I0, I0, I0, I0, I0, I0, I0, I0, I0, I0, I0, I0, I0, I0, I0, I0, I0, I0, I0, I0, I0, I0, I0, I0, I0, I0, I0, I0, I0, I0, I0, I0, I0, I0, I0, I0, I0, I0], [I0, I0, I0, I0, I0, I0, I0, I0, I0, I0, I0, I0, I0, I0, I0, I0, I0, I0, I0, I0, I0, I0, I0, I0, I0, I0, I0, I0, I0, I0, I0, I0, I0, I0, I0, I0, I0, I0, I0, I0, I0, I0, I0, I0, I0, I0, I0, I0, I0, I0, I0, I0, I0, I0, I0, I0, I0, I0, I0, I0, I0, I0, I0, I0, I0, I0, I0], [I0, I0, I0, I0, I0, I0, I0, I0, I0, I0, I0, I0, I0, I0, I0, I0, I0, I0, I0, I0, I0, I0, I0, I0, I0, I0, I0, I0, I0, I0, I0, I0, I0, I0, I0, I0, I0, I0, I0, I0, I0, I0, I0, I0, I0, I0, I0, I0, I0, I0, I0, I0, I0, I0, I0, I0, I0, I0, I0, I0, I0, I0, I0, I0, I0, I0, I0, I0], [I0, I0, I0, I0, I0, I0, I0, I0, I0, I0, I0, I0, I0, I0, I0, I0, I0, I0, I0, I0, I0, I0, I0, I0, I0, I0, I0, I0, I0, I0, I0, I0, I0, I0, I0, I0, I0, I0, I0, I0, I0, I0, I0, I0, I0, I0, I0, I0, I0, I0, I0, I0, I0, I0, I0, I0, I0, I0, I0, I0, I0, I0, I0, I0, I0, I0, I0, I0, I0], [I0, I0, I0, I0, I0, I0, I0, I0, I0, I0, I0, I0, I0, I0, I0, I0, I0, I0, I0, I0, I0, I0, I0, I0, I0, I0, I0, I0, I0, I0, I0, I0, I0, I0, I0, I0, I0, I0, I0, I0, I0, I0, I0, I0, I0, I0, I0, I0, I0, I0, I0, I0, I0, I0, I0, I0, I0, I0, I0, I0, I0, I0, I0, I0, I0, I0, I0, I0, I0, I0], [I0, I0, I0, I0, I0, I0, I0, I0, I0, I0, I0, I0, I0, I0, I0, I0, I0, I0, I0, I0, I0, I0, I0, I0, I0, I0, I0, I0, I0, I0, I0, I0, I0, I0, I0, I0, I0, I0, I0, I0, I0, I0, I0, I0, I0, I0, I0, I0, I0, I0, I0, I0, I0, I0, I0, I0, I0, I0, I0, I0, I0, I0, I0, I0, I0, I0, I0, I0, I0, I0, I0], [O0, I0, I0, I0, I0, I0, I0, I0, I0, I0, I0, I0, I0, I0, I0, I0, I0, I0, I0, I0, I0, I0, I0, I0, I0, I0, I0, I0, I0, I0, I0, I0, I0, I0, I0, I0, I0, I0, I0, I0, I0, I0, I0, I0, I0, I0, I0, I0, I0, I0, I0, I0, I0, I0, I0, I0, I0, I0, I0, I0, I0, I0, I0, I0, I0, I0, I0, I0, I0, I0, I0, I0], [I0, I0, I0, I0, I0, I0, I0, I0, I0, I0, I0, I0, I0, I0, I0, I0, I0, I0, I0, I0, I0, I0, I0, I0, I0, I0, I0, I0, I0, I0, I0, I0, I0, I0, I0, I0, I0, I0, I0, I0, I0, I0, I0, I0, I0, I0, I0, I0, I0, I0, I0, I0, I0, I0, I0, I0, I0, I0, I0, I0, I0, I0, I0, I0, I0, I0, I0, I0, I0, I0, I0, I0, I0], [I0, I0, I0, I0, I0, I0, I0, I0, I0, I0, I0, I0, I0, I0, I0, I0, I0, I0, I0, I0, I0, I0, I0, I0, I0, I0, I0, I0, I0, I0, I0, I0, I0, I0, I0, I0, I0, I0, I0, I0, I0, I0, I0, I0, I0, I0, I0, I0, I0, I0, I0, I0, I0, I0, I0, I0, I0, I0, I0, I0, I0, I0, I0, I0, I0, I0, I0, I0, I0, I0, I0, I0, I0, I0], [I0, I0, I0, I0, I0, I0, I0, I0, I0, I0, I0, I0, I0, I0, I0, I0, I0, I0, I0, I0, I0, I0, I0, I0, I0, I0, I0, I0, I0, I0, I0, I0, I0, I0, I0, I0, I0, I0, I0, I0, I0, I0, I0, I0, I0, I0, I0, I0, I0, I0, I0, I0, I0, I0, I0, I0, I0, I0, I0, I0, I0, I0, I0, I0, I0, I0, I0, I0, I0, I0, I0, I0, I0, I0, I0], [I0, I0, I0, I0, I0, I0, I0, I0, I0, I0, I0, I0, I0, I0, I0, I0, I0, I0, I0, I0, I0, I0, I0, I0, I0, I0, I0, I0, I0, I0, I0, I0, I0, I0, I0, I0, I0, I0, I0, I0, I0, I0, I0, I0, I0, I0, I0, I0, I0, I0, I0, I0, I0, I0, I0, I0, I0, I0, I0, I0, I0, I0, I0, I0, I0, I0, I0, I0, I0, I0, I0, I0, I0, I0, I0, I0], [I0, I0, I0, I0, I0, I0, I0, I0, I0, I0, I0, I0, I0, I0, I0, I0, I0, I0, I0, I0, I0, I0, I0, I0, I0, I0, I0, I0, I0, I0, I0, I0, I0, I0, I0, I0, I0, I0, I0, I0, I0, I0, I0, I0, I0, I0, I0, I0, I0, I0, I0, I0, I0, I0, I0, I0, I0, I0, I0, I0, I0, I0, I0, I0, I0, I0, I0, I0, I0, I0, I0, I0, I0, I0, I0, I0, I0], [I0, I0, I0, I0, I0, I0, I0, I0, I0, I0, I0, I0, I0, I0, I0, I0, I0, I0, I0, I0, I0, I0, I0, I0, I0, I0, I0, I0, I0, I0, I0, I0, I0, I0, I0, I0, I0, I0, I0, I0, I0, I0, I0, I0, I0, I0, I0, I0, I0, I0, I0, I0, I0, I0, I0, I0, I0, I0, I0, I0, I0, I0, I0, I0, I0, I0, I0, I0, I0, I0, I0, I0, I0, I0, I0, I0, I0, I0], [I0, I0, I0, I0, I0, I0, I0, I0, I0, I0, I0, I0, I0, I0, I0, I0, I0, I0, I0, I0, I0, I0, I0, I0, I0, I0, I0, I0, I0, I0, I0, I0, I0, I0, I0, I0, I0, I0, I0, I0, I0, I0, I0, I0, I0, I0, I0, I0, I0, I0, I0, I0, I0, I0, I0, I0, I0, I0, I0, I0, I0, I0, I0, I0, I0, I0, I0, I0, I0, I0, I0, I0, I0, I0, I0, I0, I0, I0, I0], [I0, I0, I0, I0, I0, I0, I0, I0, I0, I0, I0, I0, I0, I0, I0, I0, I0, I0, I0, I0, I0, I0, I0, I0, I0, I0, I0, I0, I0, I0, I0, I0, I0, I0, I0, I0, I0, I0, I0, I0, I0, I0, I0, I0, I0, I0, I0, I0, I0, I0, I0, I0, I0, I0, I0, I0, I0, I0, I0, I0, I0, I0, I0, I0, I0, I0, I0, I0, I0, I0, I0, I0, I0, I0, I0, I0, I0, I0, I0, I0], [I0, I0, I0, I0, I0, I0, I0, I0, I0, I0, I0, I0, I0, I0, I0, I0, I0, I0, I0, I0, I0, I0, I0, I0, I0, I0, I0, I0, I0, I0, I0, I0, I0, I0, I0, I0, I0, I0, I0, I0, I0, I0, I0, I0, I0, I0, I0, I0, I0, I0, I0, I0, I0, I0, I0, I0, I0, I0, I0, I0, I0, I0, I0, I0, I0, I0, I0, I0, I0, I0, I0, I0, I0, I0, I0, I0, I0, I0, I0, I0, I0], [I0, I0, I0, I0, I0, I0, I0, I0, I0, I0, I0, I0, I0, I0, I0, I0, I0, I0, I0, I0, I0, I0, I0, I0, I0, I0, I0, I0, I0, I0, I0, I0, I0, I0, I0, I0, I0, I0, I0, I0, I0, I0, I0, I0, I0, I0, I0, I0, I0, I0, I0, I0, I0, I0, I0, I0, I0, I0, I0, I0, I0, I0, I0, I0, I0, I0, I0, I0, I0, I0, I0, I0, I0, I0, I0, I0, I0, I0, I0, I0, I0, I0], [I0, I0, I0, I0, I0, I0, I0, I0, I0, I0, I0, I0, I0, I0, I0, I0, I0, I0, I0, I0, I0, I0, I0, I0, I0, I0, I0, I0, I0, I0, I0, I0, I0, I0, I0, I0, I0, I0, I0, I0, I0, I0, I0, I0, I0, I0, I0, I0, I0, I0, I0, I0, I0, I0, I0, I0, I0, I0, I0, I0, I0, I0, I0, I0, I0, I0, I0, I0, I0, I0, I0, I0, I0, I0, I0, I0, I0, I0, I0, I0, I0, I0, I0], [I0, I0, I0, I0, I0, I0, I0, I0, I0, I0, I0, I0, I0, I0, I0, I0, I0, I0, I0, I0, I0, I0, I0, I0, I0, I0, I0, I0, I0, I0, I0, I0, I0, I0, I0, I0, I0, I0, I0, I0, I0, I0, I0, I0, I0, I0, I0, I0, I0, I0, I0, I0, I0, I0, I0, I0, I0, I0, I0, I0, I0, I0, I0, I0, I0, I0, I0, I0, I0, I0, I0, I0, I0, I0, I0, I0, I0, I0, I0, I0, I0, I0, I0, I0], [I0, I0, I0, I0, I0, I0, I0, I0, I0, I0, I0, I0, I0, I0, I0, I0, I0, I0, I0, I0, I0, I0, I0, I0, I0, I0, I0, I0, I0, I0, I0, I0, I0, I0, I0, I0, I0, I0, I0, I0, I0, I0, I0, I0, I0, I0, I0, I0, I0, I0, I0, I0, I0, I0, I0, I0, I0, I0, I0, I0, I0, I0, I0, I0, I0, I0, I0, I0, I0, I0, I0, I0, I0, I0, I0, I0, I0, I0, I0, I0, I0, I0, I0, I0, I0], [I0, I0, I0, I0, I0, I0, I0, I0, I0, I0, I0, I0, I0, I0, I0, I0, I0, I0, I0, I0, I0, I0, I0, I0, I0, I0, I0, I0, I0, I0, I0, I0, I0, I0, I0, I0, I0, I0, I0, I0, I0, I0, I0, I0, I0, I0, I0, I0, I0, I0, I0, I0, I0, I0, I0, I0, I0, I0, I0, I0, I0, I0, I0, I0, I0, I0, I0, I0, I0, I0, I0, I0, I0, I0, I0, I0, I0, I0, I0, I0, I0, I0, I0, I0, I0, I0], [I0, I0, I0, I0, I0, I0, I0, I0, I0, I0, I0, I0, I0, I0, I0, I0, I0, I0, I0, I0, I0, I0, I0, I0, I0, I0, I0, I0, I0, I0, I0, I0, I0, I0, I0, I0, I0, I0, I0, I0, I0, I0, I0, I0, I0, I0, I0, I0, I0, I0, I0, I0, I0, I0, I0, I0, I0, I0, I0, I0, I0, I0, I0, I0, I0, I0, I0, I0, I0, I0, I0, I0, I0, I0, I0, I0, I0, I0, I0, I0, I0, I0, I0, I0, I0, I0, I0], [I0, I0, I0, I0, I0, I0, I0, I0, I0, I0, I0, I0, I0, I0, I0, I0, I0, I0, I0, I0, I0, I0, I0, I0, I0, I0, I0, I0, I0, I0, I0, I0, I0, I0, I0, I0, I0, I0, I0, I0, I0, I0, I0, I0, I0, I0, I0, I0, I0, I0, I0, I0, I0, I0, I0, I0, I0, I0, I0, I0, I0, I0, I0, I0, I0, I0, I0, I0, I0, I0, I0, I0, I0, I0, I0, I0, I0, I0, I0, I0, I0, I0, I0, I0, I0, I0, I0, I0], [I0, I0, I0, I0, I0, I0, I0, I0, I0, I0, I0, I0, I0, I0, I0, I0, I0, I0, I0, I0, I0, I0, I0, I0, I0, I0, I0, I0, I0, I0, I0, I0, I0, I0, I0, I0, I0, I0, I0, I0, I0, I0, I0, I0, I0, I0, I0, I0, I0, I0, I0, I0, I0, I0, I0, I0, I0, I0, I0, I0, I0, I0, I0, I0, I0, I0, I0, I0, I0, I0, I0, I0, I0, I0, I0, I0, I0, I0, I0, I0, I0, I0, I0, I0, I0, I0, I0, I0, I0], [I0, I0, I0, I0, I0, I0, I0, I0, I0, I0, I0, I0, I0, I0, I0, I0, I0, I0, I0, I0, I0, I0, I0, I0, I0, I0, I0, I0, I0, I0, I0, I0, I0, I0, I0, I0, I0, I0, I0, I0, I0, I0, I0, I0, I0, I0, I0, I0, I0, I0, I0, I0, I0, I0, I0, I0, I0, I0, I0, I0, I0, I0, I0, I0, I0, I0, I0, I0, I0, I0, I0, I0, I0, I0, I0, I0, I0, I0, I0, I0, I0, I0, I0, I0, I0, I0, I0, I0, I0, I0], [O0, O0, O0, O0, O0, I0, I0, I0, I0, I0, I0, I0, I0, I0, I0, I0, I0, I0, I0, I0, I0, I0, I0, I0, I0, I0, I0, I0, I0, I0, I0, I0, I0, I0, I0, I0, I0, I0, I0, I0, I0, I0, I0, I0, I0, I0, I0, I0, I0, I0, I0, I0, I0, I0, I0, I0, I0, I0, I0, I0, I0, I0, I0, I0, I0, I0, I0, I0, I0, I0, I0, I0, I0, I0, I0, I0, I0, I0, I0, I0, I0, I0, I0, I0, I0, I0, I0, I0, I0, I0, I0], [I0, I0, I0, I0, I0, I0, I0, I0, I0, I0, I0, I0, I0, I0, I0, I0, I0, I0, I0, I0, I0, I0, I0, I0, I0, I0, I0, I0, I0, I0, I0, I0, I0, I0, I0, I0, I0, I0, I0, I0, I0, I0, I0, I0, I0, I0, I0, I0, I0, I0, I0, I0, I0, I0, I0, I0, I0, I0, I0, I0, I0, I0, I0, I0, I0, I0, I0, I0, I0, I0, I0, I0, I0, I0, I0, I0, I0, I0, I0, I0, I0, I0, I0, I0, I0, I0, I0, I0, I0, I0, I0, I0], [I0, I0, I0, I0, I0, I0, I0, I0, I0, I0, I0, I0, I0, I0, I0, I0, I0, I0, I0, I0, I0, I0, I0, I0, I0, I0, I0, I0, I0, I0, I0, I0, I0, I0, I0, I0, I0, I0, I0, I0, I0, I0, I0, I0, I0, I0, I0, I0, I0, I0, I0, I0, I0, I0, I0, I0, I0, I0, I0, I0, I0, I0, I0, I0, I0, I0, I0, I0, I0, I0, I0, I0, I0, I0, I0, I0, I0, I0, I0, I0, I0, I0, I0, I0, I0, I0, I0, I0, I0, I0, I0, I0, I0], [I0, I0, I0, I0, I0, I0, I0, I0, I0, I0, I0, I0, I0, I0, I0, I0, I0, I0, I0, I0, I0, I0, I0, I0, I0, I0, I0, I0, I0, I0, I0, I0, I0, I0, I0, I0, I0, I0, I0, I0, I0, I0, I0, I0, I0, I0, I0, I0, I0, I0, I0, I0, I0, I0, I0, I0, I0, I0, I0, I0, I0, I0, I0, I0, I0, I0, I0, I0, I0, I0, I0, I0, I0, I0, I0, I0, I0, I0, I0, I0, I0, I0, I0, I0, I0, I0, I0, I0, I0, I0, I0, I0, I0, I0]] (by kernel_rfl) (by kernel_rfl) (by kernel_rfl) ?_)
 (repeat' (first | (((with_reducible refine zC6 ?_ ?_); (· exact rfl); refine ⟨_, fun G => (by (try simp only [fltT, zw, List.nil_append, List.cons_append]); rfl), ?_⟩); first | refine za _ (fun _ => zAm rfl rfl) (fun _ => rfl) rfl (by first | exact fun _ _ _ => rfl | (intro G G' h; simp (decide := true) only [h])) ?_ | refine za _ (fun _ => zAH rfl rfl (by exact rfl)) (fun _ => rfl) rfl (by first | exact fun _ _ _ => rfl | (intro G G' h; simp (decide := true) only [h])) ?_ | (refine zAU rfl ?_; refine za _ (fun _ => zAY rfl rfl) (fun _ => rfl) rfl (by first | exact fun _ _ _ => rfl | (intro G G' h; simp (decide := true) only [h])) ?_) | refine za _ (fun _ => zDw rfl rfl rfl) (fun _ => rfl) rfl (by first | exact fun _ _ _ => rfl | (intro G G' h; simp (decide := true) only [h])) ?_ | refine za _ (fun _ => zB5 rfl rfl) (fun _ => rfl) rfl (by first | exact fun _ _ _ => rfl | (intro G G' h; simp (decide := true) only [h])) ?_ | (refine zLs rfl rfl (fun _ => rfl) rfl (fun _ => rfl) (fun _ => rfl) (fun h => ?_) (fun h => ?_) <;> (dsimp only [cmpP] at h; (try (exfalso; omega)))) | refine zCw _ rfl (fun _ => rfl) rfl (fun _ => rfl) (fun _ => rfl) (fun _ _ _ q => zFR _ _ _) (by first | exact fun _ _ _ => rfl | (intro G G' h; simp (decide := true) only [h])) ?_ | (refine c_ret rfl (fun _ => rfl) rfl (fun _ => rfl) (fun _ => rfl) (fun _ _ _ _ => zJe _) ?_) | refine zCw _ rfl (fun _ => rfl) rfl (fun _ => rfl) (fun _ => rfl) (fun _ _ _ q => zM4 [1, 2, 1] _ _ _ _ _ (zBF q.own (Below.refl _ _)) (zGB (enc := encI) [1, 2, 1] (by exact rfl) _ q.below q.own) (by decide)) (by first | exact fun _ _ _ => rfl | (intro G G' h; simp (decide := true) only [h])) ?_ | refine zCw _ rfl (fun _ => rfl) rfl (fun _ => rfl) (fun _ => rfl) (fun _ _ _ q => zM4 [0, 1] _ _ _ _ _ (zBF q.own (Below.refl _ _)) (zGB (enc := encI) [0, 1] (by exact rfl) _ q.below q.own) (by decide)) (by first | exact fun _ _ _ => rfl | (intro G G' h; simp (decide := true) only [h])) ?_ | refine zCw _ rfl (fun _ => rfl) rfl (fun _ => rfl) (fun _ => rfl) (fun _ _ _ q => zL4 zFZ _ _ _ _ _ (zD4 q.own (by (repeat (first | exact tK1 _ _ | apply tK2)))) (zD4 q.own (by (repeat (first | exact tK1 _ _ | apply tK2)))) (by decide) (by decide)) (by first | exact fun _ _ _ => rfl | (intro G G' h; simp (decide := true) only [h])) ?_ | (refine c_eqsp rfl (fun _ => rfl) rfl (fun _ => rfl) (fun _ => rfl) (fun h => ?_) (fun h => absurd ⟨rfl, rfl⟩ h)) | refine za _ (fun _ => zOS rfl rfl (by exact rfl)) (fun _ => rfl) rfl (by exact fun _ _ _ => rfl) ?_ | refine zCw _ rfl (fun _ => rfl) rfl (fun _ => rfl) (fun _ => rfl) (fun _ _ _ q => zI2 [(2, 0), (2, 1), (2, 2)] _ _ _ _ _ (zBF q.own (Below.refl _ _)) (zGB (enc := zAW) [(2, 0), (2, 1), (2, 2)] (by exact rfl) _ q.below q.own) (by decide)) (by first | exact fun _ _ _ => rfl | (intro G G' h; simp (decide := true) only [h])) ?_ | refine za _ (fun _ => zAt (I := 0) rfl rfl rfl rfl (by decide)) (fun _ => rfl) rfl (by exact fun _ _ _ => rfl) ?_ | refine za _ (fun _ => zEI rfl rfl) (fun _ => rfl) rfl (by first | exact fun _ _ _ => rfl | (intro G G' h; simp (decide := true) only [h])) ?_ | refine zBa rfl (fun _ => rfl) rfl (fun _ => rfl) (by exact rfl) (by exact fun _ => rfl) (by first | exact fun _ _ _ => rfl | (intro G G' h; simp (decide := true) only [h])) ?_) | (with_reducible refine zHW ?_)))
 all_goals
  (intro G; simp only [regsT, zw, Pend.zBS, List.nil_append, List.cons_append])
  (repeat' (first | (with_reducible first | refine zA ?_ | refine zX ?_)))
  exact zV (by (exact zP.cons (by exact zf.tmp rfl) zP.nil)) () trivial rfl (fun _ _ => Own.nil _ _)
end Go.Proofs.YtdigopgncfhiaaaGreatDoor
namespace Go.Proofs.YtdigopgncfhiaaaGreatDoor
open Go.RowKit
open Flow (lackF sumL)
set_option maxRecDepth 20000
theorem errI_ofF {c : Cov} (hv : valid c.t = true) (h : zCf c) : zAh c = 0 := by
 have : zDW c = true := zCB.2 ⟨h.beds, h.hours, List.all_eq_true.2 fun z hz => h.bed z hz, List.all_eq_true.2 fun z hz => h.hour z hz, h.wear, h.layer, h.rate, h.limit, h.base⟩
 unfold zAh
 rw [if_pos hv, if_pos this]
theorem zOQ {c : Cov} (h : zAh c = 0) : valid c.t = true := by
 cases hv : valid c.t with
 | true => rfl
 | false => unfold zAh at h; rw [hv] at h; simp at h
def zA8 (c : Cov) (k : Nat) : Cov := { c with hours := c.hours.take k }
theorem zET {c : Cov} {k : Nat} (hk : k ≤ c.hours.length) : (zA8 c k).hours.length = k := by simp [zA8]; omega
theorem zF4 {c : Cov} {k : Nat} (h : Small c) : Small (zA8 c k) := ⟨h.fit, h.t, h.b, by have := h.h; simp [zA8]; omega⟩
theorem zKk {c : Cov} {k : Nat} (h : zCf c) (h1 : 1 ≤ k) (h2 : k ≤ c.hours.length) : zCf (zA8 c k) :=
 ⟨h.bed, fun u hu => h.hour u (List.mem_of_mem_take hu), h.wear, h.layer, h.rate, h.limit, h.base, h.beds, by
  have := h.hours
  rw [zAJ] at this ⊢
  rw [zET h2]; omega⟩
theorem zHn {c : Cov} {k : Nat} (h : zAh c = 0) (h1 : 1 ≤ k) (h2 : k ≤ c.hours.length) : zAh (zA8 c k) = 0 := errI_ofF (show valid (zA8 c k).t = true from zOQ (c := c) h) (zKk (zBg h) h1 h2)
theorem zNV {c : Cov} {h k : Nat} (hk : h < k) : (zA8 c k).hours.getD h default = c.hours.getD h default := by
 simp only [zA8, List.getD_eq_getElem?_getD, List.getElem?_take_of_lt hk]
theorem zDo {c : Cov} {z : Bed} {k : Nat} : ∀ h, h ≤ k → needG (zA8 c k) z h = needG c z h
 | 0, _ => rfl
 | h + 1, hk => by
  have ih := zDo (c := c) (z := z) (k := k) h (by omega)
  simp only [needG, ih, zNV (c := c) (show h < k by omega)]
  rfl
theorem zLJ {c : Cov} {k : Nat} (h : zAh c = 0) (h1 : 1 ≤ k) (h2 : k ≤ c.hours.length) : zJX (zA8 c k) = (c.beds.map fun z => (needG c z k).2, 0) := by
 unfold zJX
 rw [if_pos (zHn h h1 h2)]
 unfold zAP
 rw [zET h2, List.map_map]
 congr 1
 obtain ⟨m, rfl⟩ : ∃ m, k = m + 1 := ⟨k - 1, by omega⟩
 refine List.map_congr_left fun z _ => ?_
 simp only [Function.comp_apply, zLK, zDo _ (Nat.le_refl _)]
theorem zIX {nd : Nat → Int} {my sm : Nat → Bool} (k : Nat) : ∀ d, (lackF nd my sm k).1 ≤ (lackF nd my sm (k + d)).1
 | 0 => Int.le_refl _
 | d + 1 => by
  have := zIX (nd := nd) (my := my) (sm := sm) k d
  show _ ≤ (lackF nd my sm ((k + d) + 1)).1
  simp only [lackF]
  omega
theorem zIW {nd nd' : Nat → Int} {my my' sm sm' : Nat → Bool} : ∀ k, (∀ h, h < k → nd h = nd' h ∧ my h = my' h ∧ sm h = sm' h) → lackF nd my sm k = lackF nd' my' sm' k
 | 0, _ => rfl
 | k + 1, h => by
  have ih := zIW (nd := nd) (nd' := nd') (my := my) (my' := my') (sm := sm) (sm' := sm') k (fun i hi => h i (by omega))
  obtain ⟨h1, h2, h3⟩ := h k (by omega)
  simp only [lackF, ih, h1, h2, h3]
theorem zG0 {nd nd' : Nat → Int} {my my' sm sm' : Nat → Bool} {k : Nat} (h : ∀ h, h < k → nd h = nd' h ∧ my h = my' h ∧ sm h = sm' h) (hk : nd k = nd' k) : (lackF nd my sm (k + 1)).1 = (lackF nd' my' sm' (k + 1)).1 := by
 simp only [lackF, zIW k h, hk]
theorem zDK {c : Cov} {i : Nat} (hi : i < c.beds.length) (j : Nat) (hj : j < c.hours.length) : ((zAP c).getD i []).getD j 0 = (needG c (c.beds.getD i default) (j + 1)).2 := by
 unfold zAP
 rw [getD_map (List.getElem?_eq_getElem hi), zAv (List.getElem?_eq_getElem hi)]
 unfold zBD
 rw [getD_map (List.getElem?_range hj)]
theorem zKJ {c : Cov} {i : Nat} (hi : i < c.beds.length) (j : Nat) : ((zCa c).getD i []).getD j false = (c.hours.map (·.cold)).getD j false := by
 unfold zCa
 rw [List.getD_eq_getElem?_getD (l := List.replicate _ _), List.getElem?_replicate, if_pos hi]; rfl
theorem zM5 {c : Cov} {i : Nat} (hi : i < c.beds.length) : ((zAP c).getD i []).length = c.hours.length := zFt _ (by
 rw [Flow.zAf (by rw [zBc]; exact hi)]; exact List.getElem_mem _)
theorem zMn {c : Cov} {h m : Nat} (hh : h < c.hours.length) (hm : m < 2 ^ h) (hs : zCK c h m = true) : zF0 (zAP c) (zCa c) (zAA c) = false := by
 have hl : (zAA c).length = c.hours.length := by simp [zAA]
 refine List.all_eq_false.2 ⟨m, List.mem_range.2 ?_, ?_⟩
 ·rw [hl]; exact Nat.lt_of_lt_of_le hm (Nat.pow_le_pow_right (by omega) (by omega))
 ·unfold zCK at hs
  have hs := of_decide_eq_true hs
  simp only [Bool.not_eq_true, Bool.not_eq_false', decide_eq_true_eq]
  refine Int.lt_of_lt_of_le hs ?_
  unfold zC9 zGo
  have h1 : zBQ (zAA c) m (zAA c).length = zBQ (zAA c) m h := by
   rw [hl]
   have := zJj (hs := zAA c) hm (c.hours.length - h)
   rwa [show h + (c.hours.length - h) = c.hours.length by omega] at this
  rw [h1]
  refine Int.sub_le_sub_right (Flow.zBL fun i hi => ?_) _
  have hi2 : i < c.beds.length := by have := List.mem_range.1 hi; rwa [zBc] at this
  rw [zM5 hi2]
  have := zIX (nd := fun h => ((zAP c).getD i []).getD h 0) (my := fun h => ((zCa c).getD i []).getD h false) (sm := m.testBit) (h + 1) (c.hours.length - (h + 1))
  rw [show h + 1 + (c.hours.length - (h + 1)) = c.hours.length by omega] at this
  exact this
theorem zI6 {c : Cov} (hf : zCf c) (j : Nat) : 0 ≤ (zAA c).getD j 0 := by
 rw [List.getD_eq_getElem?_getD]
 cases hg : (zAA c)[j]? with
 | none => simp
 | some x =>
  obtain ⟨u, hu, rfl⟩ := List.mem_map.1 (List.mem_of_getElem? hg)
  have := zFX hf u hu
  simp only [Option.getD_some]
  unfold zCg; split <;> omega
theorem zJt {c : Cov} (hf : zCf c) (h0 : 0 < c.hours.length) (h : ∀ m, m < 2 ^ (c.hours.length - 1) → zCK c (c.hours.length - 1) m = false) : zF0 (zAP c) (zCa c) (zAA c) = true := by
 have hl : (zAA c).length = c.hours.length := by simp [zAA]
 obtain ⟨k, hk⟩ : ∃ k, c.hours.length = k + 1 := ⟨c.hours.length - 1, by omega⟩
 rw [hk, Nat.add_sub_cancel] at h
 refine List.all_eq_true.2 fun M hM => ?_
 have hm := h (M % 2 ^ k) (Nat.mod_lt _ (Nat.pow_pos (by omega)))
 unfold zCK at hm
 have hm := of_decide_eq_false hm
 have key : zGo (zAP c) (zCa c) (zAA c) M ≤ zC9 (zAP c) (zCa c) (zAA c) k (M % 2 ^ k) := by
  have hbit : ∀ j, j < k → (M % 2 ^ k).testBit j = M.testBit j := fun j hj => by rw [Nat.testBit_mod_two_pow]; simp [hj]
  unfold zC9 zGo
  rw [hl, hk]
  have e1 : Flow.sumL (List.range (zAP c).length) (fun i => zCP (zAP c) (zCa c) M i ((zAP c).getD i []).length) = Flow.sumL (List.range (zAP c).length) (fun i => zCP (zAP c) (zCa c) (M % 2 ^ k) i (k + 1)) := Flow.zAC fun i hi => by
   have hi2 : i < c.beds.length := by have := List.mem_range.1 hi; rwa [zBc] at this
   rw [zM5 hi2, hk]
   unfold zCP
   exact zG0 (fun h hh => ⟨rfl, rfl, (hbit h hh).symm⟩) rfl
  have e2 : zBQ (zAA c) M (k + 1) = zBQ (zAA c) M k + (if M.testBit k then (zAA c).getD k 0 else 0) := Flow.zAF _ k
  have e3 : zBQ (zAA c) M k = zBQ (zAA c) (M % 2 ^ k) k := by
   unfold zBQ
   exact zAC k fun j hj => by rw [hbit j hj]
  have e4 := zI6 hf k
  rw [e1, e2, e3]
  split <;> omega
 simp only [Bool.not_eq_true', decide_eq_false_iff_not]
 omega
theorem zNy {l : List (List Int)} (h : zGL l = none) : l = [] := by
 cases l with
 | nil => rfl
 | cons s r => cases h
theorem zH2 {c : Cov} {h k : Nat} (e : zGL (zCH c h k) = none) : ∀ m, m < k → zCK c h m = false := fun m hm => by
 cases hb : zCK c h m with
 | false => rfl
 | true =>
  have h1 := zNy e
  have : zDG m h ∈ zCH c h k := List.mem_map.2 ⟨m, List.mem_filter.2 ⟨List.mem_range.2 hm, hb⟩, rfl⟩
  rw [h1] at this; cases this
theorem zGD {c : Cov} : ∀ n h, (shortF c n h = (0, [], 6) ∧ ∀ j, h ≤ j → j < h + n → zGL (zCH c j (2 ^ j)) = none) ∨ ∃ j l, h ≤ j ∧ j < h + n ∧ shortF c n h = ((j : Int), l, 0) ∧ zGL (zCH c j (2 ^ j)) = some l ∧ ∀ i, h ≤ i → i < j → zGL (zCH c i (2 ^ i)) = none
 | 0, h => .inl ⟨rfl, fun j h1 h2 => by omega⟩
 | n + 1, h => by
  cases e : zGL (zCH c h (2 ^ h)) with
  | some l => exact .inr ⟨h, l, Nat.le_refl _, by omega, zHF e, e, fun i h1 h2 => by omega⟩
  | none =>
   rw [zHG e]
   rcases zGD (c := c) n (h + 1) with ⟨h1, h2⟩ | ⟨j, l, h1, h2, h3, h4, h5⟩
   ·refine .inl ⟨h1, fun j h3 h4 => ?_⟩
    by_cases e2 : j = h
    ·subst e2; exact e
    ·exact h2 j (by omega) (by omega)
   ·refine .inr ⟨j, l, by omega, by omega, h3, h4, fun i h6 h7 => ?_⟩
    by_cases e2 : i = h
    ·subst e2; exact e
    ·exact h5 i (by omega) h7
theorem zKB {c : Cov} {k m : Nat} (hk : k + 1 ≤ c.hours.length) : zCK (zA8 c (k + 1)) k m = zCK c k m := by
 have hl := zET hk
 have e1 : (zAP (zA8 c (k + 1))).length = (zAP c).length := by rw [zBc, zBc]; rfl
 unfold zCK zC9
 rw [e1]
 have e2 : Flow.sumL (List.range (zAP c).length) (fun i => zCP (zAP (zA8 c (k + 1))) (zCa (zA8 c (k + 1))) m i (k + 1)) = Flow.sumL (List.range (zAP c).length) (fun i => zCP (zAP c) (zCa c) m i (k + 1)) := Flow.zAC fun i hi => by
  have hi2 : i < c.beds.length := by have := List.mem_range.1 hi; rwa [zBc] at this
  unfold zCP
  refine zG0 (fun h hh => ⟨?_, ?_, rfl⟩) ?_
  ·rw [zDK (c := zA8 c (k + 1)) hi2 h (by omega), zDK hi2 h (by omega), zDo _ (by omega)]; rfl
  ·rw [zKJ (c := zA8 c (k + 1)) hi2, zKJ hi2]
   simp only [zA8, List.map_take, List.getD_eq_getElem?_getD, List.getElem?_take_of_lt (show h < k + 1 by omega)]
  ·rw [zDK (c := zA8 c (k + 1)) hi2 k (by omega), zDK hi2 k (by omega), zDo _ (by omega)]; rfl
 have e3 : zBQ (zAA (zA8 c (k + 1))) m k = zBQ (zAA c) m k := by
  unfold zBQ
  refine zAC k fun j hj => ?_
  have : (zAA (zA8 c (k + 1))).getD j 0 = (zAA c).getD j 0 := by
   simp only [zAA, zA8, List.map_take, List.getD_eq_getElem?_getD, List.getElem?_take_of_lt (show j < k + 1 by omega)]
  rw [this]
 rw [e2, e3]
theorem zJ9 {c : Cov} (h0 : zAh c = 0) (hh : 0 < c.hours.length) : (zC8 c = (0, [], 6) ∧ (zCz c).2 = 0) ∨ ∃ h m, h < c.hours.length ∧ m < 2 ^ h ∧ zC8 c = ((h : Int), zDG m h, 0) ∧ (zCz c).2 = 8 ∧ 0 < zC9 (zAP c) (zCa c) (zAA c) h m ∧ (0 < h → (zCz (zA8 c h)).2 = 0) := by
 have hf := zBg h0
 have e : zC8 c = shortF c c.hours.length 0 := by unfold zC8; rw [if_pos h0]
 rw [e]
 rcases zGD (c := c) c.hours.length 0 with ⟨h1, h2⟩ | ⟨h, l, _, h2, h3, h4, h5⟩
 ·refine .inl ⟨h1, ?_⟩
  rw [zGG h0 (zJt hf hh fun m hm => zH2 (h2 (c.hours.length - 1) (Nat.zero_le _) (by omega)) m hm)]
 ·obtain ⟨m, hm, e2⟩ := List.mem_map.1 (minX_mem h4)
  obtain ⟨hm1, hm2⟩ := List.mem_filter.1 hm
  have hm1 := List.mem_range.1 hm1
  have hlt : h < c.hours.length := by omega
  refine .inr ⟨h, m, hlt, hm1, by rw [h3, e2], by rw [zIK h0 (zMn hlt hm1 hm2)], of_decide_eq_true hm2, fun hp => ?_⟩
  have hl := zET (c := c) (k := h) (by omega)
  have hu := zHn h0 (k := h) (by omega) (by omega)
  rw [zGG hu (zJt (zBg hu) (by rw [hl]; exact hp) fun m' hm' => ?_)]
  rw [hl] at hm' ⊢
  obtain ⟨k, rfl⟩ : ∃ k, h = k + 1 := ⟨h - 1, by omega⟩
  rw [Nat.add_sub_cancel] at hm' ⊢
  rw [zKB (by omega)]
  exact zH2 (h5 k (Nat.zero_le _) (by omega)) m' hm'
end Go.Proofs.YtdigopgncfhiaaaGreatDoor
