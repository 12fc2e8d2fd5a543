/- maps.Collect(slices.All(l)): the map of a list by its numbers. -/
import Derived.Test.YtekjkaoibcfgfaaX7
import Derived.Test.YtekjkaoibcfgfaaRng
namespace Go.Proofs.Ytekjkaoibcfgfaa
open Go.RowKit
set_option maxRecDepth 20000
set_option linter.unusedSimpArgs false
set_option linter.unusedVariables false

theorem all_any (l : List Me) (B : Option Addr) (c : Nat) (w : World) : Ret Try.prog 93 [.slice B l.length c] w (fun g : Nat => .func (.func 100) #[] #[.pointer (some ⟨g, 0, none⟩)]) (fun g => [.blk g [.slice B l.length c]]) (fun _ => True) := by
  (refine ret_enter (n := 4) Try.func93 rfl rfl rfl ?_)
  (repeat' (first | ((with_reducible refine isOps ?_); first | refine u_move rfl rfl rfl rfl rfl ?_ | refine u_assign rfl rfl rfl rfl rfl ?_ | (refine x_load rfl rfl rfl rfl rfl ?_; refine ⟨_, rfl, ?_⟩) | refine u_field rfl rfl rfl rfl rfl ?_ | refine u_pick rfl rfl rfl rfl rfl rfl ?_ | refine u_not_wanted rfl rfl rfl ?_ | refine u_not_wanted0 rfl rfl ?_ | (refine u_cmp rfl rfl rfl rfl rfl rfl rfl (fun h => ?_) (fun h => ?_) <;> (dsimp only [cmpP] at h; (try (exfalso; omega)))) | refine u_extract rfl rfl rfl rfl rfl rfl ?_ | refine u_not rfl rfl rfl rfl rfl ?_ | refine u_add1 rfl rfl rfl rfl rfl rfl (by omega) ?_ | refine u_add rfl rfl rfl rfl rfl rfl (by first | exact IntWalk.i64_in _ (by omega) | exact IntWalk.u8_in _ (by omega) | exact IntWalk.u32_in _ (by omega)) ?_ | refine u_sub rfl rfl rfl rfl rfl rfl (by first | exact IntWalk.i64_in _ (by omega) | exact IntWalk.u8_in _ (by omega) | exact IntWalk.u32_in _ (by omega)) ?_ | refine u_mul rfl rfl rfl rfl rfl rfl (by first | exact IntWalk.i64_in _ (by omega) | exact IntWalk.u8_in _ (by omega) | exact IntWalk.u32_in _ (by omega)) ?_ | refine u_index rfl rfl rfl rfl rfl rfl rfl (by omega) ?_ | refine u_indexA rfl rfl rfl rfl rfl rfl rfl (by first | decide | omega) ?_ | refine u_len rfl rfl rfl rfl rfl ?_ | (refine x_store rfl rfl rfl rfl rfl ?_; refine And.intro rfl (And.intro (by first | decide | exact Nat.le_of_ble_eq_true rfl | (simp; omega)) ⟨_, rfl, ?_⟩)) | (refine u_alloc rfl rfl rfl rfl (fun b => ?_)) | (refine u_box rfl rfl rfl rfl rfl rfl (fun b => ?_)) | (refine x_build rfl rfl rfl rfl rfl ?_; refine ⟨_, rfl, ?_⟩) | (refine x_buildSlice rfl rfl rfl rfl rfl ?_; refine ⟨rfl, _, rfl, fun b => ?_⟩) | refine u_convert rfl rfl rfl rfl rfl (by first | exact IntWalk.i64_in _ (by omega) | exact IntWalk.u8_in _ (by omega) | exact IntWalk.u32_in _ (by omega)) ?_ | refine u_nilCheck rfl rfl rfl rfl rfl ?_ | refine u_neg rfl rfl rfl rfl rfl (by rw [Int.zero_sub]; exact IntWalk.i64_in _ (by omega)) ?_ | refine u_quo rfl rfl rfl rfl rfl rfl (by omega) (by omega) (by first | exact IntWalk.i64_in _ (by omega) | exact IntWalk.u8_in _ (by omega) | exact IntWalk.u32_in _ (by omega)) ?_ | refine u_rem rfl rfl rfl rfl rfl rfl (by omega) (by omega) ?_ | refine u_min rfl rfl rfl rfl rfl rfl ?_ | refine u_max rfl rfl rfl rfl rfl rfl ?_ | refine u_makeFunc rfl rfl rfl rfl rfl rfl ?_ | refine u_cap rfl rfl rfl rfl rfl ?_) | with_reducible refine u_seq ?_ | with_reducible refine u_region ?_ | with_reducible refine u_nil ?_ | with_reducible refine u_then_n ?_ | with_reducible refine u_block ?_ | with_reducible refine u_exit ?_ | with_reducible refine u_ret ?_ | with_reducible refine u_skip ?_ | with_reducible refine u_label ?_ | with_reducible refine u_then_r ?_ | with_reducible refine u_then_e ?_ | with_reducible refine u_in_n ?_ | with_reducible refine u_in_r ?_ | with_reducible refine u_in_same ?_ | with_reducible refine u_end ?_ | with_reducible refine u_endM ?_ | ((with_reducible refine u_in_other ?_ ?_); (· exact rfl)) | ((with_reducible refine u_cond_t ?_ ?_); (· exact rfl)) | ((with_reducible refine u_cond_f ?_ ?_); (· exact rfl))))
  exact u_done (by (first | exact ResL.nil | exact ResL.cons (by first | exact Res1.tmp rfl | exact res1c rfl (by exact rfl)) ResL.nil | exact ResL.cons (by first | exact Res1.tmp rfl | exact res1c rfl (by exact rfl)) (ResL.cons (by first | exact Res1.tmp rfl | exact res1c rfl (by exact rfl)) ResL.nil) | exact ResL.cons (by first | exact Res1.tmp rfl | exact res1c rfl (by exact rfl)) (ResL.cons (by first | exact Res1.tmp rfl | exact res1c rfl (by exact rfl)) (ResL.cons (by first | exact Res1.tmp rfl | exact res1c rfl (by exact rfl)) ResL.nil)) | exact ResL.cons (by first | exact Res1.tmp rfl | exact res1c rfl (by exact rfl)) (ResL.cons (by first | exact Res1.tmp rfl | exact res1c rfl (by exact rfl)) (ResL.cons (by first | exact Res1.tmp rfl | exact res1c rfl (by exact rfl)) (ResL.cons (by first | exact Res1.tmp rfl | exact res1c rfl (by exact rfl)) ResL.nil))))) b trivial rfl (fun _ h => h.sub (by (repeat (first | exact Out.nil _ | (refine Out.cons (by (first | exact Take.here _ _ | exact Take.there _ (Take.here _ _) | exact Take.there _ (Take.there _ (Take.here _ _)) | exact Take.there _ (Take.there _ (Take.there _ (Take.here _ _))) | exact Take.there _ (Take.there _ (Take.there _ (Take.there _ (Take.here _ _)))) | exact Take.there _ (Take.there _ (Take.there _ (Take.there _ (Take.there _ (Take.here _ _))))) | exact Take.there _ (Take.there _ (Take.there _ (Take.there _ (Take.there _ (Take.there _ (Take.here _ _)))))) | exact Take.there _ (Take.there _ (Take.there _ (Take.there _ (Take.there _ (Take.there _ (Take.there _ (Take.here _ _))))))) | exact Take.there _ (Take.there _ (Take.there _ (Take.there _ (Take.there _ (Take.there _ (Take.there _ (Take.there _ (Take.here _ _)))))))) | exact Take.there _ (Take.there _ (Take.there _ (Take.there _ (Take.there _ (Take.there _ (Take.there _ (Take.there _ (Take.there _ (Take.here _ _))))))))))) ?_)))))
open Go.RowKit
set_option maxRecDepth 20000
set_option linter.unusedSimpArgs false
set_option linter.unusedVariables false

attribute [local go_sem] Oper.semAt_some
set_option maxHeartbeats 2000000 in
theorem all1_iter (l : List Me) (B : Option Addr) (c bx : Nat) (hll : l.length ≤ 1000000) :
    Iter Try.prog 100 #[.pointer (some ⟨bx, 0, none⟩)] 0 l.length (fun k => #[.int .i64 (k : Int), vMe (l.getD k ⟨0, 0, 0, ⟨0, 0⟩⟩)])
      (fun W => Blk W bx #[.slice B l.length c] ∧ SlAt encMe 5 W B l) := by
  intro q J Jx W hJ hJx hD hY h0
  obtain ⟨d1, d2⟩ := hD 0 W h0
  obtain ⟨c1, f1, l1⟩ := d1.facts
  have HS := Lib.hid d2
  clear d2
  refine callsIn_of_wp Try.func100 rfl trivial ?_ rfl
  simp only [Try.ntmps100, List.size_toArray, List.length_cons, List.length_nil, Nat.reduceAdd, Nat.reduceSub, Array.replicate_succ, Array.replicate_zero, List.push_toArray, List.append_toArray, List.nil_append, List.cons_append]
  gi_wp2
  gi_loopw [7] (fun v wr => ∃ k : Nat, k ≤ l.length ∧ v = .int .i64 (k : Nat) ∧ J k wr ∧ W.heap.size ≤ wr.heap.size) (fun v _ => l.length - (intOf v).toNat)
  case atStart =>
    exact ⟨0, by omega, rfl, h0, by omega⟩
  case round =>
    obtain ⟨k, hk, rfl, hJk, hsz⟩ := hrel
    obtain ⟨x1, x2⟩ := hD k wr hJk
    obtain ⟨p1, q1, m1⟩ := x1.facts
    by_cases hlt : k < l.length
    · have hi0 : (0:Int) ≤ (k : Int) := by omega
      have hi1 : (k : Int) < l.length := by omega
      obtain ⟨b, o, rfl, hblt, hc⟩ := x2.at_ hlt
      have hg : l.getD k ⟨0, 0, 0, ⟨0, 0⟩⟩ = l[k] := by simp [List.getD_eq_getElem?_getD, hlt]
      generalize l[k] = m at hc hg
      have e0 := hc 0 _ rfl
      have e1 := hc 1 _ rfl
      have e2 := hc 2 _ rfl
      have e3 := hc 3 _ rfl
      have e4 := hc 4 _ rfl
      clear hc
      rw [Nat.add_zero] at e0
      have hJ2 := hJ k _ _ hJk (off_alloc W.heap.size (W.heap.size + 0) wr (.cells #[.int .u8 m.kind, .int .i64 m.frm, .int .i64 m.to, .int .i64 m.value.lo, .int .i64 m.value.hi] 73))
      have hy := hY k _ hlt hJ2 (by simp; omega)
      rw [hg] at hy
      unfold YieldAt vMe at hy
      obtain ⟨fn, tmps, assign, body, hy, hR⟩ := hy
      gi_wp2
      refine hR.mono ?_
      rintro e W3 (⟨rfl, hJ3, hon⟩ | ⟨rfl, hJx3, hon⟩)
      · have hsz3 := hon.size
        gi_wp2
        go_roundw
        case rel => exact ⟨k + 1, by omega, by go_num, hJ3, by simp at hsz3; omega⟩
        case measure => simp [intOf]; omega
      · gi_wp2
        (try simp only [Exit.inBlock, Exit.then]); refine bodyPost_ret (results_none rfl _ _ _) rfl ?_
        exact ⟨⟨_, rfl⟩, .inr ⟨k, by omega, hJx3⟩⟩
    · obtain rfl : k = l.length := by omega
      gi_wp2
      go_end0
      exact ⟨⟨_, rfl⟩, .inl hJk⟩

theorem ents_push {l : List Me} {k : Nat} (h : k < l.length) : (entsMe (KB.id k) (l.take k)).push ⟨.int .i64 (k : Int), vMe (l.getD k ⟨0, 0, 0, ⟨0, 0⟩⟩), k⟩ = entsMe (KB.id (k + 1)) (l.take (k + 1)) := by
  apply Array.ext'
  have hg : l.getD k ⟨0, 0, 0, ⟨0, 0⟩⟩ = l[k] := by simp [List.getD_eq_getElem?_getD, h]
  have e : (KB.id (k + 1)) = (KB.id (k + 1)) := rfl
  simp only [entsMe, entsL, Array.toList_push, hg]
  rw [← List.take_append_getElem h, List.mapIdx_append]
  have h9 : min k l.length = k := by omega
  simp [entMe, KB.id, h9]
  rfl
theorem mapUpdate_run {l : List Me} {m k : Nat} {W : World} (hk : k < l.length) (hm : W.heap[m]? = some (.map (entsMe (KB.id k) (l.take k)) k)) :
    (Instr.mapUpdate 123 (.map (some m)) (.int .i64 (k : Int)) (vMe (l.getD k ⟨0, 0, 0, ⟨0, 0⟩⟩))).run Try.prog W = .ok () (Go.ChangeMaps.setBlock W m (.map (entsMe (KB.id (k + 1)) (l.take (k + 1))) (k + 1))) := by
  have hkt : Try.prog.underlying 3 = some (.int .i64) := by rfl
  have i1 : Try.prog.underlying 123 = some (.map 3 73) := by rfl
  have e1 := run_underlying i1 W
  have e2 := run_checkKey_int (P := Try.prog) (w := W) (e := false) (N := 9999) (i := (k : Int)) hkt
  have hn : ∀ e ∈ (entsMe (KB.id k) (l.take k)).toList, ∃ j, e.key = .int .i64 j ∧ j ≠ (k : Int) := fun e he => by
    obtain ⟨i, me, hi, rfl⟩ := ents_mem.1 he
    have := (List.getElem?_eq_some_iff.1 hi).1
    simp only [List.length_take] at this
    exact ⟨(i : Int), rfl, by omega⟩
  have e3 : (Instr.findKey 3 (.int .i64 (k : Int)) (entsMe (KB.id k) (l.take k)).toList).run Try.prog W = .ok none W := by
    have := run_underlying hkt W
    simp [Instr.findKey, Sem.run_bind, this, findNow_none _ 0 hn]
  rw [← ents_push hk]
  simp [Instr.mapUpdate, Sem.run_bind, e1, getObj, Sem.run, hm, e2, e3, setObj, Go.ChangeMaps.setBlock]

/-- beside block m all is as it was -/
structure Sd (m : Nat) (w W : World) : Prop where
  os : W.os = w.os
  tape : W.tape = w.tape
  output : W.output = w.output
  size : w.heap.size ≤ W.heap.size
  block : ∀ b, b < w.heap.size → b ≠ m → W.heap[b]? = w.heap[b]?

set_option maxHeartbeats 2000000 in
theorem insert_any (l : List Me) (B : Option Addr) (c bx m : Nat) (w : World) (hll : l.length ≤ 1000000) (hm : w.heap[m]? = some (.map #[] 0)) (hbx : Blk w bx #[.slice B l.length c]) (hs : SlAt encMe 5 w B l) (h1 : bx ≠ m) (h2 : ∀ b o, B = some ⟨b, o, none⟩ → b ≠ m) :
    Calls Try.prog 99 #[.map (some m), .func (.func 100) #[] #[.pointer (some ⟨bx, 0, none⟩)]] w fun e w' => e = .returned (.tuple #[]) ∧ Sd m w w' ∧ w'.heap[m]? = some (.map (entsMe (KB.id l.length) l) l.length) := by
  have HS := Lib.hid hs
  clear hs
  have hml : m < w.heap.size := (Array.getElem?_eq_some_iff.1 hm).1
  refine (callsIn_wide (n := 10)).1 ?_
  refine callsIn_of_wp_marks Try.func99 rfl trivial ?_ rfl
  refine wpIn_wide.2 ?_
  simp only [Try.ntmps99, List.size_toArray, List.length_cons, List.length_nil, Nat.reduceAdd, Nat.reduceSub, Array.replicate_succ, Array.replicate_zero, List.push_toArray, List.append_toArray, List.nil_append, List.cons_append]
  go_wp2
  generalize hW : w.alloc (.cells #[.map (some m)] 123) = W
  have z1 : Blk W w.heap.size #[.map (some m)] := by rw [← hW]; (refine blkE ?_; repeat (first | (with_reducible refine BlkE.new_ (by first | (simp; done) | (simp; omega) | omega) ?_; (first | rfl | (simp; done))) | (with_reducible refine BlkE.alloc ?_ _) | (with_reducible refine BlkE.far ?_ _ (by first | (simp; done) | (simp; omega) | omega)) | (with_reducible refine BlkE.set_ ?_ (by first | (simp; done) | (simp; omega) | omega)) | (with_reducible refine BlkE.drew ?_) | (with_reducible refine BlkE.drewN ?_ _) | (refine BlkE.leaf (by assumption) ?_; (first | rfl | (simp; done)))))
  have hSd : Sd m w W := by rw [← hW]; exact ⟨rfl, rfl, rfl, by simp, fun b hb _ => Below.heap_alloc _ _ _ hb⟩
  have hm1 : W.heap[m]? = some (.map #[] 0) := by rw [← hW]; exact (Below.heap_alloc _ _ _ hml).trans hm
  have hs1 : W.heap.size = w.heap.size + 1 := by rw [← hW]; simp
  refine (wpIn_wide (n := 10)).1 ?_
  refine range_law (gf := 100) (lb := #[.pointer (some ⟨bx, 0, none⟩)]) rfl (enters Try.func100 rfl rfl) (all1_iter l B c bx hll) (fun _ => rfl)
      (fun k W' => Blk W' w.heap.size #[.map (some m)] ∧ Sd m w W' ∧ W'.heap[m]? = some (.map (entsMe (KB.id k) (l.take k)) k))
      (fun _ _ _ => False) ?_ ?_ ?_ ?_ ?_ ?_ ?_
  · rintro k W1 W2 ⟨a1, a2, a3⟩ ho
    have h5 := a2.size
    exact ⟨a1.off ho (by omega), ⟨ho.os.trans a2.os, ho.tape.trans a2.tape, ho.output.trans a2.output, by have := ho.size; omega, fun b hb hn => (ho.block b (by omega) (by omega)).trans (a2.block b hb hn)⟩, (ho.block m (by omega) (by omega)).trans a3⟩
  · exact fun _ _ _ _ h _ => h
  · rintro k W' ⟨a1, a2, a3⟩
    refine ⟨?_, fun i x hx => ?_⟩
    · have hl := hbx.lt
      unfold Blk at hbx ⊢
      obtain ⟨t, ht⟩ := hbx
      exact ⟨t, (a2.block bx hl h1).trans ht⟩
    · obtain ⟨b, o, hb, hlt, hc⟩ := HS.out i x hx
      have e := a2.block b hlt (h2 b o hb)
      refine ⟨b, o, hb, by have := a2.size; omega, fun j v hv => ?_⟩
      have := hc j v hv
      simpa [World.cell?, e] using this
  · exact ⟨z1, hSd, hm1⟩
  · intro q k W' hk ⟨a1, a2, a3⟩ hsz K hK
    clear hW z1 hSd hm1
    have hrun := fun (W : World) (h : W.heap[m]? = some (Obj.map (entsMe (KB.id k) (l.take k)) k)) => mapUpdate_run hk h
    generalize l.getD k ⟨0, 0, 0, ⟨0, 0⟩⟩ = me at *
    unfold vMe at *
    gi_wp2
    refine hK _ _ (on_alloc _ _ (by omega)) (fun W2 ho2 => ?_)
    have hsz2 := ho2.size
    have hsz' : W'.heap.size + 1 ≤ W2.heap.size := by simpa using hsz2
    have y0 : Blk W2 w.heap.size #[.map (some m)] := Blk.off (by (refine blkE ?_; repeat (first | (with_reducible refine BlkE.new_ (by first | (simp; done) | (simp; omega) | omega) ?_; (first | rfl | (simp; done))) | (with_reducible refine BlkE.alloc ?_ _) | (with_reducible refine BlkE.far ?_ _ (by first | (simp; done) | (simp; omega) | omega)) | (with_reducible refine BlkE.set_ ?_ (by first | (simp; done) | (simp; omega) | omega)) | (with_reducible refine BlkE.drew ?_) | (with_reducible refine BlkE.drewN ?_ _) | (refine BlkE.leaf (by assumption) ?_; (first | rfl | (simp; done)))))) ho2 (by omega)
    have yM : Blk W2 W'.heap.size #[.int .u8 me.kind, .int .i64 me.frm, .int .i64 me.to, .int .i64 me.value.lo, .int .i64 me.value.hi] := Blk.off' (by (refine blkE ?_; repeat (first | (with_reducible refine BlkE.new_ (by first | (simp; done) | (simp; omega) | omega) ?_; (first | rfl | (simp; done))) | (with_reducible refine BlkE.alloc ?_ _) | (with_reducible refine BlkE.far ?_ _ (by first | (simp; done) | (simp; omega) | omega)) | (with_reducible refine BlkE.set_ ?_ (by first | (simp; done) | (simp; omega) | omega)) | (with_reducible refine BlkE.drew ?_) | (with_reducible refine BlkE.drewN ?_ _) | (refine BlkE.leaf (by assumption) ?_; (first | rfl | (simp; done)))))) ho2 (by omega)
    have y3 : W2.heap[m]? = some (.map (entsMe (KB.id k) (l.take k)) k) := (ho2.block m (by simp; omega) (by omega)).trans ((Below.heap_alloc _ _ _ (by omega)).trans a3)
    have y2 : Sd m w W2 := by
      have := a2.size
      exact ⟨ho2.os.trans a2.os, ho2.tape.trans a2.tape, ho2.output.trans a2.output, by omega, fun b hb hn => (ho2.block b (by simp; omega) (by omega)).trans ((Below.heap_alloc _ _ _ (by omega)).trans (a2.block b hb hn))⟩
    clear ho2 hsz2 a1 a2 a3 hK
    have hr := hrun W2 y3
    obtain ⟨c0, f0, l0⟩ := y0.facts
    obtain ⟨cM, fM, lM⟩ := yM.facts
    gi_wp2
    refine ⟨⟨rfl, rfl, rfl, by simp [Go.ChangeMaps.setBlock], fun b h3 h4 => ?_⟩, ?_, ⟨y2.os, y2.tape, y2.output, by simpa [Go.ChangeMaps.setBlock] using y2.size, fun b hb hn => ?_⟩, ?_⟩
    · simp only [Go.ChangeMaps.setBlock]; rw [Array.getElem?_setIfInBounds_ne (by omega)]
    · unfold Blk at y0 ⊢
      obtain ⟨t, ht⟩ := y0
      exact ⟨t, by simp only [Go.ChangeMaps.setBlock]; rw [Array.getElem?_setIfInBounds_ne (by omega)]; exact ht⟩
    · simp only [Go.ChangeMaps.setBlock]; rw [Array.getElem?_setIfInBounds_ne (fun e => hn e.symm)]; exact y2.block b hb hn
    · have : m < W2.heap.size := by omega
      simp [Go.ChangeMaps.setBlock, this]
  · rintro W' ⟨a1, a2, a3⟩ hD hsz
    rw [List.take_length] at a3
    have hws : W.heap.size < W'.heap.size := (Array.getElem?_eq_some_iff.1 hD).1
    have ho := off_putObj W' (.deferred none) (lo := W.heap.size) (hi := W.heap.size + 1) (Nat.le_refl _) (by omega)
    exact leaves_range hD (results_none rfl _ _ _) ⟨rfl, ⟨ho.os.trans a2.os, ho.tape.trans a2.tape, ho.output.trans a2.output, by have := ho.size; have := a2.size; omega, fun b hb hn => (ho.block b (by omega) (by omega)).trans (a2.block b hb hn)⟩, (ho.block m (by omega) (by omega)).trans a3⟩
  · exact fun _ _ _ _ h => h.elim
end Go.Proofs.Ytekjkaoibcfgfaa
