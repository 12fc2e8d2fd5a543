/- maps.Collect(slices.All(l)): the map of a list by its numbers. -/
import Derived.Test.YtekjkaoibcfgfaaX7
import Derived.Test.YtekjkaoibcfgfaaLaw
import Derived.Test.YtekjkaoibcfgfaaV4
namespace Go.Proofs.Ytekjkaoibcfgfaa
open Go.RowKit
set_option maxRecDepth 20000
set_option linter.unusedSimpArgs false
set_option linter.unusedVariables false

theorem all_any (l : List Me) (B : Option Addr) (c : Nat) (w : World) : Ret Try.prog 93 [.slice B l.length c] w (fun g : Nat => .func (.func 100) #[] #[.pointer (some ⟨g, 0, none⟩)]) (fun g => [.blk g [.slice B l.length c]]) (fun _ => True) := by
  (refine ret_enter (n := 4) Try.func93 rfl rfl rfl ?_)
  (repeat' (first | ((with_reducible refine isOps ?_); first | refine u_assign rfl rfl rfl rfl rfl ?_ | (refine u_box rfl rfl rfl rfl rfl rfl (fun b => ?_)) | refine u_makeFunc rfl rfl rfl rfl rfl rfl ?_) | (with_reducible first | refine u_seq ?_ | refine u_region ?_ | refine u_nil ?_ | refine u_then_n ?_ | refine u_ret ?_)))
  exact u_done (by (exact ResL.cons (by exact Res1.tmp rfl) ResL.nil)) b trivial rfl (fun _ h => h.sub (by (repeat (first | exact Out.nil _ | (refine Out.cons (by (repeat (first | exact Take.here _ _ | apply Take.there))) ?_)))))
open Go.RowKit
set_option maxRecDepth 20000
set_option linter.unusedSimpArgs false
set_option linter.unusedVariables false

attribute [local go_sem] Oper.semAt_some
set_option maxHeartbeats 2000000 in
theorem all1_iter (l : List Me) (B : Option Addr) (c bx : Nat) (hll : l.length ≤ 1000000) :
    Iter Try.prog 100 #[.pointer (some ⟨bx, 0, none⟩)] 0 l.length (fun k => #[.int .i64 (k : Int), vMe (l.getD k ⟨0, 0, 0, ⟨0, 0⟩⟩)])
      (fun W => Blk W bx #[.slice B l.length c] ∧ SlAt encMe 5 W B l) := by
  intro q J Jx W hJ hJx hD hY h0
  obtain ⟨d1, d2⟩ := hD 0 W h0
  obtain ⟨c1, f1, l1⟩ := d1.facts
  have HS := Lib.hid d2
  clear d2
  refine callsIn_of_wp Try.func100 rfl trivial ?_ rfl
  simp only [Try.ntmps100, List.size_toArray, List.length_cons, List.length_nil, Nat.reduceAdd, Nat.reduceSub, Array.replicate_succ, Array.replicate_zero, List.push_toArray, List.append_toArray, List.nil_append, List.cons_append]
  gi_wp2
  gi_loopw [7] (fun v wr => ∃ k : Nat, k ≤ l.length ∧ v = .int .i64 (k : Nat) ∧ J k wr ∧ W.heap.size ≤ wr.heap.size) (fun v _ => l.length - (intOf v).toNat)
  case atStart =>
    exact ⟨0, by omega, rfl, h0, by omega⟩
  case round =>
    obtain ⟨k, hk, rfl, hJk, hsz⟩ := hrel
    obtain ⟨x1, x2⟩ := hD k wr hJk
    obtain ⟨p1, q1, m1⟩ := x1.facts
    by_cases hlt : k < l.length
    · have hi0 : (0:Int) ≤ (k : Int) := by omega
      have hi1 : (k : Int) < l.length := by omega
      obtain ⟨b, o, rfl, hblt, hc⟩ := x2.at_ hlt
      have hg : l.getD k ⟨0, 0, 0, ⟨0, 0⟩⟩ = l[k] := by simp [List.getD_eq_getElem?_getD, hlt]
      generalize l[k] = m at hc hg
      have e0 := hc 0 _ rfl
      have e1 := hc 1 _ rfl
      have e2 := hc 2 _ rfl
      have e3 := hc 3 _ rfl
      have e4 := hc 4 _ rfl
      clear hc
      rw [Nat.add_zero] at e0
      have hJ2 := hJ k _ _ hJk (off_alloc W.heap.size (W.heap.size + 0) wr (.cells #[.int .u8 m.kind, .int .i64 m.frm, .int .i64 m.to, .int .i64 m.value.lo, .int .i64 m.value.hi] 73))
      have hy := hY k _ hlt hJ2 (by simp; omega)
      rw [hg] at hy
      unfold YieldAt vMe at hy
      obtain ⟨fn, tmps, assign, body, hy, hR⟩ := hy
      gi_wp2
      refine hR.mono ?_
      rintro e W3 (⟨rfl, hJ3, hon⟩ | ⟨rfl, hJx3, hon⟩)
      · have hsz3 := hon.size
        gi_wp2
        go_roundw
        case rel => exact ⟨k + 1, by omega, by go_num, hJ3, by simp at hsz3; omega⟩
        case measure => simp [intOf]; omega
      · gi_wp2
        (try simp only [Exit.inBlock, Exit.then]); refine bodyPost_ret (results_none rfl _ _ _) rfl ?_
        exact ⟨⟨_, rfl⟩, .inr ⟨k, by omega, hJx3⟩⟩
    · obtain rfl : k = l.length := by omega
      gi_wp2
      go_end0
      exact ⟨⟨_, rfl⟩, .inl hJk⟩

theorem ents_push {l : List Me} {k : Nat} (h : k < l.length) : (entsMe (KB.id k) (l.take k)).push ⟨.int .i64 (k : Int), vMe (l.getD k ⟨0, 0, 0, ⟨0, 0⟩⟩), k⟩ = entsMe (KB.id (k + 1)) (l.take (k + 1)) := by
  apply Array.ext'
  have hg : l.getD k ⟨0, 0, 0, ⟨0, 0⟩⟩ = l[k] := by simp [List.getD_eq_getElem?_getD, h]
  have e : (KB.id (k + 1)) = (KB.id (k + 1)) := rfl
  simp only [entsMe, entsL, Array.toList_push, hg]
  rw [← List.take_append_getElem h, List.mapIdx_append]
  have h9 : min k l.length = k := by omega
  simp [entMe, KB.id, h9]
  rfl
theorem mapUpdate_run {l : List Me} {m k : Nat} {W : World} (hk : k < l.length) (hm : W.heap[m]? = some (.map (entsMe (KB.id k) (l.take k)) k)) :
    (Instr.mapUpdate 123 (.map (some m)) (.int .i64 (k : Int)) (vMe (l.getD k ⟨0, 0, 0, ⟨0, 0⟩⟩))).run Try.prog W = .ok () (Go.ChangeMaps.setBlock W m (.map (entsMe (KB.id (k + 1)) (l.take (k + 1))) (k + 1))) := by
  have hkt : Try.prog.underlying 3 = some (.int .i64) := by rfl
  have i1 : Try.prog.underlying 123 = some (.map 3 73) := by rfl
  have e1 := run_underlying i1 W
  have e2 := run_checkKey_int (P := Try.prog) (w := W) (e := false) (N := 9999) (i := (k : Int)) hkt
  have hn : ∀ e ∈ (entsMe (KB.id k) (l.take k)).toList, ∃ j, e.key = .int .i64 j ∧ j ≠ (k : Int) := fun e he => by
    obtain ⟨i, me, hi, rfl⟩ := ents_mem.1 he
    have := (List.getElem?_eq_some_iff.1 hi).1
    simp only [List.length_take] at this
    exact ⟨(i : Int), rfl, by omega⟩
  have e3 : (Instr.findKey 3 (.int .i64 (k : Int)) (entsMe (KB.id k) (l.take k)).toList).run Try.prog W = .ok none W := by
    have := run_underlying hkt W
    simp [Instr.findKey, Sem.run_bind, this, findNow_none _ 0 hn]
  rw [← ents_push hk]
  simp [Instr.mapUpdate, Sem.run_bind, e1, getObj, Sem.run, hm, e2, e3, setObj, Go.ChangeMaps.setBlock]

/-- beside block m all is as it was -/
structure Sd (m : Nat) (w W : World) : Prop where
  os : W.os = w.os
  tape : W.tape = w.tape
  output : W.output = w.output
  size : w.heap.size ≤ W.heap.size
  block : ∀ b, b < w.heap.size → b ≠ m → W.heap[b]? = w.heap[b]?

set_option maxHeartbeats 2000000 in
theorem insert_any (l : List Me) (B : Option Addr) (c bx m : Nat) (w : World) (hll : l.length ≤ 1000000) (hm : w.heap[m]? = some (.map #[] 0)) (hbx : Blk w bx #[.slice B l.length c]) (hs : SlAt encMe 5 w B l) (h1 : bx ≠ m) (h2 : ∀ b o, B = some ⟨b, o, none⟩ → b ≠ m) :
    Calls Try.prog 99 #[.map (some m), .func (.func 100) #[] #[.pointer (some ⟨bx, 0, none⟩)]] w fun e w' => e = .returned (.tuple #[]) ∧ Sd m w w' ∧ w'.heap[m]? = some (.map (entsMe (KB.id l.length) l) l.length) := by
  have HS := Lib.hid hs
  clear hs
  have hml : m < w.heap.size := (Array.getElem?_eq_some_iff.1 hm).1
  refine (callsIn_wide (n := 10)).1 ?_
  refine callsIn_of_wp_marks Try.func99 rfl trivial ?_ rfl
  refine wpIn_wide.2 ?_
  simp only [Try.ntmps99, List.size_toArray, List.length_cons, List.length_nil, Nat.reduceAdd, Nat.reduceSub, Array.replicate_succ, Array.replicate_zero, List.push_toArray, List.append_toArray, List.nil_append, List.cons_append]
  go_wp2
  generalize hW : w.alloc (.cells #[.map (some m)] 123) = W
  have z1 : Blk W w.heap.size #[.map (some m)] := by rw [← hW]; (refine blkE ?_; repeat (first | (with_reducible refine BlkE.new_ (by first | (simp; done) | (simp; omega) | omega) ?_; (first | rfl | (simp; done))) | (with_reducible refine BlkE.alloc ?_ _) | (with_reducible refine BlkE.far ?_ _ (by first | (simp; done) | (simp; omega) | omega)) | (with_reducible refine BlkE.set_ ?_ (by first | (simp; done) | (simp; omega) | omega)) | (with_reducible refine BlkE.drew ?_) | (with_reducible refine BlkE.drewN ?_ _) | (refine BlkE.leaf (by assumption) ?_; (first | rfl | (simp; done)))))
  have hSd : Sd m w W := by rw [← hW]; exact ⟨rfl, rfl, rfl, by simp, fun b hb _ => Below.heap_alloc _ _ _ hb⟩
  have hm1 : W.heap[m]? = some (.map #[] 0) := by rw [← hW]; exact (Below.heap_alloc _ _ _ hml).trans hm
  have hs1 : W.heap.size = w.heap.size + 1 := by rw [← hW]; simp
  refine (wpIn_wide (n := 10)).1 ?_
  refine range_law (gf := 100) (lb := #[.pointer (some ⟨bx, 0, none⟩)]) rfl (enters Try.func100 rfl rfl) (all1_iter l B c bx hll) (fun _ => rfl)
      (fun k W' => Blk W' w.heap.size #[.map (some m)] ∧ Sd m w W' ∧ W'.heap[m]? = some (.map (entsMe (KB.id k) (l.take k)) k))
      (fun _ _ _ => False) ?_ ?_ ?_ ?_ ?_ ?_ ?_
  · rintro k W1 W2 ⟨a1, a2, a3⟩ ho
    have h5 := a2.size
    exact ⟨a1.off ho (by omega), ⟨ho.os.trans a2.os, ho.tape.trans a2.tape, ho.output.trans a2.output, by have := ho.size; omega, fun b hb hn => (ho.block b (by omega) (by omega)).trans (a2.block b hb hn)⟩, (ho.block m (by omega) (by omega)).trans a3⟩
  · exact fun _ _ _ _ h _ => h
  · rintro k W' ⟨a1, a2, a3⟩
    refine ⟨?_, fun i x hx => ?_⟩
    · have hl := hbx.lt
      unfold Blk at hbx ⊢
      obtain ⟨t, ht⟩ := hbx
      exact ⟨t, (a2.block bx hl h1).trans ht⟩
    · obtain ⟨b, o, hb, hlt, hc⟩ := HS.out i x hx
      have e := a2.block b hlt (h2 b o hb)
      refine ⟨b, o, hb, by have := a2.size; omega, fun j v hv => ?_⟩
      have := hc j v hv
      simpa [World.cell?, e] using this
  · exact ⟨z1, hSd, hm1⟩
  · intro q k W' hk ⟨a1, a2, a3⟩ hsz K hK
    clear hW z1 hSd hm1
    have hrun := fun (W : World) (h : W.heap[m]? = some (Obj.map (entsMe (KB.id k) (l.take k)) k)) => mapUpdate_run hk h
    generalize l.getD k ⟨0, 0, 0, ⟨0, 0⟩⟩ = me at *
    unfold vMe at *
    gi_wp2
    refine hK _ _ (on_alloc _ _ (by omega)) (fun W2 ho2 => ?_)
    have hsz2 := ho2.size
    have hsz' : W'.heap.size + 1 ≤ W2.heap.size := by simpa using hsz2
    have y0 : Blk W2 w.heap.size #[.map (some m)] := Blk.off (by (refine blkE ?_; repeat (first | (with_reducible refine BlkE.new_ (by first | (simp; done) | (simp; omega) | omega) ?_; (first | rfl | (simp; done))) | (with_reducible refine BlkE.alloc ?_ _) | (with_reducible refine BlkE.far ?_ _ (by first | (simp; done) | (simp; omega) | omega)) | (with_reducible refine BlkE.set_ ?_ (by first | (simp; done) | (simp; omega) | omega)) | (with_reducible refine BlkE.drew ?_) | (with_reducible refine BlkE.drewN ?_ _) | (refine BlkE.leaf (by assumption) ?_; (first | rfl | (simp; done)))))) ho2 (by omega)
    have yM : Blk W2 W'.heap.size #[.int .u8 me.kind, .int .i64 me.frm, .int .i64 me.to, .int .i64 me.value.lo, .int .i64 me.value.hi] := Blk.off' (by (refine blkE ?_; repeat (first | (with_reducible refine BlkE.new_ (by first | (simp; done) | (simp; omega) | omega) ?_; (first | rfl | (simp; done))) | (with_reducible refine BlkE.alloc ?_ _) | (with_reducible refine BlkE.far ?_ _ (by first | (simp; done) | (simp; omega) | omega)) | (with_reducible refine BlkE.set_ ?_ (by first | (simp; done) | (simp; omega) | omega)) | (with_reducible refine BlkE.drew ?_) | (with_reducible refine BlkE.drewN ?_ _) | (refine BlkE.leaf (by assumption) ?_; (first | rfl | (simp; done)))))) ho2 (by omega)
    have y3 : W2.heap[m]? = some (.map (entsMe (KB.id k) (l.take k)) k) := (ho2.block m (by simp; omega) (by omega)).trans ((Below.heap_alloc _ _ _ (by omega)).trans a3)
    have y2 : Sd m w W2 := by
      have := a2.size
      exact ⟨ho2.os.trans a2.os, ho2.tape.trans a2.tape, ho2.output.trans a2.output, by omega, fun b hb hn => (ho2.block b (by simp; omega) (by omega)).trans ((Below.heap_alloc _ _ _ (by omega)).trans (a2.block b hb hn))⟩
    clear ho2 hsz2 a1 a2 a3 hK
    have hr := hrun W2 y3
    obtain ⟨c0, f0, l0⟩ := y0.facts
    obtain ⟨cM, fM, lM⟩ := yM.facts
    gi_wp2
    refine ⟨⟨rfl, rfl, rfl, by simp [Go.ChangeMaps.setBlock], fun b h3 h4 => ?_⟩, ?_, ⟨y2.os, y2.tape, y2.output, by simpa [Go.ChangeMaps.setBlock] using y2.size, fun b hb hn => ?_⟩, ?_⟩
    · simp only [Go.ChangeMaps.setBlock]; rw [Array.getElem?_setIfInBounds_ne (by omega)]
    · unfold Blk at y0 ⊢
      obtain ⟨t, ht⟩ := y0
      exact ⟨t, by simp only [Go.ChangeMaps.setBlock]; rw [Array.getElem?_setIfInBounds_ne (by omega)]; exact ht⟩
    · simp only [Go.ChangeMaps.setBlock]; rw [Array.getElem?_setIfInBounds_ne (fun e => hn e.symm)]; exact y2.block b hb hn
    · have : m < W2.heap.size := by omega
      simp [Go.ChangeMaps.setBlock, this]
  · rintro W' ⟨a1, a2, a3⟩ hD hsz
    rw [List.take_length] at a3
    have hws : W.heap.size < W'.heap.size := (Array.getElem?_eq_some_iff.1 hD).1
    have ho := off_putObj W' (.deferred none) (lo := W.heap.size) (hi := W.heap.size + 1) (Nat.le_refl _) (by omega)
    exact leaves_range hD (results_none rfl _ _ _) ⟨rfl, ⟨ho.os.trans a2.os, ho.tape.trans a2.tape, ho.output.trans a2.output, by have := ho.size; have := a2.size; omega, fun b hb hn => (ho.block b (by omega) (by omega)).trans (a2.block b hb hn)⟩, (ho.block m (by omega) (by omega)).trans a3⟩
  · exact fun _ _ _ _ h => h.elim
end Go.Proofs.Ytekjkaoibcfgfaa
/- measured: which errors, and the map of measures. -/
namespace Go.Proofs.Ytekjkaoibcfgfaa
open Go.RowKit
set_option maxRecDepth 20000
set_option linter.unusedSimpArgs false
set_option linter.unusedVariables false

theorem picks_pos {α : Type} {p : Nat → α → Bool} {l : List α} {i : Nat} {x : α} (h : l[i]? = some x) (hp : p i x = true) : 0 < (picks p l).length := by
  unfold picks picksTo
  rw [List.length_map, List.length_pos_iff_exists_mem]
  exact ⟨i, List.mem_filter.2 ⟨List.mem_range.2 (List.getElem?_eq_some_iff.1 h).1, by simp [soAt, h, hp]⟩⟩
theorem picks_none {α : Type} {p : Nat → α → Bool} {l : List α} (h : ∀ i x, l[i]? = some x → p i x = false) : picks p l = [] := by
  unfold picks picksTo
  rw [List.map_eq_nil_iff, List.filter_eq_nil_iff]
  intro i hi
  cases hx : l[i]? with
  | none => simp [soAt, hx]
  | some x => simp [soAt, hx, h i x hx]
section
variable {S : Pend} {P : Program} {w0 : World} {n : Nat} {d : List Deferred} {R0 : List (Nat × Value)} {H0 : List Ent} {Q : Exit → Act → World → Prop} {ops : Array Oper} {bs : List (List Bool)} {b : List Bool} {k : Nat} {o : Oper} {rest : List Oper} {T : List Rw} {t : Tmp} {Hk : Wits → List Ent}
/-- a call that returns memory of its own -/
theorem c_ret {V : Nat → Value} {C : Nat → List Ent} {p : Nat → Prop} {f : FuncId} {fx : Operand} {xs : Array Operand} {ts : Array TypeId} {vs : Wits → List Value} {cap : Array Value} (hop : o.op = .call ⟨.value fx, xs, ts⟩) (hw : ∀ G, want (Rk R0 ops b o T G) ops o = some true) (hd : o.dst = some t) (hf : ∀ G, evR (Rk R0 ops b o T G) fx = some (.func (.func f) #[] cap)) (hx : ∀ G, evs (Rk R0 ops b o T G) xs.toList = some (vs G)) [ci : CallI P f]
    (hc : ∀ G a w, Kn w0 n d (Rk R0 ops b o T G) (Hk G) a w → Ret P f (vs G ++ cap.toList) w V C p) (h : Chain S P w0 n d ops R0 H0 Q bs (k + 1) rest (⟨k, some t, fun G => (V (G k).g, C (G k).g)⟩ :: T)) : CAt S P w0 n d ops R0 H0 Q b bs k o rest T Hk := by
  refine c_row (f := fun G => (V (G k).g, C (G k).g)) (fun G G' hG => by simp only [hG k (.inl rfl)]) (fun G a w q K hK => ?_) (by rw [hd]; exact h)
  rw [want_ok q (hw G), if_pos rfl]
  unfold Oper.wp execOp; rw [hop]
  have e1 : xs.map a.eval = (vs G).toArray := by apply Array.ext'; simpa using q.evs (hx G)
  have e2 : (vs G).toArray ++ cap = (vs G ++ cap.toList).toArray := by apply Array.ext'; simp
  simp only [resolve, q.ev (hf G), e1, Deferred.ofValue, Sem.run_bind, Sem.run_pure, Result.andThen_ok, invoke, Array.empty_append, e2, ci.ent, Oper.upon_enter]
  refine Calls.mono (hc G a w q).calls ?_
  rintro e w' ⟨g, hp, rfl, hb, hE⟩
  exact hK _ _ _ ⟨⟨g, none, 0⟩, by simp [upW]⟩ hb hE
end

theorem insert_F (l : List Me) (B : Option Addr) (c bx m : Nat) (w : World) (hll : l.length ≤ 1000000) (hm : w.heap[m]? = some (.map #[] 0)) (hbx : Blk w bx #[.slice B l.length c]) (hs : SlAt encMe 5 w B l) (h1 : bx ≠ m) (h2 : ∀ b o, B = some ⟨b, o, none⟩ → b ≠ m) :
    RetF Try.prog 99 [.map (some m), .func (.func 100) #[] #[.pointer (some ⟨bx, 0, none⟩)]] w [.map m #[] 0] (fun _ : Unit => .tuple #[]) (fun _ => [.map m (entsMe (KB.id l.length) l) l.length]) (fun _ => True) := by
  have hml : m < w.heap.size := (Array.getElem?_eq_some_iff.1 hm).1
  refine RetF.of (Calls.mono (insert_any l B c bx m w hll hm hbx hs h1 h2) ?_)
  rintro e w' ⟨rfl, a, b⟩
  refine ⟨(), trivial, rfl, ⟨a.os, a.tape, a.output, a.size⟩, fun k hk hn => a.block k hk (fun e => hn (by subst e; exact ⟨_, List.mem_singleton.2 rfl, rfl⟩)), ⟨fun e he => ?_, fun e he k hk => ?_, by simp⟩, fun k hk => .inl ?_⟩
  · simp only [List.mem_singleton] at he; subst he; exact b
  · simp only [List.mem_singleton] at he; subst he; cases hk; have := a.size; exact ⟨Nat.zero_le _, by omega⟩
  · obtain ⟨e, he, hS⟩ := hk
    simp only [List.mem_singleton] at he; subst he
    exact ⟨_, List.mem_singleton.2 rfl, hS⟩

theorem collect_any (l : List Me) (B : Option Addr) (c bx : Nat) (w : World) (hll : l.length ≤ 1000000) (hbx : Blk w bx #[.slice B l.length c]) (hs : SlAt encMe 5 w B l) (hB : ∀ b o, B = some ⟨b, o, none⟩ → b < w.heap.size) :
    Ret Try.prog 92 [.func (.func 100) #[] #[.pointer (some ⟨bx, 0, none⟩)]] w (fun m : Nat => .map (some m)) (fun m => [.map m (entsMe (KB.id l.length) l) l.length]) (fun _ => True) := by
  have hbl := hbx.lt
  (refine ret_enter (n := 9) Try.func92 rfl rfl rfl ?_)
  (repeat' (first | ((with_reducible refine isOps ?_); first | refine u_move rfl rfl rfl rfl rfl ?_ | refine u_assign rfl rfl rfl rfl rfl ?_ | (refine u_makeMap rfl rfl rfl rfl (fun m => ?_))) | (with_reducible first | refine u_seq ?_ | refine u_region ?_ | refine u_nil ?_ | refine u_then_n ?_)))
  refine u_callF [.map m #[] 0] [] rfl rfl rfl rfl rfl rfl (by (repeat (first | exact Out.nil _ | (refine Out.cons (by (repeat (first | exact Take.here _ _ | apply Take.there))) ?_)))) (fun a W q => insert_F l B c bx m W hll (q.own.here (.map m #[] 0) (by simp)) (hbx.past q.below) (hs.below q.below) (by have := (q.own.foot (.map m #[] 0) (by simp) m rfl).1; omega) (fun b o e => by have := hB b o e; have := (q.own.foot (.map m #[] 0) (by simp) m rfl).1; omega)) (fun _ _ => ?_)
  (repeat' (first | ((with_reducible refine isOps ?_); first | refine u_move rfl rfl rfl rfl rfl ?_ | refine u_assign rfl rfl rfl rfl rfl ?_) | (with_reducible first | refine u_seq ?_ | refine u_region ?_ | refine u_nil ?_ | refine u_then_n ?_ | refine u_ret ?_)))
  exact u_done (by (exact ResL.cons (by exact Res1.tmp rfl) ResL.nil)) m trivial rfl (fun _ h => h.sub (by (repeat (first | exact Out.nil _ | (refine Out.cons (by (repeat (first | exact Take.here _ _ | apply Take.there))) ?_)))))

theorem measured_no (t : List St) (A : Option Addr) (cap : Nat) (l : List Me) (B : Option Addr) (c : Nat) (w : World) (ht : SlAt encSt 9 w A t) (hs : SlAt encMe 5 w B l) (hf : FitT t) (hfm : FitMs l) (hl : t.length ≤ 1000) (hll : l.length ≤ 1000) (h : valid t = false) :
    Gv Try.prog 74 [.agg #[.slice A t.length cap], .slice B l.length c] w (.tuple #[.agg #[.slice A t.length cap], .map none, .int .i64 10]) := by
  unfold Gv
  have h1 := fun W (hB : Below w.heap.size w W) => open_n t A cap W (ht.below hB) hf (by omega)
  simp only [errT_no h] at h1
  (refine ret_enter (n := 35) Try.func74 rfl rfl rfl ?_)
  (repeat' (first | ((with_reducible refine isOps ?_); first | refine u_move rfl rfl rfl rfl rfl ?_ | refine u_assign rfl rfl rfl rfl rfl ?_ | (refine x_load rfl rfl rfl rfl rfl ?_; refine ⟨_, rfl, ?_⟩) | (refine u_cmp rfl rfl rfl rfl rfl rfl rfl (fun h => ?_) (fun h => ?_) <;> (dsimp only [cmpP] at h; (try (exfalso; omega)))) | refine u_gives rfl rfl rfl rfl rfl rfl (fun _ _ q => h1 _ q.below) ?_ | refine u_extract rfl rfl rfl rfl rfl rfl ?_ | (refine x_store rfl rfl rfl rfl rfl ?_; refine And.intro rfl (And.intro (by first | decide | exact Nat.le_of_ble_eq_true rfl | (simp; omega)) ⟨_, rfl, ?_⟩)) | (refine u_alloc rfl rfl rfl rfl (fun b => ?_)) | (refine u_box rfl rfl rfl rfl rfl rfl (fun b => ?_))) | (with_reducible first | refine u_seq ?_ | refine u_region ?_ | refine u_nil ?_ | refine u_then_n ?_ | refine u_ret ?_ | refine u_then_r ?_) | ((with_reducible refine u_cond_t ?_ ?_); (· exact rfl))))
  exact u_done (by (exact ResL.cons (by exact res1c rfl (by exact rfl)) (ResL.cons (by exact Res1.tmp rfl) (ResL.cons (by exact Res1.tmp rfl) ResL.nil)))) () trivial rfl (fun _ h => h.sub (by (repeat (first | exact Out.nil _ | (refine Out.cons (by (repeat (first | exact Take.here _ _ | apply Take.there))) ?_)))))
set_option maxHeartbeats 1000000 in
theorem measured_bad (t : List St) (A : Option Addr) (cap : Nat) (l : List Me) (B : Option Addr) (c : Nat) (w : World) (ht : SlAt encSt 9 w A t) (hs : SlAt encMe 5 w B l) (hf : FitT t) (hfm : FitMs l) (hl : t.length ≤ 1000) (hll : l.length ≤ 1000) (h : valid t = true) (hm : msOk t.length l = false) :
    Gv Try.prog 74 [.agg #[.slice A t.length cap], .slice B l.length c] w (.tuple #[.agg #[.slice A t.length cap], .map none, .int .i64 11]) := by
  unfold Gv
  have h1 := fun W (hB : Below w.heap.size w W) => open_n t A cap W (ht.below hB) hf (by omega)
  simp only [errT_yes h] at h1
  have hp : ¬ 12 < l.length → 0 < (picks (fun _ m => !meOk t.length m) l).length := fun h12 => by
    simp only [msOk, Bool.and_eq_false_iff, decide_eq_false_iff_not, Nat.not_le, h12, false_or] at hm
    obtain ⟨x, hx, hx2⟩ := List.all_eq_false.1 hm
    obtain ⟨i, hi, rfl⟩ := List.getElem_of_mem hx
    exact picks_pos (i := i) (x := l[i]) (by simp [hi]) (by simpa using hx2)
  (refine ret_enter (n := 35) Try.func74 rfl rfl rfl ?_)
  (repeat' (first | ((with_reducible refine isOps ?_); first | refine u_move rfl rfl rfl rfl rfl ?_ | refine u_assign rfl rfl rfl rfl rfl ?_ | (refine x_load rfl rfl rfl rfl rfl ?_; refine ⟨_, rfl, ?_⟩) | refine u_pick rfl rfl rfl rfl rfl rfl ?_ | refine u_not_wanted rfl rfl rfl ?_ | (refine u_cmp rfl rfl rfl rfl rfl rfl rfl (fun h => ?_) (fun h => ?_) <;> (dsimp only [cmpP] at h; (try (exfalso; omega)))) | refine u_gives rfl rfl rfl rfl rfl rfl (fun _ _ q => h1 _ q.below) ?_ | refine u_newsl rfl rfl rfl rfl rfl rfl (fun _ _ q => pickMe l B c _ _ (fun _ m => !meOk t.length m) _ (hs.below q.below) (by omega) (fun i x W hi hB => measured1_any t A cap i x _ W (by omega) (hfm x (List.mem_of_getElem? hi)) (cells_of q.own hB))) (fun A' c' => ?_) | refine u_extract rfl rfl rfl rfl rfl rfl ?_ | refine u_len rfl rfl rfl rfl rfl ?_ | (refine x_store rfl rfl rfl rfl rfl ?_; refine And.intro rfl (And.intro (by first | decide | exact Nat.le_of_ble_eq_true rfl | (simp; omega)) ⟨_, rfl, ?_⟩)) | (refine u_alloc rfl rfl rfl rfl (fun b => ?_)) | (refine u_box rfl rfl rfl rfl rfl rfl (fun b => ?_)) | refine u_makeFunc rfl rfl rfl rfl rfl rfl ?_) | (with_reducible first | refine u_seq ?_ | refine u_region ?_ | refine u_nil ?_ | refine u_then_n ?_ | refine u_ret ?_ | refine u_skip ?_ | refine u_then_r ?_) | ((with_reducible refine u_cond_t ?_ ?_); (· exact rfl)) | ((with_reducible refine u_cond_f ?_ ?_); (· exact rfl))))
  all_goals exact u_done (by (exact ResL.cons (by exact res1c rfl (by exact rfl)) (ResL.cons (by exact Res1.tmp rfl) (ResL.cons (by exact Res1.tmp rfl) ResL.nil)))) () trivial rfl (fun _ h => h.sub (by (repeat (first | exact Out.nil _ | (refine Out.cons (by (repeat (first | exact Take.here _ _ | apply Take.there))) ?_)))))
theorem blk_of {base b : Nat} {cs : List Value} {H H' : List Ent} {w : World} (ho : Own base w H) [i : TakeB H b cs H'] : Blk w b cs.toArray := ho.here _ i.tk.mem
theorem lt_of_base {w W : World} {B : Option Addr} {l : List Me} (hs : SlAt encMe 5 w B l) (hW : Below w.heap.size w W) (h0 : l = [] → B = none) : ∀ b o, B = some ⟨b, o, none⟩ → b < W.heap.size := fun b o e => by
  cases l with
  | nil => rw [h0 rfl] at e; cases e
  | cons x r =>
    obtain ⟨b', o', h1, h2, _⟩ := hs 0 x rfl
    rw [h1] at e; cases e
    have := hW.size; omega
set_option maxHeartbeats 1000000 in
theorem measured_yes (t : List St) (A : Option Addr) (cap : Nat) (l : List Me) (B : Option Addr) (c : Nat) (w : World) (ht : SlAt encSt 9 w A t) (hs : SlAt encMe 5 w B l) (hB : ∀ b o, B = some ⟨b, o, none⟩ → b < w.heap.size) (hf : FitT t) (hfm : FitMs l) (hl : t.length ≤ 1000) (hll : l.length ≤ 1000) (h : valid t = true) (hm : msOk t.length l = true) :
    Ret Try.prog 74 [.agg #[.slice A t.length cap], .slice B l.length c] w (fun m : Nat => .tuple #[.agg #[.slice A t.length cap], .map (some m), .int .i64 0]) (fun m => [.map m (entsMe (KB.id l.length) l) l.length]) (fun _ => True) := by
  have h1 := fun W (hB : Below w.heap.size w W) => open_n t A cap W (ht.below hB) hf (by omega)
  simp only [errT_yes h] at h1
  simp only [msOk, Bool.and_eq_true, decide_eq_true_eq] at hm
  obtain ⟨hm1, hm2⟩ := hm
  have hp : picks (fun _ m => !meOk t.length m) l = [] := picks_none fun i x hx => by
    have := List.all_eq_true.1 hm2 x (List.mem_of_getElem? hx)
    simp [this]
  have hp0 : (picks (fun _ m => !meOk t.length m) l).length = 0 := by rw [hp]; rfl
  (refine ret_enter (n := 35) Try.func74 rfl rfl rfl ?_)
  (repeat' (first | ((with_reducible refine isOps ?_); first | refine u_move rfl rfl rfl rfl rfl ?_ | refine u_assign rfl rfl rfl rfl rfl ?_ | (refine x_load rfl rfl rfl rfl rfl ?_; refine ⟨_, rfl, ?_⟩) | refine u_pick rfl rfl rfl rfl rfl rfl ?_ | (refine u_cmp rfl rfl rfl rfl rfl rfl rfl (fun h => ?_) (fun h => ?_) <;> (dsimp only [cmpP] at h; (try (exfalso; omega)))) | refine u_gives rfl rfl rfl rfl rfl rfl (fun _ _ q => h1 _ q.below) ?_ | refine u_newsl rfl rfl rfl rfl rfl rfl (fun _ _ q => pickMe l B c _ _ (fun _ m => !meOk t.length m) _ (hs.below q.below) (by omega) (fun i x W hi hB => measured1_any t A cap i x _ W (by omega) (hfm x (List.mem_of_getElem? hi)) (cells_of q.own hB))) (fun A' c' => ?_) | refine u_extract rfl rfl rfl rfl rfl rfl ?_ | refine u_len rfl rfl rfl rfl rfl ?_ | (refine x_store rfl rfl rfl rfl rfl ?_; refine And.intro rfl (And.intro (by first | decide | exact Nat.le_of_ble_eq_true rfl | (simp; omega)) ⟨_, rfl, ?_⟩)) | (refine u_alloc rfl rfl rfl rfl (fun b => ?_)) | (refine u_box rfl rfl rfl rfl rfl rfl (fun b => ?_)) | refine u_makeFunc rfl rfl rfl rfl rfl rfl ?_) | (with_reducible first | refine u_seq ?_ | refine u_region ?_ | refine u_nil ?_ | refine u_then_n ?_ | refine u_skip ?_) | ((with_reducible refine u_cond_f ?_ ?_); (· exact rfl))))
  (refine u_chain (by kernel_rfl) [[], [false], [true, false], [true, true, false], [true, true, true, true], [true, true, true, true, true], [true, true, true, true, true, true]] (by kernel_rfl) (by kernel_rfl) ?_)
  (repeat' (first | (((with_reducible refine c_go ?_ ?_); (· exact rfl); refine ⟨_, fun G => (by (try simp only [fltT, entsT, List.nil_append, List.cons_append]); rfl), ?_⟩); first | refine c_val _ (fun _ => e_move rfl rfl) (fun _ => rfl) rfl (by first | exact fun _ _ _ => rfl | (intro G G' h; simp (decide := true) only [h])) ?_ | refine c_val _ (fun _ => e_load' rfl rfl (by exact rfl)) (fun _ => rfl) rfl (by first | exact fun _ _ _ => rfl | (intro G G' h; simp (decide := true) only [h])) ?_ | refine c_ret rfl (fun _ => rfl) rfl (fun _ => rfl) (fun _ => rfl) (fun _ _ _ _ => all_any l B c _) ?_ | refine c_ret rfl (fun _ => rfl) rfl (fun _ => rfl) (fun _ => rfl) (fun G a W q => collect_any l B c _ W (by omega) (blk_of q.own) (hs.below q.below) (fun b o e => Nat.lt_of_lt_of_le (hB b o e) q.below.size)) ?_) | ((with_reducible refine c_tail ?_ ?_); (· exact rfl))))
  (intro G; simp only [regsT, entsT, Pend.at_none, List.nil_append, List.cons_append])
  (repeat' (first | ((with_reducible refine isOps ?_); first | refine u_assign rfl rfl rfl rfl rfl ?_ | (refine x_store rfl rfl rfl rfl rfl ?_; refine And.intro rfl (And.intro (by first | decide | exact Nat.le_of_ble_eq_true rfl | (simp; omega)) ⟨_, rfl, ?_⟩))) | (with_reducible first | refine u_nil ?_ | refine u_then_n ?_ | refine u_ret ?_)))
  exact u_done (by (exact ResL.cons (by exact res1c rfl (by exact rfl)) (ResL.cons (by exact Res1.tmp rfl) (ResL.cons (by exact Res1.tmp rfl) ResL.nil)))) (G 3).g trivial rfl (fun _ h => h.sub (by (repeat (first | exact Out.nil _ | (refine Out.cons (by (repeat (first | exact Take.here _ _ | apply Take.there))) ?_)))))
end Go.Proofs.Ytekjkaoibcfgfaa
