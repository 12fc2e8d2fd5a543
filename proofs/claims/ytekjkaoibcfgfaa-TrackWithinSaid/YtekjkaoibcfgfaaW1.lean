/- Spots: whether they stand, where they lie, how far apart they are. -/
import Derived.Test.YtekjkaoibcfgfaaV9
namespace Go.Proofs.Ytekjkaoibcfgfaa
set_option linter.unusedVariables false
open Go.RowKit
set_option maxRecDepth 20000
set_option linter.unusedSimpArgs false

/-- where a new slice that isn't empty begins -/
def Wit.off (x : Wit) : Nat := match x.A with | some a => a.off | none => 0
section
variable {S : Pend} {P : Program} {w0 : World} {n : Nat} {d : List Deferred} {R0 : List (Nat × Value)} {H0 : List Ent} {Q : Exit → Act → World → Prop} {ops : Array Oper} {bs : List (List Bool)} {b : List Bool} {k : Nat} {o : Oper} {rest : List Oper} {T : List Rw} {t : Tmp} {Hk : Wits → List Ent}
/-- a call whose slice isn't empty -/
theorem c_newslS {α : Type} {enc : α → List Value} {kk : Nat} {zs : List α} {V : Value → Value} {f : FuncId} {fx : Operand} {xs : Array Operand} {ts : Array TypeId} {vs : Wits → List Value} {cap : Array Value} (hop : o.op = .call ⟨.value fx, xs, ts⟩) (hw : ∀ G, want (Rk R0 ops b o T G) ops o = some true) (hd : o.dst = some t) (hf : ∀ G, evR (Rk R0 ops b o T G) fx = some (.func (.func f) #[] cap)) (hx : ∀ G, evs (Rk R0 ops b o T G) xs.toList = some (vs G)) [ci : CallI P f]
    (hc : ∀ G a w, Kn w0 n d (Rk R0 ops b o T G) (Hk G) a w → NewSl enc kk zs V P f (vs G ++ cap.toList) w) (h0 : 0 < zs.length) (h : Chain S P w0 n d ops R0 H0 Q bs (k + 1) rest (⟨k, some t, fun G => (V (.slice (some ⟨(G k).g, (G k).off, none⟩) zs.length (G k).m), [.sl enc kk (some ⟨(G k).g, (G k).off, none⟩) zs])⟩ :: T)) : CAt S P w0 n d ops R0 H0 Q b bs k o rest T Hk := by
  refine c_row (f := fun G => (V (.slice (some ⟨(G k).g, (G k).off, none⟩) zs.length (G k).m), [.sl enc kk (some ⟨(G k).g, (G k).off, none⟩) zs])) (fun G G' hG => by simp only [hG k (.inl rfl)]) (fun G a w q K hK => ?_) (by rw [hd]; exact h)
  rw [want_ok q (hw G), if_pos rfl]
  unfold Oper.wp execOp; rw [hop]
  have e1 : xs.map a.eval = (vs G).toArray := by apply Array.ext'; simpa using q.evs (hx G)
  have e2 : (vs G).toArray ++ cap = (vs G ++ cap.toList).toArray := by apply Array.ext'; simp
  simp only [resolve, q.ev (hf G), e1, Deferred.ofValue, Sem.run_bind, Sem.run_pure, Result.andThen_ok, invoke, Array.empty_append, e2, ci.ent, Oper.upon_enter]
  refine Calls.mono (hc G a w q).ret.calls ?_
  rintro e w' ⟨⟨A, m⟩, hp, rfl, hb, hE⟩
  obtain ⟨g, off, rfl, _⟩ := (hE.here (.sl enc kk A zs) (Take.here _ _).mem : SlAt enc kk w' A zs).at_ h0
  exact hK _ _ _ ⟨⟨g, some ⟨g, off, none⟩, m⟩, by simp [upW, Wit.off]⟩ hb hE
end

def encSpot (s : Spot) : List Value := [.int .i64 s.st, .int .i64 s.off.lo, .int .i64 s.off.hi]
def vSpot (s : Spot) : Value := .agg #[.int .i64 s.st, .int .i64 s.off.lo, .int .i64 s.off.hi]
theorem one_spot (x : Spot) : ∀ u ∈ encSpot x, u.oneCell' = true := by simp [encSpot, Value.oneCell']
instance : EncI encSpot 3 := ⟨fun _ => rfl, one_spot⟩


set_option maxHeartbeats 2000000 in
theorem pickSpot (l : List Spot) (A : Option Addr) (cap : Nat) (kf : FuncId) [CallI Try.prog kf] (cs : Array Value) (p : Nat → Spot → Bool) (w : World) (hk : SlAt encSpot 3 w A l) (hl : l.length ≤ 100000)
    (hp : ∀ (i : Nat) x W, l[i]? = some x → Below w.heap.size w W → Gv Try.prog kf ([.int .i64 (i : Int), vSpot x] ++ cs.toList) W (.bool (p i x))) :
    NewSl encI 1 (picks p l) (fun v => v) Try.prog 88 [.slice A l.length cap, .func (.func kf) #[] cs] w := by
  unfold NewSl
  (refine ret_enter (n := 25) Try.func88 rfl rfl rfl ?_)
  (repeat' (first | ((with_reducible refine isOps ?_); first | refine u_move rfl rfl rfl rfl rfl ?_ | refine u_assign rfl rfl rfl rfl rfl ?_ | refine u_len rfl rfl rfl rfl rfl ?_) | (with_reducible first | refine u_seq ?_ | refine u_region ?_ | refine u_nil ?_ | refine u_then_n ?_ | refine u_block ?_)))
  refine u_row_nil encI 1 3 ?_
  refine u_loop (ι := Nat × Value) (fun i => i.1 ≤ l.length) (fun i => [(1, .func (.func kf) #[] cs), (5, i.2), (8, .slice A l.length cap), (9, .int .i64 (l.length : Int)), (10, .int .i64 (i.1 : Int))]) (fun i => [.row encI 1 3 i.2 (picksTo p l i.1)]) (fun i => l.length - i.1) (0, .slice none 0 0) (Nat.zero_le _) (by (first | exact fun _ _ h => lk_nil h | (repeat (first | exact (fun _ _ h => lk_nil h) | (refine lk_sub rfl ?_))))) (by (repeat (first | exact Out.nil _ | (refine Out.cons (by (repeat (first | exact Take.here _ _ | apply Take.there))) ?_)))) ?_
  rintro ⟨i, v⟩ hi
  simp only at hi ⊢
  have hpl := picksTo_len p l i
  by_cases hlt : i < l.length
  · have hx : l[i]? = some l[i] := by simp [hlt]
    obtain ⟨b, o, rfl, hblt, hc⟩ := hk.at_ hlt
    have : InS w b o encSpot 3 l := ⟨hk⟩
    have : GetI l i l[i] := ⟨hx⟩
    have hso : soAt p l i = p i l[i] := by simp [soAt, hlt]
    (repeat' (first | ((with_reducible refine isOps ?_); first | refine u_move rfl rfl rfl rfl rfl ?_ | refine u_assign rfl rfl rfl rfl rfl ?_ | (refine x_load rfl rfl rfl rfl rfl ?_; refine ⟨_, rfl, ?_⟩) | (refine u_cmp rfl rfl rfl rfl rfl rfl rfl (fun h => ?_) (fun h => ?_) <;> (dsimp only [cmpP] at h; (try (exfalso; omega)))) | (refine u_givesB rfl rfl rfl rfl rfl rfl (fun _ _ q => hp i _ _ hx q.below) (fun h => ?_) (fun h => ?_) <;> (try (exfalso; omega))) | (refine u_append (enc := encI) [_] rfl rfl rfl rfl rfl (by (repeat (first | exact Take.here _ _ | apply Take.there))) rfl rfl (src_one (by exact rfl)) (by refine ⟨?_, by decide⟩; (try simp only [List.length_append, List.length_cons, List.length_nil]); omega) (fun A' c' => ?_)) | refine u_add1 rfl rfl rfl rfl rfl rfl (by omega) ?_ | refine u_index rfl rfl rfl rfl rfl rfl rfl (by omega) ?_ | (refine x_store rfl rfl rfl rfl rfl ?_; refine And.intro rfl (And.intro (by first | decide | exact Nat.le_of_ble_eq_true rfl | (simp; omega)) ⟨_, rfl, ?_⟩)) | (refine u_alloc rfl rfl rfl rfl (fun b => ?_)) | (refine x_buildSlice rfl rfl rfl rfl rfl ?_; refine ⟨rfl, _, rfl, fun b => ?_⟩)) | (with_reducible first | refine u_seq ?_ | refine u_region ?_ | refine u_nil ?_ | refine u_then_n ?_ | refine u_skip ?_ | refine u_block ?_ | refine u_in_n ?_) | ((with_reducible refine u_cond_t ?_ ?_); (· exact rfl)) | ((with_reducible refine u_cond_f ?_ ?_); (· exact rfl))))
    · refine u_again (i + 1, .slice A' (picksTo p l i ++ [(i : Int)]).length c') (by simp only; omega) (by simp only; omega) (by (first | exact fun _ _ h => lk_nil h | (repeat (first | exact (fun _ _ h => lk_nil h) | (refine lk_sub rfl ?_))))) ?_
      rw [picksTo_yes (hso.trans h)]
      (repeat (first | exact Out.nil _ | (refine Out.cons (by (repeat (first | exact Take.here _ _ | apply Take.there))) ?_)))
    · refine u_again (i + 1, v) (by simp only; omega) (by simp only; omega) (by (first | exact fun _ _ h => lk_nil h | (repeat (first | exact (fun _ _ h => lk_nil h) | (refine lk_sub rfl ?_))))) ?_
      rw [picksTo_no (hso.trans h)]
      (repeat (first | exact Out.nil _ | (refine Out.cons (by (repeat (first | exact Take.here _ _ | apply Take.there))) ?_)))
  · obtain rfl : i = l.length := by omega
    (repeat' (first | ((with_reducible refine isOps ?_); first | refine u_move rfl rfl rfl rfl rfl ?_ | refine u_assign rfl rfl rfl rfl rfl ?_ | (refine u_cmp rfl rfl rfl rfl rfl rfl rfl (fun h => ?_) (fun h => ?_) <;> (dsimp only [cmpP] at h; (try (exfalso; omega))))) | (with_reducible first | refine u_seq ?_ | refine u_region ?_ | refine u_nil ?_ | refine u_then_n ?_ | refine u_ret ?_ | refine u_exit ?_ | refine u_in_same ?_ | refine u_then_e ?_) | ((with_reducible refine u_cond_f ?_ ?_); (· exact rfl))))
    refine u_row_form (enc := encI) (by (repeat (first | exact Take.here _ _ | apply Take.there))) ?_
    rintro A' c' rfl
    exact u_done (by (exact ResL.cons (by exact Res1.tmp rfl) ResL.nil)) (A', c') trivial rfl (fun _ h => (h.row_sl (by (repeat (first | exact Take.here _ _ | apply Take.there)))).sub (by (repeat (first | exact Out.nil _ | (refine Out.cons (by (repeat (first | exact Take.here _ _ | apply Take.there))) ?_)))))


/-- does the spot lie on the track? -/
def spotOk (t : List St) (s : Spot) : Bool := inB 0 (t.length - 1) s.st && match t[s.st.toNat]? with | some o => knownB s.off 0 (o.long.lo - 1) | none => false
def spotP (t : List St) (_ : Nat) (s : Spot) : Bool := !spotOk t s

theorem spotOk_in {t : List St} {I : Nat} {off : Sp} (h : I < t.length) : spotOk t ⟨I, off⟩ = knownB off 0 (t[I].long.lo - 1) := by
  have h1 : inB 0 (t.length - 1) (I : Int) = true := inB_iff.2 (by omega)
  simp [spotOk, h1, h]
theorem spotOk_out {t : List St} {s : Spot} (h : ¬ (0 ≤ s.st ∧ s.st ≤ (t.length : Int) - 1)) : spotOk t s = false := by
  have h1 := inB_no.2 h
  simp [spotOk, h1]
theorem spotOk_yes {t : List St} {s : Spot} (h : spotOk t s = true) : ∃ I : Nat, s.st = I ∧ I < t.length := by
  simp only [spotOk, Bool.and_eq_true, inB_iff] at h
  exact ⟨s.st.toNat, by omega, by omega⟩

set_option maxHeartbeats 1000000 in
theorem stands1_any (t : List St) (A : Option Addr) (cap k : Nat) (s : Spot) (b : Nat) (w : World) (ht : SlAt encSt 9 w A t) (ho : ∀ s ∈ t, Okay s) (hl : t.length ≤ 1000) (h1 : InC w b 0 [.slice A t.length cap]) :
    Gv Try.prog 89 [.int .i64 (k : Int), vSpot s, .pointer (some ⟨b, 0, none⟩)] w (.bool (spotP t k s)) := by
  unfold Gv vSpot
  obtain ⟨st, off⟩ := s
  by_cases h : 0 ≤ st ∧ st ≤ (t.length : Int) - 1
  · obtain ⟨I, rfl⟩ : ∃ I : Nat, st = I := ⟨st.toNat, by omega⟩
    have hI : I < t.length := by omega
    have hso : spotP t k ⟨(I : Int), off⟩ = !knownB off 0 (t[I].long.lo - 1) := by rw [spotP, spotOk_in hI]
    rw [hso]
    have : GetI t I t[I] := ⟨by simp [hI]⟩
    obtain ⟨bb, o, rfl, hblt, hc⟩ := ht.at_ hI
    have : InS w bb o encSt 9 t := ⟨ht⟩
    obtain ⟨y1, y2, y3, y4, y5, y6, y7, y8⟩ := ho t[I] (List.getElem_mem hI)
    generalize t[I] = z at *
    (refine ret_enter (n := 32) Try.func89 rfl rfl rfl ?_)
    (repeat' (first | ((with_reducible refine isOps ?_); first | refine u_assign rfl rfl rfl rfl rfl ?_ | (refine u_box rfl rfl rfl rfl rfl rfl (fun b => ?_))) | (with_reducible first | refine u_seq ?_ | refine u_region ?_ | refine u_nil ?_ | refine u_then_n ?_)))
    (refine u_chain (by kernel_rfl) [[], [true], [true, true], [true, true, true], [true, true, true, true], [false, false, false, false, false], [true, false, false, false, false, false], [true, true, false, false, false, false, false], [true, true, true, true, true, true, true, true], [true, true, true, true, true, true, true, true, true], [true, true, true, true, true, true, true, true, true, true], [true, true, true, true, true, true, true, true, true, true, true], [true, true, true, true, true, true, true, true, true, true, true, true], [false, false, true, true, true, true, true, true, true, true, true, true, true], [true, false, false, true, true, true, true, true, true, true, true, true, true, true], [true, true, false, false, true, true, true, true, true, true, true, true, true, true, true], [false, false, false, false, false, true, true, true, true, true, true, true, true, true, true, true], [true, false, false, false, false, false, true, true, true, true, true, true, true, true, true, true, true], [true, true, true, true, true, false, false, true, true, true, true, true, true, true, true, true, true, true], [true, true, true, true, true, true, false, false, true, true, true, true, true, true, true, true, true, true, true], [true, true, true, true, true, true, true, false, false, true, true, true, true, true, true, true, true, true, true, true], [true, true, true, true, true, true, true, true, false, false, true, true, true, true, true, true, true, true, true, true, true], [true, true, true, true, true, true, true, true, true, false, false, true, true, true, true, true, true, true, true, true, true, true], [true, true, true, true, true, true, true, true, true, true, true, true, true, true, true, true, true, true, true, true, true, true, true], [true, true, true, true, true, true, true, true, true, true, true, true, true, true, true, true, true, true, true, true, true, true, true, true], [true, true, true, true, true, true, true, true, true, true, true, true, true, true, true, true, true, true, true, true, true, true, true, true, true], [true, true, true, true, true, true, true, true, true, true, true, true, true, true, true, true, true, true, true, true, true, true, true, true, true, true]] (by kernel_rfl) (by kernel_rfl) ?_)
    (repeat' (first | (((with_reducible refine c_go ?_ ?_); (· exact rfl); refine ⟨_, fun G => (by (try simp only [fltT, entsT, List.nil_append, List.cons_append]); rfl), ?_⟩); first | refine c_val _ (fun _ => e_move rfl rfl) (fun _ => rfl) rfl (by first | exact fun _ _ _ => rfl | (intro G G' h; simp (decide := true) only [h])) ?_ | refine c_val _ (fun _ => e_load' rfl rfl (by exact rfl)) (fun _ => rfl) rfl (by first | exact fun _ _ _ => rfl | (intro G G' h; simp (decide := true) only [h])) ?_ | (refine c_isField rfl ?_; refine c_val _ (fun _ => e_field rfl rfl) (fun _ => rfl) rfl (by first | exact fun _ _ _ => rfl | (intro G G' h; simp (decide := true) only [h])) ?_) | refine c_val _ (fun _ => e_pick rfl rfl rfl) (fun _ => rfl) rfl (by first | exact fun _ _ _ => rfl | (intro G G' h; simp (decide := true) only [h])) ?_ | refine c_val _ (fun _ => e_assign rfl rfl) (fun _ => rfl) rfl (by first | exact fun _ _ _ => rfl | (intro G G' h; simp (decide := true) only [h])) ?_ | (refine c_givesB rfl (fun _ => rfl) rfl (fun _ => rfl) (fun _ => rfl) (fun _ _ _ q => in1 _ _ _ _ _ _ (src_one (enc := encI) (by exact rfl) _ q.below q.own)) (fun h => ?_) (fun h => ?_) <;> ((try simp only [inB_iff, inB_no, knownB_iff, knownB_no] at h); (try (exfalso; omega)))) | (refine c_givesB rfl (fun _ => rfl) rfl (fun _ => rfl) (fun _ => rfl) (fun _ _ _ _ => (known_any off 0 _ _).gv) (fun h => ?_) (fun h => ?_) <;> ((try simp only [inB_iff, inB_no, knownB_iff, knownB_no] at h); (try (exfalso; omega)))) | refine c_val _ (fun _ => e_not rfl rfl) (fun _ => rfl) rfl (by first | exact fun _ _ _ => rfl | (intro G G' h; simp (decide := true) only [h])) ?_ | refine c_val _ (fun _ => e_sub rfl rfl rfl (IntWalk.i64_in _ (by omega))) (fun _ => rfl) rfl (by first | exact fun _ _ _ => rfl | (intro G G' h; simp (decide := true) only [h])) ?_ | refine c_val _ (fun _ => e_index rfl rfl rfl rfl (by omega)) (fun _ => rfl) rfl (by first | exact fun _ _ _ => rfl | (intro G G' h; simp (decide := true) only [h])) ?_ | refine c_val _ (fun _ => e_len rfl rfl) (fun _ => rfl) rfl (by first | exact fun _ _ _ => rfl | (intro G G' h; simp (decide := true) only [h])) ?_ | refine c_buildSlice rfl (fun _ => rfl) rfl (fun _ => rfl) (by exact rfl) (by exact fun _ => rfl) (by first | exact fun _ _ _ => rfl | (intro G G' h; simp (decide := true) only [h])) ?_) | (with_reducible refine c_nil ?_)))
    all_goals
      (intro G; simp only [regsT, entsT, Pend.at_none, List.nil_append, List.cons_append])
      (repeat' (first | (with_reducible first | refine u_then_n ?_ | refine u_ret ?_)))
      exact u_done (by (exact ResL.cons (by exact Res1.tmp rfl) ResL.nil)) () trivial (by first | exact congrArg Value.bool (by rw [knownB_iff.2 (by omega)]) | exact congrArg Value.bool (by rw [knownB_no.2 (by omega)])) (fun _ h => h.sub (by (repeat (first | exact Out.nil _ | (refine Out.cons (by (repeat (first | exact Take.here _ _ | apply Take.there))) ?_)))))
  · have hso : spotP t k ⟨st, off⟩ = true := by rw [spotP, spotOk_out h]; rfl
    rw [hso]
    (refine ret_enter (n := 32) Try.func89 rfl rfl rfl ?_)
    (repeat' (first | ((with_reducible refine isOps ?_); first | refine u_assign rfl rfl rfl rfl rfl ?_ | (refine u_box rfl rfl rfl rfl rfl rfl (fun b => ?_))) | (with_reducible first | refine u_seq ?_ | refine u_region ?_ | refine u_nil ?_ | refine u_then_n ?_)))
    (refine u_chain (by kernel_rfl) [[], [true], [true, true], [true, true, true], [true, true, true, true], [false, false, false, false, false], [true, false, false, false, false, false], [true, true, false, false, false, false, false], [true, true, true, true, true, true, true, true], [true, true, true, true, true, true, true, true, true], [true, true, true, true, true, true, true, true, true, true], [true, true, true, true, true, true, true, true, true, true, true], [true, true, true, true, true, true, true, true, true, true, true, true], [false, false, true, true, true, true, true, true, true, true, true, true, true], [true, false, false, true, true, true, true, true, true, true, true, true, true, true], [true, true, false, false, true, true, true, true, true, true, true, true, true, true, true], [false, false, false, false, false, true, true, true, true, true, true, true, true, true, true, true], [true, false, false, false, false, false, true, true, true, true, true, true, true, true, true, true, true], [true, true, true, true, true, false, false, true, true, true, true, true, true, true, true, true, true, true], [true, true, true, true, true, true, false, false, true, true, true, true, true, true, true, true, true, true, true], [true, true, true, true, true, true, true, false, false, true, true, true, true, true, true, true, true, true, true, true], [true, true, true, true, true, true, true, true, false, false, true, true, true, true, true, true, true, true, true, true, true], [true, true, true, true, true, true, true, true, true, false, false, true, true, true, true, true, true, true, true, true, true, true], [true, true, true, true, true, true, true, true, true, true, true, true, true, true, true, true, true, true, true, true, true, true, true], [true, true, true, true, true, true, true, true, true, true, true, true, true, true, true, true, true, true, true, true, true, true, true, true], [true, true, true, true, true, true, true, true, true, true, true, true, true, true, true, true, true, true, true, true, true, true, true, true, true], [true, true, true, true, true, true, true, true, true, true, true, true, true, true, true, true, true, true, true, true, true, true, true, true, true, true]] (by kernel_rfl) (by kernel_rfl) ?_)
    (repeat' (first | (((with_reducible refine c_go ?_ ?_); (· exact rfl); refine ⟨_, fun G => (by (try simp only [fltT, entsT, List.nil_append, List.cons_append]); rfl), ?_⟩); first | refine c_val _ (fun _ => e_move rfl rfl) (fun _ => rfl) rfl (by first | exact fun _ _ _ => rfl | (intro G G' h; simp (decide := true) only [h])) ?_ | refine c_val _ (fun _ => e_load' rfl rfl (by exact rfl)) (fun _ => rfl) rfl (by first | exact fun _ _ _ => rfl | (intro G G' h; simp (decide := true) only [h])) ?_ | (refine c_isField rfl ?_; refine c_val _ (fun _ => e_field rfl rfl) (fun _ => rfl) rfl (by first | exact fun _ _ _ => rfl | (intro G G' h; simp (decide := true) only [h])) ?_) | refine c_val _ (fun _ => e_pick rfl rfl rfl) (fun _ => rfl) rfl (by first | exact fun _ _ _ => rfl | (intro G G' h; simp (decide := true) only [h])) ?_ | refine c_val _ (fun _ => e_assign rfl rfl) (fun _ => rfl) rfl (by first | exact fun _ _ _ => rfl | (intro G G' h; simp (decide := true) only [h])) ?_ | refine c_not_wanted (fun _ => rfl) rfl ?_ | (refine c_givesB rfl (fun _ => rfl) rfl (fun _ => rfl) (fun _ => rfl) (fun _ _ _ q => in1 _ _ _ _ _ _ (src_one (enc := encI) (by exact rfl) _ q.below q.own)) (fun h => ?_) (fun h => ?_) <;> ((try simp only [inB_iff, inB_no, knownB_iff, knownB_no] at h); (try (exfalso; omega)))) | refine c_val _ (fun _ => e_not rfl rfl) (fun _ => rfl) rfl (by first | exact fun _ _ _ => rfl | (intro G G' h; simp (decide := true) only [h])) ?_ | refine c_val _ (fun _ => e_sub rfl rfl rfl (IntWalk.i64_in _ (by omega))) (fun _ => rfl) rfl (by first | exact fun _ _ _ => rfl | (intro G G' h; simp (decide := true) only [h])) ?_ | refine c_val _ (fun _ => e_len rfl rfl) (fun _ => rfl) rfl (by first | exact fun _ _ _ => rfl | (intro G G' h; simp (decide := true) only [h])) ?_ | refine c_buildSlice rfl (fun _ => rfl) rfl (fun _ => rfl) (by exact rfl) (by exact fun _ => rfl) (by first | exact fun _ _ _ => rfl | (intro G G' h; simp (decide := true) only [h])) ?_) | (with_reducible refine c_nil ?_)))
    (intro G; simp only [regsT, entsT, Pend.at_none, List.nil_append, List.cons_append])
    (repeat' (first | (with_reducible first | refine u_then_n ?_ | refine u_ret ?_)))
    exact u_done (by (exact ResL.cons (by exact Res1.tmp rfl) ResL.nil)) () trivial rfl (fun _ h => h.sub (by (repeat (first | exact Out.nil _ | (refine Out.cons (by (repeat (first | exact Take.here _ _ | apply Take.there))) ?_)))))
end Go.Proofs.Ytekjkaoibcfgfaa
