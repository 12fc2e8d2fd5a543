/- What the functions of layer 1 compute, in plain Lean: no program in sight. -/
import Derived.Test.YtekjkaoibcfgfaaData
namespace Go.Proofs.Ytekjkaoibcfgfaa

def inB (lo hi n : Int) : Bool := decide (lo ≤ n ∧ n ≤ hi)
def knownB (s : Sp) (lo hi : Int) : Bool := inB lo hi s.lo && inB lo hi s.hi && decide (s.lo ≤ s.hi)
/-- a stretch behind one with an Id -/
def stOk (last : Int) (s : St) : Bool :=
  inB (last + 1) 9999 s.id && knownB s.long 1 30000 && knownB s.fall 0 5000 && inB 0 5000 s.wall &&
    (decide (s.side = 0) && eqSp s.radius ⟨0, 0⟩ || inB 1 2 s.side && knownB s.radius 500 20000)
def okFrom (last : Int) : List St → Bool
  | [] => true
  | s :: r => stOk last s && okFrom s.id r
def valid (t : List St) : Bool := inB 1 12 t.length && okFrom (-1) t

theorem inB_iff {lo hi n : Int} : inB lo hi n = true ↔ lo ≤ n ∧ n ≤ hi := by simp [inB]
theorem inB_no {lo hi n : Int} : inB lo hi n = false ↔ ¬ (lo ≤ n ∧ n ≤ hi) := by simp [inB]
theorem knownB_iff {s : Sp} {lo hi : Int} : knownB s lo hi = true ↔ lo ≤ s.lo ∧ s.lo ≤ s.hi ∧ s.hi ≤ hi := by
  simp [knownB, inB]; omega

/-- the bytes of a track are bytes -/
def FitT (t : List St) : Prop := ∀ s ∈ t, 0 ≤ s.side ∧ s.side ≤ 255

theorem knownB_no {s : Sp} {lo hi : Int} : knownB s lo hi = false ↔ ¬ (lo ≤ s.lo ∧ s.lo ≤ s.hi ∧ s.hi ≤ hi) := by
  rw [← knownB_iff]; simp
theorem eqSp_iff {a b : Sp} : eqSp a b = true ↔ a.lo = b.lo ∧ a.hi = b.hi := by
  cases a; cases b; simp [eqSp]
theorem eqSp_no {a b : Sp} : eqSp a b = false ↔ ¬ (a.lo = b.lo ∧ a.hi = b.hi) := by
  rw [← eqSp_iff]; simp

/-- what validity gives of each stretch -/
structure Okay (s : St) : Prop where
  id0 : 0 ≤ s.id
  id1 : s.id ≤ 9999
  l0 : 1 ≤ s.long.lo
  l1 : s.long.lo ≤ s.long.hi
  l2 : s.long.hi ≤ 30000
  f0 : 0 ≤ s.fall.lo
  f1 : s.fall.lo ≤ s.fall.hi
  f2 : s.fall.hi ≤ 5000

theorem stOk_okay {last : Int} {s : St} (h : stOk last s = true) (hl : -1 ≤ last) : Okay s ∧ last < s.id := by
  simp only [stOk, Bool.and_eq_true, inB_iff, knownB_iff] at h
  obtain ⟨⟨⟨⟨h1, h2⟩, h3⟩, _⟩, _⟩ := h
  exact ⟨⟨by omega, by omega, by omega, by omega, by omega, by omega, by omega, by omega⟩, by omega⟩
theorem okFrom_okay {t : List St} : ∀ {last : Int}, okFrom last t = true → -1 ≤ last → ∀ s ∈ t, Okay s ∧ last < s.id := by
  induction t with
  | nil => intro _ _ _ s hs; cases hs
  | cons x r ih =>
    intro last h hl s hs
    simp only [okFrom, Bool.and_eq_true] at h
    have hx := stOk_okay h.1 hl
    rcases List.mem_cons.1 hs with rfl | hm
    · exact hx
    · have := ih h.2 (by have := hx.1.id0; omega) s hm
      exact ⟨this.1, by have := hx.2; omega⟩
theorem valid_okay {t : List St} (h : valid t = true) : ∀ s ∈ t, Okay s := by
  simp only [valid, Bool.and_eq_true] at h
  exact fun s hs => (okFrom_okay h.2 (by omega) s hs).1
theorem valid_len {t : List St} (h : valid t = true) : 1 ≤ t.length ∧ t.length ≤ 12 := by
  simp only [valid, Bool.and_eq_true, inB_iff] at h
  omega

def addSp (a b : Sp) : Sp := ⟨a.lo + b.lo, a.hi + b.hi⟩
/-- numbers that stay far from where they would wrap -/
def near (B : Int) (s : Sp) : Prop := -B ≤ s.lo ∧ s.lo ≤ B ∧ -B ≤ s.hi ∧ s.hi ≤ B
def sumSp (l : List Sp) : Sp := l.foldl addSp ⟨0, 0⟩
def longs (t : List St) : List Sp := t.map (·.long)
def falls (t : List St) : List Sp := t.map (·.fall)
/-- how long, and by how much it falls, from mark to mark -/
def longBetween (t : List St) (i j : Nat) : Sp := sumSp ((longs t).extract i j)
def fallBetween (t : List St) (i j : Nat) : Sp := sumSp ((falls t).extract i j)
def mark (t : List St) (i : Nat) : Sp := longBetween t 0 i
def marks (t : List St) : List Sp := (List.range (t.length + 1)).map (mark t)
end Go.Proofs.Ytekjkaoibcfgfaa
