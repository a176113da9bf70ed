/-
  Parts of arrays: the functions that read one part or a row of them. Conditions: none.
  Parts of arrays: the search through a row of parts. Conditions: none.
  Parts of arrays: the cells of a part. Conditions: none.
  Rows out of iterators. Conditions: none.
  Parts of arrays: who has a cell. Conditions: none.
  Parts of arrays: Fill. Conditions: none.
  Maps that count. Conditions: none.
  Parts of arrays: how many parts have each cell. Conditions: none.
  Parts of arrays: the misses. Conditions: none.
  Parts of arrays: Misses and First. Conditions: none.
  Parts of arrays: Misses, First, Sizes. Conditions: none.
  Parts of arrays: Least, Slim. Conditions: none.
  Parts of arrays: Slim. Conditions: none.
-/
import Derived.Test.YtodbhbjjeamoaaaCm3
import Derived.Test.YtodbhbjjeamoaaaIc
set_option linter.unusedSimpArgs false
set_option linter.unusedVariables false

section
open Go.Proofs
namespace Go.Cm

theorem mixed : Try.prog.follows .mixedOrders = true := by kernel_rfl

theorem inr64 {x : Int} (h1 : -9223372036854775808 ≤ x) (h2 : x ≤ 9223372036854775807) : InR .i64 x := ⟨h1, h2⟩

/-- A part. -/
structure Pt where
  fs : Bool
  fn : Int
  ts : Bool
  tn : Int
  st : Int
  deriving DecidableEq

def Pt.cv (p : Pt) : List CV := [.bool p.fs, .int .i64 p.fn, .bool p.ts, .int .i64 p.tn, .int .i64 p.st]

def isSz (n : Int) : Bool := decide (0 ≤ n) && decide (n ≤ 100)
def Pt.ok (p : Pt) : Bool := (decide (1 ≤ p.st) && decide (p.st ≤ 9)) && isSz p.fn && isSz p.tn
def bval (b : Bool) (k n : Int) : Int := if b then n - k else k
def Pt.first (p : Pt) (n : Int) : Int := bval p.fs p.fn n
def Pt.last (p : Pt) (n : Int) : Int := bval p.ts p.tn n
def Pt.has (p : Pt) (n i : Int) : Bool := decide (p.first n ≤ i) && decide (i ≤ p.last n) && decide ((i - p.first n).tmod p.st = 0)
/-- What a walk over parts needs to know of one. -/
structure Pt.Fit (p : Pt) (n : Int) : Prop where
  f : InR .i64 (n - p.fn)
  t : InR .i64 (n - p.tn)

theorem s46 (lo hi n : Int) : Fn Try.prog 46 [.int .i64 lo, .int .i64 hi, .int .i64 n] (.bool (decide (lo ≤ n) && decide (n ≤ hi))) := by
  refine fn_of_code c46_ok rfl rfl fun N => ?_
  simp (config := {contextual := true}) only [c46, go_sem]

theorem s45 (n : Int) : Fn Try.prog 45 [.int .i64 n] (.bool (isSz n)) := by
  refine fn_of_code c45_ok rfl rfl fun N => ?_
  simp (config := {contextual := true}) only [c45, go_sem]
  refine vr_f (s46 _ _ _) ?_
  simp (config := {contextual := true}) only [go_sem, isSz]

theorem s49 (p : Pt) : Fn Try.prog 49 [.agg p.cv] (.bool p.ok) := by
  refine fn_of_code c49_ok rfl rfl fun N => ?_
  simp (config := {contextual := true}) only [c49, go_sem, Pt.cv]
  refine vr_f (s46 _ _ _) ?_
  simp (config := {contextual := true}) only [go_sem]
  refine ⟨fun h => ?_, fun h => ?_⟩
  · refine vr_fg (gok ?_) (s45 _) ?_
    · simp only [go_sem]
    simp (config := {contextual := true}) only [go_sem]
    refine ⟨fun h2 => ?_, fun h2 => ?_⟩
    · refine vr_fg (gok ?_) (s45 _) ?_
      · simp only [go_sem]
      simp only [go_sem, h2, Pt.ok, h]
    · simp only [go_sem, h2, Pt.ok, h]
  · simp only [go_sem, h, Pt.ok]

theorem s58 (p : Pt) : Fn Try.prog 58 [.agg p.cv] (.bool !p.ok) := by
  refine fn_of_code c58_ok rfl rfl fun N => ?_
  simp (config := {contextual := true}) only [c58, go_sem, Pt.cv]
  refine vr_f (s49 p) ?_
  simp only [go_sem]

theorem s67 (b : Bool) (k n : Int) (h : InR .i64 (n - k)) : Fn Try.prog 67 [.agg [.bool b, .int .i64 k], .int .i64 n] (.int .i64 (bval b k n)) := by
  refine fn_of_code c67_ok rfl rfl fun N => ?_
  simp (config := {contextual := true}) only [c67, go_sem, h, bval]

theorem s65 (p : Pt) (n : Int) (h : p.Fit n) : Fn Try.prog 65 [.agg (p.cv ++ [.int .i64 n])] (.int .i64 (p.first n)) := by
  refine fn_of_code c65_ok rfl rfl fun N => ?_
  simp (config := {contextual := true}) only [c65, go_sem, Pt.cv]
  refine vr_f (s67 _ _ _ h.f) ?_
  simp only [go_sem, Pt.first]

theorem s66 (p : Pt) (n : Int) (h : p.Fit n) : Fn Try.prog 66 [.agg (p.cv ++ [.int .i64 n])] (.int .i64 (p.last n)) := by
  refine fn_of_code c66_ok rfl rfl fun N => ?_
  simp (config := {contextual := true}) only [c66, go_sem, Pt.cv]
  refine vr_f (s67 _ _ _ h.t) ?_
  simp only [go_sem, Pt.last]

theorem s63 (p : Pt) (n i : Int) (h : p.Fit n) (hst : p.st ≠ 0) (hi : InR .i64 (i - p.first n)) : Fn Try.prog 63 [.agg (p.cv ++ [.int .i64 n]), .int .i64 i] (.bool (p.has n i)) := by
  refine fn_of_code c63_ok rfl rfl fun N => ?_
  simp (config := {contextual := true}) only [c63, go_sem, Pt.cv]
  refine vr_dreg mixed (by decide) ?_
  simp only [go_sem]
  refine vd_call (.inl rfl) (s65 p n h) ?_
  simp only [go_sem]
  refine vd_call (.inl rfl) (s66 p n h) ?_
  simp only [go_sem]
  refine vd_call (.inl rfl) (s46 _ _ _) ?_
  simp only [go_sem]
  refine ⟨fun h1 => ?_, fun h1 => ?_⟩
  · simp only [go_sem, h1]
    refine vd_call (gok ?_) (s65 p n h) ?_
    · simp only [go_sem]
    simp only [go_sem, hi, Pt.has, h1]
    refine ⟨hst, ?_⟩
    rw [show ((i - p.first n).tmod p.st == 0) = decide ((i - p.first n).tmod p.st = 0) from rfl]
  · simp only [go_sem, h1, Pt.has]

end Go.Cm
end

section
open Go.Proofs
namespace Go.Cm

def findAt (q : Pt → Bool) : List Pt → Nat → Int
  | [], _ => -1
  | p :: l, i => if q p then i else findAt q l (i + 1)

theorem getD_map {α : Type} {β : Type} {f : α → β} {l : List α} {i : Nat} {a : α} {d : β} (h : l[i]? = some a) : (l.map f).getD i d = f a := by
  simp [List.getD_eq_getElem?_getD, h]

theorem findAt_step {q : Pt → Bool} {l : List Pt} {i : Nat} {p : Pt} (h : l[i]? = some p) : findAt q (l.drop i) i = if q p then (i : Int) else findAt q (l.drop (i + 1)) (i + 1) := by
  have hlt := (List.getElem?_eq_some_iff.1 h).1
  have hp := (List.getElem?_eq_some_iff.1 h).2
  rw [List.drop_eq_getElem_cons hlt, hp]; rfl

theorem s61 {f : Nat} {l1 l2 : List CV} {F : IFunc} (l : List Pt) (q : Pt → Bool) (cap : Option Nat) (hF : compFn Try.prog f = some F) (hnm : (Try.prog.funcs[f]?.map (·.name)) ≠ some "runtime.NumGoroutine") (hc1 : closedL l1 = true) (hc2 : closedL l2 = true)
    (hq : ∀ p ∈ l, Fn Try.prog f (l1 ++ [.agg p.cv] ++ l2) (.bool (q p))) (hlen : l.length ≤ 1000) : Fn Try.prog 61 [.rslc 5 (l.map Pt.cv) cap, .fn f l1 l2] (.int .i64 (findAt q l 0)) := by
  refine fn_of_code c61_ok (by simp [closedL, CV.closed, hc1, hc2]) rfl fun N => ?_
  simp (config := {contextual := true}) only [c61, go_sem, List.length_map]
  refine vr_loop (I := fun i : Nat => i ≤ l.length ∧ findAt q l 0 = findAt q (l.drop i) i) (inv := fun i => [.rslc 5 (l.map Pt.cv) cap, .fn f l1 l2, .un, .un, .un, .un, .un, .int .i64 (l.length : Int), .int .i64 (i : Int), .un, .un, .un, .un, .un, .un, .un, .un, .un, .un]) (hp := fun _ => []) (μ := fun i => l.length - i) 0 ?_ ?_ rfl ?_
  · simp
  · simp [forget]
  · rintro i ⟨hi, hinv⟩
    simp (config := {contextual := true}) only [go_sem, List.length_map]
    refine ⟨fun h => ?_, fun h => ?_⟩
    · have hlt : i < l.length := by omega
      obtain ⟨p, hp⟩ : ∃ p, l[i]? = some p := ⟨_, List.getElem?_eq_getElem hlt⟩
      rw [findAt_step hp] at hinv
      rw [getD_map hp]
      refine ⟨by omega, by simp [Pt.cv], ?_⟩
      refine vr_fv (.inl rfl) rfl hF hnm (hq p (List.mem_of_getElem? hp)) ?_
      simp only [go_sem]
      refine ⟨fun h2 => ?_, fun h2 => ?_⟩
      · rw [hinv, if_pos h2]
      · rw [h2] at hinv
        refine ⟨inr64 (by omega) (by omega), i + 1, ⟨by omega, by simpa using hinv⟩, by omega, ?_⟩
        simp [forget]
    · have : i = l.length := by omega
      subst this
      rw [hinv]; simp [findAt]

theorem findAt_neg {q : Pt → Bool} : ∀ (l : List Pt) (i : Nat), findAt q l i < 0 ↔ l.all (fun p => !q p) = true
  | [], _ => by simp [findAt]
  | p :: l, i => by
    have := findAt_neg (q := q) l (i + 1)
    simp only [findAt, List.all_cons, Bool.and_eq_true, Bool.not_eq_true']
    by_cases h : q p = true
    · simp only [h, if_true, Bool.true_eq_false, false_and, iff_false]; omega
    · have h' : q p = false := by simpa using h
      rw [if_neg h, this]; simp [h']

theorem s59 {f : Nat} {l1 l2 : List CV} {F : IFunc} (l : List Pt) (q : Pt → Bool) (cap : Option Nat) (hF : compFn Try.prog f = some F) (hnm : (Try.prog.funcs[f]?.map (·.name)) ≠ some "runtime.NumGoroutine") (hc1 : closedL l1 = true) (hc2 : closedL l2 = true)
    (hq : ∀ p ∈ l, Fn Try.prog f (l1 ++ [.agg p.cv] ++ l2) (.bool (q p))) (hlen : l.length ≤ 1000) : Fn Try.prog 59 [.rslc 5 (l.map Pt.cv) cap, .fn f l1 l2] (.bool (l.any q)) := by
  refine fn_of_code c59_ok (by simp [closedL, CV.closed, hc1, hc2]) rfl fun N => ?_
  simp (config := {contextual := true}) only [c59, go_sem]
  refine vr_f (s61 l q cap hF hnm hc1 hc2 hq hlen) ?_
  simp (config := {contextual := true}) only [go_sem]
  congr 1
  have h := findAt_neg (q := q) l 0
  by_cases h2 : l.any q = true
  · rw [h2, decide_eq_true_eq]
    refine Classical.byContradiction fun h3 => ?_
    have := h.1 (by omega)
    rw [List.all_eq_true] at this
    obtain ⟨p, hp, hq⟩ := List.any_eq_true.1 h2
    have := this p hp
    simp [hq] at this
  · have h4 : l.any q = false := by simpa using h2
    rw [h4, decide_eq_false_iff_not]
    have := h.2 (by
      rw [List.all_eq_true]
      intro p hp
      rw [List.any_eq_false] at h4
      simpa using h4 p hp)
    omega

/-- Parts are valid. -/
def ptsOk (l : List Pt) : Bool := decide (l.length ≤ 12) && l.all Pt.ok

theorem name58 : (Try.prog.funcs[58]?.map (·.name)) ≠ some "runtime.NumGoroutine" := by
  have : Try.prog.funcs[58]?.map (·.name) = some "floodgate/region.areParts$1" := by kernel_rfl
  rw [this]; simp

theorem s42 (l : List Pt) (cap : Option Nat) (hlen : l.length ≤ 1000) : Fn Try.prog 42 [.rslc 5 (l.map Pt.cv) cap] (.bool (ptsOk l)) := by
  refine fn_of_code c42_ok rfl rfl fun N => ?_
  simp (config := {contextual := true}) only [c42, go_sem, List.length_map]
  refine ⟨fun h => ?_, fun h => ?_⟩
  · refine vr_fg (gok ?_) (s59 l (fun p => !p.ok) cap c58_ok name58 rfl rfl (fun p _ => s58 p) hlen) ?_
    · simp only [go_sem]
    simp only [go_sem]
    congr 1
    have : l.length ≤ 12 := by omega
    simp [ptsOk, this, List.not_any_eq_all_not]
  · have : ¬ l.length ≤ 12 := by omega
    simp [ptsOk, this]

/-- The error of parts and a size. -/
def chk (l : List Pt) (n : Int) : Int := if ptsOk l then (if isSz n then 0 else 3) else 2

theorem s36 (l : List Pt) (cap : Option Nat) (n : Int) (hlen : l.length ≤ 1000) : Fn Try.prog 36 [.rslc 5 (l.map Pt.cv) cap, .int .i64 n] (.int .i64 (chk l n)) := by
  refine fn_of_code c36_ok rfl rfl fun N => ?_
  simp (config := {contextual := true}) only [c36, go_sem]
  refine vr_f (s42 l cap hlen) ?_
  simp (config := {contextual := true}) only [go_sem]
  refine ⟨fun h => ?_, fun h => ?_⟩
  · have h' : ptsOk l = false := by simpa using h
    simp [chk, h']
  · have h' : ptsOk l = true := by simpa using h
    refine vr_f (s45 n) ?_
    simp (config := {contextual := true}) only [go_sem]
    refine ⟨fun h2 => ?_, fun h2 => ?_⟩
    · have h2' : isSz n = false := by simpa using h2
      simp [chk, h', h2']
    · have h2' : isSz n = true := by simpa using h2
      simp [chk, h', h2']

end Go.Cm
end

section
open Go.Proofs
namespace Go.Cm

def Pt.count (p : Pt) (n : Int) : Nat := ((p.last n - p.first n + p.st) / p.st).toNat
def Pt.at (p : Pt) (n : Int) (s : Nat) : Int := p.first n + s * p.st
def Pt.cells (p : Pt) (n : Int) : List Int := (List.range (p.count n)).map (p.at n)

theorem lt_count {p : Pt} {n : Int} {s : Nat} (h : 0 < p.st) : s < p.count n ↔ p.at n s ≤ p.last n := by
  unfold Pt.count Pt.at
  rw [Int.lt_toNat, ← Int.add_one_le_iff, Int.le_ediv_iff_mul_le h, Int.add_mul, Int.one_mul]
  omega

theorem cells_get {p : Pt} {n : Int} {s : Nat} (h : s < p.count n) : (p.cells n)[s]? = some (p.at n s) := by
  simp [Pt.cells, h]

def ints (l : List Int) : List (List CV) := l.map fun i => [.int .i64 i]

theorem cells_length {p : Pt} {n : Int} : (p.cells n).length = p.count n := by simp [Pt.cells]

/-- What the arithmetic of a part with a size needs. -/
structure Pt.Small (p : Pt) (n : Int) : Prop where
  st : 1 ≤ p.st ∧ p.st ≤ 9
  fn : 0 ≤ p.fn ∧ p.fn ≤ 100
  tn : 0 ≤ p.tn ∧ p.tn ≤ 100
  n : 0 ≤ n ∧ n ≤ 200

theorem Pt.Small.fit {p : Pt} {n : Int} (h : p.Small n) : p.Fit n := by
  obtain ⟨_, ⟨_, _⟩, ⟨_, _⟩, _, _⟩ := h
  exact ⟨inr64 (by omega) (by omega), inr64 (by omega) (by omega)⟩

theorem Pt.Small.first {p : Pt} {n : Int} (h : p.Small n) : -100 ≤ p.first n ∧ p.first n ≤ 200 := by
  obtain ⟨_, ⟨_, _⟩, ⟨_, _⟩, _, _⟩ := h
  unfold Pt.first bval; split <;> omega

theorem Pt.Small.last {p : Pt} {n : Int} (h : p.Small n) : -100 ≤ p.last n ∧ p.last n ≤ 200 := by
  obtain ⟨_, ⟨_, _⟩, ⟨_, _⟩, _, _⟩ := h
  unfold Pt.last bval; split <;> omega

theorem s51 (p : Pt) (n : Int) (h : p.Small n) : Iter Try.prog 51 [.agg (p.cv ++ [.int .i64 n])] [] (ints (p.cells n)) := by
  intro E l hy
  have hst : 0 < p.st := by have := h.st; omega
  refine vr_fn c51_ok fun N => ?_
  simp (config := {contextual := true}) only [c51, go_sem, Pt.cv]
  refine vr_f (s65 p n h.fit) ?_
  simp (config := {contextual := true}) only [go_sem]
  refine vr_loop (I := fun s : Nat => s ≤ p.count n) (inv := fun s => [.un, .yld l, .ptr 1 0 0, .un, .int .i64 (p.at n s), .un, .un, .un, .un, .un, .un, .un, .un, .un, .un, .un, .un, .un, .un, .un]) (hp := fun s => [.ext s true, .arr 6 [p.cv ++ [.int .i64 n]]]) (μ := fun s => p.count n - s) 0 (by omega) ?_ rfl ?_
  · simp [forget, Pt.at]
  · intro s hs
    simp (config := {contextual := true}) only [go_sem, Pt.cv]
    refine vr_f (s66 p n h.fit) ?_
    simp (config := {contextual := true}) only [go_sem, Pt.cv]
    refine ⟨fun h1 => ?_, fun h1 => ?_⟩
    · have hlt := (lt_count hst).2 h1
      refine vr_yield (i := 0) (s := s) (.inl rfl) rfl hy rfl (fun k s b hk => ?_) ?_ rfl fun c => ?_
      · rcases k with _ | _ | k
        · rfl
        · simp at hk
        · simp at hk
      · simp only [go_sem, ints, List.getElem?_map, cells_get hlt]
      · have h2 := h.first
        have h3 := h.last
        have h4 := h.st
        have h5 : p.at n (s + 1) = p.at n s + p.st := by unfold Pt.at; rw [Int.natCast_add, Int.add_mul]; simp [Int.add_assoc]
        cases c
        · simp (config := {contextual := true}) only [go_sem]
          exact .inr ⟨_, rfl⟩
        · simp (config := {contextual := true}) only [go_sem]
          have : -100 ≤ p.at n s := by unfold Pt.at; have : 0 ≤ (s : Int) * p.st := Int.mul_nonneg (by omega) (by omega); omega
          refine ⟨inr64 (by omega) (by omega), s + 1, by omega, by omega, ?_⟩
          simp [forget, h5, Pt.cv]
    · have hge : ¬ s < p.count n := fun hh => h1 ((lt_count hst).1 hh)
      have : s = p.count n := by omega
      refine .inl ?_
      simp [ints, cells_length, this]

end Go.Cm
end

section
open Go.Proofs
namespace Go.Cm

theorem ints_take {xs : List Int} {s : Nat} {x : Int} (h : xs[s]? = some x) : ints (xs.take s) ++ [[.int .i64 x]] = ints (xs.take (s + 1)) := by
  have hlt := (List.getElem?_eq_some_iff.1 h).1
  have hx := (List.getElem?_eq_some_iff.1 h).2
  rw [List.take_succ_eq_append_getElem hlt, hx]; simp [ints]

theorem ints_len {xs : List Int} : (ints xs).length = xs.length := by simp [ints]

theorem closedEls_ints (xs : List Int) : closedEls (ints xs) = true := by
  induction xs with
  | nil => rfl
  | cons x xs ih => simp [ints, closedEls, closedL, CV.closed] at ih ⊢; exact ih

/-- The heap of a row that is built round by round. -/
def rowH (xs : List Int) : Nat → List CObj → List CObj
  | 0, _ => [.arr 1 [[.nils]]]
  | s + 1, g => .arr 1 [[.slc (g.length + 1) 0 (s + 1) none]] :: (g ++ [.arr 1 (ints (xs.take (s + 1)))])

theorem s64 {g : Nat} {l1 l2 : List CV} {F : IFunc} (xs : List Int) (hit : Iter Try.prog g l1 l2 (ints xs)) (hF : compFn Try.prog g = some F) (hnm : (Try.prog.funcs[g]?.map (·.name)) ≠ some "runtime.NumGoroutine") (hc1 : closedL l1 = true) (hc2 : closedL l2 = true) (hlen : xs.length ≤ 1000) :
    Fn Try.prog 64 [.nils, .fn g l1 l2] (.rslc 1 (ints xs) none) := by
  have main : CallsC Try.prog Env.none 64 [.nils, .fn g l1 l2] [] fun v H' => (ints xs = [] ∧ v = .nils) ∨ ∃ id, H'[id]? = some (.arr 1 (ints xs)) ∧ ∃ cap, v = .slc id 0 (ints xs).length cap := by
    refine vr_fn c64_ok fun N => ?_
    simp (config := {contextual := true}) only [c64, go_sem]
    refine vr_rfuncE (rowH xs) [] rfl rfl hc1 hc2 hF hnm hit (by simp [ints]) rfl ?_ ?_
    · intro s γ c hc
      have hx : ∃ x, xs[s]? = some x ∧ c = [.int .i64 x] := by
        simp only [ints, List.getElem?_map] at hc
        cases hxs : xs[s]? with
        | none => simp [hxs] at hc
        | some x => simp [hxs] at hc; exact ⟨x, rfl, hc.symm⟩
      obtain ⟨x, hx, rfl⟩ := hx
      have hlt := (List.getElem?_eq_some_iff.1 hx).1
      cases s with
      | zero =>
        simp (config := {contextual := true}) only [go_sem, rowH, roomOk]
        have h1 := ints_take hx
        exact ⟨[.arr 1 [[.int .i64 x]]], by rw [← h1]; simp [ints]⟩
      | succ s =>
        have hl : (ints (xs.take (s + 1))).length = s + 1 := by rw [ints_len, List.length_take]; omega
        simp (config := {contextual := true}) only [go_sem, rowH, roomOk, hl]
        have h1 := ints_take hx
        exact ⟨⟨by omega, by omega⟩, γ ++ [.dead, .arr 1 [[.int .i64 x]]], by rw [h1]; simp⟩
    · intro γ
      rw [ints_len]
      cases hxl : xs.length with
      | zero =>
        simp (config := {contextual := true}) only [go_sem, rowH]
        rw [List.eq_nil_of_length_eq_zero hxl]; exact .inl rfl
      | succ s =>
        simp (config := {contextual := true}) only [go_sem, rowH]
        refine ⟨γ.length + 1, ?_, none, rfl⟩
        rw [← hxl, List.take_length]
        simp
  exact fn_of_row main (by simp [closedL, CV.closed, hc1, hc2]) (closedEls_ints xs)

theorem s50 {g : Nat} {l1 l2 : List CV} {F : IFunc} (xs : List Int) (hit : Iter Try.prog g l1 l2 (ints xs)) (hF : compFn Try.prog g = some F) (hnm : (Try.prog.funcs[g]?.map (·.name)) ≠ some "runtime.NumGoroutine") (hc1 : closedL l1 = true) (hc2 : closedL l2 = true) (hlen : xs.length ≤ 1000) :
    Fn Try.prog 50 [.fn g l1 l2] (.rslc 1 (ints xs) none) := by
  refine fn_of_code c50_ok (by simp [closedL, CV.closed, hc1, hc2]) rfl fun N => ?_
  simp (config := {contextual := true}) only [c50, go_sem]
  refine vr_f (s64 xs hit hF hnm hc1 hc2 hlen) ?_
  simp (config := {contextual := true}) only [go_sem]

theorem count_le {p : Pt} {n : Int} (h : p.Small n) : p.count n ≤ 400 := by
  refine Classical.byContradiction fun hn => ?_
  have h1 := (lt_count (p := p) (n := n) (s := 400) (by have := h.st; omega)).1 (by omega)
  have h2 := h.first
  have h3 := h.last
  have h4 := h.st
  unfold Pt.at at h1
  omega

theorem name51 : (Try.prog.funcs[51]?.map (·.name)) ≠ some "runtime.NumGoroutine" := by
  have : Try.prog.funcs[51]?.map (·.name) = some "(floodgate/region.sized).cells" := by kernel_rfl
  rw [this]; simp

theorem small_of {p : Pt} {n : Int} (h1 : p.ok = true) (h2 : isSz n = true) : p.Small n := by
  simp only [Pt.ok, isSz, Bool.and_eq_true, decide_eq_true_eq] at h1 h2
  exact ⟨h1.1.1, h1.1.2, h1.2, h2.1, by omega⟩

/-- Cells. -/
theorem s27 (p : Pt) (n : Int) : Fn Try.prog 27 [.agg p.cv, .int .i64 n] (if p.ok then (if isSz n then .tup [.rslc 1 (ints (p.cells n)) none, .int .i64 0] else .tup [.nils, .int .i64 3]) else .tup [.nils, .int .i64 2]) := by
  refine fn_of_code c27_ok rfl (by split; · split <;> rfl
                                   · rfl) fun N => ?_
  simp (config := {contextual := true}) only [c27, go_sem, Pt.cv]
  refine vr_f (s49 p) ?_
  simp (config := {contextual := true}) only [go_sem]
  refine ⟨fun h => ?_, fun h => ?_⟩
  · have h' : p.ok = false := by simpa using h
    simp [h']
  · have h' : p.ok = true := by simpa using h
    refine vr_f (s45 n) ?_
    simp (config := {contextual := true}) only [go_sem]
    refine ⟨fun h2 => ?_, fun h2 => ?_⟩
    · have h2' : isSz n = false := by simpa using h2
      simp [h', h2']
    · have h2' : isSz n = true := by simpa using h2
      have hs := small_of h' h2'
      refine vr_f (s50 (p.cells n) (s51 p n hs) c51_ok name51 rfl rfl (by rw [cells_length]; have := count_le hs; omega)) ?_
      simp (config := {contextual := true}) only [go_sem, h', h2']

end Go.Cm
end

section
open Go.Proofs
namespace Go.Cm

theorem s62 (p : Pt) (n i : Int) (h : p.Small n) (hi : -1000 ≤ i ∧ i ≤ 1000) : Fn Try.prog 62 [.agg p.cv, .rptr [.int .i64 n], .rptr [.int .i64 i]] (.bool (p.has n i)) := by
  refine fn_of_code c62_ok rfl rfl fun N => ?_
  simp (config := {contextual := true}) only [c62, go_sem, Pt.cv]
  have h1 := h.first
  refine vr_f (s63 p n i h.fit (by have := h.st; omega) (inr64 (by omega) (by omega))) ?_
  simp (config := {contextual := true}) only [go_sem]

theorem name62 : (Try.prog.funcs[62]?.map (·.name)) ≠ some "runtime.NumGoroutine" := by
  have : Try.prog.funcs[62]?.map (·.name) = some "floodgate/region.who$1" := by kernel_rfl
  rw [this]; simp

theorem s47 (l : List Pt) (cap : Option Nat) (n i : Int) (h : ∀ p ∈ l, p.Small n) (hi : -1000 ≤ i ∧ i ≤ 1000) (hlen : l.length ≤ 1000) : Fn Try.prog 47 [.rslc 5 (l.map Pt.cv) cap, .int .i64 n, .int .i64 i] (.int .i64 (findAt (fun p => p.has n i) l 0)) := by
  refine fn_of_code c47_ok rfl rfl fun N => ?_
  simp (config := {contextual := true}) only [c47, go_sem]
  refine vr_freeze (id := 0) (z := 1) (els := [[.int .i64 n]]) rfl rfl ?_
  simp only [go_sem, frzL, frzH, frz, frzO]
  refine vr_freeze (id := 1) (z := 1) (els := [[.int .i64 i]]) rfl rfl ?_
  simp only [go_sem, frzL, frzH, frz, frzO]
  refine vr_f (s61 l (fun p => p.has n i) cap c62_ok name62 rfl rfl (fun p hp => s62 p n i (h p hp) hi) hlen) ?_
  simp (config := {contextual := true}) only [go_sem]

/-- The first part that has a cell; -1 if none has. -/
def whoOf (l : List Pt) (n i : Int) : Int := findAt (fun p => p.has n i) l 0

theorem smalls_of {l : List Pt} {n : Int} (h1 : ptsOk l = true) (h2 : isSz n = true) : ∀ p ∈ l, p.Small n := by
  intro p hp
  simp only [ptsOk, Bool.and_eq_true, List.all_eq_true] at h1
  exact small_of (h1.2 p hp) h2

theorem chk_zero {l : List Pt} {n : Int} (h : chk l n = 0) : ptsOk l = true ∧ isSz n = true := by
  unfold chk at h
  split at h
  · rename_i h1
    split at h
    · rename_i h2; exact ⟨h1, h2⟩
    · cases h
  · cases h

theorem findAt_range {q : Pt → Bool} : ∀ (l : List Pt) (i : Nat), -1 ≤ findAt q l i ∧ findAt q l i ≤ i + l.length
  | [], i => by simp only [findAt, List.length_nil]; omega
  | p :: l, i => by
    have := findAt_range (q := q) l (i + 1)
    simp only [findAt, List.length_cons]
    split <;> omega

theorem inr_sub1 {n : Int} (h : isSz n = true) : InR .i64 (n - 1) := by
  simp only [isSz, Bool.and_eq_true, decide_eq_true_eq] at h
  exact inr64 (by omega) (by omega)

/-- Who. -/
theorem s24 (l : List Pt) (cap : Option Nat) (n i : Int) (hlen : l.length ≤ 1000) : Fn Try.prog 24 [.rslc 5 (l.map Pt.cv) cap, .int .i64 n, .int .i64 i]
    (if chk l n = 0 then (if 0 ≤ i ∧ i < n then (if whoOf l n i = -1 then .tup [.int .i64 0, .int .i64 7] else .tup [.int .i64 (whoOf l n i), .int .i64 0]) else .tup [.int .i64 0, .int .i64 3]) else .tup [.int .i64 0, .int .i64 (chk l n)]) := by
  refine fn_of_code c24_ok rfl ?_ fun N => ?_
  · (repeat' split) <;> rfl
  simp (config := {contextual := true}) only [c24, go_sem]
  refine vr_f (s36 l cap n hlen) ?_
  simp (config := {contextual := true}) only [go_sem]
  refine ⟨fun h => ?_, fun h => ?_⟩
  · have h' : chk l n ≠ 0 := by simpa using h
    simp [h']
  · have h' : chk l n = 0 := by simpa using h
    obtain ⟨h1, h2⟩ := chk_zero h'
    have h3 := inr_sub1 h2
    refine ⟨h3, vr_f (s46 _ _ _) ?_⟩
    simp (config := {contextual := true}) only [go_sem]
    have h4 : n ≤ 100 := by simp only [isSz, Bool.and_eq_true, decide_eq_true_eq] at h2; omega
    refine ⟨fun h5 => ?_, fun h5 => ?_⟩
    · have h6 : ¬ (0 ≤ i ∧ i < n) := by simp at h5; omega
      simp [h', h6]
    · have h6 : 0 ≤ i ∧ i < n := by simp at h5; omega
      refine vr_f (s47 l cap n i (smalls_of h1 h2) (by omega) hlen) ?_
      simp (config := {contextual := true}) only [go_sem]
      refine ⟨fun h7 => ?_, fun h7 => ?_⟩
      · have h8 : whoOf l n i = -1 := by simpa [whoOf] using h7
        simp [h', h6, h8]
      · have h8 : ¬ whoOf l n i = -1 := by simpa [whoOf] using h7
        simp [h', h6, h8]; rfl

end Go.Cm
end

section
open Go.Proofs
namespace Go.Cm

/-- The first values of a sequence. -/
def upto (xs : Nat → Int) (s : Nat) : List Int := (List.range s).map xs
theorem upto_zero {xs : Nat → Int} : upto xs 0 = [] := rfl
theorem upto_len {xs : Nat → Int} {s : Nat} : (ints (upto xs s)).length = s := by simp [ints, upto]
theorem upto_succ {xs : Nat → Int} {s : Nat} : ints (upto xs s) ++ [[.int .i64 (xs s)]] = ints (upto xs (s + 1)) := by
  simp [ints, upto, List.range_succ]

/-- The heap of a row that is built in a slot, and the slot. -/
def bldH (xs : Nat → Int) : Nat → List CObj → List CObj
  | 0, _ => []
  | s + 1, g => g ++ [.arr 1 (ints (upto xs (s + 1)))]
def bldV : Nat → List CObj → CV
  | 0, _ => .nils
  | s + 1, g => .slc g.length 0 (s + 1) none

theorem s25 (l : List Pt) (cap : Option Nat) (n : Int) (hlen : l.length ≤ 1000) : Fn Try.prog 25 [.rslc 5 (l.map Pt.cv) cap, .int .i64 n]
    (if chk l n = 0 then .tup [.rslc 1 (ints (upto (fun (i : Nat) => whoOf l n i) n.toNat)) none, .int .i64 0] else .tup [.nils, .int .i64 (chk l n)]) := by
  by_cases h : chk l n = 0
  · rw [if_pos h]
    obtain ⟨h1, h2⟩ := chk_zero h
    have h3 : 0 ≤ n ∧ n ≤ 100 := by simp only [isSz, Bool.and_eq_true, decide_eq_true_eq] at h2; exact h2
    refine fn_of_row2 ?_ rfl (closedEls_ints _)
    refine vr_fn c25_ok fun N => ?_
    simp (config := {contextual := true}) only [c25, go_sem]
    refine vr_f (s36 l cap n hlen) ?_
    simp (config := {contextual := true}) only [go_sem, h]
    refine vr_loop (σ := Nat × List CObj) (I := fun s => (s.1 : Int) ≤ n) (inv := fun s => [.rslc 5 (l.map Pt.cv) cap, .int .i64 n, .un, .un, bldV s.1 s.2, .un, .un, .un, .un, .un, .un, .un, .un, .un, .int .i64 n, .int .i64 s.1, .un, .un, .un, .un, .un, .un, .un, .un, .un, .un, .un]) (hp := fun s => bldH (fun (i : Nat) => whoOf l n i) s.1 s.2) (μ := fun s => n.toNat - s.1) (0, []) h3.1 ?_ rfl ?_
    · simp [forget, bldV]
    · rintro ⟨s, g⟩ hs
      simp only at hs
      simp (config := {contextual := true}) only [go_sem]
      refine ⟨fun h5 => ?_, fun h5 => ?_⟩
      · refine vr_f (s47 l cap n s (smalls_of h1 h2) (by omega) hlen) ?_
        have hr := upto_succ (xs := fun (i : Nat) => whoOf l n i) (s := s)
        cases s with
        | zero =>
          simp (config := {contextual := true}) only [go_sem, bldH, bldV, roomOk]
          refine ⟨inr64 (by omega) (by omega), (1, [.arr 1 [[.int .i64 (whoOf l n (0 : Nat))]]]), by simp; omega, by simp; omega, ?_, ?_⟩
          · simp only [bldH]; rw [← hr]; rfl
          · simp [forget, bldV]
        | succ s =>
          simp (config := {contextual := true}) only [go_sem, bldH, bldV, roomOk, upto_len]
          refine ⟨⟨by omega, by omega⟩, inr64 (by omega) (by omega), (s + 2, g ++ [.dead, .arr 1 [[.int .i64 (whoOf l n ((s + 1 : Nat) : Int))]]]), by simp only []; omega, by simp only []; omega, ?_, ?_⟩
          · simp only []; rw [← hr]; simp [whoOf]
          · simp [forget]; omega
      · have h6 : n.toNat = s := by omega
        rw [h6]
        cases s with
        | zero => left; simp [upto_zero, ints, bldV]
        | succ s =>
          right
          refine ⟨g.length, ?_, none, ?_⟩
          · simp [bldH]
          · simp [bldV, upto_len]
  · rw [if_neg h]
    refine fn_of_code c25_ok rfl rfl fun N => ?_
    simp (config := {contextual := true}) only [c25, go_sem]
    refine vr_f (s36 l cap n hlen) ?_
    simp (config := {contextual := true}) only [go_sem]
    simp [h]

end Go.Cm
end

section
open Go.Proofs
namespace Go.Cm

def inc (k : Int) : List (Int × Int) → List (Int × Int)
  | [] => [(k, 1)]
  | (a, b) :: l => if a = k then (a, b + 1) :: l else (a, b) :: inc k l

def cnt (k : Int) : List (Int × Int) → Int
  | [] => 0
  | (a, b) :: l => if a = k then b else cnt k l

def enc (l : List (Int × Int)) : List (CV × CV) := l.map fun p => (.int .i64 p.1, .int .i64 p.2)

theorem fk (x : Int) : ∀ (l : List (Int × Int)) (i : Nat),
    (findKV .int (.int .i64 x) (enc l) i = some none ∧ cnt x l = 0 ∧ enc l ++ [(.int .i64 x, .int .i64 1)] = enc (inc x l)) ∨
    (∃ j, findKV .int (.int .i64 x) (enc l) i = some (some (i + j, .int .i64 (cnt x l))) ∧ (enc l).set j (.int .i64 x, .int .i64 (cnt x l + 1)) = enc (inc x l))
  | [], i => .inl ⟨rfl, rfl, rfl⟩
  | (a, b) :: l, i => by
    by_cases h : a = x
    · subst h
      refine .inr ⟨0, ?_, ?_⟩
      · simp [enc, findKV, keyEq, cnt]
      · simp [enc, inc, cnt]
    · have h' : (x == a) = false := by simpa using fun e => h e.symm
      rcases fk x l (i + 1) with ⟨h1, h2, h3⟩ | ⟨j, h1, h2⟩
      · refine .inl ⟨?_, ?_, ?_⟩
        · simpa [enc, findKV, keyEq, h'] using h1
        · simpa [cnt, h] using h2
        · simpa [enc, inc, h] using h3
      · refine .inr ⟨j + 1, ?_, ?_⟩
        · have : i + (j + 1) = i + 1 + j := by omega
          rw [this]
          simpa [enc, findKV, keyEq, h', cnt, h] using h1
        · simpa [enc, inc, cnt, h] using h2

theorem cnt_inc (x y : Int) : ∀ (l : List (Int × Int)), cnt y (inc x l) = cnt y l + if x = y then 1 else 0
  | [] => by simp [inc, cnt]
  | (a, b) :: l => by
    have := cnt_inc x y l
    by_cases h : a = x
    · subst h
      by_cases h2 : a = y
      · simp [inc, cnt, h2]
      · simp [inc, cnt, h2]
    · by_cases h2 : a = y
      · subst h2
        have : ¬ x = a := fun e => h e.symm
        simp [inc, cnt, h, this]
      · simp [inc, cnt, h, h2, this]

end Go.Cm
end

section
open Go.Proofs
namespace Go.Cm

def addCells (cs : List Int) (kv : List (Int × Int)) : List (Int × Int) := cs.foldl (fun kv c => inc c kv) kv
def timesOf (l : List Pt) (n : Int) : List (Int × Int) := l.foldl (fun kv p => addCells (p.cells n) kv) []

theorem addCells_step {cs : List Int} {s : Nat} {c : Int} {kv : List (Int × Int)} (h : cs[s]? = some c) : addCells (cs.take (s + 1)) kv = inc c (addCells (cs.take s) kv) := by
  have hlt := (List.getElem?_eq_some_iff.1 h).1
  have hx := (List.getElem?_eq_some_iff.1 h).2
  rw [List.take_succ_eq_append_getElem hlt, hx]; simp [addCells]

theorem timesOf_step {l : List Pt} {n : Int} {i : Nat} {p : Pt} (h : l[i]? = some p) : timesOf (l.take (i + 1)) n = addCells (p.cells n) (timesOf (l.take i) n) := by
  have hlt := (List.getElem?_eq_some_iff.1 h).1
  have hx := (List.getElem?_eq_some_iff.1 h).2
  rw [List.take_succ_eq_append_getElem hlt, hx]; simp [timesOf]

theorem cnt_add (y : Int) : ∀ (cs : List Int) (kv : List (Int × Int)), cnt y kv ≤ cnt y (addCells cs kv) ∧ cnt y (addCells cs kv) ≤ cnt y kv + cs.length
  | [], kv => by simp [addCells]
  | c :: cs, kv => by
    have := cnt_add y cs (inc c kv)
    have h := cnt_inc c y kv
    have e : addCells (c :: cs) kv = addCells cs (inc c kv) := rfl
    rw [e, List.length_cons]
    split at h <;> omega

theorem cnt_times (y n : Int) : ∀ (l : List Pt) (kv : List (Int × Int)), (∀ p ∈ l, p.Small n) → cnt y kv ≤ cnt y (l.foldl (fun kv p => addCells (p.cells n) kv) kv) ∧ cnt y (l.foldl (fun kv p => addCells (p.cells n) kv) kv) ≤ cnt y kv + 400 * l.length
  | [], kv, _ => by simp
  | p :: l, kv, h => by
    have h1 := cnt_times y n l (addCells (p.cells n) kv) fun q hq => h q (by simp [hq])
    have h2 := cnt_add y (p.cells n) kv
    have h3 := count_le (h p (by simp))
    rw [cells_length] at h2
    simp only [List.foldl_cons, List.length_cons]
    omega

theorem s57 (l : List Pt) (cap : Option Nat) (n : Int) (h : ∀ p ∈ l, p.Small n) (hlen : l.length ≤ 1000) :
    CallsC Try.prog Env.none 57 [.rslc 5 (l.map Pt.cv) cap, .int .i64 n] [] fun v H' => v = .map 0 ∧ ∃ g, H' = .map (enc (timesOf l n)) :: g := by
  refine vr_fn c57_ok fun N => ?_
  simp (config := {contextual := true}) only [c57, go_sem, List.length_map]
  refine vr_loop (σ := Nat × List CObj) (I := fun s => s.1 ≤ l.length) (inv := fun s => [.rslc 5 (l.map Pt.cv) cap, .int .i64 n, .un, .un, .un, .ptr 1 0 0, .un, .un, .un, .un, .rslc 5 (l.map Pt.cv) cap, .int .i64 (l.length : Int), .int .i64 (s.1 : Int), .un, .un, .un, .un, .un, .un, .un, .un, .un, .un, .un, .un, .un, .un]) (hp := fun s => .map (enc (timesOf (l.take s.1) n)) :: .arr 1 [[.map 0]] :: s.2) (μ := fun s => l.length - s.1) (0, []) (Nat.zero_le _) ?_ rfl ?_
  · simp [forget]
  · rintro ⟨i, g⟩ hi
    simp only at hi
    simp (config := {contextual := true}) only [go_sem, List.length_map]
    refine ⟨fun h5 => ?_, fun h5 => ?_⟩
    · have hlt : i < l.length := by omega
      obtain ⟨p, hp⟩ : ∃ p, l[i]? = some p := ⟨_, List.getElem?_eq_getElem hlt⟩
      have hsm := h p (List.mem_of_getElem? hp)
      rw [getD_map hp]
      refine ⟨by omega, by simp [Pt.cv], ?_⟩
      simp (config := {contextual := true}) only [go_sem, Pt.cv]
      refine vr_rfunc (xs := ints (p.cells n)) (fun s => .map (enc (addCells ((p.cells n).take s) (timesOf (l.take i) n))) :: .arr 1 [[.map 0]] :: (g ++ [.arr 5 [p.cv]])) rfl rfl rfl rfl c51_ok name51 (s51 p n hsm) (by simp [ints]) (by simp [addCells, Pt.cv]) ?_ ?_
      · intro s c hc
        have hx : ∃ x, (p.cells n)[s]? = some x ∧ c = [.int .i64 x] := by
          simp only [ints, List.getElem?_map] at hc
          cases hxs : (p.cells n)[s]? with
          | none => simp [hxs] at hc
          | some x => simp [hxs] at hc; exact ⟨x, rfl, hc.symm⟩
        obtain ⟨x, hx, rfl⟩ := hx
        have hstep := addCells_step (kv := timesOf (l.take i) n) hx
        have hb1 := cnt_add x ((p.cells n).take s) (timesOf (l.take i) n)
        have hb2 := cnt_times x n (l.take i) [] fun q hq => h q (List.mem_of_mem_take hq)
        have hb3 := count_le hsm
        have hb4 : ((p.cells n).take s).length ≤ 400 := by rw [List.length_take, cells_length]; omega
        have hb5 : (l.take i).length ≤ 1000 := by rw [List.length_take]; omega
        have hin : InR .i64 (cnt x (addCells ((p.cells n).take s) (timesOf (l.take i) n)) + 1) := by
          simp only [cnt] at hb2
          unfold timesOf at hb1 ⊢
          exact inr64 (by omega) (by omega)
        rcases fk x (addCells ((p.cells n).take s) (timesOf (l.take i) n)) 0 with ⟨f1, f2, f3⟩ | ⟨j, f1, f2⟩
        · rw [f2] at hin
          simp (config := {contextual := true}) only [go_sem, f1, hstep, f3]
          exact hin
        · simp (config := {contextual := true}) only [go_sem, f1, hin, hstep, f2]
      · simp (config := {contextual := true}) only [go_sem]
        refine ⟨inr64 (by omega) (by omega), (i + 1, g ++ [.arr 5 [p.cv]]), by simp only []; omega, by simp only []; omega, ?_, ?_⟩
        · simp only []
          rw [timesOf_step hp, ints_len, List.take_length]
        · simp [forget]
    · have : i = l.length := by omega
      subst this
      rw [List.take_length]
      exact ⟨_, rfl⟩

end Go.Cm
end

section
open Go.Proofs
namespace Go.Cm

theorem renKV_enc {ρ : List Nat} (kv : List (Int × Int)) : (enc kv).map (fun p => (ren ρ p.1, ren ρ p.2)) = enc kv := by
  simp [enc, ren]

theorem ren_rowV01 {els : List (List CV)} : ren [0, 1] (rowV 1 els) = rowV 1 els := by cases els <;> rfl

theorem s57c (l : List Pt) (cap : Option Nat) (n : Int) (h : ∀ p ∈ l, p.Small n) (hlen : l.length ≤ 1000) :
    CallsC Try.prog Env.none 57 [.rslc 5 (l.map Pt.cv) cap, .int .i64 n] [] fun v H' => v = .map 0 ∧ H' = [.map (enc (timesOf l n))] := by
  refine (s57 l cap n h hlen).ren fun v H' ⟨hv, g, hH⟩ => ⟨[0], by simp [renOk, hH], ?_⟩
  subst hv hH
  simp [ren, renId, renH, renO, renKV_enc]

/-- What is wrong with a cell; 0 if nothing is. -/
def kindOf (l : List Pt) (n c : Int) : Int :=
  if 0 ≤ c ∧ c ≤ n - 1 then (if cnt c (timesOf l n) = 0 then 1 else if 1 < cnt c (timesOf l n) then 2 else 0)
  else if 0 < cnt c (timesOf l n) then 3 else 0

def missCv (n c k : Int) : List CV := [.int .i64 n, .int .i64 c, .int .u8 k]

/-- The misses among the first cells. -/
def mss (l : List Pt) (n : Int) : Nat → List (List CV)
  | 0 => []
  | k + 1 => mss l n k ++ (if kindOf l n (k - 100) = 0 then [] else [missCv n (k - 100) (kindOf l n (k - 100))])

theorem mss_len (l : List Pt) (n : Int) : ∀ k, (mss l n k).length ≤ k
  | 0 => by simp [mss]
  | k + 1 => by
    have := mss_len l n k
    simp only [mss, List.length_append]
    split <;> simp <;> omega

theorem mss_closed (l : List Pt) (n : Int) : ∀ k, closedEls (mss l n k) = true
  | 0 => rfl
  | k + 1 => by
    have h := mss_closed l n k
    have : ∀ (a b : List (List CV)), closedEls a = true → closedEls b = true → closedEls (a ++ b) = true := by
      intro a b ha hb
      induction a with
      | nil => simpa using hb
      | cons x a ih => simp only [closedEls, Bool.and_eq_true] at ha; simp [closedEls, ha.1, ih ha.2]
    refine this _ _ h ?_
    split <;> rfl

set_option maxHeartbeats 1000000 in
theorem s37 (l : List Pt) (cap : Option Nat) (n : Int) (h : ∀ p ∈ l, p.Small n) (hn : 0 ≤ n ∧ n ≤ 100) (hlen : l.length ≤ 1000) :
    Fn Try.prog 37 [.rslc 5 (l.map Pt.cv) cap, .int .i64 n] (.rslc 3 (mss l n (n.toNat + 201)) none) := by
  refine fn_of_rowV ?_ rfl (mss_closed _ _ _)
  refine vr_fn c37_ok fun N => ?_
  simp (config := {contextual := true}) only [c37, go_sem]
  refine vr_call (.inl rfl) (s57c l cap n h hlen) ?_
  rintro v H' ⟨rfl, rfl⟩
  simp (config := {contextual := true}) only [go_sem]
  refine vr_ren [0] rfl ?_
  simp only [renL, ren, renId, renH, renO, renKV_enc, go_sem]
  refine vr_pad ?_
  simp only [go_sem]
  refine vr_loopR (I := fun k : Nat => (k : Int) ≤ n + 201) (inv := fun k => gp [(0, .rslc 5 (l.map Pt.cv) cap), (0, .int .i64 n), (2, rowV 1 (mss l n k)), (0, .map 0), (0, .int .i64 (k - 100))] 51) (hp := fun k => [.map (enc (timesOf l n)), rowO 3 (mss l n k)]) (μ := fun k => n.toNat + 201 - k) 0 [0, 1] (by omega) (by simp [renOk]) ?_ ?_ ?_
  · simp [forget, renL, ren, renId, mss, rowV, gp]
  · simp [renH, renO, mss, enc, ren, rowO]
  · intro k hk
    simp (config := {contextual := true}) only [go_sem]
    refine ⟨inr64 (by omega) (by omega), fun hlt => ⟨inr64 (by omega) (by omega), vr_f (s46 _ _ _) ?_⟩, fun hge => ?_⟩
    · have hk1 : kindOf l n (k - 100) = kindOf l n (k - 100) := rfl
      have hml := mss_len l n k
      have hmc := mss_closed l n k
      conv at hk1 => rhs; unfold kindOf
      have hf := fk (k - 100) (timesOf l n) 0
      have h0 : cnt (k - 100) (timesOf l n) = 0 ∨ 0 < cnt (k - 100) (timesOf l n) := by
        have := (cnt_times (k - 100) n l [] h).1
        simp only [cnt] at this; unfold timesOf; omega
      generalize cnt (k - 100) (timesOf l n) = ct at hk1 hf h0
      have hnew : ∀ kd : Int, kd ≠ 0 → kindOf l n (k - 100) = kd → mss l n (k + 1) = mss l n k ++ [missCv n (k - 100) kd] := by
        intro kd h1 h2; simp [mss, h2, h1]
      have hold : kindOf l n (k - 100) = 0 → mss l n (k + 1) = mss l n k := by
        intro h2; simp [mss, h2]
      by_cases hin : 0 ≤ (k : Int) - 100 ∧ (k : Int) - 100 ≤ n - 1
      · rw [if_pos hin] at hk1
        rcases hf with ⟨f1, f2, f3⟩ | ⟨j, f1, f2⟩
        · subst f2
          have e := hnew 1 (by omega) (by simpa using hk1)
          have ec : closedEls (mss l n (k + 1)) = true := mss_closed l n (k + 1)
          simp (config := {contextual := true}) only [go_sem, hin.1, hin.2, f1, roomOk]
          refine ⟨⟨by omega, by omega⟩, inr64 (by omega) (by omega), k + 1, [0, 4], by omega, by omega, rfl, ?_, ?_⟩
          · simp only [missCv] at e
            simp only [← e, renH, List.map_cons, List.map_nil, go_sem, renO_arr, renO_map, renKV_enc, renEls_closed ec]
            rw [e, rowO_app]
          · simp only [renL, ren, renId, go_sem]
            simp only [missCv] at e
            rw [e, rowV_app]
            simp [forget]
            omega
        · by_cases h2 : 1 < ct
          · have h3 : ¬ ct = 0 := by omega
            have h4 : (ct == 0) = false := by simpa using h3
            have e := hnew 2 (by omega) (by rw [hk1, if_neg h3, if_pos h2])
            have ec : closedEls (mss l n (k + 1)) = true := mss_closed l n (k + 1)
            simp (config := {contextual := true}) only [go_sem, hin.1, hin.2, f1, h2, h4, roomOk]
            refine ⟨⟨by omega, by omega⟩, inr64 (by omega) (by omega), k + 1, [0, 4], by omega, by omega, rfl, ?_, ?_⟩
            · simp only [missCv] at e
              simp only [← e, renH, List.map_cons, List.map_nil, go_sem, renO_arr, renO_map, renKV_enc, renEls_closed ec]
              rw [e, rowO_app]
            · simp only [renL, ren, renId, go_sem]
              simp only [missCv] at e
              rw [e, rowV_app]
              simp [forget]
              omega
          · by_cases h3 : ct = 0
            · subst h3
              have e := hnew 1 (by omega) (by simpa using hk1)
              have ec : closedEls (mss l n (k + 1)) = true := mss_closed l n (k + 1)
              simp (config := {contextual := true}) only [go_sem, hin.1, hin.2, f1, roomOk]
              refine ⟨⟨by omega, by omega⟩, inr64 (by omega) (by omega), k + 1, [0, 4], by omega, by omega, rfl, ?_, ?_⟩
              · simp only [missCv] at e
                simp only [← e, renH, List.map_cons, List.map_nil, go_sem, renO_arr, renO_map, renKV_enc, renEls_closed ec]
                rw [e, rowO_app]
              · simp only [renL, ren, renId, go_sem]
                simp only [missCv] at e
                rw [e, rowV_app]
                simp [forget]
                omega
            · have h4 : (ct == 0) = false := by simpa using h3
              have e := hold (by rw [hk1, if_neg h3, if_neg h2])
              simp (config := {contextual := true}) only [go_sem, hin.1, hin.2, f1, h2, h4]
              refine ⟨inr64 (by omega) (by omega), k + 1, [0, 1], by omega, by omega, rfl, ?_, ?_⟩
              · simp only [renH, List.map_cons, List.map_nil, go_sem, renO_arr, renO_map, renKV_enc, e, renO_rowO (renEls_closed hmc)]
              · simp only [renL, ren, renId, go_sem, e, ren_rowV01]
                simp [forget]
                omega
      · rw [if_neg hin] at hk1
        have hb : (decide (0 ≤ (k : Int) - 100) && decide ((k : Int) - 100 ≤ n - 1)) = false := by
          simp only [Bool.and_eq_false_iff, decide_eq_false_iff_not]; omega
        rcases hf with ⟨f1, f2, f3⟩ | ⟨j, f1, f2⟩
        · subst f2
          have e := hold (by simpa using hk1)
          simp (config := {contextual := true}) only [go_sem, hb, f1, Int.lt_irrefl]
          refine ⟨inr64 (by omega) (by omega), k + 1, [0, 1], by omega, by omega, rfl, ?_, ?_⟩
          · simp only [renH, List.map_cons, List.map_nil, go_sem, renO_arr, renO_map, renKV_enc, e, renO_rowO (renEls_closed hmc)]
          · simp only [renL, ren, renId, go_sem, e, ren_rowV01]
            simp [forget]
            omega
        · by_cases h2 : 0 < ct
          · have e := hnew 3 (by omega) (by rw [hk1, if_pos h2])
            have ec : closedEls (mss l n (k + 1)) = true := mss_closed l n (k + 1)
            simp (config := {contextual := true}) only [go_sem, hb, f1, h2, roomOk]
            refine ⟨⟨by omega, by omega⟩, inr64 (by omega) (by omega), k + 1, [0, 4], by omega, by omega, rfl, ?_, ?_⟩
            · simp only [missCv] at e
              simp only [← e, renH, List.map_cons, List.map_nil, go_sem, renO_arr, renO_map, renKV_enc, renEls_closed ec]
              rw [e, rowO_app]
            · simp only [renL, ren, renId, go_sem]
              simp only [missCv] at e
              rw [e, rowV_app]
              simp [forget]
              omega
          · have e := hold (by rw [hk1, if_neg h2])
            simp (config := {contextual := true}) only [go_sem, hb, f1, h2]
            refine ⟨inr64 (by omega) (by omega), k + 1, [0, 1], by omega, by omega, rfl, ?_, ?_⟩
            · simp only [renH, List.map_cons, List.map_nil, go_sem, renO_arr, renO_map, renKV_enc, e, renO_rowO (renEls_closed hmc)]
            · simp only [renL, ren, renId, go_sem, e, ren_rowV01]
              simp [forget]
              omega
    · have : n.toNat + 201 = k := by omega
      exact ⟨1, by rw [this], by rw [this]; rfl⟩

end Go.Cm
end

section
open Go.Proofs
namespace Go.Cm

/-- All misses with a size. -/
def allM (l : List Pt) (n : Int) : List (List CV) := mss l n (n.toNat + 201)

theorem allM_eq (l : List Pt) (n : Int) : allM l n = mss l n (n.toNat + 201) := rfl
attribute [irreducible] allM
theorem allM_closed (l : List Pt) (n : Int) : closedEls (allM l n) = true := by rw [allM_eq]; exact mss_closed _ _ _

/-- The first miss of the first size from one on. -/
def firstM (l : List Pt) : Nat → Int → Option (List CV)
  | 0, _ => none
  | f + 1, n => match allM l n with
    | m :: _ => some m
    | [] => firstM l f (n + 1)

def noM : List CV := [.int .i64 0, .int .i64 0, .int .u8 0]
def optM : Option (List CV) → CV
  | some m => .tup [.agg m, .bool true]
  | none => .tup [.agg noM, .bool false]

theorem mss_cell (l : List Pt) (n : Int) : ∀ k, ∀ m ∈ mss l n k, ∃ c d, m = missCv n c d
  | 0, m, h => by simp [mss] at h
  | k + 1, m, h => by
    simp only [mss, List.mem_append] at h
    rcases h with h | h
    · exact mss_cell l n k m h
    · split at h
      · simp at h
      · simp at h; exact ⟨_, _, h⟩

theorem allM_cell (l : List Pt) (n : Int) : ∀ m ∈ allM l n, ∃ c d, m = missCv n c d := by rw [allM_eq]; exact mss_cell l n _

theorem firstM_nil {l : List Pt} {f : Nat} {n : Int} (h : allM l n = []) : firstM l (f + 1) n = firstM l f (n + 1) := by simp only [firstM, h]
theorem firstM_cons {l : List Pt} {f : Nat} {n : Int} {m : List CV} {r : List (List CV)} (h : allM l n = m :: r) : firstM l (f + 1) n = some m := by simp only [firstM, h]

theorem firstM_closed (l : List Pt) : ∀ f n m, firstM l f n = some m → closedL m = true
  | 0, _, _, h => by simp [firstM] at h
  | f + 1, n, m, h => by
    cases hm : allM l n with
    | nil => rw [firstM_nil hm] at h; exact firstM_closed l f _ m h
    | cons a r =>
      rw [firstM_cons hm] at h; cases h
      obtain ⟨c, d, rfl⟩ := allM_cell l n m (by rw [hm]; simp)
      rfl

theorem firstM_cell (l : List Pt) : ∀ f n m, firstM l f n = some m → ∃ a c d, m = missCv a c d
  | 0, _, _, h => by simp [firstM] at h
  | f + 1, n, m, h => by
    cases hm : allM l n with
    | nil => rw [firstM_nil hm] at h; exact firstM_cell l f _ m h
    | cons a r =>
      rw [firstM_cons hm] at h; cases h
      obtain ⟨c, d, rfl⟩ := allM_cell l n m (by rw [hm]; simp)
      exact ⟨_, _, _, rfl⟩

theorem optM_closed (l : List Pt) (f : Nat) (n : Int) : (optM (firstM l f n)).closed = true := by
  cases h : firstM l f n with
  | none => rfl
  | some m => simp [optM, CV.closed, closedL, firstM_closed l f n m h]

theorem s37a (l : List Pt) (cap : Option Nat) (n : Int) (h : ∀ p ∈ l, p.Small n) (hn : 0 ≤ n ∧ n ≤ 100) (hlen : l.length ≤ 1000) :
    Fn Try.prog 37 [.rslc 5 (l.map Pt.cv) cap, .int .i64 n] (.rslc 3 (allM l n) none) := by rw [allM_eq]; exact s37 l cap n h hn hlen

theorem smallsN {l : List Pt} (h1 : ptsOk l = true) {n : Int} (h2 : 0 ≤ n ∧ n ≤ 100) : ∀ p ∈ l, p.Small n :=
  smalls_of h1 (by simp [isSz, h2.1, h2.2])

set_option maxHeartbeats 1000000 in
theorem s38 (l : List Pt) (cap : Option Nat) (n : Int) (h : ptsOk l = true) (hn : 0 ≤ n ∧ n ≤ 101) (hlen : l.length ≤ 1000) :
    Fn Try.prog 38 [.rslc 5 (l.map Pt.cv) cap, .int .i64 n] (optM (firstM l (101 - n).toNat n)) := by
  refine fn_of_code c38_ok rfl (optM_closed _ _ _) fun N => ?_
  simp (config := {contextual := true}) only [c38, go_sem]
  refine vr_loop (I := fun s : Nat => n + s ≤ 101 ∧ firstM l (101 - n).toNat n = firstM l (101 - (n + s)).toNat (n + s)) (inv := fun s => gp [(0, .rslc 5 (l.map Pt.cv) cap), (3, .ptr 0 0 0), (1, .int .i64 (n + s))] 16) (hp := fun _ => [.arr 3 [noM]]) (μ := fun s => (101 - n).toNat - s) 0 ⟨by omega, by simp⟩ ?_ rfl ?_
  · simp [forget, gp]
  · rintro s ⟨hs, he⟩
    simp (config := {contextual := true}) only [go_sem]
    refine ⟨fun h5 => ?_, fun h5 => ?_⟩
    · refine vr_f (s37a l cap (n + s) (smallsN h (by omega)) (by omega) hlen) ?_
      have hf : (101 - (n + (s : Int))).toNat = (101 - (n + ((s + 1 : Nat) : Int))).toNat + 1 := by omega
      rw [hf] at he
      cases hm : allM l (n + s) with
      | nil =>
        rw [firstM_nil hm] at he
        simp (config := {contextual := true}) only [go_sem]
        refine ⟨inr64 (by omega) (by omega), s + 1, ⟨by omega, ?_⟩, by omega, ?_⟩
        · rw [he]; simp [Int.add_assoc]
        · simp [forget, Int.add_assoc]
      | cons m r =>
        rw [firstM_cons hm] at he
        have hp : (0 : Int) < ((r.length + 1 : Nat) : Int) := by omega
        have hp2 : (0 : Int) < ((0 : Int) + ((r.length + 1 : Nat) : Int)) := by omega
        obtain ⟨c, d, rfl⟩ := allM_cell l (n + s) m (by rw [hm]; simp)
        simp (config := {contextual := true}) only [go_sem, hp, noM, missCv]
        rw [he]; rfl
    · have : (101 - (n + (s : Int))).toNat = 0 := by omega
      rw [this] at he
      rw [he]; simp [firstM, optM, noM]

end Go.Cm
end

section
open Go.Proofs
namespace Go.Cm

theorem s14 (l : List Pt) (cap : Option Nat) (n : Int) (hlen : l.length ≤ 1000) : Fn Try.prog 14 [.rslc 5 (l.map Pt.cv) cap, .int .i64 n]
    (if chk l n = 0 then .tup [.rslc 3 (allM l n) none, .int .i64 0] else .tup [.nils, .int .i64 (chk l n)]) := by
  refine fn_of_code c14_ok rfl (by split <;> rfl) fun N => ?_
  simp (config := {contextual := true}) only [c14, go_sem]
  refine vr_f (s36 l cap n hlen) ?_
  simp (config := {contextual := true}) only [go_sem]
  refine ⟨fun h => ?_, fun h => ?_⟩
  · have h' : ¬ chk l n = 0 := by simpa using h
    rw [if_neg h']
  · have h' : chk l n = 0 := by simpa using h
    obtain ⟨h1, h2⟩ := chk_zero h'
    refine vr_f (s37a l cap n (smalls_of h1 h2) (by simpa [isSz] using h2) hlen) ?_
    simp (config := {contextual := true}) only [go_sem, h']

theorem s15 (l : List Pt) (cap : Option Nat) (n : Int) (hlen : l.length ≤ 1000) : Fn Try.prog 15 [.rslc 5 (l.map Pt.cv) cap, .int .i64 n]
    (if chk l n = 0 then (match firstM l (101 - n).toNat n with | some m => .tup [.agg m, .int .i64 0] | none => .tup [.agg noM, .int .i64 7]) else .tup [.agg noM, .int .i64 (chk l n)]) := by
  refine fn_of_code c15_ok rfl ?_ fun N => ?_
  · split
    · split
      · rename_i h; simp [CV.closed, closedL, firstM_closed _ _ _ _ h]
      · rfl
    · rfl
  simp (config := {contextual := true}) only [c15, go_sem]
  refine vr_f (s36 l cap n hlen) ?_
  simp (config := {contextual := true}) only [go_sem]
  refine ⟨fun h => ?_, fun h => ?_⟩
  · have h' : ¬ chk l n = 0 := by simpa using h
    rw [if_neg h']; rfl
  · have h' : chk l n = 0 := by simpa using h
    obtain ⟨h1, h2⟩ := chk_zero h'
    rw [if_pos h']
    refine vr_f (s38 l cap n h1 (by simp [isSz] at h2; omega) hlen) ?_
    cases hm : firstM l (101 - n).toNat n with
    | none =>
      simp (config := {contextual := true}) only [go_sem, optM, noM]
    | some m =>
      have hc := firstM_cell l _ _ _ hm
      obtain ⟨a, c, d, rfl⟩ := hc
      simp (config := {contextual := true}) only [go_sem, optM, missCv]

/-- The sizes below one that parts are right for. -/
def szs (l : List Pt) (k : Nat) : List Int := ((List.range k).filter fun s => (allM l (s : Nat)).isEmpty).map fun (s : Nat) => (s : Int)

theorem szs_len (l : List Pt) (k : Nat) : (szs l k).length ≤ k := by
  unfold szs; rw [List.length_map]; exact Nat.le_trans (List.length_filter_le _ _) (by simp)

theorem szs_succ (l : List Pt) (k : Nat) : szs l (k + 1) = szs l k ++ if (allM l (k : Nat)).isEmpty then [(k : Int)] else [] := by
  unfold szs
  rw [List.range_succ, List.filter_append, List.map_append]
  congr 1
  by_cases h : (allM l (k : Nat)).isEmpty = true <;> simp [h]

theorem ints_snoc (xs : List Int) (x : Int) : ints (xs ++ [x]) = ints xs ++ [[.int .i64 x]] := by simp [ints]

theorem s44 (l : List Pt) (cap : Option Nat) (h : ptsOk l = true) (hlen : l.length ≤ 1000) : Fn Try.prog 44 [.rslc 5 (l.map Pt.cv) cap] (.rslc 1 (ints (szs l 101)) none) := by
  refine fn_of_rowV ?_ rfl (closedEls_ints _)
  refine vr_fn c44_ok fun N => ?_
  simp (config := {contextual := true}) only [c44, go_sem]
  refine vr_pad ?_
  simp only [go_sem]
  refine vr_loopR (I := fun k : Nat => k ≤ 101) (inv := fun k => gp [(0, .rslc 5 (l.map Pt.cv) cap), (1, rowV 0 (ints (szs l k))), (1, .int .i64 k)] 13) (hp := fun k => [rowO 1 (ints (szs l k))]) (μ := fun k => 101 - k) 0 [0] (by omega) rfl ?_ rfl ?_
  · simp [forget, renL, ren, renId, szs, ints, rowV, gp]
  · intro k hk
    simp (config := {contextual := true}) only [go_sem]
    refine ⟨fun h5 => ?_, fun h5 => ?_⟩
    · refine vr_f (s37a l cap k (smallsN h (by omega)) (by omega) hlen) ?_
      have hs := szs_succ l k
      have hl := szs_len l k
      cases hm : allM l (k : Nat) with
      | nil =>
        rw [hm] at hs
        simp only [List.isEmpty_nil, if_true] at hs
        simp (config := {contextual := true}) only [go_sem, roomOk, ints_len]
        refine ⟨⟨by omega, by omega⟩, inr64 (by omega) (by omega), k + 1, [2], by omega, by omega, rfl, ?_, ?_⟩
        · rw [← ints_snoc, ← hs]
          simp only [renH, List.map_cons, List.map_nil, go_sem, renO_arr, renEls_closed (closedEls_ints _)]
          rw [hs, ints_snoc, rowO_app]
        · rw [hs, ints_snoc, rowV_app]
          simp [forget, renL, ren, renId, ints_len]
      | cons m r =>
        rw [hm] at hs
        simp only [List.isEmpty_cons, Bool.false_eq_true, if_false, List.append_nil] at hs
        have h7 : (0 + ((r.length + 1 : Nat) : Int) == 0) = false := by simp; omega
        have h8 : (((r.length + 1 : Nat) : Int) == 0) = false := by simp; omega
        simp (config := {contextual := true}) only [go_sem, h8]
        refine ⟨inr64 (by omega) (by omega), k + 1, [0], by omega, by omega, rfl, ?_, ?_⟩
        · simp only [renH, List.map_cons, List.map_nil, go_sem, renO_rowO (renEls_closed (closedEls_ints _)), hs]
        · rw [hs]
          have : ren [0] (rowV 0 (ints (szs l k))) = rowV 0 (ints (szs l k)) := by cases ints (szs l k) <;> rfl
          simp [forget, renL, this, ren]
    · have : k = 101 := by omega
      subst this
      exact ⟨0, rfl, rfl⟩

theorem s23 (l : List Pt) (cap : Option Nat) (hlen : l.length ≤ 1000) : Fn Try.prog 23 [.rslc 5 (l.map Pt.cv) cap] (if ptsOk l then .tup [.rslc 1 (ints (szs l 101)) none, .int .i64 0] else .tup [.nils, .int .i64 2]) := by
  refine fn_of_code c23_ok rfl (by split <;> rfl) fun N => ?_
  simp (config := {contextual := true}) only [c23, go_sem]
  refine vr_f (s42 l cap hlen) ?_
  simp (config := {contextual := true}) only [go_sem]
  refine ⟨fun h => ?_, fun h => ?_⟩
  · have h' : ptsOk l = false := by simpa using h
    simp [h']
  · have h' : ptsOk l = true := by simpa using h
    refine vr_f (s44 l cap h' hlen) ?_
    simp (config := {contextual := true}) only [go_sem, h']

end Go.Cm
end

section
open Go.Proofs
namespace Go.Cm

/-- What a range over a row from behind gives. -/
def bks (xs : List Int) : List (List CV) := (List.range xs.length).map fun (s : Nat) => [.int .i64 ((xs.length : Int) - 1 - s), .int .i64 (xs.reverse.getD s 0)]

theorem bks_get {xs : List Int} {s : Nat} (h : s < xs.length) : (bks xs)[s]? = some [.int .i64 ((xs.length : Int) - 1 - s), .int .i64 (xs.reverse.getD s 0)] := by
  simp [bks, h]

theorem bks_len {xs : List Int} : (bks xs).length = xs.length := by simp [bks]

theorem s60 (xs : List Int) (hlen : xs.length ≤ 1000) : Iter Try.prog 60 [] [.rptr [.rslc 1 (ints xs) none]] (bks xs) := by
  intro E l hy
  refine vr_fn c60_ok fun N => ?_
  simp (config := {contextual := true}) only [c60, go_sem, ints_len]
  refine ⟨inr64 (by omega) (by omega), ?_⟩
  refine vr_loop (I := fun s : Nat => s ≤ xs.length) (inv := fun s => gp [(0, .yld l), (0, .rptr [.rslc 1 (ints xs) none]), (1, .int .i64 ((xs.length : Int) - 1 - s))] 15) (hp := fun s => [.ext s true]) (μ := fun s => xs.length - s) 0 (by omega) ?_ rfl ?_
  · simp [forget, gp]
  · intro s hs
    simp (config := {contextual := true}) only [go_sem, ints_len]
    refine ⟨fun h1 => ?_, fun h1 => ?_⟩
    · have hlt : s < xs.length := by omega
      have hi : ((xs.length : Int) - 1 - s).toNat = xs.length - 1 - s := by omega
      have hg : (ints xs).getD (xs.length - 1 - s) [] = [.int .i64 (xs.reverse.getD s 0)] := by
        have h2 : xs.length - 1 - s < xs.length := by omega
        simp [ints, List.getD_eq_getElem?_getD, List.getElem?_eq_getElem h2, List.getElem?_reverse hlt]
      rw [hi, hg]
      refine ⟨by omega, ?_⟩
      simp (config := {contextual := true}) only [go_sem]
      refine vr_yield (i := 0) (s := s) (.inl rfl) rfl hy rfl (fun k s b hk => ?_) ?_ rfl fun c => ?_
      · rcases k with _ | k
        · rfl
        · simp at hk
      · simp only [go_sem, bks_get hlt]
      · cases c
        · simp (config := {contextual := true}) only [go_sem]
          exact .inr ⟨_, rfl⟩
        · simp (config := {contextual := true}) only [go_sem]
          refine ⟨inr64 (by omega) (by omega), s + 1, by omega, by omega, ?_⟩
          simp [forget]
          omega
    · have : s = xs.length := by omega
      refine .inl ?_
      simp [bks_len, this]

theorem s43 (xs : List Int) : Fn Try.prog 43 [.rslc 1 (ints xs) none] (.fn 60 [] [.rptr [.rslc 1 (ints xs) none]]) := by
  have main : CallsC Try.prog Env.none 43 [.rslc 1 (ints xs) none] [] fun v H' => v = .fn 60 [] [.ptr 0 0 0] ∧ H' = [.arr 1 [[.rslc 1 (ints xs) none]]] := by
    refine vr_fn c43_ok fun N => ?_
    simp (config := {contextual := true}) only [c43, go_sem]
  exact fn_of (main.freeze fun v H' ⟨h1, h2⟩ => ⟨0, 1, [[.rslc 1 (ints xs) none]], by rw [h2]; rfl, rfl, by rw [h1]; simp [frz, frzL]⟩) rfl rfl

theorem name60 : (Try.prog.funcs[60]?.map (·.name)) ≠ some "runtime.NumGoroutine" := by
  have : Try.prog.funcs[60]?.map (·.name) = some "slices.Backward[[]int,int]$1" := by kernel_rfl
  rw [this]; simp

/-- The smallest size of those that follow one another up to the greatest, sizes from behind. -/
def lstF (xs : List Int) : Int := xs.foldl (fun a x => if x = a - 1 then x else a) 101

theorem lstF_snoc (xs : List Int) (x : Int) : lstF (xs ++ [x]) = if x = lstF xs - 1 then x else lstF xs := by unfold lstF; rw [List.foldl_append]; rfl

theorem lstF_range (xs : List Int) : 101 - (xs.length : Int) ≤ lstF xs ∧ lstF xs ≤ 101 := by
  have : ∀ (xs : List Int) (a : Int), a - (xs.length : Int) ≤ xs.foldl (fun a x => if x = a - 1 then x else a) a ∧ xs.foldl (fun a x => if x = a - 1 then x else a) a ≤ a := by
    intro xs
    induction xs with
    | nil => intro a; simp
    | cons x xs ih =>
      intro a
      have := ih (if x = a - 1 then x else a)
      simp only [List.foldl_cons, List.length_cons]
      by_cases h : x = a - 1
      · rw [if_pos h] at this ⊢; omega
      · rw [if_neg h] at this ⊢; omega
  exact this xs 101

def leastOf (l : List Pt) : Int := lstF (szs l 101).reverse

theorem s22 (l : List Pt) (cap : Option Nat) (hlen : l.length ≤ 1000) : Fn Try.prog 22 [.rslc 5 (l.map Pt.cv) cap]
    (if ptsOk l then (if isSz (leastOf l) then .tup [.int .i64 (leastOf l), .int .i64 0] else .tup [.int .i64 0, .int .i64 7]) else .tup [.int .i64 0, .int .i64 2]) := by
  refine fn_of_code c22_ok rfl (by split; · split <;> rfl
                                   · rfl) fun N => ?_
  simp (config := {contextual := true}) only [c22, go_sem]
  refine vr_f (s42 l cap hlen) ?_
  simp (config := {contextual := true}) only [go_sem]
  refine ⟨fun h => ?_, fun h => ?_⟩
  · have h' : ptsOk l = false := by simpa using h
    simp [h']
  · have h' : ptsOk l = true := by simpa using h
    refine vr_f (s44 l cap h' hlen) ?_
    simp (config := {contextual := true}) only [go_sem]
    refine vr_f (s43 _) ?_
    simp (config := {contextual := true}) only [go_sem]
    have hl := szs_len l 101
    refine vr_rfunc (xs := bks (szs l 101)) (fun s => [.arr 1 [[.int .i64 (lstF ((szs l 101).reverse.take s))]]]) rfl rfl rfl rfl c60_ok name60 (s60 _ (by omega)) (by simp [bks]) (by simp [lstF]) ?_ ?_
    · intro s c hc
      have hlt : s < (szs l 101).length := by
        have := (List.getElem?_eq_some_iff.1 hc).1; rwa [bks_len] at this
      rw [bks_get hlt] at hc
      cases hc
      have hr := lstF_range ((szs l 101).reverse.take s)
      have hrl : ((szs l 101).reverse.take s).length ≤ 101 := by rw [List.length_take, List.length_reverse]; omega
      have hlt2 : s < (szs l 101).reverse.length := by rw [List.length_reverse]; exact hlt
      have hst : (szs l 101).reverse.take (s + 1) = (szs l 101).reverse.take s ++ [(szs l 101).reverse.getD s 0] := by
        rw [List.take_succ_eq_append_getElem hlt2, List.getD_eq_getElem?_getD, List.getElem?_eq_getElem hlt2]; rfl
      have hsn := lstF_snoc ((szs l 101).reverse.take s) ((szs l 101).reverse.getD s 0)
      rw [← hst] at hsn
      simp (config := {contextual := true}) only [go_sem]
      refine ⟨inr64 (by omega) (by omega), fun h5 => ?_, fun h5 => ?_⟩
      · have h6 := beq_iff_eq.1 h5
        rw [if_pos h6] at hsn
        rw [hsn]
      · have h6 := beq_eq_false_iff_ne.1 h5
        rw [if_neg h6] at hsn
        rw [hsn]
    · simp (config := {contextual := true}) only [go_sem, bks_len]
      rw [show (szs l 101).length = (szs l 101).reverse.length by simp, List.take_length]
      refine vr_f (s45 _) ?_
      simp (config := {contextual := true}) only [go_sem]
      refine ⟨fun h2 => ?_, fun h2 => ?_⟩
      · have h2' : isSz (leastOf l) = false := by simpa [leastOf] using h2
        simp [h', h2']
      · have h2' : isSz (leastOf l) = true := by simpa [leastOf] using h2
        simp [h', h2']; rfl

end Go.Cm
end

section
open Go.Proofs
namespace Go.Cm

/-- A part has no cell for any of the first sizes. -/
def emp (p : Pt) (k : Nat) : Bool := (List.range k).all fun (s : Nat) => decide (p.last s < p.first s)

theorem emp_succ (p : Pt) (k : Nat) : emp p (k + 1) = (emp p k && decide (p.last k < p.first k)) := by
  simp [emp, List.range_succ]

theorem emp_le {p : Pt} {k : Nat} (h : emp p (k + 1) = false) {m : Nat} (hm : k < m) : emp p m = false := by
  induction m with
  | zero => omega
  | succ m ih =>
    by_cases h2 : k = m
    · subst h2; exact h
    · rw [emp_succ, ih (by omega)]; rfl

theorem s56 (p : Pt) (h : p.ok = true) : Fn Try.prog 56 [.agg p.cv] (.bool (emp p 101)) := by
  refine fn_of_code c56_ok rfl rfl fun N => ?_
  simp (config := {contextual := true}) only [c56, go_sem, Pt.cv]
  refine vr_loopR (I := fun k : Nat => k ≤ 101 ∧ emp p k = true) (inv := fun k => gp [(1, .ptr 0 0 0), (3, .int .i64 k)] 11) (hp := fun k => [.arr 5 [p.cv]]) (μ := fun k => 101 - k) 0 [0] ⟨by omega, rfl⟩ rfl ?_ ?_ ?_
  · simp [forget, renL, ren, renId, gp]
  · simp [renH, renO, renL, ren, Pt.cv]
  · rintro k ⟨hk, he⟩
    simp (config := {contextual := true}) only [go_sem, Pt.cv]
    refine ⟨fun h5 => ?_, fun h5 => ?_⟩
    · have hsm := small_of (p := p) (n := k) h (by simp [isSz]; omega)
      have hfit := hsm.fit
      refine vr_dreg mixed (by decide) ?_
      simp only [go_sem]
      refine vd_call (.inl rfl) (s65 p k hfit) ?_
      simp only [go_sem]
      refine vd_call (.inl rfl) (s66 p k hfit) ?_
      simp only [go_sem]
      have hs := emp_succ p k
      refine ⟨fun h6 => ?_, fun h6 => ?_⟩
      · have h7 : decide (p.last k < p.first k) = false := by simp; omega
        rw [h7, Bool.and_false] at hs
        rw [emp_le hs (by omega)]
      · have h7 : decide (p.last k < p.first k) = true := by simp; omega
        rw [h7, he] at hs
        refine ⟨inr64 (by omega) (by omega), k + 1, [0], ⟨by omega, hs⟩, by omega, rfl, ?_, ?_⟩
        · simp [renH, renO, renL, ren, Pt.cv]
        · simp [forget, renL, ren, renId]
    · have : k = 101 := by omega
      subst this
      rw [he]

theorem name56 : (Try.prog.funcs[56]?.map (·.name)) ≠ some "runtime.NumGoroutine" := by
  have : Try.prog.funcs[56]?.map (·.name) = some "floodgate/region.isEmpty" := by kernel_rfl
  rw [this]; simp

theorem closed_cvs (l : List Pt) : closedEls (l.map Pt.cv) = true := by
  induction l with
  | nil => rfl
  | cons p l ih => simp only [List.map_cons, closedEls, ih]; rfl

theorem closedEls_iff : ∀ {els : List (List CV)}, closedEls els = true ↔ ∀ e ∈ els, closedL e = true
  | [] => by simp [closedEls]
  | e :: l => by simp [closedEls, closedEls_iff (els := l)]

/-- Clone. -/
theorem s55 (l : List Pt) (hlen : l.length ≤ 1000) : CallsC Try.prog Env.none 55 [.rslc 5 (l.map Pt.cv) none] [] fun v H' => (l = [] ∧ v = .nils ∧ H' = []) ∨ ∃ cap, v = .slc 0 0 l.length cap ∧ H' = [.arr 5 (l.map Pt.cv)] := by
  cases l with
  | nil =>
    refine vr_fn c55_ok fun N => ?_
    simp (config := {contextual := true}) only [c55, go_sem]
    refine ok_eqnil (z := 5) rfl fun b => ?_
    cases b
    · simp (config := {contextual := true}) only [go_sem]
      exact ⟨_, rfl⟩
    · simp (config := {contextual := true}) only [go_sem]
  | cons p r =>
    refine CallsC.ren (R := fun v H' => v = .slc 1 0 (r.length + 1) none ∧ H' = [.arr 5 [], .arr 5 (p.cv :: r.map Pt.cv)]) ?_ fun v H' ⟨h1, h2⟩ => ⟨[1], by rw [h2]; rfl, ?_⟩
    · refine vr_fn c55_ok fun N => ?_
      simp (config := {contextual := true}) only [c55, go_sem, roomOk, List.length_map]
      simp only [List.length_cons] at hlen
      exact ⟨by omega, by omega⟩
    · rw [h1, h2]
      have := renEls_closed (ρ := [1]) (closed_cvs (p :: r))
      simp only [List.map_cons] at this
      refine .inr ⟨none, ?_⟩
      simp only [renH, List.map_cons, List.map_nil, go_sem, renO_arr, ren, renId, this]

theorem s61n {f : Nat} : Fn Try.prog 61 [.nils, .fn f [] []] (.int .i64 (-1)) := by
  refine fn_of_code c61_ok rfl rfl fun N => ?_
  simp (config := {contextual := true}) only [c61, go_sem]
  refine vr_loop (σ := Unit) (I := fun _ => True) (inv := fun _ => gp [(0, .nils), (0, .fn f [] []), (5, .int .i64 0), (0, .int .i64 0)] 10) (hp := fun _ => []) (μ := fun _ => 0) () trivial ?_ rfl ?_
  · simp [forget, gp]
  · rintro _ _
    simp (config := {contextual := true}) only [go_sem, Int.lt_irrefl]

theorem s54n {f : Nat} : Fn Try.prog 54 [.nils, .fn f [] []] .nils := by
  refine fn_of_code c54_ok rfl rfl fun N => ?_
  simp (config := {contextual := true}) only [c54, go_sem]
  refine vr_f s61n ?_
  simp (config := {contextual := true}) only [go_sem]

theorem s61o {f : Nat} {F : IFunc} (l : List Pt) (q : Pt → Bool) (cap : Option Nat) (hF : compFn Try.prog f = some F) (hnm : (Try.prog.funcs[f]?.map (·.name)) ≠ some "runtime.NumGoroutine")
    (hq : ∀ p ∈ l, Fn Try.prog f [.agg p.cv] (.bool (q p))) (hlen : l.length ≤ 1000) : Pure Try.prog Env.none 61 [.slc 0 0 l.length cap, .fn f [] []] [.arr 5 (l.map Pt.cv)] (.int .i64 (findAt q l 0)) := by
  refine vr_fn c61_ok fun N => ?_
  simp (config := {contextual := true}) only [c61, go_sem, List.length_map]
  refine vr_loop (I := fun i : Nat => i ≤ l.length ∧ findAt q l 0 = findAt q (l.drop i) i) (inv := fun i => gp [(0, .slc 0 0 l.length cap), (0, .fn f [] []), (5, .int .i64 (l.length : Int)), (0, .int .i64 (i : Int))] 10) (hp := fun _ => [.arr 5 (l.map Pt.cv)]) (μ := fun i => l.length - i) 0 ?_ ?_ rfl ?_
  · simp
  · simp [forget, gp]
  · rintro i ⟨hi, hinv⟩
    simp (config := {contextual := true}) only [go_sem, List.length_map]
    refine ⟨fun h => ?_, fun h => ?_⟩
    · have hlt : i < l.length := by omega
      obtain ⟨p, hp⟩ : ∃ p, l[i]? = some p := ⟨_, List.getElem?_eq_getElem hlt⟩
      rw [findAt_step hp] at hinv
      rw [getD_map hp]
      refine ⟨by omega, ⟨by omega, by simp [Pt.cv]⟩, ?_⟩
      simp only [Pt.cv, List.take_succ_cons, List.take_zero]
      refine vr_fv (.inl rfl) rfl hF hnm (hq p (List.mem_of_getElem? hp)) ?_
      simp only [go_sem]
      refine ⟨fun h2 => ?_, fun h2 => ?_⟩
      · rw [hinv, if_pos h2]
      · rw [h2] at hinv
        refine ⟨inr64 (by omega) (by omega), i + 1, ⟨by omega, by simpa using hinv⟩, by omega, ?_⟩
        simp [forget]
    · have : i = l.length := by omega
      subst this
      rw [hinv]; simp [findAt]

theorem findAt_pos {q : Pt → Bool} : ∀ (l : List Pt) (i : Nat), findAt q l i ≠ -1 → ∃ j, findAt q l i = ((i + j : Nat) : Int) ∧ j < l.length ∧ (l.take (j + 1)).filter (fun p => !q p) = l.take j
  | [], i, h => by simp [findAt] at h
  | p :: l, i, h => by
    by_cases hq : q p = true
    · exact ⟨0, by simp [findAt, hq], by simp, by simp [hq]⟩
    · have hf : findAt q (p :: l) i = findAt q l (i + 1) := by simp [findAt, hq]
      rw [hf] at h ⊢
      obtain ⟨j, h1, h2, h3⟩ := findAt_pos l (i + 1) h
      exact ⟨j + 1, by rw [h1]; congr 1; omega, by simp; omega, by simp [hq]; exact h3⟩

theorem findAt_none {q : Pt → Bool} (l : List Pt) (h : findAt q l 0 = -1) : l.filter (fun p => !q p) = l := by
  rw [List.filter_eq_self]
  have := (findAt_neg (q := q) l 0).1 (by omega)
  rw [List.all_eq_true] at this
  exact fun p hp => this p hp

/-- The row while parts are moved to the front. -/
def kept (q : Pt → Bool) (l : List Pt) (x : Nat) : List Pt := (l.take x).filter fun p => !q p
def mvd (q : Pt → Bool) (l : List Pt) (x : Nat) : List Pt := kept q l x ++ l.drop (kept q l x).length

theorem kept_le (q : Pt → Bool) (l : List Pt) (x : Nat) : (kept q l x).length ≤ x ∧ (kept q l x).length ≤ l.length := by
  have := List.length_filter_le (fun p => !q p) (l.take x)
  rw [List.length_take] at this
  unfold kept; omega

theorem mvd_len (q : Pt → Bool) (l : List Pt) (x : Nat) : (mvd q l x).length = l.length := by
  have := kept_le q l x
  unfold mvd; rw [List.length_append, List.length_drop]; omega

theorem mvd_get {q : Pt → Bool} {l : List Pt} {x : Nat} {y : Nat} (h : x ≤ y) : (mvd q l x)[y]? = l[y]? := by
  have := kept_le q l x
  unfold mvd
  rw [List.getElem?_append_right (by omega), List.getElem?_drop]; congr 1; omega

theorem kept_succ {q : Pt → Bool} {l : List Pt} {x : Nat} {p : Pt} (h : l[x]? = some p) : kept q l (x + 1) = kept q l x ++ if q p then [] else [p] := by
  have hlt := (List.getElem?_eq_some_iff.1 h).1
  have hp := (List.getElem?_eq_some_iff.1 h).2
  unfold kept
  rw [List.take_succ_eq_append_getElem hlt, hp, List.filter_append]
  by_cases hq : q p = true <;> simp [hq]

theorem mvd_drop {q : Pt → Bool} {l : List Pt} {x : Nat} {p : Pt} (h : l[x]? = some p) (hq : q p = true) : mvd q l (x + 1) = mvd q l x ∧ kept q l (x + 1) = kept q l x := by
  have := kept_succ (q := q) h
  rw [if_pos hq, List.append_nil] at this
  unfold mvd; rw [this]; exact ⟨rfl, rfl⟩

theorem mvd_keep {q : Pt → Bool} {l : List Pt} {x : Nat} {p : Pt} (h : l[x]? = some p) (hq : q p = false) : mvd q l (x + 1) = (mvd q l x).set (kept q l x).length p ∧ (kept q l (x + 1)).length = (kept q l x).length + 1 := by
  have hk := kept_succ (q := q) h
  rw [hq, if_neg (by simp)] at hk
  have hlt := (List.getElem?_eq_some_iff.1 h).1
  have hle := kept_le q l x
  refine ⟨?_, by rw [hk]; simp⟩
  unfold mvd
  rw [hk, List.set_append_right _ _ (Nat.le_refl _), Nat.sub_self, List.length_append, List.append_assoc]
  congr 1
  have : (kept q l x).length < l.length := by omega
  rw [List.drop_eq_getElem_cons this]
  rfl

theorem s54 {f : Nat} {F : IFunc} (l : List Pt) (q : Pt → Bool) (cap : Option Nat) (hF : compFn Try.prog f = some F) (hnm : (Try.prog.funcs[f]?.map (·.name)) ≠ some "runtime.NumGoroutine")
    (hq : ∀ p ∈ l, Fn Try.prog f [.agg p.cv] (.bool (q p))) (hlen : l.length ≤ 1000) : CallsC Try.prog Env.none 54 [.slc 0 0 l.length cap, .fn f [] []] [.arr 5 (l.map Pt.cv)]
      fun v H' => ∃ cap' els, v = .slc 0 0 (l.filter fun p => !q p).length cap' ∧ H' = [.arr 5 els] ∧ closedEls els = true ∧ els.take (l.filter fun p => !q p).length = (l.filter fun p => !q p).map Pt.cv := by
  refine vr_fn c54_ok fun N => ?_
  simp (config := {contextual := true}) only [c54, go_sem, List.length_map]
  refine vr_pure (s61o l q cap hF hnm hq hlen) ?_
  simp (config := {contextual := true}) only [go_sem]
  refine ⟨fun h => ?_, fun h => ?_⟩
  · have h' : findAt q l 0 = -1 := by simpa using h
    have hl := findAt_none l h'
    exact ⟨cap, l.map Pt.cv, by rw [hl], rfl, closed_cvs _, by rw [hl, List.take_of_length_le (by rw [List.length_map]; exact Nat.le_refl _)]⟩
  · have h' : findAt q l 0 ≠ -1 := by simpa using h
    obtain ⟨j, h1, h2, h3⟩ := findAt_pos l 0 h'
    rw [Nat.zero_add] at h1
    rw [h1]
    have hk0 : kept q l (j + 1) = l.take j := h3
    have hm0 : mvd q l (j + 1) = l := by
      unfold mvd; rw [hk0, List.length_take, Nat.min_eq_left (by omega), List.take_append_drop]
    refine ⟨inr64 (by omega) (by omega), ?_⟩
    refine vr_loopR (I := fun x : Nat => x ≤ l.length) (inv := fun x => gp [(0, .slc 0 0 l.length cap), (0, .fn f [] []), (3, .int .i64 ((kept q l x).length : Nat)), (0, .int .i64 (x : Nat))] 35) (hp := fun x => [.arr 5 ((mvd q l x).map Pt.cv)]) (μ := fun x => l.length - x) (j + 1) [0] (by omega) rfl ?_ ?_ ?_
    · simp [forget, renL, ren, renId, gp, hk0]; omega
    · simp only [renH, List.map_cons, List.map_nil, go_sem, renO_arr, renEls_closed (closed_cvs _), hm0]
    · intro x hx
      have hle := kept_le q l x
      have hml := mvd_len q l x
      simp (config := {contextual := true}) only [go_sem]
      refine ⟨fun h5 => ?_, fun h5 => ?_⟩
      · have hlt : x < l.length := by omega
        obtain ⟨p, hp⟩ : ∃ p, l[x]? = some p := ⟨_, List.getElem?_eq_getElem hlt⟩
        have hg := mvd_get (q := q) (l := l) (x := x) (y := x) (Nat.le_refl _)
        rw [hp] at hg
        rw [getD_map hg]
        have hil : (kept q l x).length < (mvd q l x).length := by omega
        have hgi : ((mvd q l x).map Pt.cv).getD (kept q l x).length [] = ((mvd q l x)[(kept q l x).length]'hil).cv := getD_map (List.getElem?_eq_getElem hil)
        simp only [List.length_map, hml, Pt.cv, go_sem]
        refine ⟨by omega, hlt, ?_⟩
        refine vr_fv (.inl rfl) rfl hF hnm (hq p (List.mem_of_getElem? hp)) ?_
        simp only [go_sem]
        refine ⟨fun h6 => ?_, fun h6 => ?_⟩
        · have h7 : q p = false := by simpa using h6
          obtain ⟨g1, g2⟩ := mvd_keep hp h7
          have he : ((mvd q l x).map Pt.cv).set (kept q l x).length p.cv = (mvd q l (x + 1)).map Pt.cv := by rw [g1, List.map_set]
          simp only [List.length_map, hml, hgi, Pt.cv, go_sem]
          refine ⟨by omega, by omega, inr64 (by omega) (by omega), inr64 (by omega) (by omega), x + 1, [0], by omega, by omega, rfl, ?_, ?_⟩
          · simp only [Pt.cv] at he
            rw [he]
            simp only [renH, List.map_cons, List.map_nil, go_sem, renO_arr, renEls_closed (closed_cvs _)]
          · rw [g2]; simp [forget, renL, ren, renId]
        · have h7 : q p = true := by simpa using h6
          obtain ⟨g1, g2⟩ := mvd_drop hp h7
          refine ⟨inr64 (by omega) (by omega), x + 1, [0], by omega, by omega, rfl, ?_, ?_⟩
          · rw [g1]
            simp only [renH, List.map_cons, List.map_nil, go_sem, renO_arr, renEls_closed (closed_cvs _)]
          · rw [g2]; simp [forget, renL, ren, renId]
      · have hxl : x = l.length := by omega
        subst hxl
        have hkl : kept q l l.length = l.filter fun p => !q p := by unfold kept; rw [List.take_length]
        have hmt : (mvd q l l.length).take (kept q l l.length).length = kept q l l.length := by unfold mvd; simp
        refine ⟨by omega, by rw [List.length_map]; omega, by omega, cap, _, by rw [hkl]; cases cap <;> rfl, rfl, ?_, ?_⟩
        · rw [closedEls_iff]
          intro e he
          simp only [List.mem_append] at he
          rcases he with he | he | he
          · exact closedEls_iff.1 (closed_cvs _) e (List.mem_of_mem_take he)
          · rw [(List.mem_replicate.1 he).2]; rfl
          · exact closedEls_iff.1 (closed_cvs _) e (List.mem_of_mem_drop he)
        · rw [← hkl, List.take_append_of_le_length (by rw [List.length_take, List.length_map]; omega), List.take_take, Nat.min_self, ← List.map_take, hmt]

/-- A contract of a function that answers a row which it has made, and a number. -/
theorem fn_of_rowA {f : Nat} {args : List CV} {z : Nat} {els : List (List CV)} {ik : IntKind} {x : Int} (h : CallsC Try.prog Env.none f args [] fun v H' => (els = [] ∧ v = .tup [.nils, .int ik x]) ∨ ∃ id off len cap es, v = .tup [.slc id off len cap, .int ik x] ∧ H'[id]? = some (.arr z es) ∧ closedEls es = true ∧ off + len ≤ es.length ∧ (es.drop off).take len = els) (ha : closedL args = true) : Fn Try.prog f args (.tup [.rslc z els none, .int ik x]) := by
  refine fn_of ?_ ha rfl
  intro m w vs hs hv
  refine (h m w vs hs hv).mono ?_
  rintro e w' ⟨r, m', v, H', h1, h2, h3, h4, ⟨rfl, rfl⟩ | ⟨id, off, len, cap, es, rfl, g2, g3, g5, g4⟩⟩
  · refine ⟨r, m', _, H', h1, h2, h3, ?_, rfl⟩
    simp only [rel, rels] at h4 ⊢
    obtain ⟨vs', e1, r1, rs, e2, e3, e4⟩ := h4
    exact ⟨vs', e1, r1, rs, e2, .inl ⟨trivial, trivial, none, e3⟩, e4⟩
  · obtain ⟨imm', hs', he, hf⟩ := Sim.freeze (n0 := ([] : List CObj).length) h3 g2 g3
    refine ⟨r, _, _, _, h1, h2.trans he, hs', hf _ _ h4, ?_⟩
    simp [frz, frzL, g4, g5]

theorem s30 (l : List Pt) (hlen : l.length ≤ 1000) : Fn Try.prog 30 [.rslc 5 (l.map Pt.cv) none] (if ptsOk l then .tup [.rslc 5 ((l.filter fun p => !emp p 101).map Pt.cv) none, .int .i64 0] else .tup [.nils, .int .i64 2]) := by
  by_cases h : ptsOk l = true
  · rw [if_pos h]
    have hok : ∀ p ∈ l, p.ok = true := by
      simp only [ptsOk, Bool.and_eq_true, List.all_eq_true] at h
      exact h.2
    refine fn_of_rowA ?_ rfl
    refine vr_fn c30_ok fun N => ?_
    simp (config := {contextual := true}) only [c30, go_sem]
    refine vr_f (s42 l _ hlen) ?_
    simp (config := {contextual := true}) only [go_sem, h]
    refine vr_call (.inl rfl) (s55 l hlen) ?_
    rintro v H' (⟨rfl, rfl, rfl⟩ | ⟨cap0, rfl, rfl⟩)
    · simp (config := {contextual := true}) only [go_sem]
      refine vr_f s54n ?_
      simp (config := {contextual := true}) only [go_sem, List.filter_nil]
    · simp (config := {contextual := true}) only [go_sem]
      refine vr_call (.inl rfl) (s54 l (fun p => emp p 101) cap0 c56_ok name56 (fun p hp => s56 p (hok p hp)) hlen) ?_
      rintro v H' ⟨cap, els, rfl, rfl, h1, h2⟩
      simp (config := {contextual := true}) only [go_sem]
      have h3 := congrArg List.length h2
      rw [List.length_take, List.length_map] at h3
      exact .inr ⟨0, 0, _, cap, els, rfl, rfl, h1, by omega, by simpa using h2⟩
  · rw [if_neg h]
    refine fn_of_code c30_ok rfl rfl fun N => ?_
    simp (config := {contextual := true}) only [c30, go_sem]
    refine vr_f (s42 l _ hlen) ?_
    simp (config := {contextual := true}) only [go_sem, h]

end Go.Cm
end
