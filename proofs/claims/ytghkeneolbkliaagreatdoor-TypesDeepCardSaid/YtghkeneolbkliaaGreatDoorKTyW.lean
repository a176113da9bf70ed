/-
  The walks of the splitting of types: strings. Conditions: none.
-/
import Derived.Test.YtghkeneolbkliaaGreatDoorKTyD
set_option linter.unusedSimpArgs false
set_option linter.unusedVariables false

section
open Go.Proofs
namespace Go.Cm

/-- A text, off its bytes. -/
abbrev S (l : List UInt8) : CV := .str ⟨⟨l⟩⟩

theorem S_size (l : List UInt8) : (⟨⟨l⟩⟩ : ByteArray).size = l.length := rfl
theorem S_ext (l : List UInt8) (a b : Nat) : (⟨⟨l⟩⟩ : ByteArray).extract a b = ⟨⟨(l.take b).drop a⟩⟩ := by
  apply ByteArray.ext
  rw [ByteArray.data_extract]
  apply Array.ext'
  simp [List.extract_eq_take_drop, List.drop_take]
theorem S_eq (l m : List UInt8) : ((⟨⟨l⟩⟩ : ByteArray) = ⟨⟨m⟩⟩) = (l = m) := by simp
theorem A_size (l : List UInt8) : (⟨l⟩ : Array UInt8).size = l.length := rfl
theorem binS_eql (l m : List UInt8) : binS .eql ⟨⟨l⟩⟩ ⟨⟨m⟩⟩ = some (.tt, .bool (l == m)) := by
  simp [binS]
theorem binS_neq (l m : List UInt8) : binS .neq ⟨⟨l⟩⟩ ⟨⟨m⟩⟩ = some (.tt, .bool (!(l == m))) := by
  simp [binS]
theorem A_getD (l : List UInt8) (n : Nat) : (⟨l⟩ : Array UInt8).getD n 0 = l.getD n 0 := by
  simp [Array.getD_eq_getD_getElem?, List.getD_eq_getElem?_getD]
theorem N_pred (n : Nat) : ((n : Int) - 1).toNat = n - 1 := by omega
attribute [go_sem] S_size A_size S_ext binS_eql binS_neq A_getD N_pred

theorem t63 (l p : List UInt8) : Fn Tryz.prog 63 [S l, S p] (.bool (l.take p.length == p)) := by
  refine fn_of_code c63_ok rfl rfl fun N => ?_
  simp (config := {contextual := true}) only [c63, go_sem]
  refine ⟨fun h => by omega, fun h => ?_⟩
  congr 1
  symm
  rw [beq_eq_false_iff_ne]
  intro e
  have := congrArg List.length e
  simp at this
  omega

theorem t36 (l p : List UInt8) : Fn Tryz.prog 36 [S l, S p] (if l.take p.length = p then .tup [S (l.drop p.length), .bool true] else .tup [S l, .bool false]) := by
  refine fn_of_code c36_ok rfl (by split <;> rfl) fun N => ?_
  simp (config := {contextual := true}) only [c36, go_sem]
  refine vr_f (t63 _ _) ?_
  simp (config := {contextual := true}) only [go_sem]
  refine ⟨fun h => ?_, fun h => ?_⟩
  · simp at h
    rw [if_neg h]
  · simp at h
    have hl := congrArg List.length h
    simp at hl
    rw [if_pos h, List.take_length]
    exact ⟨by omega, rfl⟩

theorem t24 (l p : List UInt8) : Fn Tryz.prog 24 [S l, S p] (if l.take p.length = p then .tup [S (l.drop p.length), .bool true] else .tup [S l, .bool false]) := by
  refine fn_of_code c24_ok rfl (by split <;> rfl) fun N => ?_
  simp (config := {contextual := true}) only [c24, go_sem]
  refine vr_f (t36 _ _) ?_
  by_cases h : l.take p.length = p
  · simp (config := {contextual := true}) only [go_sem, if_pos h]
  · simp (config := {contextual := true}) only [go_sem, if_neg h]

def strm : List UInt8 := [115, 116, 114, 101, 97, 109, 32]
def wStr : List UInt8 := [115, 116, 114, 101, 97, 109]
def wArr : List UInt8 := [91, 93]
def wInt : List UInt8 := [105, 110, 116]
def wBool : List UInt8 := [98, 111, 111, 108]

/-- In brackets. -/
def isB (l : List UInt8) : Bool := ((l.getD 0 0).toNat : Int) == 91 && ((l.getD (l.length - 1) 0).toNat : Int) == 93
def mid (l : List UInt8) : List UInt8 := (l.take (l.length - 1)).drop 1

/-- Of what a type is put together: the word, and the part. -/
def inn (l : List UInt8) : Option (List UInt8 × List UInt8) :=
  if l.take 7 = strm then some (wStr, l.drop 7) else if 1 < l.length ∧ isB l = true then some (wArr, mid l) else none

def innV : Option (List UInt8 × List UInt8) → CV
  | some (w, p) => .tup [S w, S p, .bool true]
  | none => .tup [S [], S [], .bool false]

theorem mixedT : Tryz.prog.follows .mixedOrders = true := tMixed

theorem t16 (l : List UInt8) (hl : l.length ≤ 100000) : Fn Tryz.prog 16 [S l] (innV (inn l)) := by
  refine fn_of_code c16_ok rfl (by unfold innV; split <;> rfl) fun N => ?_
  simp (config := {contextual := true}) only [c16, go_sem]
  refine vr_f (t24 l strm) ?_
  by_cases h : l.take 7 = strm
  · have h7 : l.take strm.length = strm := h
    have hi : inn l = some (wStr, l.drop 7) := by rw [inn, if_pos h]
    rw [if_pos h7, hi]
    simp (config := {contextual := true}) only [go_sem, innV]
    rfl
  · have h7 : ¬ l.take strm.length = strm := h
    rw [if_neg h7]
    simp (config := {contextual := true}) only [go_sem]
    by_cases h1 : 1 < l.length ∧ isB l = true
    · have hi : inn l = some (wArr, mid l) := by rw [inn, if_neg h, if_pos h1]
      have hb := h1.2
      simp only [isB, Bool.and_eq_true] at hb
      rw [hi]
      refine ⟨fun h2 => ⟨by omega, fun h3 => ⟨inr64 (by omega) (by omega), ⟨by omega, by omega⟩, fun h4 => ?_, fun h4 => ?_⟩, fun h3 => ?_⟩, fun h2 => by omega⟩
      · refine vr_dreg mixedT (by decide) ?_
        simp (config := {contextual := true}) only [go_sem]
        exact ⟨inr64 (by omega) (by omega), by omega, rfl⟩
      · rw [hb.2] at h4; cases h4
      · rw [hb.1] at h3; cases h3
    · have hi : inn l = none := by rw [inn, if_neg h, if_neg h1]
      rw [hi]
      refine ⟨fun h2 => ⟨by omega, fun h3 => ⟨inr64 (by omega) (by omega), ⟨by omega, by omega⟩, fun h4 => ?_, fun h4 => ?_⟩, fun h3 => rfl⟩, fun h2 => rfl⟩
      · exact (h1 ⟨by omega, by rw [isB, h3, h4]; rfl⟩).elim
      · rfl

/-- The number of parts that are taken off, and what is left. -/
def ptn : Nat → List UInt8 → Nat × List UInt8
  | 0, l => (1, l)
  | k + 1, l => match inn l with
    | some (_, p) => ((ptn k p).1 + 1, (ptn k p).2)
    | none => (1, l)

theorem inn_lt {l w p : List UInt8} (h : inn l = some (w, p)) : p.length < l.length := by
  unfold inn at h
  split at h
  · rename_i h7
    have := congrArg List.length h7
    simp [strm] at this
    simp at h
    rw [← h.2]
    simp; omega
  · split at h
    · rename_i h1
      simp at h
      rw [← h.2, mid]
      simp; omega
    · cases h

theorem ptn_fuel : ∀ (k m : Nat) (l : List UInt8), l.length ≤ k → l.length ≤ m → ptn k l = ptn m l
  | 0, 0, l, _, _ => rfl
  | 0, m + 1, l, hk, _ => by
    have : inn l = none := by
      cases h : inn l with
      | none => rfl
      | some x => have := inn_lt (w := x.1) (p := x.2) h; omega
    simp [ptn, this]
  | k + 1, 0, l, _, hm => by
    have : inn l = none := by
      cases h : inn l with
      | none => rfl
      | some x => have := inn_lt (w := x.1) (p := x.2) h; omega
    simp [ptn, this]
  | k + 1, m + 1, l, hk, hm => by
    cases h : inn l with
    | none => simp [ptn, h]
    | some x =>
      have := inn_lt (w := x.1) (p := x.2) h
      simp only [ptn, h]
      rw [ptn_fuel k m x.2 (by omega) (by omega)]

def pt (l : List UInt8) : Nat × List UInt8 := ptn l.length l
theorem pt_some {l w p : List UInt8} (h : inn l = some (w, p)) : pt l = ((pt p).1 + 1, (pt p).2) := by
  have hl := inn_lt h
  obtain ⟨k, hk⟩ : ∃ k, l.length = k + 1 := ⟨l.length - 1, by omega⟩
  unfold pt
  rw [hk, ptn, h]
  simp only
  rw [ptn_fuel k p.length p (by omega) (Nat.le_refl _)]
theorem pt_none {l : List UInt8} (h : inn l = none) : pt l = (1, l) := by
  unfold pt
  cases hk : l.length with
  | zero => rfl
  | succ k => rw [ptn, h]

/-- How many parts a type has; 0 if it is none. -/
def pts (l : List UInt8) : Nat := if (pt l).2 = wInt ∨ (pt l).2 = wBool then (pt l).1 else 0

theorem t15 (l : List UInt8) (hl : l.length ≤ 100000) : Fn Tryz.prog 15 [S l] (.int .i64 (pts l)) := by
  refine fn_of_code c15_ok rfl rfl fun N => ?_
  simp (config := {contextual := true}) only [c15, go_sem]
  refine vr_loop (I := fun s : Nat × List UInt8 => s.1 + s.2.length ≤ l.length + 1 ∧ 1 ≤ s.1 ∧ (pt l).1 + 1 = s.1 + (pt s.2).1 ∧ (pt l).2 = (pt s.2).2) (inv := fun s => gp [(0, S s.2), (2, .int .i64 s.1)] 21) (hp := fun _ => []) (μ := fun s => s.2.length) (1, l) (by simp; omega) ?_ rfl ?_
  · simp [forget, gp]
  · rintro ⟨m, r⟩ ⟨h1, h2, h3, h4⟩
    simp (config := {contextual := true}) only [go_sem]
    refine vr_f (t16 r (by simp at h1; omega)) ?_
    cases hi : inn r with
    | some x =>
      obtain ⟨w, p⟩ := x
      have hlt := inn_lt hi
      have hp := pt_some hi
      simp (config := {contextual := true}) only [go_sem, innV]
      simp at h1
      rw [hp] at h3 h4
      exact ⟨inr64 (by omega) (by omega), (m + 1, p), ⟨by simp; omega, by simp, by simp at h3 ⊢; omega, h4⟩, hlt, by simp [forget]⟩
    | none =>
      have hp := pt_none hi
      simp (config := {contextual := true}) only [go_sem, innV]
      rw [hp] at h3 h4
      simp at h3 h4
      have hm : (pt l).1 = m := by omega
      refine ⟨fun h5 => ⟨fun h6 => ?_, fun h6 => ?_⟩, fun h5 => ?_⟩
      · have e : pts l = 0 := by
          rw [pts, h4, if_neg]
          rintro (rfl | rfl)
          · simp [wInt] at h5
          · simp [wBool] at h6
        rw [e]; rfl
      · have e : pts l = m := by
          rw [pts, h4, if_pos, hm]
          simp at h6
          exact .inr h6
        rw [e]
      · have e : pts l = m := by
          rw [pts, h4, if_pos, hm]
          simp at h5
          exact .inl h5
        rw [e]

theorem t6 (l : List UInt8) (hl : l.length ≤ 100000) : Fn Tryz.prog 6 [S l] (if pts l = 0 ∨ 20 < pts l then .tup [S [], S [], .int .i64 4] else match inn l with
    | some (w, p) => .tup [S w, S p, .int .i64 0]
    | none => .tup [S l, S [], .int .i64 0]) := by
  refine fn_of_code c6_ok rfl (by split; · rfl
                                  · split <;> rfl) fun N => ?_
  simp (config := {contextual := true}) only [c6, go_sem]
  refine vr_f (t15 l hl) ?_
  simp (config := {contextual := true}) only [go_sem]
  refine ⟨fun h => ⟨fun h2 => ?_, fun h2 => ?_⟩, fun h => ?_⟩
  · rw [if_pos (.inr (by omega))]
  · simp at h
    rw [if_neg (by omega)]
    refine vr_f (t16 l hl) ?_
    cases hi : inn l with
    | some x => simp (config := {contextual := true}) only [go_sem, innV]
    | none => simp (config := {contextual := true}) only [go_sem, innV]
  · simp at h
    rw [if_pos (.inl h)]

theorem t7 (l : List UInt8) (hl : l.length ≤ 100000) : Fn Tryz.prog 7 [S l] (if pts l = 0 ∨ 20 < pts l then .tup [.int .i64 0, .int .i64 4] else .tup [.int .i64 (pts l), .int .i64 0]) := by
  refine fn_of_code c7_ok rfl (by split <;> rfl) fun N => ?_
  simp (config := {contextual := true}) only [c7, go_sem]
  refine vr_f (t15 l hl) ?_
  simp (config := {contextual := true}) only [go_sem]
  refine ⟨fun h => ⟨fun h2 => ?_, fun h2 => ?_⟩, fun h => ?_⟩
  · rw [if_pos (.inr (by omega))]
  · simp at h
    rw [if_neg (by omega)]
  · simp at h
    rw [if_pos (.inl h)]

/-- The letters that begin a part. -/
def isL (b : UInt8) : Bool := (b.toNat : Int) == 91 || (b.toNat : Int) == 115
def cnt (l : List UInt8) : Nat := (l.filter isL).length

theorem cnt_le (l : List UInt8) : cnt l ≤ l.length := List.length_filter_le _ _
theorem cnt_take (l : List UInt8) (i : Nat) (h : i < l.length) : cnt (l.take (i + 1)) = cnt (l.take i) + if isL (l.getD i 0) = true then 1 else 0 := by
  rw [List.take_succ_eq_append_getElem h, cnt, cnt, List.filter_append, List.length_append, List.getD_eq_getElem?_getD, List.getElem?_eq_getElem h]
  simp only [Option.getD_some, List.filter_cons, List.filter_nil]
  split <;> simp

theorem t10 (l : List UInt8) (hl : l.length ≤ 100000) : Fn Tryz.prog 10 [S l] (.int .i64 (cnt l + 1 : Nat)) := by
  refine fn_of_code c10_ok rfl rfl fun N => ?_
  simp (config := {contextual := true}) only [c10, go_sem]
  refine vr_loop (I := fun i : Nat => i ≤ l.length) (inv := fun i => gp [(0, S l), (2, .int .i64 (cnt (l.take i) + 1 : Nat)), (0, .int .i64 i)] 19) (hp := fun _ => []) (μ := fun i => l.length - i) 0 (by omega) ?_ rfl ?_
  · simp [forget, gp, cnt]
  · intro i hi
    have hc := cnt_le (l.take i)
    rw [List.length_take] at hc
    simp (config := {contextual := true}) only [go_sem]
    refine ⟨fun h => ?_, fun h => ?_⟩
    · have hn := cnt_take l i (by omega)
      have e2 : ∀ b : Bool, isL (l.getD i 0) = b → (cnt (l.take (i + 1)) : Int) = cnt (l.take i) + if b = true then 1 else 0 := by
        rintro b rfl
        rw [hn]; split <;> simp
      refine ⟨by omega, fun h2 => ⟨by omega, fun h3 => ?_, fun h3 => ?_⟩, fun h2 => ?_⟩
      · have := e2 true (by rw [isL, h2, h3]; rfl)
        refine ⟨inr64 (by omega) (by omega), inr64 (by omega) (by omega), i + 1, by omega, by omega, ?_⟩
        simp [forget, this]
      · have := e2 false (by rw [isL, h2, h3]; rfl)
        refine ⟨inr64 (by omega) (by omega), i + 1, by omega, by omega, ?_⟩
        simp [forget, this]
      · have := e2 true (by rw [isL, h2]; rfl)
        refine ⟨inr64 (by omega) (by omega), inr64 (by omega) (by omega), i + 1, by omega, by omega, ?_⟩
        simp [forget, this]
    · have : i = l.length := by omega
      rw [this, List.take_length]

/-- The reference's own Split, over its own IsType. -/
def spl (f : List UInt8 → Bool) (l : List UInt8) : List UInt8 × List UInt8 × Bool :=
  if l = wInt ∨ l = wBool then (l, [], true)
  else if 2 < l.length ∧ isB l = true then (wArr, mid l, f (mid l))
  else if 7 < l.length ∧ l.take 7 = strm then (wStr, l.drop 7, f (l.drop 7))
  else ([], [], false)
def isF : Nat → List UInt8 → Bool
  | 0, _ => false
  | k + 1, l => (spl (isF k) l).2.2 && decide (cnt l + 1 ≤ 20)
def splV (x : List UInt8 × List UInt8 × Bool) : CV := .tup [S x.1, S x.2.1, .bool x.2.2]

theorem t8_of (k : Nat) (l : List UInt8) (hl : l.length ≤ 100000) (h : Fn Tryz.prog 9 [S l] (splV (spl (isF k) l))) : Fn Tryz.prog 8 [S l] (.bool (isF (k + 1) l)) := by
  refine fn_of_code c8_ok rfl rfl fun N => ?_
  simp (config := {contextual := true}) only [c8, go_sem]
  refine vr_f h ?_
  simp (config := {contextual := true}) only [go_sem, splV]
  refine ⟨fun h2 => ?_, fun h2 => ?_⟩
  · refine vr_fg (.inr ⟨_, _, rfl, rfl⟩) (t10 l hl) ?_
    simp (config := {contextual := true}) only [go_sem]
    rw [isF, h2]
    congr 1
    rw [Bool.true_and]
    exact decide_eq_decide.2 (by omega)
  · rw [isF, h2]; rfl

theorem t9_of (f : List UInt8 → Bool) (l : List UInt8) (hl : l.length ≤ 100000) (h : ∀ p, p.length < l.length → Fn Tryz.prog 8 [S p] (.bool (f p))) : Fn Tryz.prog 9 [S l] (splV (spl f l)) := by
  refine fn_of_code c9_ok rfl rfl fun N => ?_
  by_cases h1 : l = wInt ∨ l = wBool
  · have hs : spl f l = (l, [], true) := by rw [spl, if_pos h1]
    rw [hs]
    rcases h1 with e | e
    · have e1 : (l == [105, 110, 116]) = true := beq_iff_eq.2 e
      simp (config := {contextual := true}) only [c9, go_sem, splV, e1]
    · have e1 : (l == [105, 110, 116]) = false := by rw [e]; rfl
      have e2 : (l == [98, 111, 111, 108]) = true := beq_iff_eq.2 e
      simp (config := {contextual := true}) only [c9, go_sem, splV, e1, e2]
  · have e1 : (l == [105, 110, 116]) = false := by
      rw [beq_eq_false_iff_ne]; exact fun e => h1 (.inl e)
    have e2 : (l == [98, 111, 111, 108]) = false := by
      rw [beq_eq_false_iff_ne]; exact fun e => h1 (.inr e)
    by_cases hP : 2 < l.length ∧ isB l = true
    · have hs : spl f l = (wArr, mid l, f (mid l)) := by rw [spl, if_neg h1, if_pos hP]
      rw [hs]
      have d1 : (2 < (l.length : Int)) = True := eq_true (by omega)
      have hb := hP.2
      simp only [isB, Bool.and_eq_true] at hb
      have b1 := hb.1
      have b2 := hb.2
      simp (config := {contextual := true}) only [c9, go_sem, e1, e2, d1, b1, b2, decide_true]
      refine ⟨by omega, inr64 (by omega) (by omega), ⟨by omega, by omega⟩, ?_⟩
      refine vr_dreg mixedT (by decide) ?_
      simp (config := {contextual := true}) only [go_sem]
      refine ⟨inr64 (by omega) (by omega), by omega, inr64 (by omega) (by omega), by omega, ?_⟩
      refine vd_call (.inl rfl) (h (mid l) (by simp [mid]; omega)) ?_
      simp (config := {contextual := true}) only [go_sem, splV]
      rfl
    · by_cases hQ : 7 < l.length ∧ l.take 7 = strm
      · have hs : spl f l = (wStr, l.drop 7, f (l.drop 7)) := by rw [spl, if_neg h1, if_neg hP, if_pos hQ]
        have d1 : (2 < (l.length : Int)) = True := eq_true (by omega)
        have d2 : (7 < (l.length : Int)) = True := eq_true (by omega)
        have f1 : (l.getD 0 0) = 115 := by
          have : (l.take 7).getD 0 0 = 115 := by rw [hQ.2]; rfl
          rw [← this]
          cases l with
          | nil => simp at hQ
          | cons a t => rfl
        have b1 : (((l.getD 0 0).toNat : Int) == 91) = false := by rw [f1]; rfl
        have b3 : (l.take 7 == [115, 116, 114, 101, 97, 109, 32]) = true := beq_iff_eq.2 hQ.2
        rw [hs]
        simp (config := {contextual := true}) only [c9, go_sem, e1, e2, d1, d2, b1, decide_true]
        refine ⟨by omega, by omega, fun _ => ?_, fun h9 => ?_⟩
        · refine vr_dreg mixedT (by decide) ?_
          simp (config := {contextual := true}) only [go_sem, List.take_length]
          refine ⟨by omega, by omega, ?_⟩
          refine vd_call (.inl rfl) (h (l.drop 7) (by simp; omega)) ?_
          simp (config := {contextual := true}) only [go_sem, splV]
          rfl
        · rw [b3] at h9; cases h9
      · have hs : spl f l = ([], [], false) := by rw [spl, if_neg h1, if_neg hP, if_neg hQ]
        rw [hs]
        have q2 : 7 < (l.length : Int) → (l.take 7 == [115, 116, 114, 101, 97, 109, 32]) = false := fun d7 => by
          rw [beq_eq_false_iff_ne]; exact fun e => hQ ⟨by omega, e⟩
        by_cases d1 : 2 < l.length
        · have d1' : (2 < (l.length : Int)) = True := eq_true (by omega)
          cases b1 : (((l.getD 0 0).toNat : Int) == 91)
          · simp (config := {contextual := true}) only [c9, go_sem, e1, e2, d1', b1, decide_true, q2, splV]
            exact ⟨by omega, fun _ => by omega⟩
          · have b2 : (((l.getD (l.length - 1) 0).toNat : Int) == 93) = false := by
              cases b2 : (((l.getD (l.length - 1) 0).toNat : Int) == 93)
              · rfl
              · exact (hP ⟨d1, by rw [isB, b1, b2]; rfl⟩).elim
            simp (config := {contextual := true}) only [c9, go_sem, e1, e2, d1', b1, b2, decide_true, q2, splV]
            exact ⟨by omega, inr64 (by omega) (by omega), by omega, fun _ => by omega⟩
        · have d1' : (2 < (l.length : Int)) = False := eq_false (by omega)
          have d2' : (7 < (l.length : Int)) = False := eq_false (by omega)
          simp (config := {contextual := true}) only [c9, go_sem, e1, e2, d1', d2', decide_false, splV]

theorem t9 : ∀ (k : Nat) (l : List UInt8), l.length ≤ k → l.length ≤ 100000 → Fn Tryz.prog 9 [S l] (splV (spl (isF k) l))
  | 0, l, hl, hb => t9_of _ l hb fun p hp => by omega
  | k + 1, l, hl, hb => t9_of _ l hb fun p hp => t8_of k p (by omega) (t9 k p (by omega) (by omega))

theorem t8 (k : Nat) (l : List UInt8) (hl : l.length ≤ k) (hb : l.length ≤ 100000) : Fn Tryz.prog 8 [S l] (.bool (isF (k + 1) l)) := t8_of k l hb (t9 k l hl hb)
end Go.Cm
end
