/-
  Parts of arrays: the references. Conditions: none.
  Parts of arrays: the references, continued. Conditions: none.
  Parts of arrays: the misses by counting are those by looking. Conditions: none.
  Parts of arrays: the references, last part. Conditions: none.
  Parts of arrays: Slim of the reference, comparisons, copies. Conditions: none.
  Parts of arrays: comparisons and copies. Conditions: none.
  Parts of arrays: the document's examples, computed. Conditions: none.
  Parts of arrays: the document's examples, called. Conditions: none.
  What the arguments of the statements about parts are. Conditions: none.
-/
import Derived.Test.YtodbhbjjeamoaaaPt1
import Derived.Test.YtodbhbjjeamoaaaCm3
set_option linter.unusedSimpArgs false
set_option linter.unusedVariables false

section
open Go.Proofs
namespace Go.Cm

theorem s40 (n a b : Int) : Fn Try.prog 40 [.int .i64 n, .int .i64 a, .int .i64 b] (.bool (decide (a ≤ n) && decide (n ≤ b))) := by
  refine fn_of_code c40_ok rfl rfl fun N => ?_
  simp (config := {contextual := true}) only [c40, go_sem]

theorem s39 (b : Bool) (k : Int) : Fn Try.prog 39 [.agg [.bool b, .int .i64 k]] (.bool (isSz k)) := by
  refine fn_of_code c39_ok rfl rfl fun N => ?_
  simp (config := {contextual := true}) only [c39, go_sem]
  refine vr_f (s40 _ _ _) ?_
  simp (config := {contextual := true}) only [go_sem, isSz]

theorem s53 (b : Bool) (k n : Int) (h : InR .i64 (n - k)) : Fn Try.prog 53 [.agg [.bool b, .int .i64 k], .int .i64 n] (.int .i64 (bval b k n)) := by
  refine fn_of_code c53_ok rfl rfl fun N => ?_
  simp (config := {contextual := true}) only [c53, go_sem, h, bval]

theorem s48 (p : Pt) (n i : Int) (h : p.Small n) (hi : -1000 ≤ i ∧ i ≤ 1000) : Fn Try.prog 48 [.agg p.cv, .int .i64 n, .int .i64 i] (.bool (p.has n i)) := by
  refine fn_of_code c48_ok rfl rfl fun N => ?_
  simp (config := {contextual := true}) only [c48, go_sem, Pt.cv]
  have hf := h.fit
  have h1 := h.first
  have h2 := h.st
  refine vr_f (s53 _ _ _ hf.f) ?_
  simp (config := {contextual := true}) only [go_sem]
  change _ ∧ _
  have e1 : bval p.fs p.fn n = p.first n := rfl
  have e2 : bval p.ts p.tn n = p.last n := rfl
  rw [e1]
  refine ⟨fun h3 => ?_, fun h3 => ?_⟩
  · refine vr_fg (gok ?_) (s53 _ _ _ hf.t) ?_
    · simp only [go_sem]
    rw [e2]
    simp (config := {contextual := true}) only [go_sem]
    refine ⟨fun h4 => ⟨inr64 (by omega) (by omega), by omega, ?_⟩, fun h4 => ?_⟩
    · simp only [Pt.has, h3, h4]; rfl
    · simp [Pt.has, h4]
  · simp [Pt.has]; omega

theorem s17 (l : List Pt) (cap : Option Nat) (hlen : l.length ≤ 1000) : Fn Try.prog 17 [.rslc 5 (l.map Pt.cv) cap] (.bool (ptsOk l)) := by
  refine fn_of_code c17_ok rfl rfl fun N => ?_
  simp (config := {contextual := true}) only [c17, go_sem, List.length_map]
  refine ⟨fun h => ?_, fun h => ?_⟩
  · have : ¬ l.length ≤ 12 := by omega
    simp [ptsOk, this]
  · have hl : l.length ≤ 12 := by omega
    have hok : ptsOk l = l.all Pt.ok := by simp [ptsOk, hl]
    refine vr_loop (I := fun i : Nat => i ≤ l.length ∧ l.all Pt.ok = (l.drop i).all Pt.ok) (inv := fun i => gp [(0, .rslc 5 (l.map Pt.cv) cap), (2, .int .i64 i)] 34) (hp := fun _ => []) (μ := fun i => l.length - i) 0 ⟨by omega, by simp⟩ ?_ rfl ?_
    · simp [forget, gp]
    · rintro i ⟨hi, he⟩
      simp (config := {contextual := true}) only [go_sem, List.length_map]
      refine ⟨fun h5 => ?_, fun h5 => ?_⟩
      · have hlt : i < l.length := by omega
        obtain ⟨p, hp⟩ : ∃ p, l[i]? = some p := ⟨_, List.getElem?_eq_getElem hlt⟩
        have hd : (l.drop i).all Pt.ok = (p.ok && (l.drop (i + 1)).all Pt.ok) := by
          rw [List.drop_eq_getElem_cons hlt, List.all_cons, (List.getElem?_eq_some_iff.1 hp).2]
        rw [hd] at he
        rw [getD_map hp]
        have hpo : p.ok = ((isSz p.fn && isSz p.tn) && (decide (1 ≤ p.st) && decide (p.st ≤ 9))) := by
          simp only [Pt.ok]; cases decide (1 ≤ p.st) <;> cases decide (p.st ≤ 9) <;> cases isSz p.fn <;> cases isSz p.tn <;> rfl
        simp only [Pt.cv, go_sem]
        refine ⟨by omega, ?_⟩
        refine vr_f (s39 _ _) ?_
        simp (config := {contextual := true}) only [go_sem]
        by_cases g1 : isSz p.fn = true
        · simp (config := {contextual := true}) only [go_sem, g1, List.length_map]
          rw [getD_map hp]
          simp only [Pt.cv, go_sem]
          refine ⟨by omega, ?_⟩
          refine vr_fg (gok rfl) (s39 _ _) ?_
          simp (config := {contextual := true}) only [go_sem]
          by_cases g2 : isSz p.tn = true
          · simp (config := {contextual := true}) only [go_sem, g2, List.length_map]
            rw [getD_map hp]
            simp only [Pt.cv, go_sem]
            refine ⟨by omega, ?_⟩
            refine vr_fg (gok rfl) (s40 _ _ _) ?_
            simp (config := {contextual := true}) only [go_sem]
            by_cases g3 : (decide (1 ≤ p.st) && decide (p.st ≤ 9)) = true
            · simp (config := {contextual := true}) only [go_sem, g3]
              rw [hpo, g1, g2, g3] at he
              exact ⟨inr64 (by omega) (by omega), i + 1, ⟨by omega, by simpa using he⟩, by omega, by simp [forget]⟩
            · have g4 : (decide (1 ≤ p.st) && decide (p.st ≤ 9)) = false := by simpa using g3
              simp (config := {contextual := true}) only [go_sem, g4]
              rw [hpo, g4] at he
              rw [hok, he]; simp
          · have g4 : isSz p.tn = false := by simpa using g2
            simp (config := {contextual := true}) only [go_sem, g4]
            rw [hpo, g4] at he
            rw [hok, he]; simp
        · have g4 : isSz p.fn = false := by simpa using g1
          simp (config := {contextual := true}) only [go_sem, g4]
          rw [hpo, g4] at he
          rw [hok, he]; simp
      · have : i = l.length := by omega
        subst this
        rw [hok, he]; simp

end Go.Cm
end

section
open Go.Proofs
namespace Go.Cm

/-- How many parts have a cell. -/
def hasN (l : List Pt) (n c : Int) : Nat := (l.filter fun p => p.has n c).length

/-- What is wrong with a cell, off the parts. -/
def howOf (l : List Pt) (n c : Int) : Int :=
  if 0 ≤ c ∧ c ≤ n - 1 then (if hasN l n c = 0 then 1 else if 1 < hasN l n c then 2 else 0)
  else if 0 < hasN l n c then 3 else 0

theorem hasN_take {l : List Pt} {n c : Int} {i : Nat} {p : Pt} (h : l[i]? = some p) : hasN (l.take (i + 1)) n c = hasN (l.take i) n c + if p.has n c then 1 else 0 := by
  have hlt := (List.getElem?_eq_some_iff.1 h).1
  have hp := (List.getElem?_eq_some_iff.1 h).2
  unfold hasN
  rw [List.take_succ_eq_append_getElem hlt, hp, List.filter_append, List.length_append]
  by_cases hq : p.has n c = true <;> simp [hq]

theorem hasN_le (l : List Pt) (n c : Int) : hasN l n c ≤ l.length := List.length_filter_le _ _

set_option maxHeartbeats 1000000 in
theorem s41 (l : List Pt) (cap : Option Nat) (n c : Int) (h : ∀ p ∈ l, p.Small n) (hn : 0 ≤ n ∧ n ≤ 100) (hc : -1000 ≤ c ∧ c ≤ 1000) (hlen : l.length ≤ 1000) : Fn Try.prog 41 [.rslc 5 (l.map Pt.cv) cap, .int .i64 n, .int .i64 c] (.int .u8 (howOf l n c)) := by
  refine fn_of_code c41_ok rfl rfl fun N => ?_
  simp (config := {contextual := true}) only [c41, go_sem, List.length_map]
  refine vr_loop (I := fun i : Nat => i ≤ l.length) (inv := fun i => gp [(0, .rslc 5 (l.map Pt.cv) cap), (0, .int .i64 n), (0, .int .i64 c), (4, .int .i64 (hasN (l.take i) n c : Nat)), (0, .int .i64 i)] 39) (hp := fun _ => []) (μ := fun i => l.length - i) 0 (by omega) ?_ rfl ?_
  · simp [forget, gp, hasN]
  · rintro i hi
    simp (config := {contextual := true}) only [go_sem, List.length_map]
    refine ⟨fun h5 => ?_, fun h5 => ?_⟩
    · have hlt : i < l.length := by omega
      obtain ⟨p, hp⟩ : ∃ p, l[i]? = some p := ⟨_, List.getElem?_eq_getElem hlt⟩
      have ht := hasN_take (n := n) (c := c) hp
      have hl := hasN_le (l.take i) n c
      have hl2 : (l.take i).length ≤ i := by rw [List.length_take]; omega
      rw [getD_map hp]
      refine ⟨by omega, by simp [Pt.cv], ?_⟩
      simp only [Pt.cv, go_sem]
      refine vr_f (s48 p n c (h p (List.mem_of_getElem? hp)) hc) ?_
      simp (config := {contextual := true}) only [go_sem]
      refine ⟨fun h6 => ?_, fun h6 => ?_⟩
      · rw [if_pos h6] at ht
        refine ⟨inr64 (by omega) (by omega), inr64 (by omega) (by omega), i + 1, by omega, by omega, ?_⟩
        rw [ht]; simp [forget]
      · rw [h6, if_neg (by simp)] at ht
        refine ⟨inr64 (by omega) (by omega), i + 1, by omega, by omega, ?_⟩
        rw [ht]; simp [forget]
    · have : i = l.length := by omega
      subst this
      rw [List.take_length]
      refine ⟨inr64 (by omega) (by omega), ?_⟩
      refine vr_f (s40 _ _ _) ?_
      by_cases hin : 0 ≤ c ∧ c ≤ n - 1
      · have hb : (decide (0 ≤ c) && decide (c ≤ n - 1)) = true := by simp [hin]
        by_cases h0 : hasN l n c = 0
        · simp (config := {contextual := true}) only [go_sem, hb, h0]
          simp [howOf, hin, h0]
        · by_cases h1 : 1 < hasN l n c
          · have e0 : (((hasN l n c : Nat) : Int) == 0) = false := by simp; omega
            have e1 : (1 : Int) < ((hasN l n c : Nat) : Int) := by omega
            simp (config := {contextual := true}) only [go_sem, hb, e0, e1]
            simp [howOf, hin, h0, h1]
          · have e0 : (((hasN l n c : Nat) : Int) == 0) = false := by simp; omega
            have e1 : ¬ (1 : Int) < ((hasN l n c : Nat) : Int) := by omega
            simp (config := {contextual := true}) only [go_sem, hb, e0, e1]
            simp [howOf, hin, h0, h1]
      · have hb : (decide (0 ≤ c) && decide (c ≤ n - 1)) = false := by simp; omega
        by_cases h0 : 0 < hasN l n c
        · have e0 : (0 : Int) < ((hasN l n c : Nat) : Int) := by omega
          simp (config := {contextual := true}) only [go_sem, hb, e0]
          simp [howOf, hin, h0]
        · have e0 : ¬ (0 : Int) < ((hasN l n c : Nat) : Int) := by omega
          simp (config := {contextual := true}) only [go_sem, hb, e0]
          simp [howOf, hin, h0]

/-- The misses among the first cells, off the parts. -/
def rms (l : List Pt) (n : Int) : Nat → List (List CV)
  | 0 => []
  | k + 1 => rms l n k ++ (if howOf l n (k - 200) = 0 then [] else [missCv n (k - 200) (howOf l n (k - 200))])

theorem rms_len (l : List Pt) (n : Int) : ∀ k, (rms l n k).length ≤ k
  | 0 => by simp [rms]
  | k + 1 => by
    have := rms_len l n k
    simp only [rms, List.length_append]
    split <;> simp <;> omega

theorem closedEls_app {a b : List (List CV)} (ha : closedEls a = true) (hb : closedEls b = true) : closedEls (a ++ b) = true := by
  rw [closedEls_iff] at ha hb ⊢
  intro e he
  rcases List.mem_append.1 he with h | h
  · exact ha e h
  · exact hb e h

theorem rms_closed (l : List Pt) (n : Int) : ∀ k, closedEls (rms l n k) = true
  | 0 => rfl
  | k + 1 => closedEls_app (rms_closed l n k) (by split <;> rfl)

set_option maxHeartbeats 1000000 in
theorem s19 (l : List Pt) (cap : Option Nat) (n : Int) (h : ∀ p ∈ l, p.Small n) (hn : 0 ≤ n ∧ n ≤ 100) (hlen : l.length ≤ 1000) : Fn Try.prog 19 [.rslc 5 (l.map Pt.cv) cap, .int .i64 n] (.rslc 3 (rms l n 401) none) := by
  refine fn_of_rowS ?_ rfl
  refine vr_fn c19_ok fun N => ?_
  simp (config := {contextual := true}) only [c19, go_sem]
  refine vr_loopR (I := fun k : Nat => k ≤ 401) (inv := fun k => gp [(0, .rslc 5 (l.map Pt.cv) cap), (0, .int .i64 n), (3, .slc 0 0 (rms l n k).length (capE (rms l n k))), (0, .int .i64 (k - 200))] 20) (hp := fun k => [.arr 3 (rms l n k)]) (μ := fun k => 401 - k) 0 [0] (by omega) rfl ?_ rfl ?_
  · simp [forget, renL, ren, renId, gp, rms, capE]
  · intro k hk
    have hml := rms_len l n k
    simp (config := {contextual := true}) only [go_sem]
    refine ⟨fun h5 => ?_, fun h5 => ?_⟩
    · refine vr_f (s41 l cap n (k - 200) h hn (by omega) hlen) ?_
      by_cases h6 : howOf l n (k - 200) = 0
      · have e : rms l n (k + 1) = rms l n k := by simp [rms, h6]
        simp (config := {contextual := true}) only [go_sem, h6]
        refine ⟨inr64 (by omega) (by omega), k + 1, [0], by omega, by omega, rfl, ?_, ?_⟩
        · simp only [renH, List.map_cons, List.map_nil, go_sem, renO_arr, renEls_closed (rms_closed l n k), e]
        · rw [e]; simp [forget, renL, ren, renId]; omega
      · have h7 : (howOf l n (k - 200) != 0) = true := by simpa using h6
        have e : rms l n (k + 1) = rms l n k ++ [missCv n (k - 200) (howOf l n (k - 200))] := by simp [rms, h6]
        simp (config := {contextual := true}) only [go_sem, h7, roomOk]
        simp only [missCv] at e
        refine ⟨⟨by omega, by omega⟩, inr64 (by omega) (by omega), k + 1, [2], by omega, by omega, rfl, ?_, ?_⟩
        · rw [← e]
          simp only [renH, List.map_cons, List.map_nil, go_sem, renO_arr, renEls_closed (rms_closed l n (k + 1))]
        · rw [e, capE_app]; simp [forget, renL, ren, renId]; omega
    · have : k = 401 := by omega
      subst this
      exact ⟨0, 0, _, _, _, rfl, rfl, by simp, by simp, rms_closed _ _ _⟩

end Go.Cm
end

section
open Go.Proofs
namespace Go.Cm

theorem cnt_addCells (y : Int) : ∀ (cs : List Int) (kv : List (Int × Int)), cnt y (addCells cs kv) = cnt y kv + (cs.count y : Nat)
  | [], kv => by simp [addCells]
  | c :: cs, kv => by
    have e : addCells (c :: cs) kv = addCells cs (inc c kv) := rfl
    rw [e, cnt_addCells y cs, cnt_inc, List.count_cons]
    by_cases h : c = y
    · subst h; simp; omega
    · have : (c == y) = false := by simpa using h
      simp [h]

theorem count_nodup {y : Int} : ∀ {l : List Int}, l.Nodup → l.count y = if y ∈ l then 1 else 0
  | [], _ => by simp
  | a :: l, h => by
    rw [List.nodup_cons] at h
    rw [List.count_cons, count_nodup h.2]
    by_cases e : a = y
    · subst e; simp [h.1]
    · have : ¬ y = a := fun h => e h.symm
      simp [e, this]

theorem cells_nodup {p : Pt} {n : Int} (h : 0 < p.st) : (p.cells n).Nodup := by
  unfold Pt.cells List.Nodup
  rw [List.pairwise_map]
  refine List.Pairwise.imp ?_ (List.pairwise_lt_range)
  intro a b hab he
  unfold Pt.at at he
  have h1 : ((b : Int) - a) * p.st = 0 := by rw [Int.sub_mul]; omega
  rcases Int.mul_eq_zero.1 h1 with h2 | h2 <;> omega

theorem mem_cells {p : Pt} {n y : Int} (h : 0 < p.st) : y ∈ p.cells n ↔ p.has n y = true := by
  simp only [Pt.cells, List.mem_map, List.mem_range, Pt.has, Bool.and_eq_true, decide_eq_true_eq]
  constructor
  · rintro ⟨s, hs, rfl⟩
    have h1 := (lt_count h).1 hs
    have h2 : 0 ≤ (s : Int) * p.st := Int.mul_nonneg (by omega) (by omega)
    unfold Pt.at at h1 ⊢
    refine ⟨⟨by omega, h1⟩, ?_⟩
    rw [show p.first n + (s : Int) * p.st - p.first n = (s : Int) * p.st by omega]
    exact Int.mul_tmod_left _ _
  · rintro ⟨⟨h1, h2⟩, h3⟩
    have h4 : 0 ≤ y - p.first n := by omega
    rw [Int.tmod_eq_emod_of_nonneg h4] at h3
    have h5 := Int.emod_add_mul_ediv (y - p.first n) p.st
    rw [h3] at h5
    have h6 : 0 ≤ (y - p.first n) / p.st := Int.ediv_nonneg h4 (by omega)
    have h7 : p.at n ((y - p.first n) / p.st).toNat = y := by
      unfold Pt.at
      rw [Int.toNat_of_nonneg h6, Int.mul_comm]; omega
    exact ⟨_, (lt_count h).2 (by rw [h7]; exact h2), h7⟩

theorem cnt_timesOf (n y : Int) : ∀ (l : List Pt) (kv : List (Int × Int)), (∀ p ∈ l, 0 < p.st) → cnt y (l.foldl (fun kv p => addCells (p.cells n) kv) kv) = cnt y kv + (hasN l n y : Nat)
  | [], kv, _ => by simp [hasN]
  | p :: l, kv, h => by
    have hp := h p (by simp)
    rw [List.foldl_cons, cnt_timesOf n y l _ fun q hq => h q (by simp [hq]), cnt_addCells, count_nodup (cells_nodup hp)]
    have : hasN (p :: l) n y = (if p.has n y then 1 else 0) + hasN l n y := by
      unfold hasN
      by_cases hq : p.has n y = true <;> simp [hq]; omega
    rw [this]
    by_cases hq : p.has n y = true
    · simp [hq, (mem_cells hp).2 hq]; omega
    · have : ¬ y ∈ p.cells n := fun hh => hq ((mem_cells hp).1 hh)
      simp [hq, this]

theorem kind_how {l : List Pt} {n : Int} (h : ∀ p ∈ l, p.Small n) (c : Int) : kindOf l n c = howOf l n c := by
  have hc := cnt_timesOf n c l [] fun p hp => by have := (h p hp).st; omega
  have hc2 : cnt c (timesOf l n) = (hasN l n c : Nat) := by unfold timesOf; rw [hc]; simp [cnt]
  unfold kindOf howOf
  rw [hc2]
  have e1 : (((hasN l n c : Nat) : Int) = 0) = (hasN l n c = 0) := by simp
  have e2 : ((1 : Int) < ((hasN l n c : Nat) : Int)) = (1 < hasN l n c) := by simp; omega
  have e3 : ((0 : Int) < ((hasN l n c : Nat) : Int)) = (0 < hasN l n c) := by simp
  simp only [e1, e2, e3]

theorem how_out {l : List Pt} {n : Int} (h : ∀ p ∈ l, p.Small n) (hn : 0 ≤ n ∧ n ≤ 100) {c : Int} (hc : c < -100 ∨ n + 100 < c) : howOf l n c = 0 := by
  have h0 : hasN l n c = 0 := by
    unfold hasN
    rw [List.length_eq_zero_iff, List.filter_eq_nil_iff]
    intro p hp hh
    obtain ⟨h1, h2, h3, h4⟩ := h p hp
    simp only [Pt.has, Bool.and_eq_true, decide_eq_true_eq, Pt.first, Pt.last, bval] at hh
    obtain ⟨⟨g1, g2⟩, _⟩ := hh
    cases hf : p.fs <;> cases ht : p.ts <;> simp [hf, ht] at g1 g2 <;> omega
  unfold howOf
  rw [h0]
  have : ¬ (0 ≤ c ∧ c ≤ n - 1) := by omega
  simp [this]

theorem rms_succ (l : List Pt) (n : Int) (k : Nat) : rms l n (k + 1) = rms l n k ++ (if howOf l n (k - 200) = 0 then [] else [missCv n (k - 200) (howOf l n (k - 200))]) := rfl
theorem mss_succ (l : List Pt) (n : Int) (k : Nat) : mss l n (k + 1) = mss l n k ++ (if kindOf l n (k - 100) = 0 then [] else [missCv n (k - 100) (kindOf l n (k - 100))]) := rfl

theorem rms_low {l : List Pt} {n : Int} (h : ∀ p ∈ l, p.Small n) (hn : 0 ≤ n ∧ n ≤ 100) : ∀ k, k ≤ 100 → rms l n k = []
  | 0, _ => rfl
  | k + 1, hk => by
    have e : howOf l n ((k : Int) - 200) = 0 := how_out h hn (by omega)
    simp [rms, e, rms_low h hn k (by omega)]

theorem rms_mss {l : List Pt} {n : Int} (h : ∀ p ∈ l, p.Small n) (hn : 0 ≤ n ∧ n ≤ 100) : ∀ k, rms l n (100 + k) = mss l n k
  | 0 => rms_low h hn 100 (by omega)
  | k + 1 => by
    rw [show 100 + (k + 1) = (100 + k) + 1 by omega]
    have e : (((100 + k : Nat) : Int) - 200) = (k : Int) - 100 := by omega
    rw [rms_succ, mss_succ, rms_mss h hn k, e, kind_how h]

theorem rms_high {l : List Pt} {n : Int} (h : ∀ p ∈ l, p.Small n) (hn : 0 ≤ n ∧ n ≤ 100) : ∀ j, rms l n (100 + (n.toNat + 201) + j) = rms l n (100 + (n.toNat + 201))
  | 0 => rfl
  | j + 1 => by
    have e : howOf l n (((100 + (n.toNat + 201) + j : Nat) : Int) - 200) = 0 := how_out h hn (by omega)
    rw [show 100 + (n.toNat + 201) + (j + 1) = (100 + (n.toNat + 201) + j) + 1 by omega]
    rw [rms_succ, e, if_pos rfl, List.append_nil, rms_high h hn j]

theorem rms_all {l : List Pt} {n : Int} (h : ∀ p ∈ l, p.Small n) (hn : 0 ≤ n ∧ n ≤ 100) : rms l n 401 = allM l n := by
  rw [allM_eq, ← rms_mss h hn, ← rms_high h hn (100 - n.toNat)]
  congr 1
  omega

theorem s19a (l : List Pt) (cap : Option Nat) (n : Int) (h : ∀ p ∈ l, p.Small n) (hn : 0 ≤ n ∧ n ≤ 100) (hlen : l.length ≤ 1000) : Fn Try.prog 19 [.rslc 5 (l.map Pt.cv) cap, .int .i64 n] (.rslc 3 (allM l n) none) := by
  rw [← rms_all h hn]; exact s19 l cap n h hn hlen

end Go.Cm
end

section
open Go.Proofs
namespace Go.Cm

set_option maxHeartbeats 1000000 in
theorem s20 (l : List Pt) (cap : Option Nat) (n : Int) (h : ptsOk l = true) (hn : 0 ≤ n ∧ n ≤ 101) (hlen : l.length ≤ 1000) :
    Fn Try.prog 20 [.rslc 5 (l.map Pt.cv) cap, .int .i64 n] (optM (firstM l (101 - n).toNat n)) := by
  refine fn_of_code c20_ok rfl (optM_closed _ _ _) fun N => ?_
  simp (config := {contextual := true}) only [c20, go_sem]
  refine vr_loop (I := fun s : Nat => n + s ≤ 101 ∧ firstM l (101 - n).toNat n = firstM l (101 - (n + s)).toNat (n + s)) (inv := fun s => gp [(0, .rslc 5 (l.map Pt.cv) cap), (3, .ptr 0 0 0), (1, .int .i64 (n + s))] 16) (hp := fun _ => [.arr 3 [noM]]) (μ := fun s => (101 - n).toNat - s) 0 ⟨by omega, by simp⟩ ?_ rfl ?_
  · simp [forget, gp]
  · rintro s ⟨hs, he⟩
    simp (config := {contextual := true}) only [go_sem]
    refine ⟨fun h5 => ?_, fun h5 => ?_⟩
    · refine vr_f (s19a l cap (n + s) (smallsN h (by omega)) (by omega) hlen) ?_
      have hf : (101 - (n + (s : Int))).toNat = (101 - (n + ((s + 1 : Nat) : Int))).toNat + 1 := by omega
      rw [hf] at he
      cases hm : allM l (n + s) with
      | nil =>
        rw [firstM_nil hm] at he
        simp (config := {contextual := true}) only [go_sem]
        refine ⟨inr64 (by omega) (by omega), s + 1, ⟨by omega, ?_⟩, by omega, ?_⟩
        · rw [he]; simp [Int.add_assoc]
        · simp [forget, Int.add_assoc]
      | cons m r =>
        rw [firstM_cons hm] at he
        have hp : (0 : Int) < ((r.length + 1 : Nat) : Int) := by omega
        have hp2 : (0 : Int) < ((0 : Int) + ((r.length + 1 : Nat) : Int)) := by omega
        obtain ⟨c, d, rfl⟩ := allM_cell l (n + s) m (by rw [hm]; simp)
        simp (config := {contextual := true}) only [go_sem, hp, noM, missCv]
        rw [he]; rfl
    · have : (101 - (n + (s : Int))).toNat = 0 := by omega
      rw [this] at he
      rw [he]; simp [firstM, optM, noM]

theorem s31 (l : List Pt) (cap : Option Nat) (h : ptsOk l = true) (hlen : l.length ≤ 1000) : Fn Try.prog 31 [.rslc 5 (l.map Pt.cv) cap] (.rslc 1 (ints (szs l 101)) none) := by
  refine fn_of_rowS ?_ rfl
  refine vr_fn c31_ok fun N => ?_
  simp (config := {contextual := true}) only [c31, go_sem]
  refine vr_loopR (I := fun k : Nat => k ≤ 101) (inv := fun k => gp [(0, .rslc 5 (l.map Pt.cv) cap), (2, .slc 0 0 (ints (szs l k)).length (capE (ints (szs l k)))), (0, .int .i64 k)] 15) (hp := fun k => [.arr 1 (ints (szs l k))]) (μ := fun k => 101 - k) 0 [0] (by omega) rfl ?_ rfl ?_
  · simp [forget, renL, ren, renId, szs, ints, capE, gp]
  · intro k hk
    simp (config := {contextual := true}) only [go_sem]
    refine ⟨fun h5 => ?_, fun h5 => ?_⟩
    · refine vr_f (s19a l cap k (smallsN h (by omega)) (by omega) hlen) ?_
      have hs := szs_succ l k
      have hl := szs_len l k
      cases hm : allM l (k : Nat) with
      | nil =>
        rw [hm] at hs
        simp only [List.isEmpty_nil, if_true] at hs
        simp (config := {contextual := true}) only [go_sem, roomOk]
        rw [ints_len]
        refine ⟨⟨by omega, by omega⟩, inr64 (by omega) (by omega), k + 1, [2], by omega, by omega, rfl, ?_, ?_⟩
        · rw [← ints_snoc, ← hs]
          simp only [renH, List.map_cons, List.map_nil, go_sem, renO_arr, renEls_closed (closedEls_ints _)]
        · rw [hs, ints_snoc, capE_app]
          simp [forget, renL, ren, renId, ints_len]
      | cons m r =>
        rw [hm] at hs
        simp only [List.isEmpty_cons, Bool.false_eq_true, if_false, List.append_nil] at hs
        have h8 : (((r.length + 1 : Nat) : Int) == 0) = false := by simp; omega
        simp (config := {contextual := true}) only [go_sem, h8]
        refine ⟨inr64 (by omega) (by omega), k + 1, [0], by omega, by omega, rfl, ?_, ?_⟩
        · simp only [renH, List.map_cons, List.map_nil, go_sem, renO_arr, renEls_closed (closedEls_ints _), hs]
        · rw [hs]
          simp [forget, renL, ren, renId]
    · have : k = 101 := by omega
      subst this
      exact ⟨0, 0, _, _, _, rfl, rfl, by simp, by simp, closedEls_ints _⟩

/-- The smallest size from which on parts are right up to one. -/
def dn (l : List Pt) : Nat → Nat
  | 0 => 0
  | j + 1 => if (allM l (j : Nat)).isEmpty then dn l j else j + 1

theorem dn_succ (l : List Pt) (j : Nat) : dn l (j + 1) = if (allM l (j : Nat)).isEmpty then dn l j else j + 1 := rfl

theorem dn_le (l : List Pt) : ∀ j, dn l j ≤ j
  | 0 => Nat.le_refl _
  | j + 1 => by
    have := dn_le l j
    simp only [dn]; split <;> omega

theorem s33 (l : List Pt) (cap : Option Nat) (h : ptsOk l = true) (hlen : l.length ≤ 1000) : Fn Try.prog 33 [.rslc 5 (l.map Pt.cv) cap] (.int .i64 (if dn l 101 = 101 then -1 else (dn l 101 : Nat))) := by
  refine fn_of_code c33_ok rfl rfl fun N => ?_
  simp (config := {contextual := true}) only [c33, go_sem]
  refine vr_loop (I := fun k : Nat => k ≤ 101 ∧ dn l 101 = dn l (101 - k)) (inv := fun k => gp [(0, .rslc 5 (l.map Pt.cv) cap), (2, .int .i64 (if k = 0 then -1 else 101 - k)), (0, .int .i64 (100 - k))] 13) (hp := fun _ => []) (μ := fun k => 101 - k) 0 ⟨by omega, rfl⟩ ?_ rfl ?_
  · simp [forget, gp]
  · rintro k ⟨hk, hd⟩
    by_cases h5 : k = 101
    · subst h5
      have hn : ¬ ((0 : Int) ≤ 100 - (101 : Nat)) := by omega
      simp (config := {contextual := true}) only [go_sem, hn]
      rw [hd, show dn l (101 - 101) = 0 from rfl]
      simp
    · have hn : (0 : Int) ≤ 100 - (k : Nat) := by omega
      simp (config := {contextual := true}) only [go_sem, hn]
      refine vr_fg (gok rfl) (s19a l cap (100 - k) (smallsN h (by omega)) (by omega) hlen) ?_
      have hj : 101 - k = (100 - k) + 1 := by omega
      rw [hj, dn_succ l (100 - k)] at hd
      have hc : (((100 - k : Nat) : Nat) : Int) = 100 - (k : Int) := by omega
      rw [hc] at hd
      cases hm : allM l (100 - (k : Int)) with
      | nil =>
        rw [hm] at hd
        simp only [List.isEmpty_nil, if_true] at hd
        simp (config := {contextual := true}) only [go_sem]
        refine ⟨inr64 (by omega) (by omega), k + 1, ⟨by omega, ?_⟩, by omega, ?_⟩
        · rw [hd]; congr 1; omega
        · simp [forget]; omega
      | cons m r =>
        rw [hm] at hd
        simp only [List.isEmpty_cons, Bool.false_eq_true, if_false] at hd
        have h8 : (((r.length + 1 : Nat) : Int) == 0) = false := by simp; omega
        simp (config := {contextual := true}) only [go_sem, h8]
        rw [hd]
        congr 1
        by_cases hk0 : k = 0
        · subst hk0; rfl
        · rw [if_neg hk0, if_neg (by omega)]; omega

theorem s26 (l : List Pt) (cap : Option Nat) (n i : Int) (h : ∀ p ∈ l, p.Small n) (hi : -1000 ≤ i ∧ i ≤ 1000) (hlen : l.length ≤ 1000) : Fn Try.prog 26 [.rslc 5 (l.map Pt.cv) cap, .int .i64 n, .int .i64 i] (.int .i64 (whoOf l n i)) := by
  refine fn_of_code c26_ok rfl rfl fun N => ?_
  simp (config := {contextual := true}) only [c26, go_sem, List.length_map]
  refine vr_loop (I := fun k : Nat => k ≤ l.length ∧ whoOf l n i = findAt (fun p => p.has n i) (l.drop k) k) (inv := fun k => gp [(0, .rslc 5 (l.map Pt.cv) cap), (0, .int .i64 n), (0, .int .i64 i), (4, .int .i64 k)] 14) (hp := fun _ => []) (μ := fun k => l.length - k) 0 ⟨by omega, by simp [whoOf]⟩ ?_ rfl ?_
  · simp [forget, gp]
  · rintro k ⟨hk, hinv⟩
    simp (config := {contextual := true}) only [go_sem, List.length_map]
    refine ⟨fun h5 => ?_, fun h5 => ?_⟩
    · have hlt : k < l.length := by omega
      obtain ⟨p, hp⟩ : ∃ p, l[k]? = some p := ⟨_, List.getElem?_eq_getElem hlt⟩
      rw [findAt_step hp] at hinv
      rw [getD_map hp]
      refine ⟨by omega, by simp [Pt.cv], ?_⟩
      simp only [Pt.cv, go_sem]
      refine vr_f (s48 p n i (h p (List.mem_of_getElem? hp)) hi) ?_
      simp only [go_sem]
      refine ⟨fun h2 => ?_, fun h2 => ?_⟩
      · rw [hinv, if_pos h2]
      · rw [h2] at hinv
        refine ⟨inr64 (by omega) (by omega), k + 1, ⟨by omega, by simpa using hinv⟩, by omega, ?_⟩
        simp [forget]
    · have : k = l.length := by omega
      subst this
      rw [hinv]; simp [findAt]

theorem s29 (p : Pt) (n : Int) (h : p.Small n) : Fn Try.prog 29 [.agg p.cv, .int .i64 n] (.rslc 1 (ints (p.cells n)) none) := by
  refine fn_of_rowS ?_ rfl
  refine vr_fn c29_ok fun N => ?_
  simp (config := {contextual := true}) only [c29, go_sem, Pt.cv]
  have hf := h.fit
  have h1 := h.first
  have h2 := h.last
  have hst : 0 < p.st := by have := h.st; omega
  have hc := count_le h
  refine vr_f (s53 _ _ _ hf.f) ?_
  simp (config := {contextual := true}) only [go_sem]
  refine vr_loopR (I := fun s : Nat => s ≤ p.count n) (inv := fun s => gp [(1, .int .i64 n), (0, .ptr 0 0 0), (2, .slc 1 0 (ints ((p.cells n).take s)).length (capE (ints ((p.cells n).take s)))), (0, .int .i64 (p.at n s))] 20) (hp := fun s => [.arr 5 [p.cv], .arr 1 (ints ((p.cells n).take s))]) (μ := fun s => p.count n - s) 0 [0, 1] (by omega) rfl ?_ ?_ ?_
  · simp [forget, renL, ren, renId, gp, ints, capE, Pt.at, Pt.first]
  · simp [renH, renO, renL, ren, ints, Pt.cv]
  · intro s hs
    simp (config := {contextual := true}) only [go_sem, Pt.cv]
    refine vr_f (s53 _ _ _ hf.t) ?_
    rw [show bval p.ts p.tn n = p.last n from rfl]
    simp (config := {contextual := true}) only [go_sem, Pt.cv]
    refine ⟨fun h5 => ?_, fun h5 => ?_⟩
    · have hlt := (lt_count hst).2 h5
      have hx := cells_get hlt
      have ht := ints_take hx
      have hl : (ints ((p.cells n).take s)).length = s := by rw [ints_len, List.length_take, cells_length]; omega
      have h6 : p.at n (s + 1) = p.at n s + p.st := by unfold Pt.at; rw [Int.natCast_add, Int.add_mul]; simp [Int.add_assoc]
      have h7 : -100 ≤ p.at n s := by unfold Pt.at; have : 0 ≤ (s : Int) * p.st := Int.mul_nonneg (by omega) (by omega); omega
      have h8 := h.st
      simp (config := {contextual := true}) only [go_sem, roomOk]
      rw [hl]
      refine ⟨⟨by omega, by omega⟩, inr64 (by omega) (by omega), s + 1, [0, 3], by omega, by omega, rfl, ?_, ?_⟩
      · rw [← ht]
        simp only [renH, List.map_cons, List.map_nil, go_sem, renO_arr, List.map_append, renEls_closed (closedEls_ints _), renL, ren, Pt.cv]
      · have hl2 : (ints ((p.cells n).take (s + 1))).length = s + 1 := by rw [← ht, List.length_append, hl]; rfl
        rw [hl2, h6, ← ht, capE_app]; simp [forget, renL, ren, renId]
    · have hge : ¬ s < p.count n := fun hh => h5 ((lt_count hst).1 hh)
      have : s = p.count n := by omega
      subst this
      have ht : (p.cells n).take (p.count n) = p.cells n := by rw [← cells_length (p := p), List.take_length]
      rw [ht]
      exact ⟨1, 0, _, _, _, rfl, rfl, by simp, by simp, closedEls_ints _⟩

end Go.Cm
end

section
open Go.Proofs
namespace Go.Cm

/-- The row of parts, in cells. -/
def pcs (l : List Pt) : List (List CV) := l.map Pt.cv

theorem emp_cells {p : Pt} (h : p.ok = true) {k : Nat} (hk : k ≤ 101) : emp p k = (List.range k).all fun (s : Nat) => (p.cells s).isEmpty := by
  unfold emp
  rw [Bool.eq_iff_iff, List.all_eq_true, List.all_eq_true]
  have key : ∀ s ∈ List.range k, (decide (p.last s < p.first s) = true ↔ (p.cells s).isEmpty = true) := by
    intro s hs
    have hst : 0 < p.st := by have := (small_of (p := p) (n := s) h (by simp [isSz]; rw [List.mem_range] at hs; omega)).st; omega
    have h0 := lt_count (p := p) (n := s) (s := 0) hst
    have : p.at s 0 = p.first s := by simp [Pt.at]
    rw [this] at h0
    rw [decide_eq_true_eq, List.isEmpty_iff_length_eq_zero, cells_length]
    omega
  exact ⟨fun h s hs => (key s hs).1 (h s hs), fun h s hs => (key s hs).2 (h s hs)⟩

theorem emp_succ_cells {p : Pt} (h : p.ok = true) {k : Nat} (hk : k < 101) : emp p (k + 1) = (emp p k && (p.cells k).isEmpty) := by
  rw [emp_cells h (by omega), emp_cells h (by omega), List.range_succ]
  simp

theorem filter_take {α : Type} {q : α → Bool} {l : List α} {i : Nat} {p : α} (h : l[i]? = some p) : (l.take (i + 1)).filter q = (l.take i).filter q ++ if q p then [p] else [] := by
  have hlt := (List.getElem?_eq_some_iff.1 h).1
  have hp := (List.getElem?_eq_some_iff.1 h).2
  rw [List.take_succ_eq_append_getElem hlt, hp, List.filter_append]
  by_cases hq : q p = true <;> simp [hq]

theorem pcs_snoc (l : List Pt) (p : Pt) : pcs (l ++ [p]) = pcs l ++ [p.cv] := by simp [pcs]

set_option maxHeartbeats 1000000 in
theorem s32 (l : List Pt) (cap : Option Nat) (h : ptsOk l = true) (hlen : l.length ≤ 1000) : Fn Try.prog 32 [.rslc 5 (l.map Pt.cv) cap] (.rslc 5 (pcs (l.filter fun p => !emp p 101)) none) := by
  have hok : ∀ p ∈ l, p.ok = true := by
    simp only [ptsOk, Bool.and_eq_true, List.all_eq_true] at h
    exact h.2
  refine fn_of_rowS ?_ rfl
  refine vr_fn c32_ok fun N => ?_
  simp (config := {contextual := true}) only [c32, go_sem]
  refine vr_loopR (I := fun i : Nat => i ≤ l.length) (inv := fun i => gp [(0, .rslc 5 (l.map Pt.cv) cap), (2, .slc 0 0 (pcs ((l.take i).filter fun p => !emp p 101)).length (capE (pcs ((l.take i).filter fun p => !emp p 101)))), (0, .int .i64 i)] 33) (hp := fun i => [.arr 5 (pcs ((l.take i).filter fun p => !emp p 101))]) (μ := fun i => l.length - i) 0 [0] (by omega) rfl ?_ rfl ?_
  · simp [forget, renL, ren, renId, pcs, capE, gp]
  · intro i hi
    have hfl := List.length_filter_le (fun p => !emp p 101) (l.take i)
    rw [List.length_take] at hfl
    have hpl : (pcs ((l.take i).filter fun p => !emp p 101)).length = ((l.take i).filter fun p => !emp p 101).length := by simp [pcs]
    have hpc : closedEls (pcs ((l.take i).filter fun p => !emp p 101)) = true := closed_cvs _
    simp (config := {contextual := true}) only [go_sem, List.length_map]
    refine ⟨fun h5 => ?_, fun h5 => ?_⟩
    · have hlt : i < l.length := by omega
      obtain ⟨p, hp⟩ : ∃ p, l[i]? = some p := ⟨_, List.getElem?_eq_getElem hlt⟩
      have hft := filter_take (q := fun p => !emp p 101) hp
      have hpo := hok p (List.mem_of_getElem? hp)
      generalize hX : pcs ((l.take i).filter fun p => !emp p 101) = X at hpl hpc ⊢
      refine vr_loop (I := fun k : Nat => k ≤ 101) (inv := fun k => gp [(0, .rslc 5 (l.map Pt.cv) cap), (2, .slc 0 0 X.length (capE X)), (0, .int .i64 i), (0, .bool !emp p k), (0, .int .i64 k)] 31) (hp := fun k => [.arr 5 X]) (μ := fun k => 101 - k) 0 (by omega) ?_ rfl ?_
      · simp [forget, gp, emp]
      · intro k hk
        simp (config := {contextual := true}) only [go_sem, List.length_map]
        refine ⟨fun h6 => ?_, fun h6 => ?_⟩
        · have he := emp_succ_cells hpo (k := k) (by omega)
          have hsm := small_of (p := p) (n := k) hpo (by simp [isSz]; omega)
          cases hk2 : emp p k with
          | false =>
            rw [hk2, Bool.false_and] at he
            simp (config := {contextual := true}) only [go_sem]
            exact ⟨inr64 (by omega) (by omega), k + 1, by omega, by omega, by simp [forget, he]⟩
          | true =>
            rw [hk2, Bool.true_and] at he
            simp (config := {contextual := true}) only [go_sem, List.length_map]
            rw [getD_map hp]
            refine ⟨by omega, by simp [Pt.cv], ?_⟩
            simp only [Pt.cv, go_sem]
            refine vr_fg (gok rfl) (s29 p k hsm) ?_
            simp (config := {contextual := true}) only [go_sem]
            refine ⟨inr64 (by omega) (by omega), k + 1, by omega, by omega, ?_⟩
            rw [he]
            cases hcs : p.cells (k : Nat) with
            | nil => simp [forget, ints]
            | cons c r => simp [forget, ints]
        · have : k = 101 := by omega
          subst this
          by_cases hE : emp p 101 = true
          · have hf2 : (l.take (i + 1)).filter (fun p => !emp p 101) = (l.take i).filter fun p => !emp p 101 := by rw [hft]; simp [hE]
            simp (config := {contextual := true}) only [go_sem, hE]
            refine ⟨inr64 (by omega) (by omega), i + 1, [0], by omega, by omega, rfl, ?_, ?_⟩
            · rw [hf2, hX]
              simp only [renH, List.map_cons, List.map_nil, go_sem, renO_arr, renEls_closed hpc]
            · rw [hf2, hX]; simp [forget, renL, ren, renId]
          · have hE2 : emp p 101 = false := by simpa using hE
            have hf2 : (l.take (i + 1)).filter (fun p => !emp p 101) = ((l.take i).filter fun p => !emp p 101) ++ [p] := by rw [hft]; simp [hE2]
            simp (config := {contextual := true}) only [go_sem, hE2, List.length_map, roomOk]
            rw [getD_map hp]
            refine ⟨by omega, by simp [Pt.cv], ?_⟩
            simp only [Pt.cv, go_sem, roomOk]
            refine ⟨⟨by omega, by omega⟩, inr64 (by omega) (by omega), i + 1, [2], by omega, by omega, rfl, ?_, ?_⟩
            · rw [hf2, pcs_snoc, hX]
              have := renEls_closed (ρ := [2]) (closedEls_app hpc (b := [p.cv]) rfl)
              simp only [Pt.cv] at this ⊢
              simp only [renH, List.map_cons, List.map_nil, go_sem, renO_arr, this]
            · rw [hf2, pcs_snoc, hX, capE_app]; simp [forget, renL, ren, renId]
    · have : i = l.length := by omega
      subst this
      rw [List.take_length] at hpc ⊢
      exact ⟨0, 0, _, _, _, rfl, rfl, by simp, by simp, hpc⟩

end Go.Cm
end

section
open Go.Proofs
namespace Go.Cm

theorem s13 (l : List Pt) (cap : Option Nat) (hlen : l.length ≤ 1000) : Fn Try.prog 13 [.rslc 5 (l.map Pt.cv) cap] (.rslc 5 (l.map Pt.cv) none) := by
  refine fn_of_rowS ?_ rfl
  cases l with
  | nil =>
    refine vr_fn c13_ok fun N => ?_
    simp (config := {contextual := true}) only [c13, go_sem]
    exact ⟨0, 0, 0, _, [], rfl, rfl, by simp, rfl, rfl⟩
  | cons p r =>
    refine vr_fn c13_ok fun N => ?_
    simp (config := {contextual := true}) only [c13, go_sem, roomOk, List.length_map]
    simp only [List.length_cons] at hlen
    exact ⟨⟨by omega, by omega⟩, 1, 0, _, none, _, rfl, rfl, by simp, by simp [List.take_of_length_le], closed_cvs (p :: r)⟩

theorem s16 (l : List Pt) (c1 c2 : Option Nat) (hlen : l.length ≤ 1000) : Fn Try.prog 16 [.rslc 5 (l.map Pt.cv) c1, .rslc 5 (l.map Pt.cv) c2] (.bool true) := by
  refine fn_of_code c16_ok rfl rfl fun N => ?_
  simp (config := {contextual := true}) only [c16, go_sem, List.length_map]
  refine vr_loop (I := fun i : Nat => i ≤ l.length) (inv := fun i => gp [(0, .rslc 5 (l.map Pt.cv) c1), (0, .rslc 5 (l.map Pt.cv) c2), (3, .int .i64 i)] 20) (hp := fun _ => []) (μ := fun i => l.length - i) 0 (by omega) ?_ rfl ?_
  · simp [forget, gp]
  · rintro i hi
    simp (config := {contextual := true}) only [go_sem, List.length_map]
    refine fun h5 => ?_
    · have hlt : i < l.length := by omega
      obtain ⟨p, hp⟩ : ∃ p, l[i]? = some p := ⟨_, List.getElem?_eq_getElem hlt⟩
      refine vr_dreg mixed (by decide) ?_
      simp only [go_sem, List.length_map]
      rw [getD_map hp]
      simp only [Pt.cv, go_sem]
      refine ⟨⟨by omega, by omega⟩, ⟨by omega, by omega⟩, ?_⟩
      exact ⟨inr64 (by omega) (by omega), i + 1, by omega, by omega, by simp [forget]⟩

theorem s18 (els : List (List CV)) (h : ∀ m ∈ els, ∃ a c d, m = missCv a c d) (c1 c2 : Option Nat) (hlen : els.length ≤ 1000) : Fn Try.prog 18 [.rslc 3 els c1, .rslc 3 els c2] (.bool true) := by
  refine fn_of_code c18_ok rfl rfl fun N => ?_
  simp (config := {contextual := true}) only [c18, go_sem]
  refine vr_loop (I := fun i : Nat => i ≤ els.length) (inv := fun i => gp [(0, .rslc 3 els c1), (0, .rslc 3 els c2), (3, .int .i64 i)] 20) (hp := fun _ => []) (μ := fun i => els.length - i) 0 (by omega) ?_ rfl ?_
  · simp [forget, gp]
  · rintro i hi
    simp (config := {contextual := true}) only [go_sem]
    refine fun h5 => ?_
    · have hlt : i < els.length := by omega
      obtain ⟨m, hp⟩ : ∃ m, els[i]? = some m := ⟨_, List.getElem?_eq_getElem hlt⟩
      obtain ⟨a, c, d, rfl⟩ := h m (List.mem_of_getElem? hp)
      have hg : els.getD i [] = missCv a c d := by simp [List.getD_eq_getElem?_getD, hp]
      refine vr_dreg mixed (by decide) ?_
      simp only [go_sem]
      rw [hg]
      simp only [missCv, go_sem]
      refine ⟨⟨by omega, by omega⟩, ⟨by omega, by omega⟩, ?_⟩
      exact ⟨inr64 (by omega) (by omega), i + 1, by omega, by omega, by simp [forget]⟩

theorem s52 (xs : List Int) (c1 c2 : Option Nat) (hlen : xs.length ≤ 1000) : Fn Try.prog 52 [.rslc 1 (ints xs) c1, .rslc 1 (ints xs) c2] (.bool true) := by
  refine fn_of_code c52_ok rfl rfl fun N => ?_
  simp (config := {contextual := true}) only [c52, go_sem, ints_len]
  refine vr_loop (I := fun i : Nat => i ≤ xs.length) (inv := fun i => gp [(0, .rslc 1 (ints xs) c1), (0, .rslc 1 (ints xs) c2), (3, .int .i64 i)] 20) (hp := fun _ => []) (μ := fun i => xs.length - i) 0 (by omega) ?_ rfl ?_
  · simp [forget, gp]
  · rintro i hi
    simp (config := {contextual := true}) only [go_sem, ints_len]
    refine fun h5 => ?_
    · have hlt : i < xs.length := by omega
      obtain ⟨x, hp⟩ : ∃ x, xs[i]? = some x := ⟨_, List.getElem?_eq_getElem hlt⟩
      have hg : (ints xs).getD i [] = [.int .i64 x] := by simp [ints, List.getD_eq_getElem?_getD, hp]
      refine vr_dreg mixed (by decide) ?_
      simp only [go_sem, ints_len, hg]
      refine ⟨⟨by omega, by omega⟩, ⟨by omega, by omega⟩, ?_⟩
      exact ⟨inr64 (by omega) (by omega), i + 1, by omega, by omega, by simp [forget]⟩

theorem s28 (xs : List Int) (c1 c2 : Option Nat) (hlen : xs.length ≤ 1000) : Fn Try.prog 28 [.rslc 1 (ints xs) c1, .rslc 1 (ints xs) c2] (.bool true) := by
  refine fn_of_code c28_ok rfl rfl fun N => ?_
  simp (config := {contextual := true}) only [c28, go_sem]
  refine vr_f (s52 xs c1 c2 hlen) ?_
  simp (config := {contextual := true}) only [go_sem]

theorem s21 (l : List Pt) (cap : Option Nat) : Fn Try.prog 21 [.rslc 5 (l.map Pt.cv) cap] (.bool (decide (l.length ≤ 6) && ptsOk l)) := by
  refine fn_of_code c21_ok rfl rfl fun N => ?_
  simp (config := {contextual := true}) only [c21, go_sem, List.length_map]
  refine ⟨fun h => ?_, fun h => ?_⟩
  · have h2 : l.length ≤ 6 := by omega
    refine vr_fg (gok rfl) (s17 l cap (by omega)) ?_
    simp (config := {contextual := true}) only [go_sem, h2]
  · have h2 : ¬ l.length ≤ 6 := by omega
    simp [h2]

def one (n : Int) : Pt := ⟨false, n, false, n, 1⟩
def smp : List Pt := [one 0, one 1, ⟨false, 2, true, 1, 1⟩]

theorem s35 (n : Int) : Fn Try.prog 35 [.int .i64 n] (.agg (one n).cv) := by
  refine fn_of_code c35_ok rfl rfl fun N => ?_
  simp (config := {contextual := true}) only [c35, go_sem]
  rfl

theorem s34 : Fn Try.prog 34 [] (.rslc 5 (smp.map Pt.cv) none) := by
  refine fn_of_rowS ?_ rfl
  refine vr_fn c34_ok fun N => ?_
  simp (config := {contextual := true}) only [c34, go_sem]
  refine vr_f (s35 0) ?_
  simp (config := {contextual := true}) only [go_sem]
  refine vr_f (s35 1) ?_
  simp (config := {contextual := true}) only [go_sem, one, Pt.cv]
  exact ⟨0, 0, 3, _, _, rfl, rfl, by simp, rfl, rfl⟩

end Go.Cm
end

section
open Go.Proofs
namespace Go.Cm

/-- The misses with a size, off the parts. -/
def fastM (l : List Pt) (n : Int) : Nat → List (List CV)
  | 0 => []
  | k + 1 => fastM l n k ++ (if howOf l n (k - 100) = 0 then [] else [missCv n (k - 100) (howOf l n (k - 100))])

theorem fastM_eq {l : List Pt} {n : Int} (h : ∀ p ∈ l, p.Small n) : ∀ k, fastM l n k = mss l n k
  | 0 => rfl
  | k + 1 => by rw [mss_succ, kind_how h, fastM, fastM_eq h k]

def okAt (l : List Pt) (n : Int) : Nat → Bool
  | 0 => true
  | k + 1 => (howOf l n (k - 100) == 0) && okAt l n k

theorem okAt_eq {l : List Pt} {n : Int} (h : ∀ p ∈ l, p.Small n) : ∀ k, (mss l n k).isEmpty = okAt l n k
  | 0 => rfl
  | k + 1 => by
    rw [mss_succ, kind_how h, okAt, ← okAt_eq h k]
    by_cases e : howOf l n (k - 100) = 0
    · simp [e]
    · have h2 : (howOf l n (k - 100) == 0) = false := by simpa using e
      rw [if_neg e, h2]; simp

theorem empty_eq {l : List Pt} (h : ptsOk l = true) {n : Int} (hn : 0 ≤ n ∧ n ≤ 100) : (allM l n).isEmpty = okAt l n (n.toNat + 201) := by
  have h1 := okAt_eq (smallsN h hn) (n.toNat + 201)
  rw [← allM_eq] at h1; exact h1

theorem szs_eq {l : List Pt} (h : ptsOk l = true) {k : Nat} (hk : k ≤ 101) : szs l k = ((List.range k).filter fun (s : Nat) => okAt l s (s + 201)).map fun (s : Nat) => (s : Int) := by
  unfold szs
  refine congrArg (List.map _) (List.filter_congr fun s hs => ?_)
  rw [List.mem_range] at hs
  have h1 := empty_eq h (n := (s : Nat)) (by omega)
  rw [Int.toNat_natCast] at h1; exact h1

def two3 : List Pt := [⟨false, 0, true, 1, 2⟩, one 1, one 3]
def two2 : List Pt := [⟨false, 0, true, 1, 2⟩, ⟨false, 1, true, 0, 1⟩]

theorem szs_smp : szs smp 101 = (List.range 99).map fun (s : Nat) => ((s + 2 : Nat) : Int) := by
  rw [szs_eq (by decide) (by omega)]
  decide +kernel

theorem szs_two3 : szs two3 101 = [4, 5] := by
  rw [szs_eq (by decide) (by omega)]
  decide +kernel

theorem fast_all {l : List Pt} (h : ptsOk l = true) {n : Int} (hn : 0 ≤ n ∧ n ≤ 100) : allM l n = fastM l n (n.toNat + 201) := by
  rw [fastM_eq (smallsN h hn), allM_eq]

theorem least_smp : leastOf smp = 2 := by
  unfold leastOf; rw [szs_smp]; decide +kernel

theorem all_smp0 : allM smp 0 = [missCv 0 0 3, missCv 0 1 3] := by
  rw [fast_all (by decide) (by decide)]; kernel_rfl

theorem all_smp1 : ∃ r, allM smp 1 = missCv 1 1 3 :: r := by
  rw [fast_all (by decide) (by decide)]; exact ⟨(fastM smp 1 202).drop 1, by kernel_rfl⟩

theorem all_two2 : allM two2 3 = [missCv 3 2 2, missCv 3 3 3] := by
  rw [fast_all (by decide) (by decide)]; kernel_rfl

theorem firstM_none {l : List Pt} : ∀ (f : Nat) (n : Int), (∀ i : Nat, i < f → (allM l (n + i)).isEmpty = true) → firstM l f n = none
  | 0, _, _ => rfl
  | f + 1, n, h => by
    have h0 : allM l n = [] := by have := h 0 (by omega); simpa using this
    rw [firstM_nil h0]
    refine firstM_none f (n + 1) fun i hi => ?_
    have := h (i + 1) (by omega)
    rw [show n + ((i + 1 : Nat) : Int) = n + 1 + i by omega] at this
    exact this

theorem first_smp0 : firstM smp (101 - 0 : Int).toNat 0 = some (missCv 0 0 3) := firstM_cons all_smp0
theorem first_smp1 : firstM smp (101 - 1 : Int).toNat 1 = some (missCv 1 1 3) := by
  obtain ⟨r, h⟩ := all_smp1; exact firstM_cons h
theorem first_smp2 : firstM smp (101 - 2 : Int).toNat 2 = none := by
  refine firstM_none 99 2 fun i hi => ?_
  have hm : (((i + 2 : Nat) : Nat) : Int) ∈ szs smp 101 := by rw [szs_smp]; exact List.mem_map.2 ⟨i, List.mem_range.2 hi, rfl⟩
  unfold szs at hm
  obtain ⟨s, hs, he⟩ := List.mem_map.1 hm
  rw [List.mem_filter] at hs
  have : s = i + 2 := by omega
  subst this
  rw [show (2 : Int) + (i : Int) = ((i + 2 : Nat) : Int) by omega]
  exact hs.2

end Go.Cm
end

section
open Go.Proofs
namespace Go.Cm

def L99 : List Int := (List.range 99).map fun (s : Nat) => ((s + 2 : Nat) : Int)
theorem smp_ok : ptsOk smp = true := by decide

theorem k22 : Fn Try.prog 22 [.rslc 5 (smp.map Pt.cv) none] (.tup [.int .i64 2, .int .i64 0]) := by
  have h := s22 smp none (by decide)
  rw [smp_ok, least_smp] at h; exact h
theorem k23 : Fn Try.prog 23 [.rslc 5 (smp.map Pt.cv) none] (.tup [.rslc 1 (ints L99) none, .int .i64 0]) := by
  have h := s23 smp none (by decide)
  rw [smp_ok, szs_smp] at h; exact h
theorem k15 (n : Int) (h0 : chk smp n = 0) : Fn Try.prog 15 [.rslc 5 (smp.map Pt.cv) none, .int .i64 n] (match firstM smp (101 - n).toNat n with | some m => .tup [.agg m, .int .i64 0] | none => .tup [.agg noM, .int .i64 7]) := by
  have h := s15 smp none n (by decide)
  rw [if_pos h0] at h; exact h
theorem k15_0 : Fn Try.prog 15 [.rslc 5 (smp.map Pt.cv) none, .int .i64 0] (.tup [.agg (missCv 0 0 3), .int .i64 0]) := by
  have h := k15 0 (by decide)
  rw [first_smp0] at h; exact h
theorem k15_1 : Fn Try.prog 15 [.rslc 5 (smp.map Pt.cv) none, .int .i64 1] (.tup [.agg (missCv 1 1 3), .int .i64 0]) := by
  have h := k15 1 (by decide)
  rw [first_smp1] at h; exact h
theorem k15_2 : Fn Try.prog 15 [.rslc 5 (smp.map Pt.cv) none, .int .i64 2] (.tup [.agg noM, .int .i64 7]) := by
  have h := k15 2 (by decide)
  rw [first_smp2] at h; exact h
theorem k25 : Fn Try.prog 25 [.rslc 5 (smp.map Pt.cv) none, .int .i64 4] (.tup [.rslc 1 (ints [0, 1, 2, 2]) none, .int .i64 0]) := by
  have h := s25 smp none 4 (by decide)
  rw [if_pos (by decide)] at h; exact h
theorem k14 : Fn Try.prog 14 [.rslc 5 (two2.map Pt.cv) none, .int .i64 3] (.tup [.rslc 3 [missCv 3 2 2, missCv 3 3 3] none, .int .i64 0]) := by
  have h := s14 two2 none 3 (by decide)
  rw [if_pos (by decide), all_two2] at h; exact h
theorem k23b : Fn Try.prog 23 [.rslc 5 (two3.map Pt.cv) none] (.tup [.rslc 1 (ints [4, 5]) none, .int .i64 0]) := by
  have h := s23 two3 none (by decide)
  rw [szs_two3, show ptsOk two3 = true by decide] at h; exact h

theorem L99_len : (ints L99).length = 99 := by decide
theorem L99_0 : (ints L99).getD 0 [] = [.int .i64 2] := rfl

set_option maxHeartbeats 4000000 in
set_option maxRecDepth 100000 in
theorem s12 : Fn Try.prog 12 [] (.bool true) := by
  refine fn_of_code c12_ok rfl rfl fun N => ?_
  simp (config := {contextual := true}) only [c12, go_sem]
  refine vr_f s34 ?_
  simp only [go_sem]
  refine vr_f k22 ?_
  simp only [go_sem]
  refine vr_f s34 ?_
  simp only [go_sem]
  refine vr_f k23 ?_
  simp only [go_sem]
  refine vr_f s34 ?_
  simp only [go_sem]
  refine vr_f k15_0 ?_
  simp only [go_sem, missCv]
  refine vr_f s34 ?_
  simp only [go_sem]
  refine vr_f k15_1 ?_
  simp only [go_sem, missCv]
  refine vr_f s34 ?_
  simp only [go_sem]
  refine vr_f k25 ?_
  simp only [go_sem]
  refine vr_freeze (id := 3) (z := 5) (els := two2.map Pt.cv) rfl rfl ?_
  simp only [go_sem, frzL, frzH, frz, frzO, two2, Pt.cv, one]
  refine vr_f k14 ?_
  simp only [go_sem, missCv]
  refine vr_dreg mixed (by decide) ?_
  simp only [go_sem]
  refine vd_call (.inl rfl) (s35 1) ?_
  simp only [go_sem, one, Pt.cv]
  refine vd_call (.inl rfl) (s35 3) ?_
  simp only [go_sem, one, Pt.cv]
  refine vd_row (two3.map Pt.cv) (.inl rfl) rfl rfl rfl rfl ?_
  simp only [go_sem]
  refine vd_call (.inl rfl) k23b ?_
  simp only [go_sem]
  refine vr_f s34 ?_
  simp only [go_sem]
  refine vr_f k15_2 ?_
  simp only [go_sem, noM, L99_len, L99_0, Int.cast_ofNat_Int]
  refine vr_freeze (id := 5) (z := 1) (els := ints [0, 1, 2, 2]) rfl rfl ?_
  simp only [go_sem, frzL, frzH, frz, frzO, ints]
  refine vr_fg (gok rfl) (s28 [0, 1, 2, 2] none none (by decide)) ?_
  simp only [go_sem]
  refine ⟨by omega, by omega, ?_⟩
  refine vr_freeze (id := 6) (z := 1) (els := ints [4, 5]) rfl rfl ?_
  simp only [go_sem, frzL, frzH, frz, frzO, ints]
  refine vr_fg (gok rfl) (s28 [4, 5] none none (by decide)) ?_
  simp only [go_sem]

end Go.Cm
end

section
open Go.Proofs
namespace Go.Cm

theorem reg_laid : laidOutB Try.prog = true := by kernel_rfl
theorem reg_maps : mapsRowed Try.prog = true := by kernel_rfl
theorem reg_full : ((List.range Try.prog.types.size).all fun t => match Try.prog.underlying t with | some (.slice e) => decide (0 < Try.prog.cellsOf e) | _ => true) = true := by kernel_rfl
theorem reg_cells : Try.prog.cellsOf 52 = 5 := by kernel_rfl

theorem fits_bound {d : Nat} {l : List CV} (h : fits Try.prog (d + 1) 50 l) : ∃ b n, l = [.bool b, .int .i64 n] := by
  obtain ⟨a, b, rfl, h1, h2⟩ := fits_struct2 Try.underlying50 h
  obtain ⟨x, rfl⟩ := fits_bool Try.underlying4 h1
  obtain ⟨y, rfl, _⟩ := fits_int Try.underlying3 h2
  exact ⟨x, y, rfl⟩

theorem fits_part {l : List CV} (h : fits Try.prog 3 52 l) : ∃ p : Pt, l = p.cv := by
  obtain ⟨a, b, c, rfl, h1, h2, h3⟩ := fits_struct3 Try.underlying52 h
  obtain ⟨x, y, rfl⟩ := fits_bound (d := 1) h1
  obtain ⟨z, w, rfl⟩ := fits_bound (d := 1) h2
  obtain ⟨s, rfl, _⟩ := fits_int Try.underlying3 h3
  exact ⟨⟨x, y, z, w, s⟩, rfl⟩

theorem top_parts {c : CV} (h : fitsTop Try.prog 4 22 c) : ∃ l : List Pt, c = .rslc 5 (l.map Pt.cv) none := by
  obtain ⟨els, rfl, _, h2⟩ := top_slice (d := 3) Try.underlying22 h
  obtain ⟨l, rfl⟩ := els_map (enc := Pt.cv) fun e he => fits_part (h2 e he)
  exact ⟨l, by rw [reg_cells]⟩

theorem top_part {c : CV} (h : fitsTop Try.prog 4 52 c) : ∃ p : Pt, c = .agg p.cv := by
  simp only [fitsTop, Try.underlying52] at h
  obtain ⟨l, rfl, h⟩ := h
  obtain ⟨a, b, c, rfl, h1, h2, h3⟩ := fits_struct3 Try.underlying52 h
  obtain ⟨x, y, rfl⟩ := fits_bound (d := 2) h1
  obtain ⟨z, w, rfl⟩ := fits_bound (d := 2) h2
  obtain ⟨s, rfl, _⟩ := fits_int Try.underlying3 h3
  exact ⟨⟨x, y, z, w, s⟩, rfl⟩

end Go.Cm
end
