/-
  parse.sorts as a contract of ours; slices.Backward's loop. Conditions: none.
-/
import Derived.Test.YtghkeneolbkliaaGreatDoorKTyC
set_option linter.unusedSimpArgs false
set_option linter.unusedVariables false

section
open Go.Proofs Go.RowKit
namespace Go.Cm

/-- The kids, as numbers. -/
noncomputable def unNats (els : List (List CV)) : Option (List Nat) :=
  List.rec (some []) (fun e _ ih => match e with
    | [.int .i64 (.ofNat k)] => Option.rec none (fun l => some (k :: l)) ih
    | _ => none) els

/-- The kinds of the nodes that the kids name. -/
noncomputable def kindsOf (nodes : List (List CV)) (ks : List Nat) : Option (List Nat) :=
  List.rec (some []) (fun k _ ih => match nodes[k]? with
    | some (.int .u8 (.ofNat d) :: _) => cond (Nat.blt d 256) (Option.rec none (fun l => some (d :: l)) ih) none
    | _ => none) ks

theorem unNats_ok {els : List (List CV)} {ks : List Nat} (h : unNats els = some ks) : els = ks.map fun (k : Nat) => [CV.int .i64 k] := by
  induction els generalizing ks with
  | nil => simp [unNats] at h; subst h; rfl
  | cons e els ih =>
    unfold unNats at h
    simp only at h
    split at h
    · rename_i k
      cases hr : (List.rec (some []) (fun e _ ih => match e with
        | [.int .i64 (.ofNat k)] => Option.rec none (fun l => some (k :: l)) ih
        | _ => none) els : Option (List Nat)) with
      | none => rw [hr] at h; cases h
      | some l =>
        rw [hr] at h
        simp only [Option.some.injEq] at h
        subst h
        rw [ih hr]
        rfl
    · cases h

theorem kindsOf_ok {nodes : List (List CV)} {ks ds : List Nat} (h : kindsOf nodes ks = some ds) : ds.length = ks.length ∧ ∀ (j : Nat) d, ds[j]? = some d → d < 256 ∧ ∃ k l, ks[j]? = some k ∧ nodes[k]? = some (.int .u8 (d : Nat) :: l) := by
  induction ks generalizing ds with
  | nil => simp [kindsOf] at h; subst h; simp
  | cons k ks ih =>
    unfold kindsOf at h
    simp only at h
    split at h
    · rename_i d l hk
      obtain ⟨h1, h2⟩ := cnd h
      have hd : d < 256 := by simpa using h1
      cases hr : (List.rec (some []) (fun k _ ih => match nodes[k]? with
        | some (.int .u8 (.ofNat d) :: _) => cond (Nat.blt d 256) (Option.rec none (fun l => some (d :: l)) ih) none
        | _ => none) ks : Option (List Nat)) with
      | none => rw [hr] at h2; cases h2
      | some l' =>
        rw [hr] at h2
        simp only [Option.some.injEq] at h2
        subst h2
        obtain ⟨i1, i2⟩ := ih hr
        refine ⟨by simp [i1], fun j d' hj => ?_⟩
        cases j with
        | zero =>
          simp at hj
          subst hj
          exact ⟨hd, k, l, rfl, hk⟩
        | succ j => exact i2 j d' (by simpa using hj)
    · cases h

noncomputable def sortsX (args : List CV) : Option CV := match args with
  | [.agg [.rslc z nodes _, _], .agg [_, _, _, kids, _]] => cond (Nat.beq z 5) (match kids with
    | .nils => some (.str ⟨⟨[]⟩⟩)
    | .rslc y els _ => cond (and (Nat.beq y 1) (Nat.blt els.length 100000)) (Option.rec none (fun ks => Option.rec none (fun ds => some (.str ⟨⟨Tryz.letters ds⟩⟩)) (kindsOf nodes ks)) (unNats els)) none
    | _ => none) none
  | _ => none

theorem fnSorts {args : List CV} {v : CV} (h : sortsX args = some v) : Fn Tryz.prog 121 args v := by
  intro E H
  refine callsC_of_calls fun m w vs hs hv => ?_
  unfold sortsX at h
  split at h
  case h_2 => cases h
  rename_i z nodes _ items n0 n1 n2 kids n4
  obtain ⟨hz, h0⟩ := cnd h
  clear h
  have hz : z = 5 := Nat.eq_of_beq_eq_true hz
  subst hz
  simp only [rels, rel] at hv
  obtain ⟨_, _, e0, ⟨t1, rfl, r1, _, e1, hn, r2, _, rfl, hit, rfl⟩, _, _, rfl, ⟨t2, rfl, s0, _, e2, hs0, s1, _, rfl, hs1, s2, _, rfl, hs2, s3, _, rfl, hk, s4, _, rfl, hs4, rfl⟩, rfl⟩ := hv
  have ht1 : t1 = #[r1, r2] := by cases t1; simp_all
  have ht2 : t2 = #[s0, s1, s2, s3, s4] := by cases t2; simp_all
  have hvs : vs = #[.agg t1, .agg t2] := by cases vs; simp_all
  subst ht1 ht2 hvs
  have hnode : ∃ np nl nc, r1 = .slice np nl nc ∧ ∀ (k : Nat) d l, nodes[k]? = some (.int .u8 (d : Nat) :: l) → k < nl ∧ ∃ B o, np = some ⟨B, o, none⟩ ∧ w.cell? ⟨B, o + k * 5, none⟩ = some (.int .u8 (d : Nat)) := by
    rcases hn with ⟨_, rfl, b, rfl⟩ | ⟨B, o, c, rfl, _, _, hels⟩
    · exact ⟨b, 0, 0, rfl, fun k d l hk => by simp at hk⟩
    · refine ⟨_, _, _, rfl, fun k d l hk => ⟨(List.getElem?_eq_some_iff.1 hk).1, B, o, rfl, ?_⟩⟩
      have h1 := ((relEls_iff nodes o).1 hels k _ hk).2
      obtain ⟨r, hr, hr2⟩ := h1 0 _ rfl
      simp only [rel] at hr2
      subst hr2
      exact hs.imm _ _ _ hr
  obtain ⟨np, nl, nc, rfl, hN⟩ := hnode
  split at h0
  · simp only [Option.some.injEq] at h0
    subst h0
    simp only [rel] at hk
    subst hk
    exact ⟨_, Tryz.sorts_walk np none nl nc 0 0 r2 s0 s1 s2 s4 [] w rfl (by simp) (by decide) (by simp), rfl⟩
  · rename_i y els cap
    obtain ⟨hy, h⟩ := cnd h0
    clear h0
    rw [Bool.and_eq_true] at hy
    have hy1 : y = 1 := Nat.eq_of_beq_eq_true hy.1
    have hy2 : els.length < 100000 := by simpa using hy.2
    subst hy1
    cases hu : unNats els with
    | none => rw [hu] at h; cases h
    | some ks =>
      rw [hu] at h
      simp only at h
      cases hd : kindsOf nodes ks with
      | none => rw [hd] at h; cases h
      | some ds =>
        rw [hd] at h
        simp only [Option.some.injEq] at h
        subst h
        have hels := unNats_ok hu
        obtain ⟨hl, hkd⟩ := kindsOf_ok hd
        have hel : els.length = ks.length := by rw [hels]; simp
        simp only [rel] at hk
        have hkid : ∃ kp kc, s3 = .slice kp els.length kc ∧ ∀ (j : Nat) k, ks[j]? = some k → ∃ B o, kp = some ⟨B, o, none⟩ ∧ w.cell? ⟨B, o + j, none⟩ = some (.int .i64 (k : Nat)) := by
          rcases hk with ⟨_, he, b, rfl⟩ | ⟨B, o, c, rfl, _, _, hels'⟩
          · have hks : ks = [] := by cases ks with | nil => rfl | cons a l => rw [he] at hel; simp at hel
            exact ⟨b, 0, by rw [he]; rfl, fun j k hj => by simp [hks] at hj⟩
          · refine ⟨_, _, rfl, fun j k hj => ⟨B, o, rfl, ?_⟩⟩
            have hj2 : els[j]? = some [CV.int .i64 k] := by rw [hels]; simp [hj]
            have h1 := ((relEls_iff els o).1 hels' j _ hj2).2
            obtain ⟨r, hr, hr2⟩ := h1 0 _ rfl
            simp only [rel] at hr2
            subst hr2
            have := hs.imm _ _ _ hr
            simpa using this
        obtain ⟨kp, kc, rfl, hK⟩ := hkid
        refine ⟨_, Tryz.sorts_walk np kp nl nc els.length kc r2 s0 s1 s2 s4 ds w (by omega) (fun d hd => ?_) (by omega) (fun j d hj => ?_), rfl⟩
        · obtain ⟨j, hj⟩ := List.getElem?_of_mem hd
          exact (hkd j d hj).1
        · obtain ⟨_, k, l, h1, h2⟩ := hkd j d hj
          obtain ⟨h3, B, o, h4, h5⟩ := hN k d l h2
          obtain ⟨B', o', h6, h7⟩ := hK j k h1
          exact ⟨B, o, B', o', k, h4, h6, h3, h7, h5⟩
  · cases h0

theorem len_unInts (xs : List Int) : (xs.map fun x => [CV.int .i64 x]).length = xs.length := by simp

theorem inr64 {x : Int} (h1 : -9223372036854775808 ≤ x) (h2 : x ≤ 9223372036854775807) : InR .i64 x := ⟨h1, h2⟩

/-- What a range from behind gives. -/
noncomputable def bksL (n : Nat) (els : List (List CV)) : List (List CV) :=
  (List.range n).map fun (s : Nat) => CV.int .i64 ((n : Int) - 1 - s) :: els.getD (n - 1 - s) []

theorem bksL_get {n : Nat} {els : List (List CV)} {s : Nat} (h : s < n) : (bksL n els)[s]? = some (.int .i64 ((n : Int) - 1 - s) :: els.getD (n - 1 - s) []) := by
  simp [bksL, h]
theorem bksL_len {n : Nat} {els : List (List CV)} : (bksL n els).length = n := by simp [bksL]

theorem t55 (els : List (List CV)) (cap : Option Nat) (hone : ∀ e ∈ els, ∃ n, e = [CV.int .i64 n]) (hlen : els.length ≤ 100000) : Iter Tryz.prog 55 [] [.rptr [.rslc 1 els cap]] (bksL els.length els) := by
  intro E l hy
  refine vr_fn c55_ok fun N => ?_
  simp (config := {contextual := true}) only [c55, go_sem]
  refine ⟨inr64 (by omega) (by omega), ?_⟩
  refine vr_loop (I := fun s : Nat => s ≤ els.length) (inv := fun s => gp [(0, .yld l), (0, .rptr [.rslc 1 els cap]), (1, .int .i64 ((els.length : Int) - 1 - s))] 15) (hp := fun s => [.ext s true]) (μ := fun s => els.length - s) 0 (by omega) ?_ rfl ?_
  · simp [forget, gp]
  · intro s hs
    simp (config := {contextual := true}) only [go_sem]
    refine ⟨fun h1 => ?_, fun h1 => ?_⟩
    · have hlt : s < els.length := by omega
      have hi : ((els.length : Int) - 1 - s).toNat = els.length - 1 - s := by omega
      have h2 : els.length - 1 - s < els.length := by omega
      obtain ⟨v, hv⟩ := hone _ (List.getElem_mem h2)
      have hg : els.getD (els.length - 1 - s) [] = [.int .i64 v] := by
        rw [List.getD_eq_getElem?_getD, List.getElem?_eq_getElem h2, ← hv]; rfl
      rw [hi, hg]
      refine ⟨by omega, ?_⟩
      simp (config := {contextual := true}) only [go_sem]
      refine vr_yield (i := 0) (s := s) (.inl rfl) rfl hy rfl (fun k s b hk => ?_) ?_ rfl fun c => ?_
      · rcases k with _ | k
        · rfl
        · simp at hk
      · simp only [go_sem, bksL_get hlt, hg]
      · cases c
        · simp (config := {contextual := true}) only [go_sem]
          exact .inr ⟨_, rfl⟩
        · simp (config := {contextual := true}) only [go_sem]
          refine ⟨inr64 (by omega) (by omega), s + 1, by omega, by omega, ?_⟩
          simp [forget]
          omega
    · have : s = els.length := by omega
      refine .inl ?_
      simp [bksL_len, this]

theorem t55n : Iter Tryz.prog 55 [] [.rptr [.nils]] [] := by
  intro E l hy
  refine vr_fn c55_ok fun N => ?_
  simp (config := {contextual := true}) only [c55, go_sem]
  refine ⟨inr64 (by decide) (by decide), ?_⟩
  refine vr_loop (I := fun _ : Nat => True) (inv := fun s => gp [(0, .yld l), (0, .rptr [.nils]), (1, .int .i64 (-1))] 15) (hp := fun s => [.ext 0 true]) (μ := fun s => 0) 0 trivial ?_ rfl ?_
  · simp [forget, gp]
  · intro s hs
    simp (config := {contextual := true}) only [go_sem]

theorem sorts_ok (hf : FnOk Tryz.prog 121) : YEOk Tryz.prog 121 (.nat sortsX) := ⟨hf, fun _ _ h => fnSorts h⟩

noncomputable def intsB (els : List (List CV)) : Bool := List.rec true (fun e _ ih => match e with
  | [.int .i64 _] => ih
  | _ => false) els
theorem intsB_ok {els : List (List CV)} (h : intsB els = true) : ∀ e ∈ els, ∃ n, e = [CV.int .i64 n] := by
  induction els with
  | nil => simp
  | cons e els ih =>
    unfold intsB at h
    simp only at h
    split at h
    · rename_i n
      intro e' he
      rcases List.mem_cons.1 he with rfl | he
      · exact ⟨n, rfl⟩
      · exact ih h e' he
    · cases h

noncomputable def bkIter (l1 l2 : List CV) : Option (List (List CV)) := match l1 with
  | [] => match l2 with
    | [.rptr [c]] => match c with
      | .nils => some []
      | .rslc y els _ => cond (and (Nat.beq y 1) (and (Nat.blt els.length 100000) (intsB els))) (some (bksL els.length els)) none
      | _ => none
    | _ => none
  | _ => none

theorem bk_ok (hf : FnOk Tryz.prog 55) : YEOk Tryz.prog 55 (.iter bkIter) := by
  refine ⟨hf, fun l1 l2 xs _ _ h => ?_⟩
  unfold bkIter at h
  split at h
  case h_2 => cases h
  split at h
  case h_2 => cases h
  split at h
  · simp only [Option.some.injEq] at h
    subst h
    exact t55n
  · rename_i y els cap _
    obtain ⟨hy, h1⟩ := cnd h
    simp only [Option.some.injEq] at h1
    subst h1
    rw [Bool.and_eq_true, Bool.and_eq_true] at hy
    have hy1 : y = 1 := Nat.eq_of_beq_eq_true hy.1
    have hy2 : els.length < 100000 := by simpa using hy.2.1
    subst hy1
    exact t55 els cap (intsB_ok hy.2.2) (by omega)
  · cases h

end Go.Cm
end
