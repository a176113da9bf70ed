/-
  The framework Cm, part YB: the operations made for the kernel give what the operations give. Conditions: none.
-/
import Derived.Test.YtghkeneolbkliaaGreatDoorKFwYA
set_option linter.unusedSimpArgs false
set_option linter.unusedVariables false

section
namespace Go.Cm

theorem cnd {α : Type} {b : Bool} {x : Option α} {r : α} (h : cond b x none = some r) : b = true ∧ x = some r := by
  cases b with
  | false => cases h
  | true => exact ⟨rfl, h⟩

def YGood (op : IOp) (T : List CV) (H : List CObj) (v : CV) (h' : HP) : Prop := ∃ H', RepH h' H' ∧ ∃ c, exec op T H = some (c, v, H') ∧ c.holds

theorem yck_some {r : Option (Cond × CV)} {v : CV} (h : yckO r = some v) : ∃ c, r = some (c, v) ∧ c.holds := by
  unfold yckO at h
  split at h
  · rename_i c v'
    obtain ⟨h1, h2⟩ := cnd h
    cases h2
    exact ⟨c, rfl, yck_ok h1⟩
  · cases h

section
variable {n : Nat} {t : RV} {T : List CV} {h : HP} {H : List CObj} {v : CV} {h' : HP}

theorem ypush_ok (hH : RepH h H) {o : CObj} {k : Nat → CV} (hp : ypush h o k = some (v, h')) : v = k H.length ∧ RepH h' (H ++ [o]) := by
  obtain ⟨h1, h2⟩ := cnd hp
  simp only [Option.some.injEq, Prod.mk.injEq] at h2
  obtain ⟨rfl, rfl⟩ := h2
  exact ⟨by rw [hH.len], hH.push (ble_iff.1 h1) o⟩

theorem aget_yc (hT : RepT n t T) (a : IArg) : aget [] (yc t a) = aget T a := yget_eq hT a

theorem ygetL_eq (hT : RepT n t T) : ∀ (l : List IArg), ygetL t l = l.map (aget T)
  | [] => rfl
  | a :: l => by
    show yget t a :: ygetL t l = _
    rw [ygetL_eq hT l, yget_eq hT]; rfl

theorem appL_eq : ∀ (l m : List CV), appL l m = l ++ m
  | [], _ => rfl
  | a :: l, m => by
    show a :: appL l m = _
    rw [appL_eq l m]; rfl

theorem fillParts_eq (hT : RepT n t T) : ∀ (ps : List (Nat × Nat × IArg)) (z : List CV), fillParts [] z (ps.map fun p => (p.1, p.2.1, yc t p.2.2)) = fillParts T z ps
  | [], _ => rfl
  | (o, k, a) :: ps, z => by
    simp only [List.map_cons, fillParts, aget_yc hT]
    split
    · rfl
    · split
      · exact fillParts_eq hT ps _
      · rfl

theorem fillEls_eq (hT : RepT n t T) {z : Nat} : ∀ (ps : List (Nat × IArg)) (els : List (List CV)), fillEls [] z els (ps.map fun p => (p.1, yc t p.2)) = fillEls T z els ps
  | [], _ => rfl
  | (i, a) :: ps, els => by
    simp only [List.map_cons, fillEls, aget_yc hT]
    split
    · rfl
    · split
      · exact fillEls_eq hT ps _
      · rfl

theorem exBound_eq (hT : RepT n t T) {d : Int} (x : Option IArg) : exBound [] d (ycO t x) = exBound T d x := by
  cases x with
  | none => rfl
  | some a => simp only [ycO, exBound, aget_yc hT]

theorem exHi_eq (hT : RepT n t T) {x : CV} (a : Option IArg) : exHi [] x (ycO t a) = exHi T x a := by
  cases a with
  | none => rfl
  | some a => simp only [ycO, exHi, aget_yc hT]

theorem exMx_eq (hT : RepT n t T) (a : Option IArg) : exMx [] (ycO t a) = exMx T a := by
  cases a with
  | none => rfl
  | some a => simp only [ycO, exMx, aget_yc hT]

theorem ySlow_ok {r : Option (Cond × CV × List CObj)} (hy : ySlow r = some (v, h')) : ∃ H', RepH h' H' ∧ ∃ c, r = some (c, v, H') ∧ c.holds := by
  unfold ySlow at hy
  split at hy
  · rename_i c v' H'
    obtain ⟨h1, h2⟩ := cnd hy
    split at h2
    · rename_i h2' hh
      simp only [Option.some.injEq, Prod.mk.injEq] at h2
      obtain ⟨rfl, rfl⟩ := h2
      exact ⟨H', RepH.ofL hh, c, rfl, yck_ok h1⟩
    · cases h2
  · cases hy

theorem y_alloc_ok (hH : RepH h H) {z : List CV} (hy : y_alloc z t h = some (v, h')) : YGood (.alloc z) T H v h' := by
  obtain ⟨rfl, h2⟩ := ypush_ok hH hy
  exact ⟨_, h2, .tt, rfl, trivial⟩

theorem y_mkmap_ok (hH : RepH h H) (hy : y_mkmap t h = some (v, h')) : YGood .mkmap T H v h' := by
  obtain ⟨rfl, h2⟩ := ypush_ok hH hy
  exact ⟨_, h2, .tt, rfl, trivial⟩

theorem y_slow_ok (hH : RepH h H) {op op' : IOp} (he : exec op' [] H = exec op T H) (hy : ySlow (exec op' [] h.toL) = some (v, h')) : YGood op T H v h' := by
  rw [hH.toL] at hy
  obtain ⟨H', h1, c, h2, h3⟩ := ySlow_ok hy
  exact ⟨H', h1, c, by rw [← he]; exact h2, h3⟩

theorem ybin_ok {op : BinOp} {k : IntKind} {x y : Int} (hy : ybin op k x y = some v) : ∃ c, binI op k x y = some (c, v) ∧ c.holds := by
  cases op
  case add =>
    obtain ⟨h1, h2⟩ := cnd (show cond (rngB k (Int.add x y)) (some (CV.int k (Int.add x y))) none = some v from hy)
    cases h2
    exact ⟨.rng k (x + y), rfl, yck_ok (c := .rng k (x + y)) h1⟩
  case sub =>
    obtain ⟨h1, h2⟩ := cnd (show cond (rngB k (Int.sub x y)) (some (CV.int k (Int.sub x y))) none = some v from hy)
    cases h2
    exact ⟨.rng k (x - y), rfl, yck_ok (c := .rng k (x - y)) h1⟩
  case eql => have hy : some (CV.bool (ieB x y)) = some v := hy; cases hy; exact ⟨.tt, by simp only [binI, ieB_dec], trivial⟩
  case neq => have hy : some (CV.bool (not (ieB x y))) = some v := hy; cases hy; exact ⟨.tt, by simp only [binI, ieB_dec]; rfl, trivial⟩
  case lss => have hy : some (CV.bool (not (ilB y x))) = some v := hy; cases hy; exact ⟨.tt, by simp only [binI, ilB_dec, ← decide_not, Int.not_le], trivial⟩
  case leq => have hy : some (CV.bool (ilB x y)) = some v := hy; cases hy; exact ⟨.tt, by simp only [binI, ilB_dec], trivial⟩
  case gtr => have hy : some (CV.bool (not (ilB x y))) = some v := hy; cases hy; exact ⟨.tt, by simp only [binI, ilB_dec, ← decide_not, Int.not_le], trivial⟩
  case geq => have hy : some (CV.bool (ilB y x)) = some v := hy; cases hy; exact ⟨.tt, by simp only [binI, ilB_dec], trivial⟩
  all_goals (unfold ybin at hy; exact yck_some hy)

theorem ybs_iff : ∀ {l m : List UInt8}, ybs l m = true ↔ l = m
  | [], [] => Iff.intro (fun _ => rfl) (fun _ => rfl)
  | [], _ :: _ => Iff.intro (fun h => nomatch (show false = true from h)) (fun h => nomatch h)
  | _ :: _, [] => Iff.intro (fun h => nomatch (show false = true from h)) (fun h => nomatch h)
  | a :: l, b :: m => by
    show (Nat.beq a.toNat b.toNat && ybs l m) = true ↔ _
    rw [Bool.and_eq_true, ybs_iff, Nat.beq_eq, List.cons.injEq, UInt8.toNat_inj]

variable (hT : RepT n t T) (hH : RepH h H)
include hT hH

theorem y_mv_ok {a : IArg} (hy : y_mv a t h = some (v, h')) : YGood (.mv a) T H v h' := by
  simp only [y_mv, yget_eq hT, Option.some.injEq, Prod.mk.injEq] at hy
  obtain ⟨rfl, rfl⟩ := hy
  exact ⟨H, hH, .tt, rfl, trivial⟩

theorem y_pick_ok {c a b : IArg} (hy : y_pick c a b t h = some (v, h')) : YGood (.pick c a b) T H v h' := by
  simp only [y_pick, y_pickV, yget_eq hT] at hy
  split at hy
  · rename_i x hx
    simp only [Option.some.injEq, Prod.mk.injEq] at hy
    obtain ⟨rfl, rfl⟩ := hy
    refine ⟨H, hH, .tt, ?_, trivial⟩
    simp only [exec, hx]
    cases x <;> rfl
  · cases hy

theorem y_box_ok {a : IArg} (hy : y_box a t h = some (v, h')) : YGood (.box a) T H v h' := by
  simp only [y_box, yget_eq hT] at hy
  split at hy
  · rename_i l hl
    obtain ⟨h1, h2⟩ := cnd hy
    obtain ⟨rfl, h3⟩ := ypush_ok hH h2
    exact ⟨_, h3, .tt, by simp only [exec, hl, h1, if_true], trivial⟩
  · cases hy

theorem y_build_ok {z : List CV} {ps : List (Nat × Nat × IArg)} (hy : y_build z ps t h = some (v, h')) : YGood (.build z ps) T H v h' := by
  simp only [y_build, fillParts_eq hT] at hy
  split at hy
  · rename_i l hl
    simp only [Option.some.injEq, Prod.mk.injEq] at hy
    obtain ⟨rfl, rfl⟩ := hy
    exact ⟨H, hH, .tt, by simp only [exec, hl], trivial⟩
  · cases hy

theorem y_bslice_ok {z k : Nat} {zero : List CV} {ps : List (Nat × IArg)} (hy : y_bslice z k zero ps t h = some (v, h')) : YGood (.bslice z k zero ps) T H v h' := by
  simp only [y_bslice, fillEls_eq hT] at hy
  split at hy
  · rename_i els hl
    obtain ⟨rfl, h3⟩ := ypush_ok hH hy
    exact ⟨_, h3, .tt, by simp only [exec, hl], trivial⟩
  · cases hy

theorem y_load_ok {ag : Bool} {k : Nat} {a : IArg} (hy : y_load ag k a t h = some (v, h')) : YGood (.load ag k a) T H v h' := by
  simp only [y_load, y_loadV, yget_eq hT] at hy
  split at hy
  · rename_i id i off ha
    split at hy
    · rename_i z els hg
      rw [hH.get] at hg
      rw [getL_eq] at hy
      unfold yldE at hy
      split at hy
      · rename_i e he
        have hlt : i + 1 ≤ els.length := (List.getElem?_eq_some_iff.1 he).1
        have hd : els.getD i [] = e := by rw [List.getD_eq_getElem?_getD, he]; rfl
        cases ag with
        | true =>
          simp only [cond_true] at hy
          obtain ⟨h1, h2⟩ := cnd hy
          simp only [Option.some.injEq, Prod.mk.injEq] at h2
          obtain ⟨rfl, rfl⟩ := h2
          refine ⟨H, hH, .and (.le (i + 1) els.length) (.le (off + k) e.length), ?_, hlt, ble_iff.1 h1⟩
          simp only [exec, ha, hg, hd, if_true]
        | false =>
          simp only [cond_false, getL_eq] at hy
          split at hy
          · rename_i c hc
            simp only [Option.some.injEq, Prod.mk.injEq] at hy
            obtain ⟨rfl, rfl⟩ := hy
            refine ⟨H, hH, .and (.le (i + 1) els.length) (.le (off + 1) e.length), ?_, hlt, (List.getElem?_eq_some_iff.1 hc).1⟩
            have : e.getD off .un = c := by rw [List.getD_eq_getElem?_getD, hc]; rfl
            simp only [exec, ha, hg, hd, this, Bool.false_eq_true, if_false]
          · cases hy
      · cases hy
    · cases hy
  · rename_i cs ha
    unfold yldR at hy
    cases ag with
    | true =>
      simp only [cond_true] at hy
      obtain ⟨h1, h2⟩ := cnd hy
      simp only [Option.some.injEq, Prod.mk.injEq] at h2
      obtain ⟨rfl, rfl⟩ := h2
      exact ⟨H, hH, .le k cs.length, by simp only [exec, ha, if_true], ble_iff.1 h1⟩
    | false =>
      simp only [cond_false] at hy
      split at hy
      · rename_i c cs'
        simp only [Option.some.injEq, Prod.mk.injEq] at hy
        obtain ⟨rfl, rfl⟩ := hy
        exact ⟨H, hH, .tt, by simp only [exec, ha, Bool.false_eq_true, if_false], trivial⟩
      · cases hy
  · cases hy

theorem y_store_ok {k : Nat} {a b : IArg} (hy : y_store k a b t h = some (v, h')) : YGood (.store k a b) T H v h' := by
  simp only [y_store, y_storeV, yget_eq hT] at hy
  split at hy
  · rename_i id i off ha
    split at hy
    · rename_i l hl
      split at hy
      · rename_i z els hg
        have hlt0 := hH.lt hg
        rw [hH.get] at hg
        rw [getL_eq] at hy
        unfold ystE at hy
        split at hy
        · rename_i e he
          obtain ⟨h1, h2⟩ := cnd hy
          simp only [Option.some.injEq, Prod.mk.injEq] at h2
          obtain ⟨rfl, rfl⟩ := h2
          rw [Bool.and_eq_true, Bool.and_eq_true] at h1
          have h3 := Nat.eq_of_beq_eq_true h1.1
          have hlt : i + 1 ≤ els.length := (List.getElem?_eq_some_iff.1 he).1
          have hd : els.getD i [] = e := by rw [List.getD_eq_getElem?_getD, he]; rfl
          refine ⟨_, hH.set hlt0 _, .and (.le (i + 1) els.length) (.le (off + k) e.length), ?_, hlt, ble_iff.1 h1.2.2⟩
          simp only [exec, ha, hl, hg, hd, h3, h1.2.1, and_self, if_true]
        · cases hy
      · cases hy
    · cases hy
  · cases hy

theorem y_not_ok {x : IArg} (hy : y_not x t h = some (v, h')) : YGood (.not x) T H v h' := by
  simp only [y_not, y_notV, yget_eq hT] at hy
  split at hy
  · rename_i b hb
    simp only [Option.some.injEq, Prod.mk.injEq] at hy
    obtain ⟨rfl, rfl⟩ := hy
    exact ⟨H, hH, .tt, by simp only [exec, hb], trivial⟩
  · cases hy

theorem y_conv_ok {k : IntKind} {x : IArg} (hy : y_conv k x t h = some (v, h')) : YGood (.conv k x) T H v h' := by
  simp only [y_conv, yget_eq hT] at hy
  split at hy
  · rename_i k' m hb
    obtain ⟨h1, h2⟩ := cnd hy
    simp only [Option.some.injEq, Prod.mk.injEq] at h2
    obtain ⟨rfl, rfl⟩ := h2
    exact ⟨H, hH, .rng k m, by simp only [exec, hb], yck_ok (c := .rng k m) h1⟩
  · cases hy

theorem y_mkfn_ok {f : Nat} {l1 l2 : List IArg} (hy : y_mkfn f l1 l2 t h = some (v, h')) : YGood (.mkfn f l1 l2) T H v h' := by
  simp only [y_mkfn, ygetL_eq hT, Option.some.injEq, Prod.mk.injEq] at hy
  obtain ⟨rfl, rfl⟩ := hy
  exact ⟨H, hH, .tt, rfl, trivial⟩

theorem y_faddr_ok {off : Nat} {x : IArg} (hy : y_faddr off x t h = some (v, h')) : YGood (.faddr off x) T H v h' := by
  simp only [y_faddr, y_faddrV, yget_eq hT] at hy
  split at hy
  · rename_i hb
    simp only [Option.some.injEq, Prod.mk.injEq] at hy
    obtain ⟨rfl, rfl⟩ := hy
    exact ⟨H, hH, .tt, by simp only [exec, hb], trivial⟩
  · rename_i cs hb
    obtain ⟨h1, h2⟩ := cnd hy
    simp only [Option.some.injEq, Prod.mk.injEq] at h2
    obtain ⟨rfl, rfl⟩ := h2
    exact ⟨H, hH, .le off cs.length, by simp only [exec, hb], ble_iff.1 h1⟩
  · cases hy

theorem y_field_ok {ag : Bool} {off k : Nat} {x : IArg} (hy : y_field ag off k x t h = some (v, h')) : YGood (.field ag off k x) T H v h' := by
  simp only [y_field, y_fieldV, yget_eq hT] at hy
  split at hy
  · rename_i l hb
    cases ag with
    | true =>
      simp only [cond_true] at hy
      obtain ⟨h1, h2⟩ := cnd hy
      simp only [Option.some.injEq, Prod.mk.injEq] at h2
      obtain ⟨rfl, rfl⟩ := h2
      exact ⟨H, hH, .le (off + k) l.length, by simp only [exec, hb, if_true], ble_iff.1 h1⟩
    | false =>
      simp only [cond_false, getL_eq] at hy
      split at hy
      · rename_i c hc
        simp only [Option.some.injEq, Prod.mk.injEq] at hy
        obtain ⟨rfl, rfl⟩ := hy
        have : l.getD off .un = c := by rw [List.getD_eq_getElem?_getD, hc]; rfl
        exact ⟨H, hH, .le (off + 1) l.length, by simp only [exec, hb, this, Bool.false_eq_true, if_false], (List.getElem?_eq_some_iff.1 hc).1⟩
      · cases hy
  · cases hy

theorem y_iaddr_ok {z : Nat} {x i : IArg} (hy : y_iaddr z x i t h = some (v, h')) : YGood (.iaddr z x i) T H v h' := by
  simp only [y_iaddr, y_iaddrV, yget_eq hT] at hy
  split at hy
  · rename_i k m hi
    split at hy
    · rename_i id off len cap hx
      split at hy
      · rename_i z' els hg
        rw [hH.get] at hg
        obtain ⟨h1, h2⟩ := cnd hy
        rw [Bool.and_eq_true] at h1
        have h3 := Nat.eq_of_beq_eq_true h1.1
        simp only [Option.some.injEq, Prod.mk.injEq] at h2
        obtain ⟨rfl, rfl⟩ := h2
        exact ⟨H, hH, .idx m len, by simp only [exec, hx, hi, hg, h3, if_true], yck_ok h1.2⟩
      · cases hy
    · rename_i z' els cap hx
      obtain ⟨h1, h2⟩ := cnd hy
      rw [Bool.and_eq_true] at h1
      have h3 := Nat.eq_of_beq_eq_true h1.1
      have h4 := ilB_iff.1 h1.2
      rw [getL_eq] at h2
      split at h2
      · rename_i e he
        simp only [Option.some.injEq, Prod.mk.injEq] at h2
        obtain ⟨rfl, rfl⟩ := h2
        have hlt := (List.getElem?_eq_some_iff.1 he).1
        have hd : els.getD m.toNat [] = e := by rw [List.getD_eq_getElem?_getD, he]; rfl
        exact ⟨H, hH, .idx m els.length, by simp only [exec, hx, hi, h3, hd, if_true], h4, by omega⟩
      · cases h2
    · cases hy
  · cases hy

theorem y_extract_ok {x : IArg} {i : Nat} (hy : y_extract x i t h = some (v, h')) : YGood (.extract x i) T H v h' := by
  simp only [y_extract, y_extractV, yget_eq hT] at hy
  split at hy
  · rename_i l hb
    rw [getL_eq] at hy
    split at hy
    · rename_i c hc
      simp only [Option.some.injEq, Prod.mk.injEq] at hy
      obtain ⟨rfl, rfl⟩ := hy
      have : l.getD i .un = c := by rw [List.getD_eq_getElem?_getD, hc]; rfl
      exact ⟨H, hH, .tt, by simp only [exec, hb, this, if_pos (List.getElem?_eq_some_iff.1 hc).1], trivial⟩
    · cases hy
  · cases hy

theorem y_nchk_ok {x : IArg} (hy : y_nchk x t h = some (v, h')) : YGood (.nchk x) T H v h' := by
  simp only [y_nchk, yget_eq hT] at hy
  split at hy
  all_goals first
    | (cases hy; done)
    | (rename_i hb
       simp only [Option.some.injEq, Prod.mk.injEq] at hy
       obtain ⟨rfl, rfl⟩ := hy
       exact ⟨H, hH, .tt, by simp only [exec, hb], trivial⟩)

theorem y_slice_ok {z : Nat} {x : IArg} {lo hi mx : Option IArg} (hy : y_slice z x lo hi mx t h = some (v, h')) : YGood (.slice z x lo hi mx) T H v h' := by
  simp only [y_slice, exBound_eq hT, exHi_eq hT, exMx_eq hT, yget_eq hT] at hy
  split at hy
  · rename_i l hh m e1 e2 e3
    unfold ysl at hy
    split at hy
    · rename_i id off len cap hx
      rw [hx] at e2
      split at hy
      · rename_i z' els hg
        rw [hH.get] at hg
        obtain ⟨h1, h2⟩ := cnd hy
        have h3 := Nat.eq_of_beq_eq_true h1
        split at h2
        · rename_i v' hv
          simp only [Option.some.injEq, Prod.mk.injEq] at h2
          obtain ⟨rfl, rfl⟩ := h2
          cases m with
          | none =>
            simp only [yslc] at hv
            obtain ⟨c, h4, h5⟩ := yck_some hv
            refine ⟨H, hH, c, ?_, h5⟩
            simp only [exec, e1, e2, e3, hx, exSlice, hg, h3, if_true]
            simp only [Option.some.injEq, Prod.mk.injEq] at h4
            rw [h4.1, h4.2]
          | some m =>
            simp only [yslc] at hv
            obtain ⟨c, h4, h5⟩ := yck_some hv
            refine ⟨H, hH, c, ?_, h5⟩
            simp only [exec, e1, e2, e3, hx, exSlice, hg, h3, if_true]
            simp only [Option.some.injEq, Prod.mk.injEq] at h4
            rw [h4.1, h4.2]
        · cases h2
      · cases hy
    · rename_i hne
      split at hy
      · rename_i v' hv
        simp only [Option.some.injEq, Prod.mk.injEq] at hy
        obtain ⟨rfl, rfl⟩ := hy
        obtain ⟨c, h4, h5⟩ := yck_some hv
        exact ⟨H, hH, c, by simp only [exec, e1, e2, e3, exSlice_nil h4 H], h5⟩
      · cases hy
  · cases hy

end
end Go.Cm
end
