/-
  The framework Cm, part YC: the same for numbers, texts, maps, appending. Conditions: none.
-/
import Derived.Test.YtghkeneolbkliaaGreatDoorKFwYB
import Derived.Laws.Strings
set_option linter.unusedSimpArgs false
set_option linter.unusedVariables false

section
namespace Go.Cm

theorem ba_toList (x : ByteArray) : x.toList = x.data.toList := Go.ByteArray.toList_eq x

theorem ybs_dec (x y : ByteArray) : ybs x.data.toList y.data.toList = (x.toList == y.toList) := by
  rw [ba_toList, ba_toList]
  by_cases h : x.data.toList = y.data.toList
  · rw [ybs_iff.2 h]; simp [h]
  · have : (x.data.toList == y.data.toList) = false := by simpa using h
    rw [this]; exact Bool.eq_false_iff.2 fun hh => h (ybs_iff.1 hh)

theorem ybinS_ok {op : BinOp} {x y : ByteArray} {v : CV} (hy : ybinS op x y = some v) : ∃ c, binS op x y = some (c, v) ∧ c.holds := by
  cases op
  case eql => cases hy; exact ⟨.tt, by simp only [binS, ybs_dec], trivial⟩
  case neq => cases hy; exact ⟨.tt, by simp only [binS, ybs_dec], trivial⟩
  all_goals exact yck_some hy

section
variable {n : Nat} {t : RV} {T : List CV} {h : HP} {H : List CObj} {v : CV} {h' : HP} (hT : RepT n t T) (hH : RepH h H)
include hT hH

theorem y_bin_ok {op : BinOp} {tk : TK} {x y : IArg} (hy : y_bin op tk x y t h = some (v, h')) : YGood (.bin op tk x y) T H v h' := by
  have fin : ∀ {v1 : CV}, (∃ c, exBin op tk (aget T x) (aget T y) = some (c, v1) ∧ c.holds) → YGood (.bin op tk x y) T H v1 h := by
    rintro v1 ⟨c, h1, h2⟩
    exact ⟨H, hH, c, by simp only [exec, h1], h2⟩
  simp only [y_bin, yget_eq hT] at hy
  unfold yO at hy
  split at hy
  · rename_i v' hv
    simp only [Option.some.injEq, Prod.mk.injEq] at hy
    obtain ⟨rfl, rfl⟩ := hy
    refine fin ?_
    unfold yii1 at hv
    split at hv
    · rename_i p hp
      have hx := vInt_ok hp
      split at hv
      · rename_i q hq
        have hy' := vInt_ok hq
        rw [hx, hy']
        simp only [exBin]
        unfold yii at hv
        cases hk : kEq p.1 q.1 with
        | true =>
          rw [hk] at hv
          have hk := kEq_ok hk
          obtain ⟨c, h1, h2⟩ := ybin_ok hv
          exact ⟨c, by simp only [binK, if_pos hk]; exact h1, h2⟩
        | false =>
          rw [hk] at hv
          exact yck_some hv
      · cases hv
    · unfold yother at hv
      split at hv
      · rename_i a hx
        rw [hx]
        split at hv
        · rename_i b hy'
          rw [hy']
          exact ybinS_ok hv
        · cases hv
      · exact yck_some hv
  · cases hy

theorem y_indexS_ok {x i : IArg} (hy : y_indexS x i t h = some (v, h')) : YGood (.indexS x i) T H v h' := by
  simp only [y_indexS, y_indexSV, yget_eq hT] at hy
  split at hy
  · rename_i s hx
    split at hy
    · rename_i k m hi
      obtain ⟨h1, h2⟩ := cnd hy
      have h4 := ilB_iff.1 h1
      rw [getL_eq] at h2
      split at h2
      · rename_i b hb
        simp only [Option.some.injEq, Prod.mk.injEq] at h2
        obtain ⟨rfl, rfl⟩ := h2
        have hlt := (List.getElem?_eq_some_iff.1 hb).1
        have hsz : s.size = s.data.toList.length := by simp
        refine ⟨H, hH, .idx m s.size, ?_, h4, by rw [hsz]; omega⟩
        have hd : s.data.getD m.toNat 0 = b := by
          rw [Array.getD_eq_getD_getElem?, ← Array.getElem?_toList, hb]; rfl
        simp only [exec, hx, hi, hd]; rfl
      · cases h2
    · cases hy
  · cases hy

theorem y_sliceS_ok {x : IArg} {lo hi : Option IArg} (hy : y_sliceS x lo hi t h = some (v, h')) : YGood (.sliceS x lo hi) T H v h' := by
  simp only [y_sliceS, yget_eq hT, exBound_eq hT] at hy
  split at hy
  · rename_i s hx
    have hsz : (s.data.toList.length : Int) = s.size := by simp
    rw [hsz] at hy
    split at hy
    · rename_i l hh e1 e2
      obtain ⟨h1, h2⟩ := cnd hy
      rw [Bool.and_eq_true, Bool.and_eq_true, ilB_iff, ilB_iff, ilB_iff] at h1
      simp only [Option.some.injEq, Prod.mk.injEq] at h2
      obtain ⟨rfl, rfl⟩ := h2
      refine ⟨H, hH, .and (.ile 0 l) (.and (.ile l hh) (.ile hh s.size)), ?_, h1.1, h1.2.1, h1.2.2⟩
      have he : s.extract l.toNat hh.toNat = ⟨⟨(s.data.toList.drop l.toNat).take (hh.toNat - l.toNat)⟩⟩ := by
        refine str_ext ?_
        simp [ByteArray.data_extract]
      simp only [exec, hx, e1, e2, he]
    · cases hy
  · cases hy

omit hT hH in
theorem ykey_ok {tk : TK} {x y : CV} {b : Bool} (hy : ykey tk x y = some b) : keyEq tk x y = some b := by
  unfold ykey at hy
  split at hy
  · split at hy
    · split at hy
      · split at hy
        · rename_i hk _
          simp only [keyEq, if_pos hk]
          rw [ieB_dec] at hy; exact hy
        · cases hy
      · cases hy
    · cases hy
  · split at hy
    · split at hy
      · rename_i a _ b' 
        simp only [keyEq]
        rw [ybs_dec] at hy
        simp only [Option.some.injEq] at hy ⊢
        rw [← hy]
        have h1 : ∀ {a b : ByteArray}, (a == b) = (a.toList == b.toList) := by
          rintro ⟨x⟩ ⟨y⟩
          have e1 : ((⟨x⟩ : ByteArray) == ⟨y⟩) = (x == y) := rfl
          rw [e1, ba_toList, ba_toList, Bool.eq_iff_iff, beq_iff_eq, beq_iff_eq]
          exact ⟨fun h => by rw [h], fun h => by cases x; cases y; simp at h; rw [h]⟩
        exact h1
      · cases hy
    · cases hy
  · exact hy

omit hT hH in
theorem yfind_ok {tk : TK} {k : CV} : ∀ {l : List (CV × CV)} {i : Nat} {r : Option (Nat × CV)}, yfind tk k l i = some r → findKV tk k l i = some r
  | [], i, r, hy => hy
  | p :: l, i, r, hy => by
    have hy : Option.rec (motive := fun _ => Option (Option (Nat × CV))) none (fun b => cond b (some (some (i, p.2))) (yfind tk k l (i + 1))) (ykey tk k p.1) = some r := hy
    obtain ⟨k', v'⟩ := p
    simp only [findKV]
    cases hk : ykey tk k k' with
    | none => simp only [hk] at hy; cases hy
    | some b =>
      simp only [hk] at hy
      rw [ykey_ok hk]
      cases b with
      | true => exact hy
      | false => exact yfind_ok hy

theorem y_lookup_ok {tk : TK} {zero : CV} {ok : Bool} {m k : IArg} (hy : y_lookup tk zero ok m k t h = some (v, h')) : YGood (.lookup tk zero ok m k) T H v h' := by
  simp only [y_lookup, yget_eq hT] at hy
  obtain ⟨h1, h2⟩ := cnd hy
  split at h2
  · rename_i hm
    simp only [Option.some.injEq, Prod.mk.injEq] at h2
    obtain ⟨rfl, rfl⟩ := h2
    exact ⟨H, hH, .tt, by simp only [exec, h1, if_true, hm]; cases ok <;> rfl, trivial⟩
  · rename_i id hm
    split at h2
    · rename_i kvs hg
      rw [hH.get] at hg
      split at h2
      · rename_i r hr
        simp only [Option.some.injEq, Prod.mk.injEq] at h2
        obtain ⟨rfl, rfl⟩ := h2
        exact ⟨H, hH, .tt, by simp only [exec, h1, if_true, hm, hg, yfind_ok hr]; cases ok <;> rfl, trivial⟩
      · rename_i hr
        simp only [Option.some.injEq, Prod.mk.injEq] at h2
        obtain ⟨rfl, rfl⟩ := h2
        exact ⟨H, hH, .tt, by simp only [exec, h1, if_true, hm, hg, yfind_ok hr]; cases ok <;> rfl, trivial⟩
      · cases h2
    · cases h2
  · cases h2

theorem y_mapset_ok {tk : TK} {m k x : IArg} (hy : y_mapset tk m k x t h = some (v, h')) : YGood (.mapset tk m k x) T H v h' := by
  simp only [y_mapset, yget_eq hT] at hy
  obtain ⟨h1, h2⟩ := cnd hy
  split at h2
  · rename_i id hm
    split at h2
    · rename_i kvs hg
      have hlt := hH.lt hg
      rw [hH.get] at hg
      split at h2
      · rename_i r hr
        simp only [Option.some.injEq, Prod.mk.injEq] at h2
        obtain ⟨rfl, rfl⟩ := h2
        exact ⟨_, hH.set hlt _, .tt, by simp only [exec, h1, if_true, hm, hg, yfind_ok hr], trivial⟩
      · rename_i hr
        simp only [Option.some.injEq, Prod.mk.injEq] at h2
        obtain ⟨rfl, rfl⟩ := h2
        exact ⟨_, hH.set hlt _, .tt, by simp only [exec, h1, if_true, hm, hg, yfind_ok hr], trivial⟩
      · cases h2
    · cases h2
  · cases h2

omit hT hH in
theorem ylen_ok {k : Nat} {a b : TK} (hy : ylen k a b h = some (v, h')) : a = b ∧ v = .int .i64 (k : Int) ∧ h' = h := by
  unfold ylen at hy
  split at hy
  · rename_i hk _
    simp only [Option.some.injEq, Prod.mk.injEq] at hy
    exact ⟨hk, hy.1.symm, hy.2.symm⟩
  · cases hy

theorem y_len_ok {tk : TK} {x : IArg} (hy : y_len tk x t h = some (v, h')) : YGood (.len tk x) T H v h' := by
  simp only [y_len, y_lenV, yget_eq hT] at hy
  split at hy
  · rename_i s hx
    obtain ⟨rfl, rfl, rfl⟩ := ylen_ok hy
    have hsz : (s.data.toList.length : Int) = s.size := by simp
    exact ⟨H, hH, .tt, by simp only [exec, hx, if_true, hsz], trivial⟩
  · rename_i hx
    obtain ⟨rfl, rfl, rfl⟩ := ylen_ok hy
    exact ⟨H, hH, .tt, by simp only [exec, hx, if_true]; rfl, trivial⟩
  · rename_i hx
    obtain ⟨rfl, rfl, rfl⟩ := ylen_ok hy
    exact ⟨H, hH, .tt, by simp only [exec, hx, if_true], trivial⟩
  · rename_i hx
    obtain ⟨rfl, rfl, rfl⟩ := ylen_ok hy
    exact ⟨H, hH, .tt, by simp only [exec, hx, if_true], trivial⟩
  · rename_i hx
    obtain ⟨rfl, rfl, rfl⟩ := ylen_ok hy
    exact ⟨H, hH, .tt, by simp only [exec, hx, if_true]; rfl, trivial⟩
  · rename_i hx
    split at hy
    · rename_i kvs hg
      rw [hH.get] at hg
      obtain ⟨rfl, rfl, rfl⟩ := ylen_ok hy
      exact ⟨H, hH, .tt, by simp only [exec, hx, hg, if_true], trivial⟩
    · cases hy
  · cases hy

omit hT in
theorem yels_ok {z : Nat} {x : CV} {xs : List (List CV)} (hy : yels h z x = some xs) : elsOf H z x = some xs := by
  unfold yels at hy
  split at hy
  · split at hy
    · rename_i z' els hg
      rw [hH.get] at hg
      obtain ⟨h1, h2⟩ := cnd hy
      rw [Bool.and_eq_true] at h1
      have h3 := Nat.eq_of_beq_eq_true h1.1
      simp only [elsOf, hg]
      rw [if_pos ⟨h3, ble_iff.1 h1.2⟩]; exact h2
    · cases hy
  · rename_i hne
    cases x <;> first | exact hy | (exfalso; exact hne _ _ _ _ rfl)

omit hT in
theorem yapp_ok {z bytes : Nat} {s : CV} {xs : List (List CV)} (hy : yapp z bytes h s xs = some (v, h')) : ∃ H', RepH h' H' ∧ ∃ c, exAppend z bytes H s xs = some (c, v, H') ∧ c.holds := by
  unfold yapp at hy
  split at hy
  · split at hy
    all_goals first
      | (cases hy; done)
      | (simp only [Option.some.injEq, Prod.mk.injEq] at hy
         obtain ⟨rfl, rfl⟩ := hy
         exact ⟨H, hH, .tt, rfl, trivial⟩)
  · rename_i x0 xs'
    split at hy
    · obtain ⟨h1, h2⟩ := cnd hy
      obtain ⟨rfl, h3⟩ := ypush_ok hH h2
      exact ⟨_, h3, _, rfl, yck_ok h1⟩
    · rename_i id off len cap
      split at hy
      · rename_i z' els hg
        have hlt := hH.lt hg
        rw [hH.get] at hg
        obtain ⟨h1, h2⟩ := cnd hy
        rw [Bool.and_eq_true] at h1
        have h3 := Nat.eq_of_beq_eq_true h1.1
        have h4 := Nat.eq_of_beq_eq_true h1.2
        simp only [exAppend, hg]
        rw [if_pos ⟨h3, h4⟩]
        cases cap with
        | none =>
          obtain ⟨h5, h6⟩ := cnd (show cond (yck (roomOk (len + (x0 :: xs').length) bytes)) (ypush ⟨hset h.t id .dead, h.n⟩ (.arr z (els.drop off ++ (x0 :: xs'))) fun nid => .slc nid 0 (len + (x0 :: xs').length) none) none = some (v, h') from h2)
          obtain ⟨rfl, h7⟩ := ypush_ok (hH.set hlt .dead) h6
          exact ⟨_, h7, _, by simp only [List.length_set], yck_ok h5⟩
        | some c =>
          obtain ⟨h5, h6⟩ := cnd (show cond (and (Nat.ble (Nat.succ c) (len + (x0 :: xs').length)) (yck (roomOk (len + (x0 :: xs').length) bytes))) (ypush h (.arr z (els.drop off ++ (x0 :: xs'))) fun nid => .slc nid 0 (len + (x0 :: xs').length) none) none = some (v, h') from h2)
          rw [Bool.and_eq_true] at h5
          obtain ⟨rfl, h7⟩ := ypush_ok hH h6
          exact ⟨_, h7, .and (.le (c + 1) (len + (x0 :: xs').length)) (roomOk (len + (x0 :: xs').length) bytes), rfl, ble_iff.1 h5.1, yck_ok h5.2⟩
      · cases hy
    · rename_i z' els c
      obtain ⟨h1, h2⟩ := cnd hy
      rw [Bool.and_eq_true, Bool.and_eq_true] at h1
      have h3 := Nat.eq_of_beq_eq_true h1.1
      obtain ⟨rfl, h7⟩ := ypush_ok hH h2
      refine ⟨_, h7, .and (.le (c + 1) (els.length + (x0 :: xs').length)) (roomOk (els.length + (x0 :: xs').length) bytes), ?_, ble_iff.1 h1.2.1, yck_ok h1.2.2⟩
      simp only [exAppend, if_pos h3]
    · cases hy

theorem y_append_ok {z bytes : Nat} {s x : IArg} (hy : y_append z bytes s x t h = some (v, h')) : YGood (.append z bytes s x) T H v h' := by
  simp only [y_append, y_appendV, yget_eq hT] at hy
  split at hy
  · rename_i xs hxs
    obtain ⟨H', h1, c, h2, h3⟩ := yapp_ok hH hy
    exact ⟨H', h1, c, by simp only [exec, yels_ok hH hxs, h2], h3⟩
  · cases hy

end
end Go.Cm
end
