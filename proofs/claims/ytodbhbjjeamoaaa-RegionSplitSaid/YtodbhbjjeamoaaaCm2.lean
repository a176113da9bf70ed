/-
  The framework Cm, part K: slices: expressions, literals, make. Conditions: none.
  The framework Cm, part L: slice literals, append, clear. Conditions: none.
  The framework Cm, part M: slice literals, clear; all operations together. Conditions: none.
  The framework Cm, part N: running code on abstract values: the predicate transformer. Conditions: none.
  The framework Cm, part O: exits, loops, functions. Conditions: none.
  The framework Cm, part P: the walk as a computed proposition. Conditions: none.
  The framework Cm, part Q: the rewriting rules of the walk. Conditions: none.
  The framework Cm, part R: contracts without a heap: what was made is frozen, and left behind. Conditions: none.
  The framework Cm, part S: the rules of freezing and of the frame. Conditions: none.
  The framework Cm, part T: what an operation reads. Conditions: none.
-/
import Derived.Test.YtodbhbjjeamoaaaCm1
set_option linter.unusedSimpArgs false
set_option linter.unusedVariables false

section
namespace Go.Cm

section
variable {P : Program} {E : Env} {n0 : Nat} {m : Bk} {H H' : List CObj} {w : World} {T : List CV} {a : Act} {c : Cond} {v : CV} {o : Oper}

theorem run_sliceBound {k : IntKind} {i : Int} {y : Nat} {code : BoundsCode} (h0 : 0 ≤ i) (h1 : i ≤ y) : (Instr.sliceBound (.int k i) y code).run P w = .ok i.toNat w := by
  simp [Instr.sliceBound, asIntOf, h0, h1]

theorem run_sliceBounds {len cap : Nat} {lo hi mx : Option Value} {l h : Int} {mm : Nat}
    (hlo : (lo = none ∧ l = 0) ∨ ∃ k, lo = some (.int k l)) (hhi : (hi = none ∧ mx = none ∧ h = len) ∨ ∃ k, hi = some (.int k h))
    (hmx : (mx = none ∧ mm = cap) ∨ ∃ k q, mx = some (.int k q) ∧ mm = q.toNat ∧ 0 ≤ q ∧ q ≤ cap) (h0 : 0 ≤ l) (h1 : l ≤ h) (h2 : h ≤ mm) :
    (Instr.sliceBounds true len cap lo hi mx).run P w = .ok (l.toNat, h.toNat, mm) w := by
  have hh : (h.toNat : Int) = h := by omega
  unfold Instr.sliceBounds
  rcases hmx with ⟨rfl, rfl⟩ | ⟨k, q, rfl, rfl, hq0, hq1⟩
  · rcases hhi with ⟨rfl, _, rfl⟩ | ⟨k, rfl⟩
    · rcases hlo with ⟨rfl, rfl⟩ | ⟨k, rfl⟩
      · simp
      · simp [run_sliceBound h0 h1]
    · rcases hlo with ⟨rfl, rfl⟩ | ⟨k', rfl⟩
      · simp [run_sliceBound (show (0:Int) ≤ h by omega) h2]
      · simp [run_sliceBound (show (0:Int) ≤ h by omega) h2, run_sliceBound h0 (show l ≤ (h.toNat : Int) by omega)]
  · rcases hhi with ⟨_, hn, _⟩ | ⟨k1, rfl⟩
    · cases hn
    · have e1 := run_sliceBound (P := P) (w := w) (k := k) (code := .slice3Acap) hq0 hq1
      have e2 := run_sliceBound (P := P) (w := w) (k := k1) (code := .slice3B) (show (0:Int) ≤ h by omega) h2
      rcases hlo with ⟨rfl, rfl⟩ | ⟨k', rfl⟩
      · simp [e1, e2]
      · have e3 := run_sliceBound (P := P) (w := w) (k := k') (code := .slice3C) h0 (show l ≤ (h.toNat : Int) by omega)
        simp [e1, e2, e3]

theorem opt_lo {T : List CV} {own : List Own} {imm : Nat → Nat → Option Value} (hT : rels own imm T a.tmps.toList) {lo : Option Operand} {ilo : Option IArg} {l : Int} (h : optArg lo = some ilo) (hl : exBound T 0 ilo = some l) : (lo.map a.eval = none ∧ l = 0) ∨ ∃ k, lo.map a.eval = some (.int k l) := by
  cases lo with
  | none => simp [optArg] at h; subst h; simp [exBound] at hl; exact .inl ⟨rfl, hl.symm⟩
  | some x =>
    simp only [optArg] at h
    cases hx : argOf x with
    | none => simp [hx] at h
    | some i =>
      simp [hx] at h; subst h
      have := arg_rel hT hx
      simp only [exBound] at hl
      unfold exIntOf at hl
      split at hl
      · rename_i k n e
        rw [e] at this; simp only [rel] at this
        cases hl
        exact .inr ⟨k, by simp [this]⟩
      · cases hl

theorem opt_int {T : List CV} {own : List Own} {imm : Nat → Nat → Option Value} (hT : rels own imm T a.tmps.toList) {x : Operand} {i : IArg} {n : Int} (hx : argOf x = some i) (h : exIntOf (aget T i) = some n) : ∃ k, a.eval x = .int k n := by
  have := arg_rel hT hx
  unfold exIntOf at h
  split at h
  · rename_i k n' e
    rw [e] at this; simp only [rel] at this
    cases h
    exact ⟨k, this⟩
  · cases h

/-- What a slice expression gives. -/
theorem slice_sound {z : Nat} {x v : CV} {xv : Value} {own : List Own} {imm : Nat → Nat → Option Value} {l h : Int} {mx : Option Int} (hs : Sim E m H w) (ho : own = m.own) (hi : imm = m.imm) (hx : rel own imm x xv) (he : exSlice z H x l h mx = some (c, v)) (hc : c.holds) :
    ∃ ba len cap, xv = .slice ba len cap ∧ 0 ≤ l ∧ l ≤ h ∧ h ≤ (mx.getD cap).toNat ∧ h ≤ len ∧ (∀ q, mx = some q → 0 ≤ q ∧ q ≤ cap) ∧
      rel own imm v (.slice (if (mx.getD cap).toNat = l.toNat then ba else ba.map (·.add (l.toNat * z))) (h.toNat - l.toNat) ((mx.getD cap).toNat - l.toNat)) ∧
      exLen x = some len := by
  subst ho; subst hi
  cases x with
  | nils =>
    simp only [exSlice] at he
    simp only [rel] at hx
    subst hx
    split at he
    · cases he
      simp only [Cond.holds] at hc
      obtain ⟨h1, h2, h3⟩ := hc
      refine ⟨none, 0, 0, rfl, h1, h2, by simp; omega, by simpa using h3, by simp, ?_, rfl⟩
      have : l = 0 := by omega
      have : h = 0 := by omega
      subst l; subst h
      simp [rel]
    · cases he
  | rslc z' els cap =>
    simp only [exSlice] at he
    simp only [rel] at hx
    rcases hx with ⟨rfl, rfl, b0, rfl⟩ | ⟨B, q, rc, rfl, hlc, hcap, hrow⟩
    · by_cases hz : z' = z
      · subst hz
        simp only [if_true] at he
        cases mx with
        | none =>
          simp only at he
          cases he
          simp only [Cond.holds] at hc
          obtain ⟨h1, h2, h3⟩ := hc
          refine ⟨b0, 0, 0, rfl, h1, h2, by simp at h3 ⊢; omega, by simpa using h3, by simp, ?_, rfl⟩
          have : l = 0 := by simp at h3; omega
          have : h = 0 := by simp at h3; omega
          subst l; subst h
          simp [rel]
        | some mq =>
          simp only at he
          cases he
          simp only [Cond.holds] at hc
          obtain ⟨h1, h2, h3, h4, h5⟩ := hc
          simp at h4 h5
          refine ⟨b0, 0, 0, rfl, h1, h2, by simp; omega, by simpa using h4, by intro q' hq'; cases hq'; omega, ?_, rfl⟩
          have : l = 0 := by omega
          have : h = 0 := by omega
          have : mq = 0 := by omega
          subst l; subst h; subst mq
          simp [rel]
      · simp [hz] at he
    by_cases hz : z' = z
    · subst hz
      simp only [if_true] at he
      have hrow' := (relEls_iff _ _).1 hrow
      have sub : ∀ (k : Nat), k ≠ l.toNat → (h.toNat ≤ els.length) → relEls m.imm z' ((els.drop l.toNat).take (h.toNat - l.toNat)) (m.imm B) (q + l.toNat * z') := by
        intro k _ _
        rw [relEls_iff]
        intro j e hj
        have hj1 : j < h.toNat - l.toNat := by have := (List.getElem?_eq_some_iff.1 hj).1; simp at this; omega
        rw [List.getElem?_take_of_lt hj1, List.getElem?_drop] at hj
        have := hrow' _ _ hj
        rw [Nat.add_mul] at this
        refine ⟨this.1, fun t c hc => ?_⟩
        have := this.2 t c hc
        rw [show q + l.toNat * z' + j * z' + t = q + (l.toNat * z' + j * z') + t by omega]; exact this
      cases mx with
      | none =>
        simp only at he
        cases he
        simp only [Cond.holds] at hc
        obtain ⟨h1, h2, h3⟩ := hc
        refine ⟨some ⟨B, q, none⟩, els.length, rc, rfl, h1, h2, by simp; omega, h3, by simp, ?_, rfl⟩
        simp only [Option.getD_none, Int.toNat_natCast, rel]
        have hlen : ((els.drop l.toNat).take (h.toNat - l.toNat)).length = h.toNat - l.toNat := by simp; omega
        have hcap' : ∀ n, Option.map (fun x => x - l.toNat) cap = some n → rc - l.toNat = n := by
          intro n hn
          cases cap with
          | none => simp at hn
          | some c0 => simp at hn; rw [hcap c0 rfl]; exact hn
        by_cases hm : rc = l.toNat
        · rw [if_pos hm]
          refine .inr ⟨B, q, rc - l.toNat, by rw [hlen], by rw [hlen]; omega, hcap', ?_⟩
          have : ((els.drop l.toNat).take (h.toNat - l.toNat)) = [] := List.eq_nil_of_length_eq_zero (by rw [hlen]; omega)
          rw [this]; simp [relEls]
        · rw [if_neg hm]
          refine .inr ⟨B, q + l.toNat * z', rc - l.toNat, by rw [hlen]; simp [addr_add], by rw [hlen]; omega, hcap', sub rc hm (by omega)⟩
      | some mq =>
        simp only at he
        cases he
        simp only [Cond.holds] at hc
        obtain ⟨h1, h2, h3, h4, h5⟩ := hc
        have hq : mq ≤ rc := by
          cases cap with
          | none => simp at h5; omega
          | some c0 => simp at h5; have := hcap c0 rfl; omega
        refine ⟨some ⟨B, q, none⟩, els.length, rc, rfl, h1, h2, by simp; omega, h4, by intro q' hq'; cases hq'; omega, ?_, rfl⟩
        simp only [Option.getD_some, rel]
        have hlen : ((els.drop l.toNat).take (h.toNat - l.toNat)).length = h.toNat - l.toNat := by simp; omega
        by_cases hm : mq.toNat = l.toNat
        · rw [if_pos hm]
          refine .inr ⟨B, q, mq.toNat - l.toNat, by rw [hlen], by rw [hlen]; omega, by intro n hn; cases cap <;> simp at hn; exact hn, ?_⟩
          have : ((els.drop l.toNat).take (h.toNat - l.toNat)) = [] := List.eq_nil_of_length_eq_zero (by rw [hlen]; omega)
          rw [this]; simp [relEls]
        · rw [if_neg hm]
          refine .inr ⟨B, q + l.toNat * z', mq.toNat - l.toNat, by rw [hlen]; simp [addr_add], by rw [hlen]; omega, by intro n hn; cases cap <;> simp at hn; exact hn, sub mq.toNat hm (by omega)⟩
    · simp [hz] at he
  | slc id off len cap =>
    simp only [exSlice] at he
    simp only [rel] at hx
    obtain ⟨x', ba, rc, hx', rfl, hlc, hcap, hba, hle⟩ := hx
    split at he
    · rename_i z' els hH
      by_cases hz : z' = z
      · subst hz
        simp only [if_true] at he
        have hz2 : x'.z = z' := (hs.obj id _ x' hH hx').1
        have addr : ∀ mm : Nat, mm ≤ rc → l.toNat ≤ mm → (mm - l.toNat ≠ 0 → (if mm = l.toNat then some ba else Option.map (fun x => x.add (l.toNat * z')) (some ba)) = some ⟨x'.B, x'.o + (off + l.toNat) * x'.z, none⟩) := by
          intro mm h1 h2 h3
          rw [if_neg (by omega)]
          have := hba (by omega)
          subst this
          simp only [Option.map_some, addr_add, hz2, Nat.add_mul, Nat.add_assoc]
        have bnd : ∀ mm : Nat, mm ≤ rc → l.toNat ≤ mm → x'.o + (off + l.toNat) * x'.z + (mm - l.toNat) * x'.z ≤ x'.n := by
          intro mm h1 h2
          have : off * x'.z + rc * x'.z = (off + rc) * x'.z := (Nat.add_mul _ _ _).symm
          have h3 : (off + l.toNat) * x'.z + (mm - l.toNat) * x'.z = (off + mm) * x'.z := by rw [← Nat.add_mul]; congr 1; omega
          have h4 : (off + mm) * x'.z ≤ (off + rc) * x'.z := Nat.mul_le_mul_right _ (by omega)
          omega
        have some_addr : ∀ mm : Nat, ∃ a', (if mm = l.toNat then some ba else Option.map (fun x => x.add (l.toNat * z')) (some ba)) = some a' := by
          intro mm; split
          · exact ⟨_, rfl⟩
          · exact ⟨_, rfl⟩
        cases mx with
        | none =>
          simp only at he
          cases he
          simp only [Cond.holds] at hc
          obtain ⟨h1, h2, h3⟩ := hc
          refine ⟨some ba, len, rc, rfl, h1, h2, by simp; omega, h3, by simp, ?_, rfl⟩
          simp only [Option.getD_none, Int.toNat_natCast, rel]
          obtain ⟨a', ha'⟩ := some_addr rc
          refine ⟨x', a', rc - l.toNat, hx', by rw [ha'], by omega, ?_, fun h => ?_, bnd rc (Nat.le_refl _) (by omega)⟩
          · intro n hn
            cases cap with
            | none => simp at hn
            | some c0 => simp at hn; rw [hcap c0 rfl]; exact hn
          · have := addr rc (Nat.le_refl _) (by omega) h
            rw [ha'] at this; cases this; rfl
        | some mq =>
          simp only at he
          cases he
          simp only [Cond.holds] at hc
          obtain ⟨h1, h2, h3, h4, h5⟩ := hc
          have hq : mq ≤ rc := by
            cases cap with
            | none => simp at h5; omega
            | some c0 => simp at h5; have := hcap c0 rfl; omega
          refine ⟨some ba, len, rc, rfl, h1, h2, by simp; omega, h4, by intro q' hq'; cases hq'; omega, ?_, rfl⟩
          simp only [Option.getD_some, rel]
          obtain ⟨a', ha'⟩ := some_addr mq.toNat
          refine ⟨x', a', mq.toNat - l.toNat, hx', by rw [ha'], by omega, by simp, fun h => ?_, bnd mq.toNat (by omega) (by omega)⟩
          have := addr mq.toNat (by omega) (by omega) h
          rw [ha'] at this; cases this; rfl
      · simp [hz] at he
    · cases he
  | _ => simp [exSlice] at he

theorem snd_slice {t e : TypeId} {z : Nat} {x : Operand} {lo hi mx : Option Operand} {ix : IArg} {ilo ihi imx : Option IArg} (ho : o.op = .slice t x lo hi mx) (hd : P.underlying t = some (.slice e)) (hz : szOf P e = some z) (hx : argOf x = some ix) (hlo : optArg lo = some ilo) (hhi : optArg hi = some ihi) (hmx : optArg mx = some imx) (hno : ¬ (hi.isNone = true ∧ mx.isSome = true))
    (he : exec (.slice z ix ilo ihi imx) T H = some (c, v, H')) (hc : c.holds) (hp : Pre E n0 m H w T a) : Good P E n0 m H w (execOp a.eval o) v H' := by
  have h1 := arg_rel hp.tmps hx
  simp only [exec] at he
  split at he
  · rename_i l h q hl hh hq
    split at he
    · rename_i c' v' hs
      simp only [Option.some.injEq, Prod.mk.injEq] at he
      obtain ⟨rfl, rfl, rfl⟩ := he
      obtain ⟨ba, len, cap, hxv, b0, b1, b2, b3, b4, hr, hkind⟩ := slice_sound hp.sim rfl rfl h1 hs hc
      have plo := opt_lo (a := a) hp.tmps hlo hl
      have phi : ((hi.map a.eval = none) ∧ (mx.map a.eval = none) ∧ h = len) ∨ ∃ k, hi.map a.eval = some (.int k h) := by
        cases hi with
        | none =>
          simp [optArg] at hhi; subst hhi
          refine .inl ⟨rfl, ?_, ?_⟩
          · cases mx with
            | none => rfl
            | some _ => simp at hno
          · simp only [exHi, hkind, Option.some.injEq] at hh
            exact hh.symm
        | some y =>
          simp only [optArg] at hhi
          cases hy : argOf y with
          | none => simp [hy] at hhi
          | some j =>
            simp [hy] at hhi; subst hhi
            simp only [exHi] at hh
            obtain ⟨k, hk⟩ := opt_int (a := a) hp.tmps hy hh
            exact .inr ⟨k, by simp [hk]⟩
      have pmx : ((mx.map a.eval = none) ∧ (q.getD cap).toNat = cap) ∨ ∃ k r, mx.map a.eval = some (.int k r) ∧ (q.getD cap).toNat = r.toNat ∧ 0 ≤ r ∧ r ≤ cap := by
        cases mx with
        | none => simp [optArg] at hmx; subst hmx; simp [exMx] at hq; subst hq; exact .inl ⟨rfl, by simp⟩
        | some y =>
          simp only [optArg] at hmx
          cases hy : argOf y with
          | none => simp [hy] at hmx
          | some j =>
            simp [hy] at hmx; subst hmx
            simp only [exMx] at hq
            cases hj : exIntOf (aget T j) with
            | none => simp [hj] at hq
            | some r =>
              simp [hj] at hq; subst hq
              obtain ⟨k, hk⟩ := opt_int (a := a) hp.tmps hy hj
              have := b4 r rfl
              exact .inr ⟨k, r, by simp [hk], by simp, this.1, this.2⟩
      have hb := run_sliceBounds (P := P) (w := w) (len := len) plo phi pmx b0 b1 (by omega)
      refine good_same hp.sim ?_ hr
      simp only [execOp, ho, Instr.sliceAt, Sem.run_bind, run_underlying hd, Result.andThen_ok, Instr.slice, hxv, hb, run_sz hz, Sem.run_pure]
    · cases he
  · cases he

/-! ### Literals and make -/

theorem madeCells_els {own : List Own} {imm : Nat → Nat → Option Value} {z : List CV} {zv : Array Value} (hz : rels own imm z zv.toList) (n N : Nat) (h0 : z.length ≠ 0) (hle : n ≤ N) : relO own imm z.length (List.replicate n z) (fun i => ((Array.range (N * z.length)).map (fun i => zv[i % zv.size]!))[i]?) 0 := by
  have hl := rels_length hz
  have hs : zv.size = z.length := by simpa using hl.symm
  intro j e he
  have hj : j < n := by have := (List.getElem?_eq_some_iff.1 he).1; simpa using this
  have : e = z := by rw [List.getElem?_replicate, if_pos hj] at he; cases he; rfl
  subst this
  refine ⟨rfl, fun t c hc => ?_⟩
  have ht : t < e.length := (List.getElem?_eq_some_iff.1 hc).1
  obtain ⟨r, hr1, hr2⟩ := rels_get hz hc
  refine ⟨r, ?_, hr2⟩
  have hlt : 0 + j * e.length + t < N * e.length := by
    have : (j + 1) * e.length ≤ N * e.length := Nat.mul_le_mul_right _ (by omega)
    rw [Nat.add_mul, Nat.one_mul] at this; omega
  have hmod : (0 + j * e.length + t) % e.length = t := by rw [Nat.zero_add, Nat.mul_comm, Nat.mul_add_mod]; exact Nat.mod_eq_of_lt ht
  have ht2 : t < zv.size := by omega
  have : zv[t]! = r := by
    have h3 : zv[t]? = some r := by simpa using hr1
    simp [getElem!_def, h3]
  simp only [Array.getElem?_map, Array.getElem?_range, hs, hmod, hlt, if_true, Option.map_some, this]

theorem made_one {own : List Own} {imm : Nat → Nat → Option Value} {z : List CV} {zv : Array Value} (hz : rels own imm z zv.toList) (h1 : allOne z = true) (h0 : z.length ≠ 0) {N : Nat} : ∀ (i : Nat) v, ((Array.range N).map (fun i => zv[i % zv.size]!))[i]? = some v → v.oneCell' = true := by
  intro i v hv
  have hl := rels_length hz
  have hs : zv.size = z.length := by simpa using hl.symm
  simp only [Array.getElem?_map] at hv
  cases hr : (Array.range N)[i]? with
  | none => simp [hr] at hv
  | some j =>
    simp [hr] at hv
    have hlt : j % zv.size < zv.size := Nat.mod_lt _ (by omega)
    subst hv
    exact allOne_rel hz h1 _ (by simp [getElem!_def, Array.getElem?_eq_getElem hlt])

theorem snd_mkslice {t e : TypeId} {z : List CV} {i : TypeInfo} {lo co : Operand} {il ic : IArg} (ho : o.op = .makeSlice t lo co) (hd : P.underlying t = some (.slice e)) (hz : zeroOf P e = some z) (hi : P.info? e = some i) (hl : argOf lo = some il) (hco : argOf co = some ic) (h0 : z.length ≠ 0)
    (he : exec (.mkslice z.length i.bytes z il ic) T H = some (c, v, H')) (hc : c.holds) (hp : Pre E n0 m H w T a) : Good P E n0 m H w (execOp a.eval o) v H' := by
  have h1 := arg_rel hp.tmps hl
  have h2 := arg_rel hp.tmps hco
  obtain ⟨i', zv, hi', _, hrun, hrel, hlen, h1z⟩ := run_zero (w := w) hz
  rw [hi] at hi'; cases hi'
  simp only [exec] at he
  split at he
  · rename_i l cc e1 e2
    rw [e1] at h1; rw [e2] at h2
    simp only [rel] at h1 h2
    simp only [Option.some.injEq, Prod.mk.injEq] at he
    obtain ⟨rfl, rfl, rfl⟩ := he
    simp only [Cond.holds] at hc
    obtain ⟨hc0, hc1, hc2, hc3⟩ := hc
    have hlw : IntKind.i64.wrap l = l := InR.wrap (k := .i64) ⟨by simp [IntKind.min, IntKind.signed, IntKind.bits]; omega, by simp [IntKind.max, IntKind.signed, IntKind.bits]; omega⟩
    have hcw : IntKind.i64.wrap cc = cc := InR.wrap (k := .i64) ⟨by simp [IntKind.min, IntKind.signed, IntKind.bits]; omega, by simp [IntKind.max, IntKind.signed, IntKind.bits]; omega⟩
    have t1 : ¬ (cc < 0 ∨ 281474976710656 < (i.bytes : Int) * cc) := by omega
    have hzl := rels_length (hrel m.own m.imm)
    have hzn : zv.cells.size = z.length := by simpa using hzl.symm
    have hil : i.size = z.length := hlen.symm
    refine good_row (r := .slice (some ⟨w.heap.size, 0, none⟩) l.toNat cc.toNat) (cells := (Array.range (cc.toNat * z.length)).map (fun j => zv.cells[j % zv.cells.size]!)) (elem := e) (z := z.length) hp.sim ?_ ?_ (madeCells_els (hrel _ _) _ _ h0 (by omega)) (made_one (hrel m.own m.imm) h1z h0) ?_
    · have hsz : (sizeOf e).run P w = .ok z.length w := by simp [sizeOf, typeInfo, hi, hil]
      have t2 : ((decide (cc < 0) || decide ((i.bytes : Int) * cc > 2 ^ 48)) || decide (l < 0) || decide (l > cc)) = false := by
        simp only [Bool.or_eq_false_iff, decide_eq_false_iff_not]
        have : (2 : Int) ^ 48 = 281474976710656 := rfl
        rw [this]; omega
      simp only [execOp, ho, Instr.makeSlice, Sem.run_bind, run_underlying hd, Result.andThen_ok, h1, h2, asInt, asIntOf, Sem.run_pure, typeInfo, run_program, hi, hlw, hcw, t2]
      simp only [Bool.false_eq_true, if_false, Sem.run_bind, run_askRoom, Result.andThen_ok, hsz, newRow, run_newObj, Sem.run_pure]
      by_cases hn : cc.toNat * z.length = 0
      · simp [hn]; congr 2; exact Array.ext (by simp) (fun i h1 _ => by simp at h1)
      · simp [hn, hrun]
    · simp; exact Nat.mul_le_mul_right _ (by omega)
    · simp only [rel]
      refine ⟨_, _, _, own_new hp.sim _, rfl, by omega, by simp, fun _ => by simp, by simp⟩
  · cases he

end
end Go.Cm
end

section
namespace Go.Cm

section
variable {P : Program} {E : Env} {n0 : Nat} {m : Bk} {H H' : List CObj} {w : World} {T : List CV} {a : Act} {c : Cond} {v : CV} {o : Oper}

/-- A row of rows, laid flat, as values. -/
def RowsOk (own : List Own) (imm : Nat → Nat → Option Value) (z : Nat) (els : List (List CV)) (vs : List Value) : Prop := (∀ e ∈ els, e.length = z) ∧ rels own imm els.flatten vs

theorem RowsOk.relO {own : List Own} {imm : Nat → Nat → Option Value} {z : Nat} {els : List (List CV)} {vs : List Value} (h : RowsOk own imm z els vs) {R : Nat → Option Value} {o : Nat} (hR : ∀ (i : Nat) v, vs[i]? = some v → R (o + i) = some v) : relO own imm z els R o :=
  relO_flat els o R h.1 fun i c hc => let ⟨v, hv, hr⟩ := rels_get h.2 hc; ⟨v, hR i v hv, hr⟩

theorem RowsOk.len {own : List Own} {imm : Nat → Nat → Option Value} {z : Nat} {els : List (List CV)} {vs : List Value} (h : RowsOk own imm z els vs) : vs.length = els.length * z := by
  rw [← flatten_length els h.1, rels_length h.2]

theorem RowsOk.append {own : List Own} {imm : Nat → Nat → Option Value} {z : Nat} {els els' : List (List CV)} {vs vs' : List Value} (h : RowsOk own imm z els vs) (h' : RowsOk own imm z els' vs') : RowsOk own imm z (els ++ els') (vs ++ vs') :=
  ⟨fun e he => by rcases List.mem_append.1 he with h1 | h1; exact h.1 e h1; exact h'.1 e h1, by rw [List.flatten_append]; exact rels_append h.2 h'.2⟩

/-- The values of rows that lie somewhere. -/
theorem rows_read {own : List Own} {imm : Nat → Nat → Option Value} {z : Nat} : ∀ {els : List (List CV)} {R : Nat → Option Value} {o : Nat}, relO own imm z els R o → ∃ vs, RowsOk own imm z els vs ∧ ∀ (i : Nat) v, vs[i]? = some v → R (o + i) = some v := by
  intro els R o h
  obtain ⟨hz, hf⟩ := flat_relO els o R h
  have key : ∀ (l : List CV) (o : Nat), (∀ (i : Nat) c, l[i]? = some c → ∃ r, R (o + i) = some r ∧ rel own imm c r) → ∃ vs, rels own imm l vs ∧ ∀ (i : Nat) v, vs[i]? = some v → R (o + i) = some v := by
    intro l
    induction l with
    | nil => intro o _; exact ⟨[], by simp [rels], fun i v hv => by simp at hv⟩
    | cons c l ih =>
      intro o h
      obtain ⟨r, hr, hrel⟩ := h 0 c rfl
      obtain ⟨vs, h1, h2⟩ := ih (o + 1) (fun i d hd => by have := h (i + 1) d (by simpa using hd); rw [show o + (i + 1) = o + 1 + i by omega] at this; exact this)
      refine ⟨r :: vs, by simp only [rels]; exact ⟨r, vs, rfl, hrel, h1⟩, fun i v hv => ?_⟩
      cases i with
      | zero => simp at hv; subst hv; simpa using hr
      | succ i => simp at hv; have := h2 i v hv; rw [show o + (i + 1) = o + 1 + i by omega]; exact this
  obtain ⟨vs, h1, h2⟩ := key _ o hf
  exact ⟨vs, ⟨hz, h1⟩, h2⟩

theorem relEls_relO {own : List Own} {imm : Nat → Nat → Option Value} {z : Nat} {els : List (List CV)} {R : Nat → Option Value} {o : Nat} (h : relEls imm z els R o) : relO own imm z els R o :=
  fun j e he => ⟨((relEls_iff _ _).1 h j e he).1, fun t c hc => let ⟨r, h1, h2⟩ := ((relEls_iff _ _).1 h j e he).2 t c hc; ⟨r, h1, rel_weak h2⟩⟩

theorem relO_sub {own : List Own} {imm : Nat → Nat → Option Value} {z : Nat} {els : List (List CV)} {R : Nat → Option Value} {o : Nat} (h : relO own imm z els R o) (d : Nat) : relO own imm z (els.drop d) R (o + d * z) := by
  intro j e he
  rw [List.getElem?_drop] at he
  have := h _ e he
  rw [Nat.add_mul] at this
  refine ⟨this.1, fun t c hc => ?_⟩
  rw [show o + d * z + j * z + t = o + (d * z + j * z) + t by omega]
  exact this.2 t c hc

theorem relO_take {own : List Own} {imm : Nat → Nat → Option Value} {z : Nat} {els : List (List CV)} {R : Nat → Option Value} {o : Nat} (h : relO own imm z els R o) (n : Nat) : relO own imm z (els.take n) R o := by
  intro j e he
  rw [List.getElem?_take] at he
  split at he
  · exact h j e he
  · cases he

/-- The elements that an append takes: their values, and that they can be read. -/
theorem elsOf_sound {z : Nat} {x : CV} {xv : Value} {xs : List (List CV)} (hs : Sim E m H w) (hx : rel m.own m.imm x xv) (he : elsOf H z x = some xs) :
    ∃ news : List Value, RowsOk m.own m.imm z xs news ∧ (∀ w, (Builtin.lenOf xv).run P w = .ok xs.length w) ∧ (∀ w', w'.heap = w.heap → (Builtin.firstCells z xs.length xv).run P w' = .ok news.toArray w') ∧ (∀ v ∈ news, v.oneCell' = true) := by
  have rd : ∀ (B o len cap : Nat) (els : List (List CV)) (news : List Value), xv = .slice (some ⟨B, o, none⟩) len cap → RowsOk m.own m.imm z els news → (∀ (i : Nat) v, news[i]? = some v → w.cell? ⟨B, o + i, none⟩ = some v) → ∀ w', w'.heap = w.heap → (Builtin.firstCells z els.length xv).run P w' = .ok news.toArray w' := by
    intro B o len cap els news hxv hok hc w' hw
    rw [hxv]
    exact run_firstCells_some w' z els.length ⟨B, o, none⟩ len cap news hok.len (fun j v hv => by rw [addr_add]; exact (cell?_congr (by rw [hw])).trans (hc j v hv))
  cases x with
  | nils =>
    simp [elsOf] at he; subst he
    simp only [rel] at hx; subst hx
    exact ⟨[], ⟨by simp, by simp [rels]⟩, fun w => by simp [Builtin.lenOf], fun w' _ => by simp [Builtin.firstCells], by simp⟩
  | slc id off len cap =>
    simp only [elsOf] at he
    simp only [rel] at hx
    obtain ⟨x', ba, rc, hx', rfl, hlc, hcap, hba, hle⟩ := hx
    split at he
    · rename_i z' els hH
      split at he
      · rename_i hzz
        obtain ⟨rfl, hol⟩ := hzz
        cases he
        obtain ⟨hz, cells, elem, hb, hsz, hle', hrow, hcone⟩ := hs.obj id _ x' hH hx'
        have hrow2 := relO_take (relO_sub hrow off) len
        rw [hz] at hrow2
        obtain ⟨news, hok, hR⟩ := rows_read hrow2
        have hlen : ((els.drop off).take len).length = len := by simp; omega
        refine ⟨news, hok, fun w => by simp [Builtin.lenOf, hlen], fun w' hw => ?_, fun v hv => by
          obtain ⟨i, hi⟩ := List.getElem?_of_mem hv
          exact hcone _ v (hR i v hi)⟩
        by_cases h0 : rc = 0
        · have : len = 0 := by omega
          subst this
          have hn : news = [] := List.eq_nil_of_length_eq_zero (by rw [hok.len, hlen]; simp)
          subst hn
          simp [Builtin.firstCells, loadCells, loadCellsFrom]
        · have := hba h0
          subst this
          have := rd x'.B (x'.o + off * x'.z) len rc ((els.drop off).take len) news rfl hok (fun i v hv => by
            have := hR i v hv
            rw [hz]; simp only [World.cell?, hb]; simpa using this) w' hw
          exact this
      · cases he
    · cases he
  | rslc z' els cap =>
    simp only [elsOf] at he
    simp only [rel] at hx
    rcases hx with ⟨_, rfl, b, rfl⟩ | ⟨B, q, rc, rfl, hlc, hcap, hrow⟩
    · split at he
      · cases he
        exact ⟨[], ⟨by simp, by simp [rels]⟩, fun w => by simp [Builtin.lenOf], fun w' _ => by cases b <;> simp [Builtin.firstCells, loadCells, loadCellsFrom], by simp⟩
      · cases he
    split at he
    · rename_i hz
      subst hz
      cases he
      obtain ⟨news, hok, hR⟩ := rows_read (relEls_relO (own := m.own) hrow)
      exact ⟨news, hok, fun w => by simp [Builtin.lenOf], fun w' hw => rd B q _ rc xs news rfl hok (fun i v hv => hs.imm _ _ _ (hR i v hv)) w' hw, fun v hv => by
        obtain ⟨i, hi⟩ := List.getElem?_of_mem hv
        exact hs.one _ _ v (hR i v hi)⟩
    · cases he
  | str s =>
    simp only [elsOf] at he
    simp only [rel] at hx; subst hx
    split at he
    · rename_i hz; subst hz
      cases he
      refine ⟨s.data.toList.map fun b => .int .u8 b.toNat, ⟨by simp, ?_⟩, fun w => by simp [Builtin.lenOf], fun w' _ => ?_, fun v hv => by
        obtain ⟨b, _, rfl⟩ := List.mem_map.1 hv; rfl⟩
      · have : (s.data.toList.map fun b => [CV.int .u8 (b.toNat : Int)]).flatten = s.data.toList.map fun b => CV.int .u8 (b.toNat : Int) := by
          induction s.data.toList with
          | nil => rfl
          | cons b l ih => simp [ih]
        rw [this, rels_iff]
        refine ⟨by simp, fun i c v hc hv => ?_⟩
        rw [List.getElem?_map] at hc hv
        cases hb : s.data.toList[i]? with
        | none => simp [hb] at hc
        | some b => simp [hb] at hc hv; subst hc; subst hv; rfl
      · have hs' : (s.extract 0 s.size).data = s.data := by
          rw [ByteArray.data_extract]
          exact Array.extract_size
        have hlen : (s.data.toList.map fun b => [CV.int .u8 (b.toNat : Int)]).length = s.size := by simp
        simp only [Builtin.firstCells, hlen, hs', Sem.run_pure]
        congr 1
        apply Array.ext'
        simp
    · cases he
  | _ => simp [elsOf] at he

set_option maxHeartbeats 1000000 in
/-- An append that makes a new array. -/
theorem run_grow {t u ty e : TypeId} {du : TypeDesc} {i : TypeInfo} {zv : Value} {sb : Option Addr} {sLen sCap n : Nat} {xv : Value} {olds news : List Value} (hd : P.underlying t = some (.slice e)) (hu : P.underlying u = some du) (hdu : (∃ k, du = .slice k) ∨ du = .string) (hi : P.info? e = some i) (hz : i.zero = some zv)
    (hlen : ∀ w, (Builtin.lenOf xv).run P w = .ok n w) (hn : ∀ w', w'.heap = w.heap → (Builtin.firstCells i.size n xv).run P w' = .ok news.toArray w') (ho : ∀ w', w'.heap = w.heap → (Builtin.firstCells i.size sLen (.slice sb sLen sCap)).run P w' = .ok olds.toArray w')
    (hg : sCap < sLen + n) (h63 : sLen + n ≤ 140737488355328) (hroom : (sLen + n) * i.bytes ≤ 140737488355328) :
    ∃ cap, sLen + n ≤ cap ∧ (Builtin.append_ #[t, u] ty #[.slice sb sLen sCap, xv]).run P w =
      .ok (.slice (some ⟨w.heap.size, 0, none⟩) (sLen + n) cap) (w.drew.alloc (.cells (olds.toArray ++ news.toArray ++ Builtin.zeroCells zv.cells (cap - (sLen + n))) e)) := by
  have hfit := growslice_fits (bytes := i.bytes) hg hroom
  refine ⟨grownCap w (sLen + n) sCap e, by simp [grownCap, Question.cut], ?_⟩
  have hng : ¬ (sLen + n ≤ sCap) := by omega
  have h63' : ¬ (9223372036854775807 < ((sLen : Int) + (n : Int))) := by omega
  have h48' : ¬ (281474976710656 < Builtin.nextslicecap (sLen + n) sCap * i.bytes) := by omega
  have hf := hn w.drew rfl
  have hfo := ho w.drew rfl
  rcases hdu with ⟨k, rfl⟩ | rfl
  all_goals
    simp [Builtin.append_, run_underlying hd, run_underlying hu, sizeOf, typeInfo, zeroValue, hi, hz, hlen, hng, h63', h48', Question.forced, hf, hfo, newRow, grownCap]
    congr 2
    apply Array.ext'
    simp [List.append_assoc]

set_option maxHeartbeats 1000000 in
/-- An append within the room that there is. -/
theorem run_room {t u ty e e' : TypeId} {du : TypeDesc} {i : TypeInfo} {g o' sLen sCap n : Nat} {xv : Value} {cur : Array Value} {news : List Value} (hd : P.underlying t = some (.slice e)) (hu : P.underlying u = some du) (hdu : (∃ k, du = .slice k) ∨ du = .string) (hi : P.info? e = some i)
    (hlen : ∀ w, (Builtin.lenOf xv).run P w = .ok n w) (hn : (Builtin.firstCells i.size n xv).run P w = .ok news.toArray w) (hg : w.heap[g]? = some (.cells cur e' (0, 0))) (hroom : sLen + n ≤ sCap) (hfit : o' + sLen * i.size + news.length ≤ cur.size) (h1 : ∀ u ∈ news, u.oneCell' = true) :
    (Builtin.append_ #[t, u] ty #[.slice (some ⟨g, o', none⟩) sLen sCap, xv]).run P w =
      .ok (.slice (some ⟨g, o', none⟩) (sLen + n) sCap) (w.setRow g (cur.toList.take (o' + sLen * i.size) ++ news ++ cur.toList.drop (o' + sLen * i.size + news.length)).toArray) := by
  have hst := run_storeCells_at P g (o' + sLen * i.size) e' news 0 cur w hg (by simpa using hfit) h1
  simp only [Nat.add_zero] at hst
  rcases hdu with ⟨k, rfl⟩ | rfl
  all_goals simp [Builtin.append_, run_underlying hd, run_underlying hu, sizeOf, typeInfo, hi, hlen, hroom, hn, addr_add, hst]

set_option maxHeartbeats 1000000 in
/-- An append of nothing. -/
theorem run_append_none {t u ty e : TypeId} {du : TypeDesc} {i : TypeInfo} {sb : Option Addr} {sLen sCap : Nat} {xv : Value} (hd : P.underlying t = some (.slice e)) (hu : P.underlying u = some du) (hdu : (∃ k, du = .slice k) ∨ du = .string) (hi : P.info? e = some i)
    (hlen : ∀ w, (Builtin.lenOf xv).run P w = .ok 0 w) (hn : (Builtin.firstCells i.size 0 xv).run P w = .ok #[] w) (hle : sLen ≤ sCap) :
    (Builtin.append_ #[t, u] ty #[.slice sb sLen sCap, xv]).run P w = .ok (.slice sb sLen sCap) w := by
  rcases hdu with ⟨k, rfl⟩ | rfl
  all_goals (cases sb <;> simp [Builtin.append_, run_underlying hd, run_underlying hu, sizeOf, typeInfo, hi, hlen, hle, hn, storeCells])

/-- An object for a block that none has. -/
theorem Sim.adopt (hs : Sim E m H w) (x : Own) (ob : CObj) (hnew : ∀ (k : Nat) o' x', H[k]? = some o' → o'.alive = true → m.own[k]? = some x' → x'.B ≠ x.B) (hro : ∀ i, x.o ≤ i → m.imm x.B i = none) (hext : ¬ m.ext x.B)
    (hobj : objRel (m.own ++ [x]) m.imm x ob w) (hne : ∀ s b, ob ≠ .ext s b) : Sim E { m with own := m.own ++ [x] } (H ++ [ob]) w := by
  have key : ∀ (k : Nat) o1 x1, (H ++ [ob])[k]? = some o1 → (m.own ++ [x])[k]? = some x1 → (k < H.length ∧ H[k]? = some o1 ∧ m.own[k]? = some x1) ∨ (k = H.length ∧ o1 = ob ∧ x1 = x) := by
    intro k o1 x1 hk hx
    by_cases hlt : k < H.length
    · rw [List.getElem?_append_left hlt] at hk
      rw [List.getElem?_append_left (by rw [hs.len]; exact hlt)] at hx
      exact .inl ⟨hlt, hk, hx⟩
    · have hk1 : k < (H ++ [ob]).length := (List.getElem?_eq_some_iff.1 hk).1
      have : k = H.length := by simp at hk1; omega
      subst this
      rw [← hs.len] at hx
      simp at hx hk
      exact .inr ⟨rfl, hk.symm, hx.symm⟩
  refine ⟨by simp [hs.len], fun k o1 x1 hk hx => ?_, hs.imm, hs.one, fun k k' o1 o2 x1 x2 hk hk' ha ha' hx hx' he => ?_, fun k o1 x1 hk ha hx => ?_, fun k s b hk => ?_, fun k o1 x1 hk ha hx => ?_, hs.extlt⟩
  · rcases key k o1 x1 hk hx with ⟨_, h1, h2⟩ | ⟨_, rfl, rfl⟩
    · exact objRel_mono (ownLe.append _ _) (immLe.refl _) (fun _ => rfl) (hs.obj k o1 x1 h1 h2)
    · exact hobj
  · rcases key k o1 x1 hk hx with ⟨_, h1, h2⟩ | ⟨e1, rfl, rfl⟩ <;> rcases key k' o2 x2 hk' hx' with ⟨_, h3, h4⟩ | ⟨e2, rfl, rfl⟩
    · exact hs.sep k k' o1 o2 x1 x2 h1 h3 ha ha' h2 h4 he
    · exact absurd he (hnew k o1 x1 h1 ha h2)
    · exact absurd he.symm (hnew k' o2 x2 h3 ha' h4)
    · omega
  · rcases key k o1 x1 hk hx with ⟨_, h1, h2⟩ | ⟨_, rfl, rfl⟩
    · exact hs.ro k o1 x1 h1 ha h2
    · exact hro
  · by_cases hlt : k < H.length
    · rw [List.getElem?_append_left hlt] at hk
      exact hs.ext k s b hk
    · have hk1 : k < (H ++ [ob]).length := (List.getElem?_eq_some_iff.1 hk).1
      have : k = H.length := by simp at hk1; omega
      subst this
      simp at hk
      exact (hne s b hk).elim
  · rcases key k o1 x1 hk hx with ⟨_, h1, h2⟩ | ⟨_, rfl, rfl⟩
    · exact hs.extsep k o1 x1 h1 ha h2
    · exact hext

theorem good_of_kill {s : Sem Next} {k : Nat} (h : Good P E n0 m (H.set k .dead) w s v H') : Good P E n0 m H w s v H' := by
  obtain ⟨m', w', r, nx, h1, h2, h3, h4⟩ := h
  exact ⟨m', w', r, nx, h1, h2, (Ext.kill n0 m H w k).trans h3, h4⟩

/-- A new row of cells, made by an append. -/
theorem good_grow {s : Sem Next} {cells : Array Value} {elem : TypeId} {z len cap : Nat} {els : List (List CV)} (hs : Sim E m H w) (h : s.run P w = .ok (.value (.slice (some ⟨w.heap.size, 0, none⟩) len cap)) (w.drew.alloc (.cells cells elem)))
    (hlen : els.length = len) (hcap : len ≤ cap) (hsz : cells.size = cap * z) (hc : relO m.own m.imm z els (fun i => cells[i]?) 0) (h1 : ∀ (i : Nat) v, cells[i]? = some v → v.oneCell' = true) : Good P E n0 m H w s (.slc H.length 0 len none) (H ++ [.arr z els]) := by
  have hs' : Sim E m H w.drew := hs.congr rfl
  have hx : (⟨w.heap.size, 0, cells.size, z⟩ : Own).B = w.drew.heap.size := rfl
  refine ⟨{ m with own := m.own ++ [⟨w.heap.size, 0, cells.size, z⟩] }, _, _, _, h, .inl rfl, (Ext.congr (w := w) (w' := w.drew) rfl ⟨rfl, rfl, rfl⟩).trans (Ext.alloc (w' := w.drew.alloc (.cells cells elem)) hs' rfl ⟨rfl, rfl, rfl⟩ _ _ hx), ?_, ?_, ownLe.append _ _⟩
  · refine hs'.alloc (w' := w.drew.alloc (.cells cells elem)) rfl _ _ hx (fun _ => ⟨rfl, cells, elem, heap_alloc_new w.drew _, rfl, ?_, relO_mono (ownLe.append _ _) (immLe.refl _) hc, h1⟩) (by intro s b h; cases h)
    simp only [hsz, Nat.zero_add, hlen]; exact Nat.mul_le_mul_right _ hcap
  · simp only [rel]
    exact ⟨_, _, _, last_own hs _, rfl, hcap, by simp, fun _ => by simp, by simp [hsz]⟩

theorem zeroCells_one {own : List Own} {imm : Nat → Nat → Option Value} {z : List CV} {zv : Array Value} (hz : rels own imm z zv.toList) (h1 : allOne z = true) (h0 : z.length ≠ 0) {N : Nat} : ∀ v ∈ (Builtin.zeroCells zv N).toList, v.oneCell' = true := by
  intro v hv
  obtain ⟨i, hi⟩ := List.getElem?_of_mem hv
  have h2 : (Builtin.zeroCells zv N)[i]? = some v := by simpa using hi
  exact made_one hz h1 h0 (N := N * zv.size) i v h2

theorem snd_append {t u e : TypeId} {du : TypeDesc} {z : List CV} {i : TypeInfo} {cl : Call} {so xo : Operand} {is ix : IArg} (ho : o.op = .call cl) (hcal : cl.callee = .builtin .append) (hty : cl.argTypes.toList = [t, u]) (hargs : cl.args.toList = [so, xo]) (hd : P.underlying t = some (.slice e)) (hu : P.underlying u = some du) (hdu : (∃ k, du = .slice k) ∨ du = .string)
    (hz : zeroOf P e = some z) (hi : P.info? e = some i) (h0 : z.length ≠ 0) (hso : argOf so = some is) (hxo : argOf xo = some ix) (he : exec (.append z.length i.bytes is ix) T H = some (c, v, H')) (hc : c.holds) (hp : Pre E n0 m H w T a) : Good P E n0 m H w (execOp a.eval o) v H' := by
  have hS := arg_rel hp.tmps hso
  have hX := arg_rel hp.tmps hxo
  obtain ⟨i', zv, hi', hzv, hrunz, hrelz, hlenz, h1z⟩ := run_zero (P := P) (w := w) hz
  rw [hi] at hi'; cases hi'
  have hty' : cl.argTypes = #[t, u] := by cases hh : cl.argTypes; simp_all
  have hargs' : cl.args = #[so, xo] := by cases hh : cl.args; simp_all
  have hrun : ∀ (r : Value) w', (Builtin.append_ #[t, u] o.type #[a.eval so, a.eval xo]).run P w = .ok r w' → (execOp a.eval o).run P w = .ok (.value r) w' := by
    intro r w' hr
    simp [execOp, ho, resolve, hcal, invoke, builtin, hty', hargs', hr]
  have hzl := rels_length (hrelz m.own m.imm)
  have hzn : zv.cells.size = i.size := by simp at hzl; omega
  simp only [exec] at he
  split at he
  · rename_i xs hxs
    obtain ⟨news, hok, hlen, hfc, hnone⟩ := elsOf_sound hp.sim hX hxs
    have hfc' : ∀ w', w'.heap = w.heap → (Builtin.firstCells i.size xs.length (a.eval xo)).run P w' = .ok news.toArray w' := by rw [← hlenz]; exact hfc
    -- the new array
    have grow : ∀ (m1 : Bk) (H1 : List CObj) (sb : Option Addr) (sLen sCap : Nat) (eo : List (List CV)) (olds : List Value), Sim E m1 H1 w → m1 = m → H1.length = H.length → a.eval so = .slice sb sLen sCap → RowsOk m.own m.imm z.length eo olds → eo.length = sLen → (∀ v ∈ olds, v.oneCell' = true) →
        (∀ w', w'.heap = w.heap → (Builtin.firstCells i.size sLen (.slice sb sLen sCap)).run P w' = .ok olds.toArray w') → sCap < sLen + xs.length → (roomOk (sLen + xs.length) i.bytes).holds → Good P E n0 m1 H1 w (execOp a.eval o) (.slc H.length 0 (sLen + xs.length) none) (H1 ++ [.arr z.length (eo ++ xs)]) := by
      intro m1 H1 sb sLen sCap eo olds hs1 hm hH1 hse hoks heo hone1 hfo hg hroom
      subst hm
      obtain ⟨cap, hcap, hr⟩ := run_grow (P := P) (w := w) (ty := o.type) hd hu hdu hi hzv hlen hfc' hfo hg hroom.1 hroom.2
      have hall := hoks.append hok
      rw [← hH1]
      refine good_grow hs1 (hrun _ _ (by rw [hse]; exact hr)) (by simp [heo]) hcap ?_ (hall.relO fun i v hv => ?_) ?_
      · have h1 := hoks.len
        have h2 := hok.len
        simp only [Array.size_append, List.size_toArray, size_zeroCells, h1, h2, heo, hzn, hlenz]
        rw [← Nat.add_mul, ← Nat.add_mul]; congr 1; omega
      · have hlt : i < (olds ++ news).length := (List.getElem?_eq_some_iff.1 hv).1
        simp only [Nat.zero_add]
        rw [Array.getElem?_append_left (by simpa using hlt)]
        simpa using hv
      · intro j v hv
        have hm := Array.mem_of_getElem? hv
        simp only [Array.mem_append, List.mem_toArray] at hm
        rcases hm with (h1 | h1) | h1
        · exact hone1 v h1
        · exact hnone v h1
        · exact zeroCells_one (hrelz m1.own m1.imm) h1z h0 v (by simpa using h1)
    cases xs with
    | nil =>
      have hn : news = [] := List.eq_nil_of_length_eq_zero (by rw [hok.len]; simp)
      subst hn
      have none_ : ∀ sb sLen sCap, a.eval so = .slice sb sLen sCap → sLen ≤ sCap → (execOp a.eval o).run P w = .ok (.value (a.eval so)) w := by
        intro sb sLen sCap hse hle
        rw [hse]
        exact hrun _ _ (by rw [hse]; exact run_append_none hd hu hdu hi (by simpa using hlen) (by simpa using hfc' w rfl) hle)
      have hso2 := hS
      cases hx : aget T is <;> rw [hx] at he hS <;> simp [exAppend] at he
      · obtain ⟨_, rfl, rfl⟩ := he
        simp only [rel] at hS
        rw [hx] at hso2
        exact good_same hp.sim (none_ _ _ _ hS (Nat.le_refl _)) hso2
      · obtain ⟨_, rfl, rfl⟩ := he
        simp only [rel] at hS
        obtain ⟨x', ba, rc, hx', hv, hlc, _⟩ := hS
        rw [hx] at hso2
        exact good_same hp.sim (none_ _ _ _ hv hlc) hso2
      · obtain ⟨_, rfl, rfl⟩ := he
        simp only [rel] at hS
        rw [hx] at hso2
        rcases hS with ⟨_, _, b, hv⟩ | ⟨B, q, rc, hv, hlc, _⟩
        · exact good_same hp.sim (none_ _ _ _ hv (Nat.le_refl _)) hso2
        · exact good_same hp.sim (none_ _ _ _ hv hlc) hso2
    | cons x0 xs' =>
      generalize hxx : x0 :: xs' = xs at *
      have hpos : 0 < xs.length := by rw [← hxx]; simp
      have he' : exAppend z.length i.bytes H (aget T is) (x0 :: xs') = some (c, v, H') := by rw [hxx]; exact he
      clear he
      cases hx : aget T is with
      | nils =>
        rw [hx] at he' hS
        simp only [exAppend, Option.some.injEq, Prod.mk.injEq, hxx] at he'
        obtain ⟨rfl, rfl, rfl⟩ := he'
        simp only [rel] at hS
        have := grow m H none 0 0 [] [] hp.sim rfl rfl hS ⟨by simp, by simp [rels]⟩ rfl (by simp) (fun w' _ => by simp [Builtin.firstCells]) (by omega) (by simpa using hc)
        simpa using this
      | rslc z' els cap =>
        rw [hx] at he' hS
        simp only [exAppend] at he'
        cases cap with
        | none => simp at he'
        | some c0 =>
          by_cases hzz : z' = z.length
          · subst hzz
            simp only [if_true, Option.some.injEq, Prod.mk.injEq, hxx] at he'
            obtain ⟨rfl, rfl, rfl⟩ := he'
            simp only [rel] at hS
            obtain ⟨B, q, rc, hv, hlc, hcap, hrow⟩ := hS.resolve_left (by rintro ⟨h, _⟩; cases h)
            have hrc := hcap c0 rfl
            subst hrc
            obtain ⟨olds, hoks, hR⟩ := rows_read (relEls_relO (own := m.own) hrow)
            refine grow m H _ _ _ els olds hp.sim rfl rfl hv hoks rfl (fun v hv => ?_) (fun w' hw => ?_) ?_ hc.2
            · obtain ⟨j, hj⟩ := List.getElem?_of_mem hv
              exact hp.sim.one _ _ v (hR j v hj)
            · rw [← hlenz]
              exact run_firstCells_some w' _ _ _ _ _ olds hoks.len (fun j v hv => by rw [addr_add]; exact (cell?_congr (by rw [hw])).trans (hp.sim.imm _ _ _ (hR j v hv)))
            · have := hc.1; simp only [Cond.holds] at this; omega
          · simp [hzz] at he'
      | slc id off len cap =>
        rw [hx] at he' hS
        simp only [exAppend] at he'
        simp only [rel] at hS
        obtain ⟨x', ba, rc, hx', hv, hlc, hcap, hba, hle⟩ := hS
        split at he'
        · rename_i z' els hH
          by_cases hzz : z' = z.length ∧ off + len = els.length
          · obtain ⟨rfl, hol⟩ := hzz
            simp only [hol, and_self, if_true] at he'
            obtain ⟨hz', cells, elem, hb, hsz, hle', hrow, hcone⟩ := hp.sim.obj id _ x' hH hx'
            have hrow2 := relO_sub hrow off
            rw [hz'] at hrow2
            obtain ⟨olds, hoks, hR⟩ := rows_read hrow2
            have hdl : (els.drop off).length = len := by simp; omega
            have hone1 : ∀ v ∈ olds, v.oneCell' = true := fun v hv => by
              obtain ⟨j, hj⟩ := List.getElem?_of_mem hv
              exact hcone _ v (hR j v hj)
            have hfo : ∀ w', w'.heap = w.heap → (Builtin.firstCells i.size len (.slice (some ba) len rc)).run P w' = .ok olds.toArray w' := by
              intro w' hw
              by_cases h00 : rc = 0
              · have : len = 0 := by omega
                subst this
                have hn : olds = [] := List.eq_nil_of_length_eq_zero (by rw [hoks.len, hdl]; simp)
                subst hn
                simp [Builtin.firstCells, loadCells, loadCellsFrom]
              · have := hba h00
                subst this
                rw [← hlenz, hz']
                have := hoks.len
                rw [hdl] at this
                exact run_firstCells_some w' _ _ _ _ _ olds this (fun j v hv => by
                  rw [addr_add]
                  refine (cell?_congr (w := w) (by rw [hw])).trans ?_
                  simp only [World.cell?, hb]
                  simpa using hR j v hv)
            cases cap with
            | some c0 =>
              simp only [Option.some.injEq, Prod.mk.injEq, hxx] at he'
              obtain ⟨rfl, rfl, rfl⟩ := he'
              have hrc := hcap c0 rfl
              exact grow m H _ _ _ (els.drop off) olds hp.sim rfl rfl hv hoks hdl hone1 hfo (by have := hc.1; simp only [Cond.holds] at this; omega) hc.2
            | none =>
              simp only [Option.some.injEq, Prod.mk.injEq, hxx] at he'
              obtain ⟨rfl, rfl, rfl⟩ := he'
              by_cases hroom : len + xs.length ≤ rc
              · -- within the room
                have hb2 := hba (by omega)
                subst hb2
                have hnl := hok.len
                have hmul : (off + (len + xs.length)) * x'.z ≤ (off + rc) * x'.z := Nat.mul_le_mul_right _ (by omega)
                have e1 : (off + rc) * x'.z = off * x'.z + rc * x'.z := Nat.add_mul _ _ _
                have e2 : (off + (len + xs.length)) * x'.z = off * x'.z + len * x'.z + xs.length * x'.z := by rw [Nat.add_mul, Nat.add_mul]; omega
                have hisz : i.size = x'.z := by rw [hz', hlenz]
                rw [← hz'] at hnl
                have hfit : x'.o + off * x'.z + len * i.size + news.length ≤ cells.size := by rw [hisz, hnl, hsz]; omega
                have hr := run_room (P := P) (w := w) (ty := o.type) hd hu hdu hi hlen (hfc' w rfl) hb hroom hfit hnone
                rw [hisz] at hr hfit
                have hrow3 := hrow2
                rw [← hz'] at hrow3 hok
                let cs : Array Value := (cells.toList.take (x'.o + off * x'.z + len * x'.z) ++ news ++ cells.toList.drop (x'.o + off * x'.z + len * x'.z + news.length)).toArray
                have hcs : cs.size = x'.n := by simp [cs]; omega
                have rd : ∀ p, cs[p]? = if x'.o + off * x'.z + len * x'.z ≤ p ∧ p < x'.o + off * x'.z + len * x'.z + news.length then news[p - (x'.o + off * x'.z + len * x'.z)]? else cells[p]? := by
                  intro p
                  simp only [cs, List.getElem?_toArray]
                  have hA : (cells.toList.take (x'.o + off * x'.z + len * x'.z)).length = x'.o + off * x'.z + len * x'.z := by simp; omega
                  by_cases h1 : p < x'.o + off * x'.z + len * x'.z
                  · have h2 : p < (cells.toList.take (x'.o + off * x'.z + len * x'.z)).length := by omega
                    rw [List.append_assoc, List.getElem?_append_left h2, List.getElem?_take_of_lt h1, if_neg (by omega)]; simp
                  · by_cases h2 : p < x'.o + off * x'.z + len * x'.z + news.length
                    · have h3 : p < (cells.toList.take (x'.o + off * x'.z + len * x'.z) ++ news).length := by rw [List.length_append]; omega
                      have h4 : (cells.toList.take (x'.o + off * x'.z + len * x'.z)).length ≤ p := by omega
                      rw [List.getElem?_append_left h3, List.getElem?_append_right h4, hA, if_pos ⟨by omega, h2⟩]
                    · have h3 : (cells.toList.take (x'.o + off * x'.z + len * x'.z) ++ news).length ≤ p := by rw [List.length_append]; omega
                      rw [List.getElem?_append_right h3, if_neg (by omega), List.getElem?_drop]
                      simp only [List.length_append, hA]
                      rw [show x'.o + off * x'.z + len * x'.z + news.length + (p - (x'.o + off * x'.z + len * x'.z + news.length)) = p by omega]; simp
                have hrowN : relO m.own m.imm x'.z (els.drop off ++ xs) (fun i => cs[i]?) (x'.o + off * x'.z) := by
                  intro j ee hj
                  by_cases hjl : j < len
                  · rw [List.getElem?_append_left (by omega)] at hj
                    have := hrow3 j ee hj
                    refine ⟨this.1, fun t c hc => ?_⟩
                    obtain ⟨r, hr1, hr2⟩ := this.2 t c hc
                    have ht : t < x'.z := this.1 ▸ (List.getElem?_eq_some_iff.1 hc).1
                    have : (j + 1) * x'.z ≤ len * x'.z := Nat.mul_le_mul_right _ hjl
                    rw [Nat.add_mul, Nat.one_mul] at this
                    exact ⟨r, by show cs[_]? = _; rw [rd, if_neg (by omega)]; exact hr1, hr2⟩
                  · rw [List.getElem?_append_right (by omega), hdl] at hj
                    have hrx := hok.relO (R := fun i => news[i]?) (o := 0) (fun i v hv => by simpa using hv)
                    have := hrx _ ee hj
                    refine ⟨this.1, fun t c hc => ?_⟩
                    obtain ⟨r, hr1, hr2⟩ := this.2 t c hc
                    have ht : t < x'.z := this.1 ▸ (List.getElem?_eq_some_iff.1 hc).1
                    simp only [Nat.zero_add] at hr1
                    have hlt := (List.getElem?_eq_some_iff.1 hr1).1
                    have e3 : j * x'.z = len * x'.z + (j - len) * x'.z := by rw [← Nat.add_mul]; congr 1; omega
                    refine ⟨r, ?_, hr2⟩
                    show cs[_]? = _
                    rw [rd, if_pos (by omega), show x'.o + off * x'.z + j * x'.z + t - (x'.o + off * x'.z + len * x'.z) = (j - len) * x'.z + t by omega]
                    exact hr1
                have hlow : ∀ q, q < x'.o → cs[q]? = cells[q]? := fun q hq => by rw [rd, if_neg (by omega)]
                have hone2 : ∀ (q : Nat) v, cs[q]? = some v → v.oneCell' = true := one_spliced hcone hnone
                have hheap : (w.setRow x'.B cs).heap[x'.B]? = some (.cells cs elem (0, 0)) := setRow_heap w x'.B cells cs elem (0, 0) hb
                have hdead : Sim E m (H.set id .dead) (w.setRow x'.B cs) := by
                  refine hp.sim.put hH rfl hx' (setRow_size _ _ _) (fun B hB => setRow_other w x'.B B cs hB) (fun q hq => ?_) trivial (by intro s b h; cases h)
                  rw [cell_setRow_same w x'.B q cells cs elem (0, 0) hb, hlow q hq]
                  simp [World.cell?, hb]
                have hadopt := hdead.adopt ⟨x'.B, x'.o + off * x'.z, x'.n, x'.z⟩ (.arr z.length (els.drop off ++ xs)) (fun k o' x2 hk ha hx2 => ?_) (fun q hq => hp.sim.ro id _ x' hH rfl hx' q (by simp only at hq; omega)) (hp.sim.extsep id _ x' hH rfl hx') ⟨hz', cs, elem, hheap, hcs, ?_, relO_mono (ownLe.append _ _) (immLe.refl _) hrowN, hone2⟩ (by intro s b h; cases h)
                · refine ⟨_, _, _, _, hrun _ _ (by rw [hv]; exact hr), .inl rfl, ?_, hadopt, ?_, ownLe.append _ _⟩
                  · refine ⟨by rw [setRow_size]; exact Nat.le_refl _, fun B hB hn => setRow_other w x'.B B cs fun e => hn (e ▸ .inr ⟨id, _, x', hH, rfl, hx', rfl⟩), immLe.refl _, fun B hB => .inl ?_, fun B q v h => .inl h, fun k x2 hk hx2 => ?_, fun h => by simp; omega, setRow_same3 _ _ _⟩
                    · rcases hB with hB | ⟨k, o2, x2, hk, ha2, hx2, rfl⟩
                      · exact .inl hB
                      · simp only at hx2
                        by_cases hlt : k < H.length
                        · rw [List.getElem?_append_left (by simpa using hlt)] at hk
                          rw [List.getElem?_append_left (by rw [hp.sim.len]; exact hlt)] at hx2
                          rw [List.getElem?_set] at hk
                          split at hk
                          · split at hk
                            · simp at hk; subst hk; cases ha2
                            · cases hk
                          · exact .inr ⟨k, o2, x2, hk, ha2, hx2, rfl⟩
                        · have hk1 := (List.getElem?_eq_some_iff.1 hx2).1
                          have : k = m.own.length := by have := hp.sim.len; simp at hk1; omega
                          subst this
                          simp at hx2
                          subst hx2
                          exact .inr ⟨id, _, x', hH, rfl, hx', rfl⟩
                    · simp only
                      rw [List.getElem?_append_left (List.getElem?_eq_some_iff.1 hx2).1]; exact hx2
                  · simp only [rel]
                    refine ⟨⟨x'.B, x'.o + off * x'.z, x'.n, x'.z⟩, _, _, by rw [← hp.sim.len]; simp, rfl, hroom, by simp, fun _ => by simp, by simp; omega⟩
                · rw [List.getElem?_set] at hk
                  split at hk
                  · split at hk
                    · simp at hk; subst hk; cases ha
                    · cases hk
                  · rename_i hne
                    exact fun e => hne (hp.sim.sep id k _ o' x' x2 hH hk rfl ha hx' hx2 e.symm)
                · simp only [List.length_append, hdl]
                  rw [show (len + xs.length) * x'.z = len * x'.z + xs.length * x'.z from Nat.add_mul _ _ _]; omega
              · have := grow m (H.set id .dead) _ _ _ (els.drop off) olds (hp.sim.kill id (fun s b h => by rw [hH] at h; cases h)) rfl (by simp) hv hoks hdl hone1 hfo (by omega) hc
                exact good_of_kill this
          · simp [hzz] at he'
        · cases he'
      | _ => rw [hx] at he'; simp [exAppend] at he'
  · cases he

end
end Go.Cm
end

section
namespace Go.Cm

section
variable {P : Program} {E : Env} {n0 : Nat} {m : Bk} {H H' : List CObj} {w : World} {T : List CV} {a : Act} {c : Cond} {v : CV} {o : Oper}

theorem flatten_set {z : Nat} : ∀ (els : List (List CV)) (i : Nat) (l : List CV), (∀ e ∈ els, e.length = z) → i < els.length → l.length = z → (els.set i l).flatten = splice els.flatten (i * z) l
  | [], i, l, _, h, _ => by simp at h
  | e :: es, 0, l, hz, _, hl => by
    have he : e.length = z := hz e (by simp)
    simp [splice, hl, ← he]
  | e :: es, i + 1, l, hz, h, hl => by
    have he : e.length = z := hz e (by simp)
    have ih := flatten_set es i l (fun x hx => hz x (by simp [hx])) (by simpa using h) hl
    simp only [List.set_cons_succ, List.flatten_cons, ih, splice]
    have e1 : (i + 1) * z = e.length + i * z := by rw [Nat.add_mul, he]; omega
    rw [e1, List.take_length_add_append, Nat.add_assoc, List.drop_length_add_append, List.append_assoc]

theorem fillEls_sound {own : List Own} {imm : Nat → Nat → Option Value} {z : Nat} (hT : rels own imm T a.tmps.toList) : ∀ (ps : List (Nat × Operand)) (l : List (Nat × IArg)) (els out : List (List CV)) (vs : Array Value), rowParts ps = some l → fillEls T z els l = some out → RowsOk own imm z els vs.toList → (∀ v ∈ vs.toList, v.oneCell' = true) →
    ∃ vs', Instr.fill (fun i => some (i * z, z)) vs (ps.map fun p => (p.1, a.eval p.2)) = some vs' ∧ RowsOk own imm z out vs'.toList ∧ (∀ v ∈ vs'.toList, v.oneCell' = true) ∧ out.length = els.length
  | [], l, els, out, vs, hl, hf, hr, h1 => by
    simp [rowParts] at hl; subst hl
    simp [fillEls] at hf; subst hf
    exact ⟨vs, by simp [Instr.fill], hr, h1, rfl⟩
  | (i, x) :: ps, l, els, out, vs, hl, hf, hr, h1 => by
    simp only [rowParts] at hl
    split at hl
    · rename_i ia l' h2 h3
      cases hl
      simp only [fillEls] at hf
      split at hf
      · cases hf
      · rename_i lc hlc
        split at hf
        · rename_i hlen
          have hx := cells_rel (arg_rel hT h2) hlc
          have hxl := rels_length hx
          have hxn : (a.eval x).cells.size = z := by have := hlen.1; simp at hxl; omega
          have hvl := hr.len
          simp at hvl
          have hmul : (i + 1) * z ≤ els.length * z := Nat.mul_le_mul_right _ hlen.2.1
          rw [Nat.add_mul, Nat.one_mul] at hmul
          have hle : i * z + z ≤ vs.size := by omega
          have hs := rels_splice hr.2 hx (i * z)
          simp only [Array.length_toList, hxn] at hs
          have hsum := fill_one hxn hle
          rw [← hsum] at hs
          have hok : RowsOk own imm z (els.set i lc) ((a.eval x).cells.zipIdx.foldl (fun cs (c, j) => cs.setIfInBounds (i * z + j) c) vs).toList :=
            ⟨fun e he => by rcases List.mem_or_eq_of_mem_set he with h | rfl; exact hr.1 e h; exact hlen.1, by rw [flatten_set els i lc hr.1 hlen.2.1 hlen.1]; exact hs⟩
          have hone : ∀ v ∈ ((a.eval x).cells.zipIdx.foldl (fun cs (c, j) => cs.setIfInBounds (i * z + j) c) vs).toList, v.oneCell' = true := by
            rw [hsum]
            intro v hv
            rcases List.mem_append.1 hv with h4 | h4
            · rcases List.mem_append.1 h4 with h5 | h5
              · exact h1 v (List.mem_of_mem_take h5)
              · exact allOne_rel hx hlen.2.2 v h5
            · exact h1 v (List.mem_of_mem_drop h4)
          obtain ⟨vs', hv, hr', hone', hlen'⟩ := fillEls_sound hT ps l' _ out _ h3 hf hok hone
          refine ⟨vs', ?_, hr', hone', by simpa using hlen'⟩
          simp only [List.map_cons, Instr.fill]
          simp only [hxn, ne_eq, not_true_eq_false, decide_false, Bool.false_or, decide_eq_true_eq]
          rw [if_neg (by omega)]
          exact hv
        · cases hf
    · cases hl

theorem snd_bslice {t e : TypeId} {n : Nat} {ps : Array (Nat × Operand)} {z : List CV} {l : List (Nat × IArg)} (ho : o.op = .buildSlice t n ps) (hd : P.underlying t = some (.slice e)) (hz : zeroOf P e = some z) (hl : rowParts ps.toList = some l) (h0 : z.length ≠ 0) (hn : n * z.length ≤ 2 ^ 24)
    (he : exec (.bslice z.length n z l) T H = some (c, v, H')) (hp : Pre E n0 m H w T a) : Good P E n0 m H w (execOp a.eval o) v H' := by
  obtain ⟨i, zv, hi, _, hrun, hrel, hlen, h1z⟩ := run_zero (P := P) (w := w) hz
  simp only [exec] at he
  split at he
  · rename_i out hout
    simp only [Option.some.injEq, Prod.mk.injEq] at he
    obtain ⟨_, rfl, rfl⟩ := he
    have hsz : (sizeOf e).run P w = .ok z.length w := by simp [sizeOf, typeInfo, hi, hlen]
    let base : Array Value := (Array.range (n * z.length)).map (fun j => zv.cells[j % zv.cells.size]!)
    have hrow := madeCells_els (hrel m.own m.imm) n n h0 (Nat.le_refl _)
    have hbase : RowsOk m.own m.imm z.length (List.replicate n z) base.toList := by
      obtain ⟨vs, hok, hR⟩ := rows_read hrow
      have hvl := hok.len
      have : vs = base.toList := by
        apply List.ext_getElem?
        intro j
        by_cases hj : j < vs.length
        · have := hR j vs[j] (List.getElem?_eq_getElem hj)
          rw [List.getElem?_eq_getElem hj, ← this, Array.getElem?_toList, Nat.zero_add]
        · rw [List.getElem?_eq_none (by omega), List.getElem?_eq_none]
          simp [base] at hvl ⊢; omega
      rw [← this]; exact hok
    have hone : ∀ v ∈ base.toList, v.oneCell' = true := by
      intro v hv
      obtain ⟨j, hj⟩ := List.getElem?_of_mem hv
      have hj' : base[j]? = some v := by simpa using hj
      exact made_one (hrel m.own m.imm) h1z h0 (N := n * z.length) j v hj'
    obtain ⟨vs', hv, hr', hone', hol⟩ := fillEls_sound (a := a) hp.tmps ps.toList l _ out base hl hout hbase hone
    have hvl := hr'.len
    simp at hol
    refine good_row (r := .slice (some ⟨w.heap.size, 0, none⟩) n n) (cells := vs') (elem := e) (z := z.length) hp.sim ?_ (by simp at hvl; omega) (hr'.relO fun j v hv => by simpa using hv) (fun j v hv => hone' v (Array.mem_toList_iff.2 (Array.mem_of_getElem? hv))) ?_
    · have hl2 : (ps.map (fun (p : Nat × Operand) => (p.1, a.eval p.2))).toList = ps.toList.map fun p => (p.1, a.eval p.2) := by simp
      have hn' : ¬ (n * z.length > 2 ^ 24) := by omega
      simp only [execOp, ho, Instr.buildSlice, Sem.run_bind, run_underlying hd, Result.andThen_ok, hsz, hn', if_false]
      by_cases hn0 : n * z.length = 0
      · have hb0 : base = (Array.range (n * z.length)).map (fun x => (#[] : Array Value)[x % 0]!) := by
          apply Array.ext
          · simp [base]
          · intro j h1 _; simp [base, hn0] at h1
        rw [hb0] at hv
        simp only [hn0, if_true, Sem.run_bind, Sem.run_pure, Result.andThen_ok, List.size_toArray, List.length_nil] at hv ⊢
        rw [hl2]
        simp only [hv, newRow, Sem.run_bind, run_newObj, Result.andThen_ok, Sem.run_pure, World.alloc_eq]
      · simp only [hn0, if_false, Sem.run_bind, Sem.run_pure, Result.andThen_ok, hrun]
        rw [hl2]
        simp only [base] at hv
        simp only [hv, newRow, Sem.run_bind, run_newObj, Result.andThen_ok, Sem.run_pure, World.alloc_eq]
    · simp only [rel]
      refine ⟨_, _, _, own_new hp.sim _, rfl, Nat.le_refl _, by simp, fun _ => by simp, by simp at hvl ⊢; rw [hvl, hol]; exact Nat.le_refl _⟩
  · cases he

theorem snd_clear {t e : TypeId} {cl : Call} {x : Operand} {ix : IArg} {z : List CV} (ho : o.op = .call cl) (hcal : cl.callee = .builtin .clear) (hty : cl.argTypes.toList = [t]) (hargs : cl.args.toList = [x]) (hd : P.underlying t = some (.slice e)) (hz : zeroOf P e = some z) (hx : argOf x = some ix)
    (he : exec (.clear z ix) T H = some (c, v, H')) (hc : c.holds) (hp : Pre E n0 m H w T a) : Good P E n0 m H w (execOp a.eval o) v H' := by
  have h1 := arg_rel hp.tmps hx
  obtain ⟨i, zv, hi, _, hrunz, hrel, hlen, h1z⟩ := run_zero (P := P) (w := w) hz
  have hty' : cl.argTypes = #[t] := by cases hh : cl.argTypes; simp_all
  have hargs' : cl.args = #[x] := by cases hh : cl.args; simp_all
  have hrun : ∀ (r : Value) w', (Builtin.clear_ #[t] o.type #[a.eval x]).run P w = .ok r w' → (execOp a.eval o).run P w = .ok (.value r) w' := by
    intro r w' hr
    simp [execOp, ho, resolve, hcal, invoke, builtin, hty', hargs', hr]
  have tup0 : rel m.own m.imm (.tup []) (.tuple #[]) := by simp [rel, rels]
  simp only [exec] at he
  split at he
  · rename_i e1
    rw [e1] at h1; simp only [rel] at h1
    simp only [Option.some.injEq, Prod.mk.injEq] at he
    obtain ⟨_, rfl, rfl⟩ := he
    exact good_same hp.sim (hrun _ _ (by simp [Builtin.clear_, run_underlying hd, h1])) tup0
  · rename_i id off len cap e1
    rw [e1] at h1; simp only [rel] at h1
    obtain ⟨x', ba, rc, hx', hv, hlc, hcap, hba, hle⟩ := h1
    split at he
    · rename_i z' els hH
      split at he
      · rename_i hzz
        simp only [Option.some.injEq, Prod.mk.injEq] at he
        obtain ⟨rfl, rfl, rfl⟩ := he
        have hol : off + len ≤ els.length := hc
        by_cases hl0 : len = 0
        · subst hl0
          have : H.set id (.arr z' (els.take off ++ (List.replicate 0 z ++ els.drop (off + 0)))) = H := by
            have e2 : els.take off ++ (List.replicate 0 z ++ els.drop (off + 0)) = els := by simp
            rw [e2]
            apply List.ext_getElem?
            intro j
            rw [List.getElem?_set]
            split
            · rename_i hj; subst hj; rw [hH]; have := (List.getElem?_eq_some_iff.1 hH).1; simp [this]
            · rfl
          rw [this]
          exact good_same hp.sim (hrun _ _ (by simp [Builtin.clear_, run_underlying hd, hv])) tup0
        · have hb2 := hba (by omega)
          subst hb2
          obtain ⟨hz', cells, elem, hb, hsz, hle', hrow, hcone⟩ := hp.sim.obj id _ x' hH hx'
          have hzl := rels_length (hrel m.own m.imm)
          have hzn : zv.cells.size = x'.z := by simp at hzl; omega
          have hz0 : x'.z = z.length := by rw [hz', hzz.1]
          let news := (Builtin.zeroCells zv.cells len).toList
          have hnl : news.length = len * x'.z := by simp [news, size_zeroCells, hzn]
          have hmul : (off + len) * x'.z ≤ els.length * x'.z := Nat.mul_le_mul_right _ hol
          rw [Nat.add_mul] at hmul
          by_cases hzz0 : z.length = 0
          · -- elements without cells
            have hnn : news = [] := List.eq_nil_of_length_eq_zero (by rw [hnl, hz0, hzz0]; simp)
            have hr : (Builtin.clear_ #[t] o.type #[a.eval x]).run P w = .ok (.tuple #[]) (w.setRow x'.B cells) := by
              rw [setRow_self w x'.B cells elem (0, 0) hb]
              have : (Builtin.zeroCells zv.cells len).toList = [] := hnn
              cases len with
              | zero => exact absurd rfl hl0
              | succ k => simp [Builtin.clear_, run_underlying hd, hv, hrunz, this, storeCells]
            refine good_put (nx := .value (.tuple #[])) hp hH hx' hb hz' (hrun _ _ hr) (.inl rfl) hsz (by rw [hz0, hzz0]; simp; have := hle'; rw [hz0, hzz0] at this; simpa using this) (fun _ _ => rfl) (fun j ee hj => ?_) hcone tup0
            have hz1 : ∀ ee ∈ els, ee.length = x'.z := fun ee hm => by obtain ⟨k, hk⟩ := List.getElem?_of_mem hm; exact (hrow k ee hk).1
            have hm := List.mem_of_getElem? hj
            have hel : ee.length = x'.z := by
              rcases List.mem_append.1 hm with h2 | h2
              · exact hz1 ee (List.mem_of_mem_take h2)
              · rcases List.mem_append.1 h2 with h3 | h3
                · rw [List.mem_replicate] at h3; rw [h3.2, hz0]
                · exact hz1 ee (List.mem_of_mem_drop h3)
            refine ⟨hel, fun t c hc => ?_⟩
            have := (List.getElem?_eq_some_iff.1 hc).1
            omega
          · have hnone : ∀ v ∈ news, v.oneCell' = true := zeroCells_one (hrel m.own m.imm) h1z hzz0
            have hrz := madeCells_els (hrel m.own m.imm) len len hzz0 (Nat.le_refl _)
            have hst := run_storeCells_at P x'.B (x'.o + off * x'.z) elem news 0 cells w hb (by rw [hnl]; omega) hnone
            simp only [Nat.add_zero] at hst
            let cs : Array Value := (cells.toList.take (x'.o + off * x'.z) ++ news ++ cells.toList.drop (x'.o + off * x'.z + news.length)).toArray
            have hr : (Builtin.clear_ #[t] o.type #[a.eval x]).run P w = .ok (.tuple #[]) (w.setRow x'.B cs) := by
              cases len with
              | zero => exact absurd rfl hl0
              | succ k => simp only [Builtin.clear_, Sem.run_bind, run_underlying hd, hv, Result.andThen_ok, List.getElem?_toArray, List.getElem?_cons_zero, hrunz, hst, Sem.run_pure, news, cs]
            have rd : ∀ p, cs[p]? = if x'.o + off * x'.z ≤ p ∧ p < x'.o + off * x'.z + news.length then news[p - (x'.o + off * x'.z)]? else cells[p]? := by
              intro p
              simp only [cs, List.getElem?_toArray]
              have hA : (cells.toList.take (x'.o + off * x'.z)).length = x'.o + off * x'.z := by simp; omega
              by_cases h1 : p < x'.o + off * x'.z
              · have h2 : p < (cells.toList.take (x'.o + off * x'.z)).length := by omega
                rw [List.append_assoc, List.getElem?_append_left h2, List.getElem?_take_of_lt h1, if_neg (by omega)]; simp
              · by_cases h2 : p < x'.o + off * x'.z + news.length
                · have h3 : p < (cells.toList.take (x'.o + off * x'.z) ++ news).length := by rw [List.length_append]; omega
                  have h4 : (cells.toList.take (x'.o + off * x'.z)).length ≤ p := by omega
                  rw [List.getElem?_append_left h3, List.getElem?_append_right h4, hA, if_pos ⟨by omega, h2⟩]
                · have h3 : (cells.toList.take (x'.o + off * x'.z) ++ news).length ≤ p := by rw [List.length_append]; omega
                  rw [List.getElem?_append_right h3, if_neg (by omega), List.getElem?_drop]
                  simp only [List.length_append, hA]
                  rw [show x'.o + off * x'.z + news.length + (p - (x'.o + off * x'.z + news.length)) = p by omega]; simp
            refine good_put (nx := .value (.tuple #[])) hp hH hx' hb hz' (hrun _ _ hr) (.inl rfl) (by simp [cs]; omega) (by simp only [List.length_append, List.length_take, List.length_replicate, List.length_drop]; rw [show min off els.length + (len + (els.length - (off + len))) = els.length by omega]; exact hle') (fun q hq => by rw [rd, if_neg (by omega)]) (fun j ee hj => ?_) (one_spliced hcone hnone) tup0
            by_cases hj1 : j < off
            · rw [List.getElem?_append_left (by simp; omega), List.getElem?_take_of_lt hj1] at hj
              have := hrow j ee hj
              refine ⟨this.1, fun t c hc => ?_⟩
              obtain ⟨r, hr1, hr2⟩ := this.2 t c hc
              have ht : t < x'.z := this.1 ▸ (List.getElem?_eq_some_iff.1 hc).1
              have : (j + 1) * x'.z ≤ off * x'.z := Nat.mul_le_mul_right _ hj1
              rw [Nat.add_mul, Nat.one_mul] at this
              exact ⟨r, by show cs[_]? = _; rw [rd, if_neg (by omega)]; exact hr1, hr2⟩
            · rw [List.getElem?_append_right (by simp; omega)] at hj
              have e3 : (els.take off).length = off := by simp; omega
              rw [e3] at hj
              by_cases hj2 : j < off + len
              · rw [List.getElem?_append_left (by simp; omega)] at hj
                have := hrz (j - off) ee hj
                rw [← hz0] at this
                refine ⟨this.1, fun t c hc => ?_⟩
                obtain ⟨r, hr1, hr2⟩ := this.2 t c hc
                have ht : t < x'.z := this.1 ▸ (List.getElem?_eq_some_iff.1 hc).1
                have hr3 : news[(j - off) * x'.z + t]? = some r := by
                  simp only [news, Array.getElem?_toList, Builtin.zeroCells, hzn]
                  simpa [hzn] using hr1
                have hlt := (List.getElem?_eq_some_iff.1 hr3).1
                have e4 : j * x'.z = off * x'.z + (j - off) * x'.z := by rw [← Nat.add_mul]; congr 1; omega
                refine ⟨r, ?_, hr2⟩
                show cs[_]? = _
                rw [rd, if_pos (by omega), show x'.o + j * x'.z + t - (x'.o + off * x'.z) = (j - off) * x'.z + t by omega]
                exact hr3
              · rw [List.getElem?_append_right (by simp; omega), List.length_replicate, List.getElem?_drop, show off + len + (j - off - len) = j by omega] at hj
                have := hrow j ee hj
                refine ⟨this.1, fun t c hc => ?_⟩
                obtain ⟨r, hr1, hr2⟩ := this.2 t c hc
                have : (off + len) * x'.z ≤ j * x'.z := Nat.mul_le_mul_right _ (by omega)
                rw [Nat.add_mul] at this
                exact ⟨r, by show cs[_]? = _; rw [rd, if_neg (by omega)]; exact hr1, hr2⟩
      · cases he
    · cases he
  · rename_i z' cap e1
    rw [e1] at h1; simp only [rel] at h1
    simp only [Option.some.injEq, Prod.mk.injEq] at he
    obtain ⟨_, rfl, rfl⟩ := he
    rcases h1 with ⟨_, _, b, hv⟩ | ⟨B, q, rc, hv, hlc, hcap, hrow⟩
    · exact good_same hp.sim (hrun _ _ (by cases b <;> simp [Builtin.clear_, run_underlying hd, hv])) tup0
    exact good_same hp.sim (hrun _ _ (by simp [Builtin.clear_, run_underlying hd, hv])) tup0
  · cases he

theorem optArg_none {x : Option Operand} {y : Option IArg} (h : optArg x = some y) : y = none ↔ x = none := by
  cases x with
  | none => simp [optArg] at h; simp [h.symm]
  | some x =>
    simp only [optArg] at h
    obtain ⟨b, _, rfl⟩ : ∃ b, argOf x = some b ∧ some b = y := by cases hx : argOf x with | none => simp [hx] at h | some b => exact ⟨b, rfl, by simpa [hx] using h⟩
    simp

theorem optmap {α β : Type} {f : α → β} {x : Option α} {y : β} (h : x.map f = some y) : ∃ a, x = some a ∧ f a = y := by
  cases x with
  | none => simp at h
  | some a => exact ⟨a, rfl, by simpa using h⟩

/-- THE OPERATIONS TOGETHER. -/
theorem comp_sound {i : IOp} (hcomp : compOp P o.op = some i) (he : exec i T H = some (c, v, H')) (hc : c.holds) (hp : Pre E n0 m H w T a) : Good P E n0 m H w (execOp a.eval o) v H' := by
  cases hop : o.op <;> rw [hop] at hcomp <;> simp only [compOp] at hcomp
  case move x => obtain ⟨b, hb, rfl⟩ := optmap hcomp; exact snd_mv (.inl hop) hb he hp
  case assign x => obtain ⟨b, hb, rfl⟩ := optmap hcomp; exact snd_mv (.inr hop) hb he hp
  case pick x y z =>
    split at hcomp
    · cases hcomp; exact snd_pick hop ‹_› ‹_› ‹_› he hp
    · cases hcomp
  case alloc t => obtain ⟨b, hb, rfl⟩ := optmap hcomp; exact snd_alloc hop hb he hp
  case box t x => obtain ⟨b, hb, rfl⟩ := optmap hcomp; exact snd_box hop hb he hp
  case build t ps =>
    split at hcomp
    · split at hcomp
      · obtain ⟨b, hb, rfl⟩ := optmap hcomp; exact snd_build hop ‹_› ‹_› ‹_› hb he hp
      · cases hcomp
    · split at hcomp
      · obtain ⟨b, hb, rfl⟩ := optmap hcomp; exact snd_buildA hop ‹_› ‹_› ‹_› hb he hp
      · cases hcomp
    · cases hcomp
  case buildSlice t n ps =>
    split at hcomp
    · split at hcomp
      · split at hcomp
        · rename_i hcond; cases hcomp; exact snd_bslice hop ‹_› ‹_› ‹_› hcond.1 hcond.2 he hp
        · cases hcomp
      · cases hcomp
    · cases hcomp
  case load t x =>
    split at hcomp
    · cases hcomp; exact snd_load hop ‹_› ‹_› ‹_› he hc hp
    · cases hcomp
  case store t x y =>
    split at hcomp
    · cases hcomp; exact snd_store hop ‹_› ‹_› ‹_› he hc hp
    · cases hcomp
  case binOp op t x y ty =>
    split at hcomp
    · split at hcomp
      · split at hcomp
        · cases hcomp
        · rename_i hg
          split at hcomp
          · cases hcomp; exact snd_eqs hop ‹_› ‹_› (by simpa using hg) (.inl ⟨rfl, rfl⟩) ‹_› ‹_› he hp
          · cases hcomp; exact snd_eqs hop ‹_› ‹_› (by simpa using hg) (.inr ⟨rfl, rfl⟩) ‹_› ‹_› he hp
          · cases hcomp
      · cases hcomp
    · cases hcomp; exact snd_bin hop ‹_› ‹_› ‹_› he hc hp
    · cases hcomp
  case unOp op t x =>
    cases op <;> simp only [compOp] at hcomp <;> (try cases hcomp; done)
    · obtain ⟨b, hb, rfl⟩ := optmap hcomp; exact snd_neg hop hb he hc hp
    · obtain ⟨b, hb, rfl⟩ := optmap hcomp; exact snd_not hop hb he hp
  case convert s d x =>
    split at hcomp
    · cases hcomp; exact snd_conv hop ‹_› ‹_› ‹_› he hc hp
    · cases hcomp
  case makeFunc fn l1 l2 =>
    cases fn <;> simp only [compOp] at hcomp <;> (try cases hcomp; done)
    split at hcomp
    · cases hcomp; exact snd_mkfn hop ‹_› ‹_› he hp
    · cases hcomp
  case makeMap t r =>
    cases r <;> simp only [compOp] at hcomp <;> (try cases hcomp; done)
    cases hcomp; exact snd_mkmap hop he hp
  case makeSlice t l c =>
    split at hcomp
    · split at hcomp
      · split at hcomp
        · cases hcomp; exact snd_mkslice hop ‹_› ‹_› ‹_› ‹_› ‹_› ‹_› he hc hp
        · cases hcomp
      · cases hcomp
    · cases hcomp
  case slice t x lo hi mx =>
    split at hcomp
    · split at hcomp
      · split at hcomp
        · cases hcomp
        · rename_i h1 h2 h3 h4 h5 hno
          simp only [Option.isNone_iff_eq_none, Bool.and_eq_true, Option.isSome_iff_ne_none, ne_eq, optArg_none h4, optArg_none h5] at hno
          cases hcomp; exact snd_slice hop ‹_› h1 h2 h3 h4 h5 (by simpa [Option.isSome_iff_ne_none] using hno) he hc hp
      · cases hcomp
    · cases hcomp
  case fieldAddr t x f =>
    split at hcomp
    · split at hcomp
      · split at hcomp
        · split at hcomp
          · cases hcomp; exact snd_faddr hop ‹_› ‹_› ‹_› ‹_› ‹_› he hc hp
          · cases hcomp
        · cases hcomp
      · cases hcomp
    · cases hcomp
  case field t x f =>
    split at hcomp
    · split at hcomp
      · split at hcomp
        · cases hcomp; exact snd_field hop ‹_› ‹_› ‹_› ‹_› ‹_› he hc hp
        · cases hcomp
      · cases hcomp
    · cases hcomp
  case indexAddr t x i =>
    split at hcomp
    · split at hcomp
      · cases hcomp; exact snd_iaddr hop ‹_› ‹_› ‹_› ‹_› he hc hp
      · cases hcomp
    · cases hcomp
  case index t x i =>
    split at hcomp
    · split at hcomp
      · cases hcomp; exact snd_indexS hop ‹_› ‹_› ‹_› he hc hp
      · cases hcomp
    · cases hcomp
  case lookup t x k ok =>
    split at hcomp
    · split at hcomp
      · split at hcomp
        · cases hcomp; exact snd_lookup hop ‹_› ‹_› ‹_› ‹_› ‹_› ‹_› he hp
        · cases hcomp
      · cases hcomp
    · cases hcomp
  case mapUpdate t x k y =>
    split at hcomp
    · split at hcomp
      · split at hcomp
        · cases hcomp; exact snd_mapset hop ‹_› ‹_› ‹_› ‹_› ‹_› ‹_› he hp
        · cases hcomp
      · cases hcomp
    · cases hcomp
  case extract x k => obtain ⟨b, hb, rfl⟩ := optmap hcomp; exact snd_extract hop hb he hp
  case call cl =>
    split at hcomp
    · split at hcomp
      · split at hcomp
        · obtain ⟨b, hb, rfl⟩ := optmap hcomp; simp [exec] at he
        · cases hcomp
      · cases hcomp
    · split at hcomp
      · cases hcomp; simp [exec] at he
      · cases hcomp
    · split at hcomp
      · split at hcomp
        · obtain ⟨b, hb, rfl⟩ := optmap hcomp; exact snd_len hop ‹_› ‹_› ‹_› ‹_› hb he hp
        · cases hcomp
      · cases hcomp
    · split at hcomp
      · split at hcomp
        · split at hcomp
          · split at hcomp
            · cases hcomp; exact snd_append hop ‹_› ‹_› ‹_› ‹_› ‹_› (.inl ⟨_, rfl⟩) ‹_› ‹_› ‹_› ‹_› ‹_› he hc hp
            · cases hcomp
          · cases hcomp
        · split at hcomp
          · split at hcomp
            · cases hcomp; exact snd_append hop ‹_› ‹_› ‹_› ‹_› ‹_› (.inr rfl) ‹_› ‹_› ‹_› ‹_› ‹_› he hc hp
            · cases hcomp
          · cases hcomp
        · cases hcomp
      · cases hcomp
    · split at hcomp
      · split at hcomp
        · split at hcomp
          · cases hcomp; exact snd_clear hop ‹_› ‹_› ‹_› ‹_› ‹_› ‹_› he hc hp
          · cases hcomp
        · cases hcomp
      · cases hcomp
    · cases hcomp
  all_goals (first | cases hcomp | skip)

end
end Go.Cm
end

section
namespace Go.Cm

inductive KItem where
  | code (c : ICode)
  | ops (l : List IOper)
  | blk (id : Nat)

def ICode.size : ICode → Nat
  | .skip => 1
  | .reg l => l.length + 2
  | .dreg l _ => l.length + 2
  | .seq a b => a.size + b.size + 1
  | .cond _ a b => a.size + b.size + 1
  | .block _ a => a.size + 2
  | .loop a => a.size + 1
  | .rfunc _ _ a b => a.size + b.size + 1
  | .exit _ => 1
  | .ret => 1

def KItem.size : KItem → Nat
  | .code c => c.size
  | .ops l => l.length + 1
  | .blk _ => 1

def ksize : List KItem → Nat
  | [] => 0
  | x :: k => x.size + ksize k

theorem ICode.size_pos (c : ICode) : 0 < c.size := by cases c <;> simp [ICode.size]

/-- The result of an operation goes to its slot. -/
def put (T : List CV) (d : Option Nat) (v : CV) : List CV :=
  match d with
  | some d => T.set d v
  | none => T

/-! ### The machine, seen from abstract values -/

def WF (ro : Option Nat) : Fence := { fn := fun _ => True, depth := none, alive := false, round := ro }

theorem fenced_WF (P : Program) (ro : Option Nat) (m : Machine) : m.fenced P (WF ro) := by
  intro g _
  refine ⟨fun h => ?_, Or.inl trivial, fun _ _ => trivial, fun _ h => ?_⟩
  · simp [WF] at h
  · simp [WF] at h
theorem room_WF (ro : Option Nat) (n : Nat) : (WF ro).room n := fun _ h => by simp [WF] at h

theorem steps_WF {P : Program} {ro : Option Nat} {m m' : Machine} (h : Steps P m m') : StepsIn (Machine.fenced P (WF ro)) P m m' := (StepsIn.of_steps h).mono fun m _ => fenced_WF P ro m

/-- Of which frame we speak: the marks that are its own lie from a block on; whether it is a round's. -/
structure Fr where
  n : Nat
  rnd : Bool

/-- The frame, and its deferred marks. -/
def DefOk (N : Fr) (b : Frame) (m : Bk) (H : List CObj) (w : World) (ds : List Deferred) : Prop :=
  (N.rnd = false → b.roundOf = none) ∧ N.n ≤ w.heap.size ∧ ∃ Ds : List Nat, ds = Ds.map (fun D => { target := .collected D, args := #[] }) ∧ Ds.Nodup ∧ ∀ D ∈ Ds, N.n ≤ D ∧ w.heap[D]? = some (.deferred (some [])) ∧ ¬ owned m H D

theorem DefOk.ext {n0 : Nat} {N : Fr} {b : Frame} {m m' : Bk} {H H' : List CObj} {w w' : World} {ds : List Deferred} (h : DefOk N b m H w ds) (he : Ext n0 m H w m' H' w') : DefOk N b m' H' w' ds := by
  obtain ⟨hb, hn, Ds, h1, h2, h3⟩ := h
  refine ⟨hb, Nat.le_trans hn he.size, Ds, h1, h2, fun D hD => ?_⟩
  obtain ⟨a, b, c⟩ := h3 D hD
  have hlt : D < w.heap.size := (Array.getElem?_eq_some_iff.1 b).1
  refine ⟨a, (he.frame D hlt c).trans b, fun ho => ?_⟩
  rcases he.newOwn D ho with h | h
  · exact c h
  · omega

theorem DefOk.nil (N : Fr) (b : Frame) (hb : N.rnd = false → b.roundOf = none) (m : Bk) (H : List CObj) (w : World) (hn : N.n ≤ w.heap.size) : DefOk N b m H w [] := ⟨hb, hn, [], rfl, List.nodup_nil, fun D hD => by cases hD⟩

section
variable (P : Program) (E : Env) (n0 : Nat) (N : Fr)

def Reach (Q : Exit → List CV → List CObj → Prop) (b : Frame) (rest : List Item) (cs : List Frame) (m : Bk) (H : List CObj) (w : World) (mach : Machine) : Prop :=
  ∃ e a' w' m' T' H', Ext n0 m H w m' H' w' ∧ Pre E n0 m' H' w' T' a' ∧ DefOk N b m' H' w' a'.defers ∧ Q e T' H' ∧ ArrivesIn (Machine.fenced P (WF none)) P mach b rest cs e a' w'

/-- A call of a function. -/
def CallsC (f : Nat) (args : List CV) (H : List CObj) (R : CV → List CObj → Prop) : Prop :=
  ∀ m w (vs : Array Value), Sim E m H w → rels m.own m.imm args vs.toList →
    CallsIn (WF none) 0 P f vs w fun e w' => ∃ r m' v H', e = .returned r ∧ Ext H.length m H w m' H' w' ∧ Sim E m' H' w' ∧ rel m'.own m'.imm v r ∧ R v H'

/-- What the model's items are to be for a stack of ours. -/
def KRel : List KItem → List Item → Prop
  | [], kr => kr = []
  | .code c :: k, kr => ∃ c' kr', kr = .code c' :: kr' ∧ compCode P c' = some c ∧ KRel k kr'
  | .ops l :: k, kr => ∃ ops is kr', kr = .inRegion ops is :: kr' ∧ (is.length = l.length ∧ ∀ (j i : Nat), is[j]? = some i → ∃ o io, ops[i]? = some o ∧ l[j]? = some io ∧ compOper P ops o = some io) ∧ KRel k kr'
  | .blk id :: k, kr => ∃ kr', kr = .inBlock id :: kr' ∧ KRel k kr'

/-- The meaning of a stack at abstract values. -/
def Ok (Q : Exit → List CV → List CObj → Prop) (k : List KItem) (T : List CV) (H : List CObj) : Prop :=
  ∀ (m : Bk) (w : World) (a : Act) (b : Frame) (cs : List Frame) (kr rest : List Item), Pre E n0 m H w T a → DefOk N b m H w a.defers → KRel P k kr →
    Reach P E n0 N Q b rest cs m H w (lone (b.atR a (kr ++ rest)) cs w)

end

section
variable {P : Program} {E : Env} {n0 : Nat} {N : Fr} {Q : Exit → List CV → List CObj → Prop} {b : Frame} {rest : List Item} {cs : List Frame} {m m' : Bk} {H H' : List CObj} {w w' : World} {mach mach' : Machine} {T : List CV} {k : List KItem}

theorem Reach.step (h : Steps P mach mach') (he : Ext n0 m H w m' H' w') (hr : Reach P E n0 N Q b rest cs m' H' w' mach') : Reach P E n0 N Q b rest cs m H w mach := by
  obtain ⟨e, a', w2, m2, T2, H2, h1, h2, h3, h4, h5⟩ := hr
  exact ⟨e, a', w2, m2, T2, H2, he.trans h1, h2, h3, h4, .of_steps (steps_WF h) h5⟩

theorem Reach.one (h : Go.step P mach = .next mach') (hr : Reach P E n0 N Q b rest cs m H w mach') : Reach P E n0 N Q b rest cs m H w mach :=
  Reach.step (Steps.one h) (Ext.refl _ _ _ _) hr

theorem ok_nil (h : Q .normal T H) : Ok P E n0 N Q [] T H := by
  intro m w a b cs kr rest hp hd hk
  simp only [KRel] at hk; subst hk
  exact ⟨.normal, a, w, m, T, H, Ext.refl _ _ _ _, hp, hd, h, .refl _⟩

theorem ok_blk {id : Nat} (h : Ok P E n0 N Q k T H) : Ok P E n0 N Q (.blk id :: k) T H := by
  intro m w a b cs kr rest hp hd hk
  simp only [KRel] at hk
  obtain ⟨kr', rfl, hk'⟩ := hk
  exact Reach.one stepR_inBlock (h m w a b cs kr' rest hp hd hk')

theorem inv_skip {c : Code} (h : compCode P c = some .skip) : c = .skip := by
  cases c <;> simp only [compCode] at h <;> (repeat' split at h) <;> (try cases h) <;> rfl
theorem inv_ret {c : Code} (h : compCode P c = some .ret) : c = .ret := by
  cases c <;> simp only [compCode] at h <;> (repeat' split at h) <;> (try cases h) <;> rfl
theorem inv_exit {c : Code} {id : Nat} (h : compCode P c = some (.exit id)) : c = .exit id := by
  cases c <;> simp only [compCode] at h <;> (repeat' split at h) <;> (try cases h) <;> rfl
theorem inv_seq {c : Code} {x y : ICode} (h : compCode P c = some (.seq x y)) : ∃ a b, c = .seq a b ∧ compCode P a = some x ∧ compCode P b = some y := by
  cases c <;> simp only [compCode] at h <;> (repeat' split at h) <;> (try cases h) <;> exact ⟨_, _, rfl, ‹_›, ‹_›⟩
theorem inv_cond {c : Code} {i : IArg} {x y : ICode} (h : compCode P c = some (.cond i x y)) : ∃ o a b, c = .cond o a b ∧ argOf o = some i ∧ compCode P a = some x ∧ compCode P b = some y := by
  cases c <;> simp only [compCode] at h <;> (repeat' split at h) <;> (try cases h) <;> exact ⟨_, _, _, rfl, ‹_›, ‹_›, ‹_›⟩
theorem inv_block {c : Code} {id : Nat} {x : ICode} (h : compCode P c = some (.block id x)) : ∃ a, c = .block id a ∧ compCode P a = some x := by
  cases c <;> simp only [compCode] at h <;> (repeat' split at h) <;> (try cases h) <;> exact ⟨_, rfl, ‹_›⟩
theorem inv_loop {c : Code} {x : ICode} (h : compCode P c = some (.loop x)) : ∃ a, c = .loop a ∧ compCode P a = some x := by
  cases c <;> simp only [compCode] at h <;> (repeat' split at h) <;> (try cases h) <;> exact ⟨_, rfl, ‹_›⟩
theorem inv_reg {c : Code} {l : List IOper} (h : compCode P c = some (.reg l)) : ∃ id ops, c = .region id ops false ∧ compOpers P ops ops.toList = some l := by
  cases c <;> simp only [compCode] at h <;> (repeat' split at h) <;> (try cases h)
  rename_i id ops dr _ hdr hc
  obtain rfl : dr = false := Bool.eq_false_iff.2 hdr
  exact ⟨id, ops, rfl, hc⟩
theorem inv_dreg {c : Code} {l : List IOper} {es : List (List Nat)} (h : compCode P c = some (.dreg l es)) : ∃ id ops, c = .region id ops true ∧ compOpers P ops ops.toList = some l ∧ es = ops.toList.map edgesOf := by
  cases c <;> simp only [compCode] at h <;> (repeat' split at h) <;> (try cases h)
  rename_i id ops dr _ hdr hc
  obtain rfl : dr = true := hdr
  exact ⟨id, ops, rfl, hc, rfl⟩
theorem inv_rfunc {c : Code} {f : IArg} {ps : List Nat} {x y : ICode} (h : compCode P c = some (.rfunc f ps x y)) : ∃ g qs a b, c = .rangeFunc g qs a b ∧ argOf g = some f ∧ qs.toList = ps ∧ compCode P a = some x ∧ compCode P b = some y := by
  cases c <;> simp only [compCode] at h <;> (repeat' split at h) <;> (try cases h) <;> exact ⟨_, _, _, _, rfl, ‹_›, rfl, ‹_›, ‹_›⟩

theorem compOpers_get {ops : Array Oper} : ∀ (l : List Oper) (is : List IOper), compOpers P ops l = some is → is.length = l.length ∧ ∀ (j : Nat) o, l[j]? = some o → ∃ io, is[j]? = some io ∧ compOper P ops o = some io
  | [], is, h => by simp [compOpers] at h; subst h; simp
  | o :: l, is, h => by
    simp only [compOpers] at h
    split at h
    · rename_i i is' h1 h2
      cases h
      obtain ⟨hl, hg⟩ := compOpers_get l is' h2
      refine ⟨by simp [hl], fun j o' ho => ?_⟩
      cases j with
      | zero => simp at ho; subst ho; exact ⟨i, rfl, h1⟩
      | succ j => simpa using hg j o' (by simpa using ho)
    · cases h

/-! ### The rules on code -/

theorem ok_skip (h : Ok P E n0 N Q k T H) : Ok P E n0 N Q (.code .skip :: k) T H := by
  intro m w a b cs kr rest hp hd hk
  simp only [KRel] at hk
  obtain ⟨c', kr', rfl, hc, hk'⟩ := hk
  obtain rfl := inv_skip hc
  exact Reach.one stepR_skip (h m w a b cs kr' rest hp hd hk')

theorem ok_seq {x y : ICode} (h : Ok P E n0 N Q (.code x :: .code y :: k) T H) : Ok P E n0 N Q (.code (.seq x y) :: k) T H := by
  intro m w a b cs kr rest hp hd hk
  simp only [KRel] at hk
  obtain ⟨c', kr', rfl, hc, hk'⟩ := hk
  obtain ⟨c1, c2, rfl, h1, h2⟩ := inv_seq hc
  refine Reach.one stepR_seq (h m w a b cs (.code c1 :: .code c2 :: kr') rest hp hd ?_)
  simp only [KRel]
  exact ⟨c1, _, rfl, h1, c2, _, rfl, h2, hk'⟩

theorem ok_block {id : Nat} {x : ICode} (h : Ok P E n0 N Q (.code x :: .blk id :: k) T H) : Ok P E n0 N Q (.code (.block id x) :: k) T H := by
  intro m w a b cs kr rest hp hd hk
  simp only [KRel] at hk
  obtain ⟨c', kr', rfl, hc, hk'⟩ := hk
  obtain ⟨c1, rfl, h1⟩ := inv_block hc
  refine Reach.one stepR_block (h m w a b cs (.code c1 :: .inBlock id :: kr') rest hp hd ?_)
  simp only [KRel]
  exact ⟨c1, _, rfl, h1, _, rfl, hk'⟩

theorem ok_cond {i : IArg} {x y : ICode} {t : Bool} (hi : aget T i = .bool t) (h : Ok P E n0 N Q (.code (if t then x else y) :: k) T H) : Ok P E n0 N Q (.code (.cond i x y) :: k) T H := by
  intro m w a b cs kr rest hp hd hk
  simp only [KRel] at hk
  obtain ⟨c', kr', rfl, hc, hk'⟩ := hk
  obtain ⟨o, c1, c2, rfl, h0, h1, h2⟩ := inv_cond hc
  have hr := arg_rel (a := a) hp.tmps h0
  rw [hi] at hr; simp only [rel] at hr
  refine Reach.one (stepR_cond hr) (h m w a b cs (.code (if t then c1 else c2) :: kr') rest hp hd ?_)
  simp only [KRel]
  exact ⟨_, _, rfl, by cases t <;> simp [h1, h2], hk'⟩

theorem ok_ret (h : Q .ret T H) : Ok P E n0 N Q (.code .ret :: k) T H := by
  intro m w a b cs kr rest hp hd hk
  simp only [KRel] at hk
  obtain ⟨c', kr', rfl, hc, hk'⟩ := hk
  obtain rfl := inv_ret hc
  exact ⟨.ret, a, w, m, T, H, Ext.refl _ _ _ _, hp, hd, h, fun hn => ⟨_, .one (fenced_WF _ _ _) (stepR_ret hn)⟩, fun _ => ⟨_, .refl _⟩⟩

theorem ok_reg {l : List IOper} (h : Ok P E n0 N Q (.ops l :: k) T H) : Ok P E n0 N Q (.code (.reg l) :: k) T H := by
  intro m w a b cs kr rest hp hd hk
  simp only [KRel] at hk
  obtain ⟨c', kr', rfl, hc, hk'⟩ := hk
  obtain ⟨id, ops, rfl, h1⟩ := inv_reg hc
  obtain ⟨hl, hg⟩ := compOpers_get _ _ h1
  refine Reach.one stepR_region (h m w a b cs (.inRegion ops (List.range ops.size) :: kr') rest hp hd ?_)
  simp only [KRel]
  refine ⟨ops, _, _, rfl, ⟨by simp [hl], fun j i hj => ?_⟩, hk'⟩
  have hlt : j < ops.size := by have := (List.getElem?_eq_some_iff.1 hj).1; simpa using this
  have : i = j := by have := (List.getElem?_eq_some_iff.1 hj).2; simpa using this.symm
  subst this
  obtain ⟨io, h2, h3⟩ := hg i ops[i] (by simp [hlt])
  exact ⟨ops[i], io, by simp [hlt], h2, h3⟩

theorem ok_ops_nil (h : Ok P E n0 N Q k T H) : Ok P E n0 N Q (.ops [] :: k) T H := by
  intro m w a b cs kr rest hp hd hk
  simp only [KRel] at hk
  obtain ⟨ops, is, kr', rfl, ⟨hl, _⟩, hk'⟩ := hk
  obtain rfl : is = [] := List.eq_nil_of_length_eq_zero (by simpa using hl)
  exact Reach.one stepR_region_end (h m w a b cs kr' rest hp hd hk')

theorem pre_put {a : Act} {n0 : Nat} {d : Option Nat} {v : CV} {r : Value} (hs : Sim E m H w) (ht : rels m.own m.imm T a.tmps.toList) (hl : n0 ≤ H.length) (hr : rel m.own m.imm v r) : Pre E n0 m H w (put T d v) (a.put d r) := by
  refine ⟨hs, ?_, hl⟩
  cases d with
  | none => exact ht
  | some d =>
    simp only [put, Act.put]
    have := rels_set ht d hr
    simpa using this

theorem put_defers {a : Act} {d : Option Nat} {r : Value} : (a.put d r).defers = a.defers := by cases d <;> rfl

theorem semAt_plain {ro : Option Nat} {ρ : Operand → Value} {o : Oper} {i : IOp} (h : compOp P o.op = some i) : o.semAt ro ρ = execOp ρ o :=
  Oper.semAt_eq ro ρ o fun c hc => by rw [hc] at h; simp [compOp] at h

theorem wanted_none {ops : Array Oper} {o : Oper} {io : IOper} {tmps : Array Value} (h : compOper P ops o = some io) (hg : io.guard = none) : Region.wanted o (yielded ops tmps) = true ∧ o.dst = io.dst ∧ compOp P o.op = some io.op := by
  unfold compOper at h
  split at h
  · cases h
  · rename_i i hi
    split at h
    · rename_i hgo
      cases h
      exact ⟨by simp [Region.wanted, hgo], rfl, hi⟩
    · split at h
      · cases h; simp at hg
      · cases h

theorem wanted_some {ops : Array Oper} {o : Oper} {io : IOper} {a : Act} {own : List Own} {imm : Nat → Nat → Option Value} {g : Nat} {want t : Bool} (h : compOper P ops o = some io) (hg : io.guard = some (g, want)) (hT : rels own imm T a.tmps.toList) (hb : T.getD g .un = .bool t) :
    Region.wanted o (yielded ops a.tmps) = (t == want) ∧ o.dst = io.dst ∧ compOp P o.op = some io.op := by
  unfold compOper at h
  split at h
  · cases h
  · rename_i i hi
    split at h
    · cases h; simp at hg
    · rename_i j wt hgo
      split at h
      · rename_i d hdst
        cases h
        simp only [Option.some.injEq, Prod.mk.injEq] at hg
        obtain ⟨rfl, rfl⟩ := hg
        refine ⟨?_, rfl, hi⟩
        have hlt : d < T.length := by
          rcases Nat.lt_or_ge d T.length with h1 | h1
          · exact h1
          · rw [List.getD, List.getElem?_eq_none h1] at hb; cases hb
        obtain ⟨u, hu, hr⟩ := rels_get hT (List.getElem?_eq_getElem hlt)
        have e1 : T[d] = .bool t := by rw [← hb]; simp [List.getD, List.getElem?_eq_getElem hlt]
        rw [e1] at hr; simp only [rel] at hr
        subst hr
        have hu' : a.tmps[d]? = some (.bool t) := by simpa using hu
        have : yielded ops a.tmps j = some t := by simp only [yielded, hdst, Option.bind_some, hu']
        simp only [Region.wanted, hgo, this]
        cases t <;> cases wt <;> rfl
      · cases h

theorem step_value {ops : Array Oper} {i : Nat} {is : List Nat} {o : Oper} {a : Act} {r : Value} {nx : Next} {kr : List Item} (ho : ops[i]? = some o) (hw : Region.wanted o (yielded ops a.tmps) = true) (hsem : o.semAt b.roundOf a.eval = execOp a.eval o) (hrun : (execOp a.eval o).run P w = .ok nx w') (hnx : nx = .value r ∨ (nx = .skip ∧ r = undef)) :
    Go.step P (lone (b.atR a (.inRegion ops (i :: is) :: kr)) cs w) = .next (lone (b.atR (a.put o.dst r) (.inRegion ops is :: kr)) cs w') := by
  have hg := stepGR_op (P := P) (b := b) (k := kr) (cs := cs) (w := w) (rest := is) ho hw
  rw [hsem] at hg
  have hfin : ∀ v, (b.atR a (.inRegion ops (i :: is) :: kr)).finish v = b.atR (a.put o.dst v) (.inRegion ops is :: kr) := by
    intro v; rw [Frame.finish_atR, ho]; rfl
  refine step_lone_go ?_
  rcases hnx with rfl | ⟨rfl, rfl⟩
  · rw [hg, ← hfin]; simp [stepG.apply, hrun]
  · rw [hg, ← hfin]; simp [stepG.apply, hrun]

theorem ops_cons {l : List IOper} {io : IOper} {kr : List Item} (h : KRel P (.ops (io :: l) :: k) kr) : ∃ ops i is kr' o, kr = .inRegion ops (i :: is) :: kr' ∧ ops[i]? = some o ∧ compOper P ops o = some io ∧ KRel P (.ops l :: k) (.inRegion ops is :: kr') := by
  simp only [KRel] at h
  obtain ⟨ops, is, kr', rfl, ⟨hl, hg⟩, hk'⟩ := h
  cases is with
  | nil => simp at hl
  | cons i is =>
    obtain ⟨o, io', h1, h2, h3⟩ := hg 0 i rfl
    simp at h2; subst h2
    refine ⟨ops, i, is, kr', o, rfl, h1, h3, ?_⟩
    simp only [KRel]
    exact ⟨ops, is, kr', rfl, ⟨by simpa using hl, fun j i' hj => by simpa using hg (j + 1) i' (by simpa using hj)⟩, hk'⟩

/-- The guard, if there is one, says yes. -/
def GOk (T : List CV) (g : Option (Nat × Bool)) : Prop := g = none ∨ ∃ s want, g = some (s, want) ∧ T.getD s .un = .bool want

theorem wanted_ok {ops : Array Oper} {o : Oper} {io : IOper} {a : Act} {own : List Own} {imm : Nat → Nat → Option Value} (h : compOper P ops o = some io) (hg : GOk T io.guard) (hT : rels own imm T a.tmps.toList) :
    Region.wanted o (yielded ops a.tmps) = true ∧ o.dst = io.dst ∧ compOp P o.op = some io.op := by
  rcases hg with hg | ⟨s, want, hg, hb⟩
  · exact wanted_none h hg
  · obtain ⟨h1, h2, h3⟩ := wanted_some h hg hT hb
    exact ⟨by rw [h1]; simp, h2, h3⟩

theorem ok_op {io : IOper} {l : List IOper} {c : Cond} {v : CV} (hg : GOk T io.guard) (he : exec io.op T H = some (c, v, H')) (hc : c.holds) (h : Ok P E n0 N Q (.ops l :: k) (put T io.dst v) H') : Ok P E n0 N Q (.ops (io :: l) :: k) T H := by
  intro m w a b cs kr rest hp hd hk
  obtain ⟨ops, i, is, kr', o, rfl, ho, hco, hk'⟩ := ops_cons hk
  obtain ⟨hw, hdst, hop⟩ := wanted_ok hco hg hp.tmps
  obtain ⟨m', w', r, nx, hrun, hnx, hext, hsim, hrel, hown⟩ := comp_sound hop he hc hp
  have hst := step_value (b := b) (cs := cs) (is := is) (kr := kr' ++ rest) ho hw (semAt_plain hop) hrun hnx
  rw [hdst] at hst
  have hlen : n0 ≤ H'.length := by rw [← hsim.len]; exact hext.long (by rw [hp.sim.len]; exact hp.long)
  refine Reach.step (.one hst) hext (h m' w' _ b cs (.inRegion ops is :: kr') rest (pre_put hsim (rels_mono hown hext.imm _ _ hp.tmps) hlen hrel) ?_ hk')
  rw [put_defers]; exact hd.ext hext

theorem wanted_skip {ops : Array Oper} {o : Oper} {io : IOper} {a : Act} {own : List Own} {imm : Nat → Nat → Option Value} {g : Nat} {want : Bool} (h : compOper P ops o = some io) (hg : io.guard = some (g, want)) (hT : rels own imm T a.tmps.toList) (hb : T.getD g .un = .tup []) :
    Region.wanted o (yielded ops a.tmps) = false ∧ o.dst = io.dst := by
  unfold compOper at h
  split at h
  · cases h
  · rename_i i hi
    split at h
    · cases h; simp at hg
    · rename_i j wt hgo
      split at h
      · rename_i d hdst
        cases h
        simp only [Option.some.injEq, Prod.mk.injEq] at hg
        obtain ⟨rfl, rfl⟩ := hg
        refine ⟨?_, rfl⟩
        have hlt : d < T.length := by
          rcases Nat.lt_or_ge d T.length with h1 | h1
          · exact h1
          · rw [List.getD, List.getElem?_eq_none h1] at hb; cases hb
        obtain ⟨u, hu, hr⟩ := rels_get hT (List.getElem?_eq_getElem hlt)
        have e1 : T[d] = .tup [] := by rw [← hb]; simp [List.getD, List.getElem?_eq_getElem hlt]
        rw [e1] at hr; simp only [rel] at hr
        obtain ⟨vs, rfl, _⟩ := hr
        have hu' : a.tmps[d]? = some (.tuple vs) := by simpa using hu
        have : yielded ops a.tmps j = none := by simp only [yielded, hdst, Option.bind_some, hu']
        simp only [Region.wanted, hgo, this]
        rfl
      · cases h

theorem ok_skipop {io : IOper} {g : Nat} {want : Bool} {l : List IOper} (hgd : io.guard = some (g, want)) (hg : T.getD g .un = .bool (!want) ∨ T.getD g .un = .tup []) (h : Ok P E n0 N Q (.ops l :: k) (put T io.dst (.tup [])) H) : Ok P E n0 N Q (.ops (io :: l) :: k) T H := by
  intro m w a b cs kr rest hp hd hk
  obtain ⟨ops, i, is, kr', o, rfl, ho, hco, hk'⟩ := ops_cons hk
  have hwd : Region.wanted o (yielded ops a.tmps) = false ∧ o.dst = io.dst := by
    rcases hg with hg | hg
    · obtain ⟨hw, hdst, hop⟩ := wanted_some hco hgd hp.tmps hg
      exact ⟨by rw [hw]; cases want <;> rfl, hdst⟩
    · exact wanted_skip hco hgd hp.tmps hg
  obtain ⟨hw', hdst⟩ := hwd
  have hst := stepR_op_skip (P := P) (b := b) (a := a) (k := kr' ++ rest) (cs := cs) (w := w) (ops := ops) (i := i) (rest := is) (by simp [ho, hw'])
  simp only [ho, Option.bind_some] at hst
  rw [hdst] at hst
  exact Reach.one hst (h m w _ b cs (.inRegion ops is :: kr') rest (pre_put hp.sim hp.tmps hp.long (by simp [rel, rels, undef])) (by rw [put_defers]; exact hd) hk')

/-! ### Calls -/

theorem step_call {ops : Array Oper} {i : Nat} {is : List Nat} {o : Oper} {a : Act} {kr : List Item} {f : Nat} {vs : Array Value} {R : Ending → World → Prop} (ho : ops[i]? = some o) (hw : Region.wanted o (yielded ops a.tmps) = true) (hsem : o.semAt b.roundOf a.eval = execOp a.eval o) (hrun : (execOp a.eval o).run P w = .ok (.enter f vs) w)
    (hcall : CallsIn (WF none) 0 P f vs w R) (hR : ∀ e w', R e w' → ∃ r, e = .returned r) : ∃ r w', R (.returned r) w' ∧ Steps P (lone (b.atR a (.inRegion ops (i :: is) :: kr)) cs w) (lone (b.atR (a.put o.dst r) (.inRegion ops is :: kr)) cs w') := by
  have hg := stepGR_op (P := P) (b := b) (k := kr) (cs := cs) (w := w) (rest := is) ho hw
  rw [hsem] at hg
  have hfin : ∀ v, (b.atR a (.inRegion ops (i :: is) :: kr)).finish v = b.atR (a.put o.dst v) (.inRegion ops is :: kr) := by
    intro v; rw [Frame.finish_atR, ho]; rfl
  obtain ⟨e, w'', fr, hRe, hsteps, hfn, hleave⟩ := hcall.2 (b.atR a (.inRegion ops (i :: is) :: kr) :: cs) (room_WF _ _)
  have henter : Go.step P (lone (b.atR a (.inRegion ops (i :: is) :: kr)) cs w) = .next (lone (Frame.enter P f vs .normal) (b.atR a (.inRegion ops (i :: is) :: kr) :: cs) w) :=
    step_lone_go (by rw [hg]; simp [stepG.apply, hrun, Frame.atR])
  obtain ⟨r, rfl⟩ := hR e w'' hRe
  refine ⟨r, w'', hRe, .head henter (Steps.trans (StepsIn.steps hsteps) (.one ?_))⟩
  rw [← hfin]; exact step_leave_returned hleave

theorem ok_callgen {io : IOper} {l : List IOper} {f : Nat} {args : List CV} {R : CV → List CObj → Prop} (hg : GOk T io.guard) (hcall : CallsC P E f args H R) (h : ∀ v H', R v H' → Ok P E n0 N Q (.ops l :: k) (put T io.dst v) H')
    (hrun : ∀ (m : Bk) (w : World) (a : Act) (o : Oper), Pre E n0 m H w T a → compOp P o.op = some io.op → ∃ vs : Array Value, (execOp a.eval o).run P w = .ok (.enter f vs) w ∧ rels m.own m.imm args vs.toList) : Ok P E n0 N Q (.ops (io :: l) :: k) T H := by
  intro m w a b cs kr rest hp hd hk
  obtain ⟨ops, i, is, kr', o, rfl, ho, hco, hk'⟩ := ops_cons hk
  obtain ⟨hw, hdst, hop⟩ := wanted_ok hco hg hp.tmps
  obtain ⟨vs, hr1, hvs⟩ := hrun m w a o hp hop
  obtain ⟨r, w', ⟨r', m', v, H', hre, hext, hsim, hrel, hRv⟩, hsteps⟩ := step_call (b := b) (cs := cs) (is := is) (kr := kr' ++ rest) ho hw (semAt_plain hop) hr1 (hcall m w vs hp.sim hvs) (fun e w' ⟨r, _, _, _, h, _⟩ => ⟨r, h⟩)
  cases hre
  rw [hdst] at hsteps
  have hown : ownLe m.own m'.own := fun j x hj => hext.base j x (by rw [← hp.sim.len]; exact (List.getElem?_eq_some_iff.1 hj).1) hj
  have hext' : Ext n0 m H w m' H' w' := { hext with base := fun j x hj hx => hown j x hx, long := fun h => Nat.le_trans (by rw [← hp.sim.len] at *; exact Nat.le_trans (by have := hp.long; rw [← hp.sim.len] at this; exact this) (Nat.le_refl _)) (hext.long (by rw [hp.sim.len]; exact Nat.le_refl _)) }
  have hlen : n0 ≤ H'.length := by rw [← hsim.len]; exact hext'.long (by rw [hp.sim.len]; exact hp.long)
  refine Reach.step hsteps hext' (h v H' hRv m' w' _ b cs (.inRegion ops is :: kr') rest (pre_put hsim (rels_mono hown hext.imm _ _ hp.tmps) hlen hrel) ?_ hk')
  rw [put_defers]; exact hd.ext hext'

theorem run_callFunc {f : Nat} {fn : Func} {vs : Array Value} (hf : P.funcs[f]? = some fn) (hb : fn.body.isSome = true) (hn : fn.name ≠ "runtime.NumGoroutine") : (callFunc f vs).run P w = .ok (.enter f vs) w := by
  have hn' : (fn.name == "runtime.NumGoroutine") = false := by simpa using hn
  have hb' : fn.body.isNone = false := by cases h : fn.body <;> simp_all
  simp only [callFunc, Sem.run_bind, run_program, Result.andThen_ok, hf, hn', hb', Bool.false_eq_true, if_false, Sem.run_pure]

theorem invo_call {op : Op} {f : Nat} {as : List IArg} (h : compOp P op = some (.call f as)) : ∃ cl fn, op = .call cl ∧ cl.callee = .value (.func f) ∧ P.funcs[f]? = some fn ∧ fn.body.isSome = true ∧ fn.name ≠ "runtime.NumGoroutine" ∧ argsOf cl.args.toList = some as := by
  unfold compOp at h
  split at h
  all_goals (repeat' split at h)
  all_goals first
    | (cases h; done)
    | (obtain ⟨_, _, h9⟩ := optmap h; cases h9; done)
    | skip
  obtain ⟨as', h8, h9⟩ := optmap h
  cases h9
  have hcond := ‹(Option.isSome _ && _) = true›
  simp only [Bool.and_eq_true, bne_iff_ne, ne_eq] at hcond
  exact ⟨_, _, rfl, ‹_›, ‹_›, hcond.1, hcond.2, h8⟩

theorem invo_callv {op : Op} {x : IArg} {as : List IArg} (h : compOp P op = some (.callv x as)) : ∃ cl xo, op = .call cl ∧ cl.callee = .value xo ∧ argOf xo = some x ∧ argsOf cl.args.toList = some as := by
  unfold compOp at h
  split at h
  all_goals (repeat' split at h)
  all_goals first
    | (cases h; done)
    | (obtain ⟨_, _, h9⟩ := optmap h; cases h9; done)
    | skip
  cases h
  exact ⟨_, _, rfl, ‹_›, ‹_›, ‹_›⟩

theorem ok_call {d : Option Nat} {g : Option (Nat × Bool)} {f : Nat} {as : List IArg} {l : List IOper} {R : CV → List CObj → Prop} (hg : GOk T g) (hcall : CallsC P E f (as.map (aget T)) H R) (h : ∀ v H', R v H' → Ok P E n0 N Q (.ops l :: k) (put T d v) H') : Ok P E n0 N Q (.ops (⟨d, .call f as, g⟩ :: l) :: k) T H := by
  refine ok_callgen (io := ⟨d, .call f as, g⟩) hg hcall h (fun m w a o hp hop => ?_)
  obtain ⟨cl, fn, ho, hcal, hfn, hb, hn, has⟩ := invo_call hop
  refine ⟨cl.args.map a.eval, ?_, by simpa using args_rel hp.tmps has⟩
  simp only [execOp, ho, resolve, hcal, Act.eval, Deferred.ofValue, Sem.run_bind, Sem.run_pure, Result.andThen_ok, invoke]
  simpa using run_callFunc (vs := cl.args.map a.eval) hfn hb hn

/-- A call of a function value. -/
theorem ok_callv {d : Option Nat} {g : Option (Nat × Bool)} {x : IArg} {f : Nat} {l1 l2 : List CV} {as : List IArg} {l : List IOper} {R : CV → List CObj → Prop} {fn : Func} (hg : GOk T g) (hx : aget T x = .fn f l1 l2) (hfn : P.funcs[f]? = some fn) (hb : fn.body.isSome = true) (hn : fn.name ≠ "runtime.NumGoroutine")
    (hcall : CallsC P E f (l1 ++ as.map (aget T) ++ l2) H R) (h : ∀ v H', R v H' → Ok P E n0 N Q (.ops l :: k) (put T d v) H') : Ok P E n0 N Q (.ops (⟨d, .callv x as, g⟩ :: l) :: k) T H := by
  refine ok_callgen (io := ⟨d, .callv x as, g⟩) hg hcall h (fun m w a o hp hop => ?_)
  obtain ⟨cl, xo, ho, hcal, hxo, has⟩ := invo_callv hop
  have hr := arg_rel (a := a) hp.tmps hxo
  rw [hx] at hr; simp only [rel] at hr
  obtain ⟨v1, v2, hv, hr1, hr2⟩ := hr
  refine ⟨v1 ++ cl.args.map a.eval ++ v2, ?_, by simpa using rels_append hr1 (rels_append (args_rel hp.tmps has) hr2)⟩
  simp only [execOp, ho, resolve, hcal, hv, Deferred.ofValue, Sem.run_bind, Sem.run_pure, Result.andThen_ok, invoke]
  exact run_callFunc hfn hb hn

end
end Go.Cm
end

section
namespace Go.Cm

section
variable {P : Program} {E : Env} {n0 : Nat} {N : Fr} {Q : Exit → List CV → List CObj → Prop} {b : Frame} {rest : List Item} {cs : List Frame} {m m' : Bk} {H H' : List CObj} {w w' : World} {T : List CV} {k : List KItem}

/-! ### Exits -/

def xexit (id : Nat) : List KItem → Option (List KItem)
  | [] => none
  | .blk id' :: k => if id' = id then some k else xexit id k
  | .code _ :: k => xexit id k
  | .ops _ :: k => xexit id k

theorem exitTo_krel {id : Nat} {rest : List Item} : ∀ (k : List KItem) (kr : List Item), KRel P k kr →
    match xexit id k with
    | some k' => ∃ kr', KRel P k' kr' ∧ exitTo id (kr ++ rest) = some (kr' ++ rest)
    | none => exitTo id (kr ++ rest) = exitTo id rest
  | [], kr, h => by simp only [KRel] at h; subst h; simp [xexit]
  | .blk id' :: k, kr, h => by
    simp only [KRel] at h
    obtain ⟨kr', rfl, hk⟩ := h
    simp only [xexit]
    by_cases he : id' = id
    · subst he; simp only [if_true]; exact ⟨kr', hk, by simp [exitTo]⟩
    · have := exitTo_krel (id := id) (rest := rest) k kr' hk
      have e2 : exitTo id (.inBlock id' :: kr' ++ rest) = exitTo id (kr' ++ rest) := by simp [exitTo, he]
      rw [if_neg he, e2]
      exact this
  | .code _ :: k, kr, h => by
    simp only [KRel] at h
    obtain ⟨c', kr', rfl, _, hk⟩ := h
    have := exitTo_krel (id := id) (rest := rest) k kr' hk
    have e2 : exitTo id (.code c' :: kr' ++ rest) = exitTo id (kr' ++ rest) := by simp [exitTo]
    simp only [xexit]; rw [e2]; exact this
  | .ops _ :: k, kr, h => by
    simp only [KRel] at h
    obtain ⟨ops, is, kr', rfl, _, hk⟩ := h
    have := exitTo_krel (id := id) (rest := rest) k kr' hk
    have e2 : exitTo id (.inRegion ops is :: kr' ++ rest) = exitTo id (kr' ++ rest) := by simp [exitTo]
    simp only [xexit]; rw [e2]; exact this

theorem ok_exit {id : Nat} (h : match xexit id k with | some k' => Ok P E n0 N Q k' T H | none => Q (.exit id) T H) : Ok P E n0 N Q (.code (.exit id) :: k) T H := by
  intro m w a b cs kr rest hp hd hk
  simp only [KRel] at hk
  obtain ⟨c', kr', rfl, hc, hk'⟩ := hk
  obtain rfl := inv_exit hc
  have hx := exitTo_krel (id := id) (rest := rest) k kr' hk'
  cases hxe : xexit id k with
  | some k' =>
    rw [hxe] at h hx
    obtain ⟨kr2, hk2, he⟩ := hx
    exact Reach.one (stepR_exit he) (h m w a b cs kr2 rest hp hd hk2)
  | none =>
    rw [hxe] at h hx
    simp only at hx
    refine ⟨.exit id, a, w, m, T, H, Ext.refl _ _ _ _, hp, hd, h, fun k' hk' => .one (fenced_WF _ _ _) (stepR_exit (k := kr' ++ rest) (hx.trans hk')), fun _ hn => ⟨kr' ++ rest, hx.trans hn, .refl _⟩⟩

/-! ### Loops -/

/-- How a round of a loop ends. -/
def loopQ (P : Program) (E : Env) (n0 : Nat) (N : Fr) (Q : Exit → List CV → List CObj → Prop) (k : List KItem) (I : List CV → List CObj → Prop) : Exit → List CV → List CObj → Prop
  | .normal, T, H => I T H
  | .exit id, T, H => match xexit id k with
    | some k' => Ok P E n0 N Q k' T H
    | none => Q (.exit id) T H
  | .ret, T, H => Q .ret T H
  | _, _, _ => False

theorem ok_loop {x : ICode} {σ : Type} (I : σ → List CV → List CObj → Prop) (μ : σ → Nat) (s0 : σ) (h0 : I s0 T H) (hb : ∀ s T H, I s T H → Ok P E n0 N (loopQ P E n0 N Q k fun T' H' => ∃ s', I s' T' H' ∧ μ s' < μ s) [.code x] T H) : Ok P E n0 N Q (.code (.loop x) :: k) T H := by
  intro m w a b cs kr rest hp hd hk
  simp only [KRel] at hk
  obtain ⟨c', kr', rfl, hc, hk'⟩ := hk
  obtain ⟨c1, rfl, h1⟩ := inv_loop hc
  refine Reach.one stepR_loop ?_
  have key : ∀ j s T H m w a, μ s = j → I s T H → Pre E n0 m H w T a → DefOk N b m H w a.defers → Reach P E n0 N Q b rest cs m H w (lone (b.atR a (.code c1 :: .inLoop c1 :: (kr' ++ rest))) cs w) := by
    intro j
    induction j using Nat.strongRecOn with
    | _ j ih =>
      intro s T H m w a hj hI hp hd
      have hkr : KRel P [.code x] [.code c1] := by simp only [KRel]; exact ⟨c1, [], rfl, h1, rfl⟩
      obtain ⟨e, a', w', m', T', H', hext, hp', hd', hq, harr⟩ := hb s T H hI m w a b cs [.code c1] (.inLoop c1 :: (kr' ++ rest)) hp hd hkr
      cases e with
      | normal =>
        simp only [loopQ] at hq
        obtain ⟨s', hI', hlt⟩ := hq
        have := ih (μ s') (by omega) s' T' H' m' w' a' rfl hI' hp' hd'
        refine Reach.step (StepsIn.steps harr) hext (Reach.one stepR_inLoop this)
      | exit id =>
        simp only [loopQ] at hq
        have e1 : exitTo id (.inLoop c1 :: (kr' ++ rest)) = exitTo id (kr' ++ rest) := by simp [exitTo]
        have hx := exitTo_krel (id := id) (rest := rest) k kr' hk'
        cases hxe : xexit id k with
        | some k' =>
          rw [hxe] at hq hx
          obtain ⟨kr2, hk2, he⟩ := hx
          exact Reach.step (StepsIn.steps (harr.1 _ (e1.trans he))) hext (hq m' w' a' b cs kr2 rest hp' hd' hk2)
        | none =>
          rw [hxe] at hq hx
          simp only at hx
          refine ⟨.exit id, a', w', m', T', H', hext, hp', hd', hq, fun k' hk' => harr.1 k' (by rw [e1, hx]; exact hk'), fun hr hn => ?_⟩
          exact harr.2 hr (by rw [e1, hx]; exact hn)
      | ret => exact ⟨.ret, a', w', m', T', H', hext, hp', hd', hq, harr⟩
      | goto l => exact hq.elim
      | panic ch => exact hq.elim
      | outgrown => exact hq.elim
  have := key _ s0 T H m w a rfl h0 hp hd
  simpa using this

/-! ### Functions -/

/-- The results of a function, off its slots and its variables. -/
def resOne (T : List CV) (H : List CObj) : RVar → Option (Cond × CV)
  | .tmp t => some (.tt, T.getD t .un)
  | .cell ag n t => match exec (.load ag n (.s t)) T H with
    | some (c, v, _) => some (c, v)
    | none => none

def resAll (T : List CV) (H : List CObj) : List RVar → Option (Cond × List CV)
  | [] => some (.tt, [])
  | x :: l => match resOne T H x, resAll T H l with
    | some (c, v), some (c', vs) => some (.and c c', v :: vs)
    | _, _ => none

/-- What becomes of the results. -/
def resK (r : Option (Cond × List CV)) (R : CV → List CObj → Prop) (H : List CObj) : Prop :=
  match r with
  | some (c, [v]) => c.holds ∧ R v H
  | some (c, vs) => c.holds ∧ R (.tup vs) H
  | none => False

/-- What is asked where a function's body ends. -/
def retQ (ts : List RVar) (R : CV → List CObj → Prop) : Exit → List CV → List CObj → Prop
  | .normal, T, H => resK (resAll T H ts) R H
  | .ret, T, H => resK (resAll T H ts) R H
  | _, _, _ => False

theorem runOne {x : ResultVar} {a : Act} {rv : RVar} {c : Cond} {v : CV} (hx : (∃ t, x = .tmp t ∧ rv = .tmp t) ∨ (∃ s t ag n, x = .cell s t ∧ rv = .cell ag n s ∧ aggOf P t = some ag ∧ szOf P t = some n)) (hp : Pre E n0 m H w T a) (h : resOne T H rv = some (c, v)) (hc : c.holds) :
    ∃ r, rel m.own m.imm v r ∧ (match x with | .tmp t => (pure (a.tmps.getD t undef) : Sem Value) | .cell s t => do loadVar t (← asAddr (a.tmps.getD s undef))).run P w = .ok r w := by
  rcases hx with ⟨t, rfl, rfl⟩ | ⟨s, t, ag, n, rfl, rfl, hag, hn⟩
  · simp only [resOne, Option.some.injEq, Prod.mk.injEq] at h
    obtain ⟨rfl, rfl⟩ := h
    exact ⟨_, getD_rel hp.tmps t, rfl⟩
  · simp only [resOne] at h
    split at h
    · rename_i c' v' H' he
      simp only [Option.some.injEq, Prod.mk.injEq] at h
      obtain ⟨rfl, rfl⟩ := h
      obtain ⟨rfl, ad, r, hv, hr, hrel⟩ := load_val (x := .tmp s) (i := .s s) hag hn rfl he hc hp
      have hv' : a.tmps.getD s undef = .pointer (some ad) := hv
      exact ⟨r, hrel, by simp only [Sem.run_bind, hv', asAddr, Sem.run_pure, Result.andThen_ok, hr]⟩
    · cases h

theorem run_results {fn : Func} {ts : List RVar} {a : Act} {R : CV → List CObj → Prop} (hr : resTmps P fn.results.toList = some ts) (hp : Pre E n0 m H w T a) (hk : resK (resAll T H ts) R H) : ∃ v cv, (results fn a.tmps).run P w = .ok v w ∧ rel m.own m.imm cv v ∧ R cv H := by
  have key : ∀ (l : List ResultVar) (ts : List RVar) (c : Cond) (vs : List CV), resTmps P l = some ts → resAll T H ts = some (c, vs) → c.holds → ∃ rs, rels m.own m.imm vs rs ∧ rs.length = l.length ∧
      (l.mapM (fun (x : ResultVar) => match x with | .tmp t => (pure (a.tmps.getD t undef) : Sem Value) | .cell s t => do loadVar t (← asAddr (a.tmps.getD s undef)))).run P w = .ok rs w := by
    intro l
    induction l with
    | nil =>
      intro ts c vs h h' _
      simp [resTmps] at h; subst h
      simp [resAll] at h'
      obtain ⟨_, rfl⟩ := h'
      exact ⟨[], by simp [rels], rfl, by simp⟩
    | cons x l ih =>
      intro ts c vs h h' hc
      have step : ∀ rv ts', ts = rv :: ts' → resTmps P l = some ts' → ((∃ t, x = .tmp t ∧ rv = .tmp t) ∨ (∃ s t ag n, x = .cell s t ∧ rv = .cell ag n s ∧ aggOf P t = some ag ∧ szOf P t = some n)) → ∃ rs, rels m.own m.imm vs rs ∧ rs.length = (x :: l).length ∧
          ((x :: l).mapM (fun (x : ResultVar) => match x with | .tmp t => (pure (a.tmps.getD t undef) : Sem Value) | .cell s t => do loadVar t (← asAddr (a.tmps.getD s undef)))).run P w = .ok rs w := by
        intro rv ts' hts hl hx
        subst hts
        simp only [resAll] at h'
        split at h'
        · rename_i c1 v1 c2 vs2 h1 h2
          simp only [Option.some.injEq, Prod.mk.injEq] at h'
          obtain ⟨rfl, rfl⟩ := h'
          obtain ⟨r, hr1, hr2⟩ := runOne hx hp h1 hc.1
          obtain ⟨rs, hrs, hlen, hrun⟩ := ih ts' c2 vs2 hl h2 hc.2
          refine ⟨r :: rs, by simp only [rels]; exact ⟨r, rs, rfl, hr1, hrs⟩, by simp [hlen], ?_⟩
          simp only [List.mapM_cons, Sem.run_bind]
          erw [hr2]
          simp only [Result.andThen_ok]
          erw [hrun]
          simp only [Result.andThen_ok, Sem.run_pure]
        · cases h'
      cases x with
      | tmp t =>
        simp only [resTmps] at h
        split at h
        · rename_i ts' h1
          cases h
          exact step _ ts' rfl h1 (.inl ⟨t, rfl, rfl⟩)
        · cases h
      | cell s t =>
        simp only [resTmps] at h
        split at h
        · rename_i ag n ts' h1 h2 h3
          cases h
          exact step _ ts' rfl h3 (.inr ⟨s, t, ag, n, rfl, rfl, h1, h2⟩)
        · cases h
  unfold resK at hk
  cases hra : resAll T H ts with
  | none => simp [hra] at hk
  | some p =>
    obtain ⟨c, vs⟩ := p
    rw [hra] at hk
    have hc : c.holds := by
      cases vs with
      | nil => exact hk.1
      | cons v vs => cases vs with
        | nil => exact hk.1
        | cons _ _ => exact hk.1
    obtain ⟨rs, hrs, hlen, hrun⟩ := key fn.results.toList ts c vs hr hra hc
    have hl := rels_length hrs
    have hfin : (results fn a.tmps).run P w = .ok (if h : rs.toArray.size = 1 then rs.toArray[0] else .tuple rs.toArray) w := by
      have e : fn.results = fn.results.toList.toArray := by simp
      unfold results
      rw [e, List.mapM_toArray]
      simp only [Sem.run_bind, Sem.run_map]
      erw [hrun]
      simp only [Result.andThen_ok, Sem.run_pure]
    rcases vs with _ | ⟨v, _ | ⟨v', vs⟩⟩
    · refine ⟨_, .tup [], hfin, ?_, hk.2⟩
      obtain rfl : rs = [] := List.eq_nil_of_length_eq_zero (by simpa using hl.symm)
      simp [rel, rels]
    · refine ⟨_, v, hfin, ?_, hk.2⟩
      simp only [rels] at hrs
      obtain ⟨r, rs', rfl, hr1, rfl⟩ := hrs
      simpa using hr1
    · refine ⟨_, .tup (v :: v' :: vs), hfin, ?_, hk.2⟩
      rw [dif_neg (by simp at hl ⊢; omega)]
      simp only [rel]
      exact ⟨_, rfl, by simpa using hrs⟩

theorem Sim.putDef {D : Nat} {ob x : Obj} (hs : Sim E m H w) (hD : w.heap[D]? = some x) (hx : ∀ c e f, x ≠ .cells c e f) (hn : ¬ owned m H D) : Sim E m H (w.putObj D ob) := by
  have hother : ∀ B, B ≠ D → (w.putObj D ob).heap[B]? = w.heap[B]? := fun B hB => World.putObj_heap_other hB
  refine ⟨hs.len, fun k o x1 hk hx1 => ?_, fun B i v hv => ?_, hs.one, hs.sep, hs.ro, fun k s b hk => ?_, hs.extsep, fun B hB => by rw [World.putObj_size]; exact hs.extlt B hB⟩
  · exact objRel_mono (ownLe.refl _) (immLe.refl _) (fun ha => hother _ fun e => hn (.inr ⟨k, o, x1, hk, ha, hx1, e⟩)) (hs.obj k o x1 hk hx1)
  · have h1 := hs.imm B i v hv
    by_cases hB : B = D
    · subst hB
      simp only [World.cell?, hD] at h1
      cases x <;> simp at h1
      exact absurd rfl (hx _ _ _)
    · exact (cell?_congr (hother B hB)).trans h1
  · refine E.stable _ _ _ _ _ _ _ (hs.ext k s b hk) (fun B hB => hother B fun e => hn (.inl (e ▸ hB))) (by rw [World.putObj_size]; exact Nat.le_refl _) (immLe.refl _) (fun B i v h => .inl h) (fun B i v hv => ?_) hs.one
    have h1 := hs.imm B i v hv
    by_cases hB : B = D
    · subst hB
      simp only [World.cell?, hD] at h1
      cases x <;> simp at h1
      exact absurd rfl (hx _ _ _)
    · exact (cell?_congr (hother B hB)).trans h1

/-- THE RULE FOR A FUNCTION. -/
theorem callsC_of {f : Nat} {F : IFunc} {args : List CV} {R : CV → List CObj → Prop} (hF : compFn P f = some F) (h : ∀ n, Ok P E H.length ⟨n, false⟩ (retQ F.results R) [.code F.body] (args ++ List.replicate (F.ntmps - args.length) .un) H) : CallsC P E f args H R := by
  intro m w vs hs hvs
  unfold compFn at hF
  split at hF
  · rename_i fn hfn
    split at hF
    · rename_i c hb
      split at hF
      · rename_i ic ts hic hts
        cases hF
        have hlen := rels_length hvs
        have hT : rels m.own m.imm (args ++ List.replicate (fn.ntmps - args.length) .un) (vs ++ Array.replicate (fn.ntmps - vs.size) undef).toList := by
          simp only [Array.toList_append, Array.toList_replicate]
          refine rels_append hvs ?_
          rw [rels_iff]
          refine ⟨by simp at hlen ⊢; omega, fun i c v hc hv => ?_⟩
          have : c = .un := by have := List.mem_of_getElem? hc; exact (List.mem_replicate.1 this).2
          subst this; simp [rel]
        refine callsIn_of_wp_marks hfn hb trivial (fun b k cs hro _ _ => ?_)
        have hkr : KRel P [.code ic] [.code c] := by simp only [KRel]; exact ⟨c, [], rfl, hic, rfl⟩
        obtain ⟨e, a', w', m', T', H', hext, hp', hd', hq, harr⟩ := h w.heap.size m w { tmps := vs ++ Array.replicate (fn.ntmps - vs.size) undef, defers := [] } b cs [.code c] k ⟨hs, hT, Nat.le_refl _⟩ (DefOk.nil _ _ (fun _ => hro) _ _ _ (Nat.le_refl _)) hkr
        have fin : resK (resAll T' H' ts) R H' → LeavesInM (WF none) 0 P fn a'.tmps (fun e w'' => ∃ r m' v H', e = .returned r ∧ Ext H.length m H w m' H' w'' ∧ Sim E m' H' w'' ∧ rel m'.own m'.imm v r ∧ R v H') a'.defers .returning w' := by
          intro hR
          obtain ⟨_, _, Ds, hds, hnd, hD⟩ := hd'
          rw [hds]
          have key : ∀ (Ds : List Nat) (w1 : World), Ds.Nodup → (∀ D ∈ Ds, w.heap.size ≤ D ∧ w1.heap[D]? = some (.deferred (some [])) ∧ ¬ owned m' H' D) → Ext H.length m H w m' H' w1 → Sim E m' H' w1 →
              LeavesInM (WF none) 0 P fn a'.tmps (fun e w'' => ∃ r m' v H', e = .returned r ∧ Ext H.length m H w m' H' w'' ∧ Sim E m' H' w'' ∧ rel m'.own m'.imm v r ∧ R v H') (Ds.map fun D => { target := .collected D, args := #[] }) .returning w1 := by
            intro Ds
            induction Ds with
            | nil =>
              intro w1 _ _ he hs1
              obtain ⟨v, cv, hrun, hv, hRv⟩ := run_results (P := P) hts ⟨hs1, hp'.tmps, hp'.long⟩ hR
              exact ⟨v, hrun, v, m', cv, H', rfl, he, hs1, hv, hRv⟩
            | cons D Ds ih =>
              intro w1 hn hD he hs1
              obtain ⟨hD1, hD2, hD3⟩ := hD D (by simp)
              refine ⟨by simp, .inl ⟨D, w1.putObj D (.deferred none), rfl, run_takeDeferred hD2, ?_⟩⟩
              have hnd := (List.nodup_cons.1 hn)
              refine ih _ hnd.2 (fun D' hD' => ?_) ?_ (hs1.putDef hD2 (by intro c e f h; cases h) hD3)
              · obtain ⟨a1, a2, a3⟩ := hD D' (by simp [hD'])
                exact ⟨a1, (World.putObj_heap_other (by rintro rfl; exact hnd.1 hD')).trans a2, a3⟩
              · exact { he with size := by rw [World.putObj_size]; exact he.size, frame := fun B hB ho => (World.putObj_heap_other (by omega)).trans (he.frame B hB ho), same := he.same }
          exact key Ds w' hnd hD hext hp'.sim
        cases e with
        | normal => exact ⟨.normal, a', w', fin hq, harr⟩
        | ret => exact ⟨.ret, a', w', fin hq, harr⟩
        | exit id => exact hq.elim
        | goto l => exact hq.elim
        | panic ch => exact hq.elim
        | outgrown => exact hq.elim
      · cases hF
    · cases hF
  · cases hF

end
end Go.Cm
end

section
namespace Go.Cm

theorem xexit_size {id : Nat} : ∀ (k k' : List KItem), xexit id k = some k' → ksize k' ≤ ksize k
  | [], _, h => by simp [xexit] at h
  | .blk id' :: k, k', h => by
    simp only [xexit] at h
    split at h
    · cases h; simp [ksize, KItem.size]
    · have := xexit_size k k' h; simp [ksize, KItem.size]; omega
  | .code _ :: k, k', h => by
    simp only [xexit] at h
    have := xexit_size k k' h; simp only [ksize, KItem.size]; omega
  | .ops _ :: k, k', h => by
    simp only [xexit] at h
    have := xexit_size k k' h; simp only [ksize, KItem.size]; omega

section
variable (P : Program) (E : Env) (n0 : Nat) (N : Fr) (Q : Exit → List CV → List CObj → Prop)

/-- What is to be shown that a stack may run. What the walk does not enter stays as it is. -/
def vrun (k : List KItem) (T : List CV) (H : List CObj) : Prop :=
  match k with
  | [] => Q .normal T H
  | .blk _ :: k => vrun k T H
  | .ops [] :: k => vrun k T H
  | .ops (⟨d, op, none⟩ :: l) :: k => match exec op T H with
    | some (c, v, H') => c.holds ∧ vrun (.ops l :: k) (put T d v) H'
    | none => Ok P E n0 N Q (.ops (⟨d, op, none⟩ :: l) :: k) T H
  | .ops (⟨d, op, some (s, want)⟩ :: l) :: k => match T.getD s .un with
    | .bool t => (t = want → match exec op T H with
        | some (c, v, H') => c.holds ∧ vrun (.ops l :: k) (put T d v) H'
        | none => Ok P E n0 N Q (.ops (⟨d, op, some (s, want)⟩ :: l) :: k) T H) ∧ (t = (!want) → vrun (.ops l :: k) (put T d (.tup [])) H)
    | .tup [] => vrun (.ops l :: k) (put T d (.tup [])) H
    | _ => False
  | .code .skip :: k => vrun k T H
  | .code (.seq a b) :: k => vrun (.code a :: .code b :: k) T H
  | .code (.block id a) :: k => vrun (.code a :: .blk id :: k) T H
  | .code (.cond i a b) :: k => match aget T i with
    | .bool t => (t = true → vrun (.code a :: k) T H) ∧ (t = false → vrun (.code b :: k) T H)
    | _ => False
  | .code .ret :: _ => Q .ret T H
  | .code (.exit id) :: k => match _h : xexit id k with
    | some k' => vrun k' T H
    | none => Q (.exit id) T H
  | .code (.reg l) :: k => vrun (.ops l :: k) T H
  | .code (.dreg l es) :: k => Ok P E n0 N Q (.code (.dreg l es) :: k) T H
  | .code (.loop a) :: k => Ok P E n0 N Q (.code (.loop a) :: k) T H
  | .code (.rfunc f ps a b) :: k => Ok P E n0 N Q (.code (.rfunc f ps a b) :: k) T H
termination_by ksize k
decreasing_by
  all_goals simp only [ksize, KItem.size, ICode.size, List.length_cons]
  all_goals first
    | omega
    | (have := xexit_size _ _ ‹_›; omega)

/-- The same, before the code is unfolded. -/
def vrun0 (k : List KItem) (T : List CV) (H : List CObj) : Prop := vrun P E n0 N Q k T H

/-- One operation, run. -/
def vres (r : Option (Cond × CV × List CObj)) (d : Option Nat) (op : IOp) (g : Option (Nat × Bool)) (l : List IOper) (k : List KItem) (T : List CV) (H : List CObj) : Prop :=
  match r with
  | some (c, v, H') => c.holds ∧ vrun P E n0 N Q (.ops l :: k) (put T d v) H'
  | none => Ok P E n0 N Q (.ops (⟨d, op, g⟩ :: l) :: k) T H

def vcond (v : CV) (p q : Prop) : Prop :=
  match v with
  | .bool t => (t = true → p) ∧ (t = false → q)
  | _ => False

def vguard (v : CV) (want : Bool) (p q : Prop) : Prop :=
  match v with
  | .bool t => (t = want → p) ∧ (t = (!want) → q)
  | .tup [] => q
  | _ => False

def vexit (r : Option (List KItem)) (id : Nat) (T : List CV) (H : List CObj) : Prop :=
  match r with
  | some k' => vrun P E n0 N Q k' T H
  | none => Q (.exit id) T H

end

section
variable {P : Program} {E : Env} {n0 : Nat} {N : Fr} {Q Q' : Exit → List CV → List CObj → Prop} {b : Frame} {rest : List Item} {cs : List Frame} {m m' : Bk} {H H' : List CObj} {w w' : World} {T T' : List CV} {k : List KItem}

theorem v_nil : vrun P E n0 N Q [] T H = Q .normal T H := by rw [vrun]
theorem v_blk {id : Nat} : vrun P E n0 N Q (.blk id :: k) T H = vrun P E n0 N Q k T H := by rw [vrun]
theorem v_ops_nil : vrun P E n0 N Q (.ops [] :: k) T H = vrun P E n0 N Q k T H := by rw [vrun]
theorem v_op {d : Option Nat} {op : IOp} {l : List IOper} : vrun P E n0 N Q (.ops (⟨d, op, none⟩ :: l) :: k) T H = vres P E n0 N Q (exec op T H) d op none l k T H := by rw [vrun]; rfl
theorem v_gop {d : Option Nat} {op : IOp} {l : List IOper} {s : Nat} {want : Bool} : vrun P E n0 N Q (.ops (⟨d, op, some (s, want)⟩ :: l) :: k) T H = vguard (T.getD s .un) want (vres P E n0 N Q (exec op T H) d op (some (s, want)) l k T H) (vrun P E n0 N Q (.ops l :: k) (put T d (.tup [])) H) := by
  rw [vrun]; rfl
theorem v_skip : vrun P E n0 N Q (.code .skip :: k) T H = vrun P E n0 N Q k T H := by rw [vrun]
theorem v_seq {x y : ICode} : vrun P E n0 N Q (.code (.seq x y) :: k) T H = vrun P E n0 N Q (.code x :: .code y :: k) T H := by rw [vrun]
theorem v_block {id : Nat} {x : ICode} : vrun P E n0 N Q (.code (.block id x) :: k) T H = vrun P E n0 N Q (.code x :: .blk id :: k) T H := by rw [vrun]
theorem v_cond {i : IArg} {x y : ICode} : vrun P E n0 N Q (.code (.cond i x y) :: k) T H = vcond (aget T i) (vrun P E n0 N Q (.code x :: k) T H) (vrun P E n0 N Q (.code y :: k) T H) := by rw [vrun]; rfl
theorem v_ret : vrun P E n0 N Q (.code .ret :: k) T H = Q .ret T H := by rw [vrun]
theorem v_exit {id : Nat} : vrun P E n0 N Q (.code (.exit id) :: k) T H = vexit P E n0 N Q (xexit id k) id T H := by
  rw [vrun]; unfold vexit; split <;> simp_all
theorem v_reg {l : List IOper} : vrun P E n0 N Q (.code (.reg l) :: k) T H = vrun P E n0 N Q (.ops l :: k) T H := by rw [vrun]
theorem v_loop {a : ICode} : vrun P E n0 N Q (.code (.loop a) :: k) T H = Ok P E n0 N Q (.code (.loop a) :: k) T H := by rw [vrun]
theorem v_dreg {l : List IOper} {es : List (List Nat)} : vrun P E n0 N Q (.code (.dreg l es) :: k) T H = Ok P E n0 N Q (.code (.dreg l es) :: k) T H := by rw [vrun]
theorem v_rfunc {f : IArg} {ps : List Nat} {x y : ICode} : vrun P E n0 N Q (.code (.rfunc f ps x y) :: k) T H = Ok P E n0 N Q (.code (.rfunc f ps x y) :: k) T H := by rw [vrun]

theorem vres_some {c : Cond} {v : CV} {d : Option Nat} {op : IOp} {g : Option (Nat × Bool)} {l : List IOper} : vres P E n0 N Q (some (c, v, H')) d op g l k T H = (c.holds ∧ vrun P E n0 N Q (.ops l :: k) (put T d v) H') := rfl
theorem vres_tt {v : CV} {d : Option Nat} {op : IOp} {g : Option (Nat × Bool)} {l : List IOper} : vres P E n0 N Q (some (.tt, v, H')) d op g l k T H = vrun P E n0 N Q (.ops l :: k) (put T d v) H' := by
  rw [vres_some]; simp [Cond.holds]
theorem vres_none {d : Option Nat} {op : IOp} {g : Option (Nat × Bool)} {l : List IOper} : vres P E n0 N Q none d op g l k T H = Ok P E n0 N Q (.ops (⟨d, op, g⟩ :: l) :: k) T H := rfl
theorem vcond_bool {t : Bool} {p q : Prop} : vcond (.bool t) p q = ((t = true → p) ∧ (t = false → q)) := rfl
theorem vguard_bool {t want : Bool} {p q : Prop} : vguard (.bool t) want p q = ((t = want → p) ∧ (t = (!want) → q)) := rfl
theorem vguard_skip {want : Bool} {p q : Prop} : vguard (.tup []) want p q = q := rfl
theorem vguard_tt {p q : Prop} : vguard (.bool true) true p q = p := by simp [vguard]
theorem vguard_ff {p q : Prop} : vguard (.bool false) false p q = p := by simp [vguard]
theorem vguard_tf {p q : Prop} : vguard (.bool true) false p q = q := by simp [vguard]
theorem vguard_ft {p q : Prop} : vguard (.bool false) true p q = q := by simp [vguard]
theorem vcond_true {p q : Prop} : vcond (.bool true) p q = p := by simp [vcond]
theorem vcond_false {p q : Prop} : vcond (.bool false) p q = q := by simp [vcond]
theorem vexit_some {id : Nat} {k' : List KItem} : vexit P E n0 N Q (some k') id T H = vrun P E n0 N Q k' T H := rfl
theorem vexit_none {id : Nat} : vexit P E n0 N Q none id T H = Q (.exit id) T H := rfl

theorem vrun0_eq : vrun0 P E n0 N Q k T H = vrun P E n0 N Q k T H := rfl

/-! What the rewriting looks into. -/
theorem vrun_look {T' : List CV} {H' : List CObj} (hT : T = T') (hH : H = H') : vrun P E n0 N Q k T H = vrun P E n0 N Q k T' H' := by rw [hT, hH]
theorem ok_look {T' : List CV} {H' : List CObj} (hT : T = T') (hH : H = H') : Ok P E n0 N Q k T H = Ok P E n0 N Q k T' H' := by rw [hT, hH]
theorem vres_look {r r' : Option (Cond × CV × List CObj)} {d : Option Nat} {op : IOp} {g : Option (Nat × Bool)} {l : List IOper} (h : r = r') : vres P E n0 N Q r d op g l k T H = vres P E n0 N Q r' d op g l k T H := by rw [h]
theorem vcond_look {v v' : CV} {p q : Prop} (h : v = v') : vcond v p q = vcond v' p q := by rw [h]
theorem vguard_look {v v' : CV} {want : Bool} {p q : Prop} (h : v = v') : vguard v want p q = vguard v' want p q := by rw [h]
theorem vexit_look {r r' : Option (List KItem)} {id : Nat} (h : r = r') : vexit P E n0 N Q r id T H = vexit P E n0 N Q r' id T H := by rw [h]
attribute [congr] vrun_look ok_look vres_look vcond_look vguard_look vexit_look

theorem vres_sound {d : Option Nat} {op : IOp} {g : Option (Nat × Bool)} {l : List IOper} (ih : ∀ T H, vrun P E n0 N Q (.ops l :: k) T H → Ok P E n0 N Q (.ops l :: k) T H) (hg : GOk T g) (h : vres P E n0 N Q (exec op T H) d op g l k T H) : Ok P E n0 N Q (.ops (⟨d, op, g⟩ :: l) :: k) T H := by
  cases he : exec op T H with
  | none => rw [he] at h; exact h
  | some r =>
    obtain ⟨c, v, H'⟩ := r
    rw [he] at h
    exact ok_op (io := ⟨d, op, g⟩) hg he h.1 (ih _ _ h.2)

theorem vrun_sound (k : List KItem) : ∀ (T : List CV) (H : List CObj), vrun P E n0 N Q k T H → Ok P E n0 N Q k T H := by
  suffices hs : ∀ n k, ksize k = n → ∀ (T : List CV) (H : List CObj), vrun P E n0 N Q k T H → Ok P E n0 N Q k T H from hs _ k rfl
  intro n
  induction n using Nat.strongRecOn with
  | _ n ih =>
    intro k hn T H h
    match k, hn, h with
    | [], _, h => rw [v_nil] at h; exact ok_nil h
    | .blk id :: k, hn, h => rw [v_blk] at h; exact ok_blk (ih _ (by rw [← hn]; simp [ksize, KItem.size]) k rfl _ _ h)
    | .ops [] :: k, hn, h => rw [v_ops_nil] at h; exact ok_ops_nil (ih _ (by rw [← hn]; simp [ksize, KItem.size]) k rfl _ _ h)
    | .ops (⟨d, op, none⟩ :: l) :: k, hn, h =>
      rw [v_op] at h
      exact vres_sound (fun T H => ih _ (by rw [← hn]; simp [ksize, KItem.size]) _ rfl T H) (.inl rfl) h
    | .ops (⟨d, op, some (s, want)⟩ :: l) :: k, hn, h =>
      rw [v_gop] at h
      unfold vguard at h
      split at h
      · rename_i t ht
        by_cases htw : t = want
        · exact vres_sound (fun T H => ih _ (by rw [← hn]; simp [ksize, KItem.size]) _ rfl T H) (.inr ⟨s, want, rfl, by rw [ht, htw]⟩) (h.1 htw)
        · have : t = !want := by cases t <;> cases want <;> simp_all
          exact ok_skipop rfl (.inl (by rw [ht, this])) (ih _ (by rw [← hn]; simp [ksize, KItem.size]) _ rfl _ _ (h.2 this))
      · rename_i ht
        exact ok_skipop rfl (.inr ht) (ih _ (by rw [← hn]; simp [ksize, KItem.size]) _ rfl _ _ h)
      · exact h.elim
    | .code .skip :: k, hn, h => rw [v_skip] at h; exact ok_skip (ih _ (by rw [← hn]; simp [ksize, KItem.size, ICode.size]) k rfl _ _ h)
    | .code (.seq x y) :: k, hn, h => rw [v_seq] at h; exact ok_seq (ih _ (by rw [← hn]; simp [ksize, KItem.size, ICode.size]; omega) _ rfl _ _ h)
    | .code (.block id x) :: k, hn, h => rw [v_block] at h; exact ok_block (ih _ (by rw [← hn]; simp [ksize, KItem.size, ICode.size]; omega) _ rfl _ _ h)
    | .code (.cond i x y) :: k, hn, h =>
      rw [v_cond] at h
      unfold vcond at h
      split at h
      · rename_i t ht
        refine ok_cond ht (ih _ ?_ _ rfl _ _ ?_)
        · rw [← hn]; cases t <;> simp [ksize, KItem.size, ICode.size] <;> omega
        · cases t
          · exact h.2 rfl
          · exact h.1 rfl
      · exact h.elim
    | .code .ret :: k, hn, h => rw [v_ret] at h; exact ok_ret h
    | .code (.exit id) :: k, hn, h =>
      rw [v_exit] at h
      refine ok_exit ?_
      unfold vexit at h
      cases hx : xexit id k with
      | none => rw [hx] at h; exact h
      | some k' =>
        rw [hx] at h
        exact ih _ (by rw [← hn]; have := xexit_size _ _ hx; simp [ksize, KItem.size, ICode.size]; omega) _ rfl _ _ h
    | .code (.reg l) :: k, hn, h => rw [v_reg] at h; exact ok_reg (ih _ (by rw [← hn]; simp [ksize, KItem.size, ICode.size]) _ rfl _ _ h)
    | .code (.dreg l es) :: k, hn, h => rw [v_dreg] at h; exact h
    | .code (.loop a) :: k, hn, h => rw [v_loop] at h; exact h
    | .code (.rfunc f ps x y) :: k, hn, h => rw [v_rfunc] at h; exact h

/-! ### Weakening -/

theorem Ok.mono (h : Ok P E n0 N Q k T H) (hq : ∀ e T H, Q e T H → Q' e T H) : Ok P E n0 N Q' k T H := by
  intro m w a b cs kr rest hp hd hk
  obtain ⟨e, a', w', m', T', H', h1, h2, h3, h4, h5⟩ := h m w a b cs kr rest hp hd hk
  exact ⟨e, a', w', m', T', H', h1, h2, h3, hq _ _ _ h4, h5⟩

/-- One abstract value says no more than another. -/
def wk (c c' : CV) : Prop := ∀ own imm v, rel own imm c v → rel own imm c' v

def wks : List CV → List CV → Prop
  | [], [] => True
  | c :: cs, c' :: cs' => wk c c' ∧ wks cs cs'
  | _, _ => False

theorem wks_rels {own : List Own} {imm : Nat → Nat → Option Value} : ∀ {T T' : List CV} {vs : List Value}, wks T T' → rels own imm T vs → rels own imm T' vs
  | [], [], _, _, h => h
  | c :: cs, c' :: cs', vs, hw, h => by
    simp only [rels] at h ⊢
    obtain ⟨r, rs, rfl, h1, h2⟩ := h
    exact ⟨r, rs, rfl, hw.1 _ _ _ h1, wks_rels hw.2 h2⟩
  | [], _ :: _, _, hw, _ => hw.elim
  | _ :: _, [], _, hw, _ => hw.elim

theorem wk.refl (c : CV) : wk c c := fun _ _ _ h => h
theorem wk.un (c : CV) : wk c .un := fun _ _ _ _ => by simp [rel]
theorem wk.eq {c c' : CV} (h : c = c') : wk c c' := h ▸ wk.refl c
theorem wk.rslc {z : Nat} {els : List (List CV)} {cap : Option Nat} : wk (.rslc z els cap) (.rslc z els none) := by
  intro own imm v h
  simp only [rel] at h ⊢
  rcases h with ⟨_, h1, h2⟩ | ⟨B, o, c, h1, h2, h3, h4⟩
  · exact .inl ⟨trivial, h1, h2⟩
  · exact .inr ⟨B, o, c, h1, h2, by simp, h4⟩
theorem wk.nils {z : Nat} : wk .nils (.rslc z [] none) := by
  intro own imm v h
  simp only [rel] at h ⊢
  exact .inl ⟨trivial, trivial, none, h⟩
theorem wks.refl : ∀ (T : List CV), wks T T
  | [] => trivial
  | c :: cs => ⟨wk.refl c, wks.refl cs⟩

theorem ok_weaken (hw : wks T T') (h : Ok P E n0 N Q k T' H) : Ok P E n0 N Q k T H := by
  intro m w a b cs kr rest hp hd hk
  exact h m w a b cs kr rest ⟨hp.sim, wks_rels hw hp.tmps, hp.long⟩ hd hk

/-- Slots forgotten. -/
def forget : List CV → List CV → Prop
  | [], [] => True
  | a :: T, b :: T' => (b = .un ∨ a = b) ∧ forget T T'
  | _, _ => False

theorem forget_wks : ∀ {T T' : List CV}, forget T T' → wks T T'
  | [], [], _ => trivial
  | _ :: _, _ :: _, h => ⟨by rcases h.1 with h | h; · rw [h]; exact wk.un _
                             · exact wk.eq h, forget_wks h.2⟩
  | [], _ :: _, h => h.elim
  | _ :: _, [], h => h.elim

theorem forget_un {a : CV} : forget (a :: T) (.un :: T') = forget T T' := by simp [forget]
theorem forget_cons {a b : CV} (h : b ≠ .un) : forget (a :: T) (b :: T') = (a = b ∧ forget T T') := by simp [forget, h]
theorem forget_nil : forget [] [] = True := rfl

/-! ### Loops and calls in the walk -/

def vloopQ (P : Program) (E : Env) (n0 : Nat) (N : Fr) (Q : Exit → List CV → List CObj → Prop) (k : List KItem) (I : List CV → List CObj → Prop) (e : Exit) (T : List CV) (H : List CObj) : Prop :=
  match e with
  | .normal => I T H
  | .exit id => vexit P E n0 N Q (xexit id k) id T H
  | .ret => Q .ret T H
  | _ => False

theorem vloopQ_normal {I : List CV → List CObj → Prop} : vloopQ P E n0 N Q k I .normal T H = I T H := rfl
theorem vloopQ_exit {I : List CV → List CObj → Prop} {id : Nat} : vloopQ P E n0 N Q k I (.exit id) T H = vexit P E n0 N Q (xexit id k) id T H := rfl
theorem vloopQ_ret {I : List CV → List CObj → Prop} : vloopQ P E n0 N Q k I .ret T H = Q .ret T H := rfl

theorem vloopQ_sound {I I' : List CV → List CObj → Prop} (hI : ∀ T H, I T H → I' T H) {e : Exit} (h : vloopQ P E n0 N Q k I e T H) : loopQ P E n0 N Q k I' e T H := by
  cases e with
  | normal => exact hI _ _ h
  | exit id =>
    simp only [vloopQ, vexit] at h
    simp only [loopQ]
    split <;> rename_i hx <;> rw [hx] at h
    · exact vrun_sound _ _ _ h
    · exact h
  | ret => exact h
  | goto _ => exact h.elim
  | panic _ => exact h.elim
  | outgrown => exact h.elim

/-- A loop: a state of type σ, the slots and the heap that belong to it, and a measure. -/
theorem vr_loop {x : ICode} {σ : Type} (I : σ → Prop) (inv : σ → List CV) (hp : σ → List CObj) (μ : σ → Nat) (s0 : σ) (h0 : I s0) (hT : forget T (inv s0)) (hH : H = hp s0)
    (hb : ∀ s, I s → vrun P E n0 N (vloopQ P E n0 N Q k fun T' H' => ∃ s', I s' ∧ μ s' < μ s ∧ H' = hp s' ∧ forget T' (inv s')) [.code x] (inv s) (hp s)) : Ok P E n0 N Q (.code (.loop x) :: k) T H := by
  subst hH
  refine ok_loop (I := fun s T H => I s ∧ wks T (inv s) ∧ H = hp s) μ s0 ⟨h0, forget_wks hT, rfl⟩ ?_
  rintro s T H ⟨hs, hw, rfl⟩
  refine ok_weaken hw ((vrun_sound _ _ _ (hb s hs)).mono fun e T' H' hq => vloopQ_sound (fun T2 H2 h2 => ?_) hq)
  obtain ⟨s', hs', hlt, rfl, hf⟩ := h2
  exact ⟨s', ⟨hs', forget_wks hf, rfl⟩, hlt⟩

theorem gok {s : Nat} {want : Bool} (h : T.getD s .un = .bool want) : GOk T (some (s, want)) := .inr ⟨s, want, rfl, h⟩

theorem vr_call {d : Option Nat} {g : Option (Nat × Bool)} {f : Nat} {as : List IArg} {l : List IOper} {R : CV → List CObj → Prop} (hg : GOk T g) (hcall : CallsC P E f (as.map (aget T)) H R) (h : ∀ v H', R v H' → vrun P E n0 N Q (.ops l :: k) (put T d v) H') : Ok P E n0 N Q (.ops (⟨d, .call f as, g⟩ :: l) :: k) T H :=
  ok_call hg hcall fun v H' hR => vrun_sound _ _ _ (h v H' hR)

/-- A contract that names its answer, and leaves the heap. -/
def Pure (P : Program) (E : Env) (f : Nat) (args : List CV) (H : List CObj) (v : CV) : Prop := CallsC P E f args H fun v' H' => v' = v ∧ H' = H

theorem vr_pure {d : Option Nat} {f : Nat} {as : List IArg} {l : List IOper} {v : CV} (hcall : Pure P E f (as.map (aget T)) H v) (h : vrun P E n0 N Q (.ops l :: k) (put T d v) H) : Ok P E n0 N Q (.ops (⟨d, .call f as, none⟩ :: l) :: k) T H :=
  vr_call (.inl rfl) hcall fun v' H' ⟨hv, hH⟩ => by rw [hv, hH]; exact h

theorem vr_pureg {d : Option Nat} {g : Option (Nat × Bool)} {f : Nat} {as : List IArg} {l : List IOper} {v : CV} (hg : GOk T g) (hcall : Pure P E f (as.map (aget T)) H v) (h : vrun P E n0 N Q (.ops l :: k) (put T d v) H) : Ok P E n0 N Q (.ops (⟨d, .call f as, g⟩ :: l) :: k) T H :=
  vr_call hg hcall fun v' H' ⟨hv, hH⟩ => by rw [hv, hH]; exact h

theorem CallsC.mono {f : Nat} {args : List CV} {R R' : CV → List CObj → Prop} (h : CallsC P E f args H R) (hR : ∀ v H', R v H' → R' v H') : CallsC P E f args H R' := by
  intro m w vs hs hv
  refine (h m w vs hs hv).mono ?_
  rintro e w' ⟨r, m', v, H', h1, h2, h3, h4, h5⟩
  exact ⟨r, m', v, H', h1, h2, h3, h4, hR _ _ h5⟩

theorem CallsC.weaken {f : Nat} {args args' : List CV} {R : CV → List CObj → Prop} (hw : wks args args') (h : CallsC P E f args' H R) : CallsC P E f args H R :=
  fun m w vs hs hv => h m w vs hs (wks_rels hw hv)

/-- A split of the walk at a sequence. -/
theorem vr_fn {f : Nat} {F : IFunc} {args : List CV} {R : CV → List CObj → Prop} (hF : compFn P f = some F) (h : ∀ n, vrun0 P E H.length ⟨n, false⟩ (retQ F.results R) [.code F.body] (args ++ List.replicate (F.ntmps - args.length) .un) H) : CallsC P E f args H R :=
  callsC_of hF fun N => vrun_sound _ _ _ (h N)

end
end Go.Cm
end

section
namespace Go.Cm

section
variable {P : Program} {E : Env} {n0 : Nat} {N : Fr} {Q : Exit → List CV → List CObj → Prop} {H : List CObj} {T : List CV}

theorem retQ_ret {ts : List RVar} {R : CV → List CObj → Prop} : retQ ts R .ret T H = resK (resAll T H ts) R H := rfl
theorem retQ_normal {ts : List RVar} {R : CV → List CObj → Prop} : retQ ts R .normal T H = resK (resAll T H ts) R H := rfl
theorem resAll_tmp {t : Nat} {R : CV → List CObj → Prop} : resK (resAll T H [.tmp t]) R H = R (T.getD t .un) H := by simp [resAll, resOne, resK, Cond.holds]
theorem resAll_nil {R : CV → List CObj → Prop} : resK (resAll T H []) R H = R (.tup []) H := by simp [resAll, resK, Cond.holds]
theorem resAll_tmp2 {t t' : Nat} {R : CV → List CObj → Prop} : resK (resAll T H [.tmp t, .tmp t']) R H = R (.tup [T.getD t .un, T.getD t' .un]) H := by simp [resAll, resOne, resK, Cond.holds]
theorem resAll_tmp3 {t t' t'' : Nat} {R : CV → List CObj → Prop} : resK (resAll T H [.tmp t, .tmp t', .tmp t'']) R H = R (.tup [T.getD t .un, T.getD t' .un, T.getD t'' .un]) H := by simp [resAll, resOne, resK, Cond.holds]

theorem put_some {d : Nat} {v : CV} : put T (some d) v = T.set d v := rfl
theorem put_none {v : CV} : put T none v = T := rfl
theorem aget_s {n : Nat} : aget T (.s n) = T.getD n .un := rfl
theorem aget_c {v : CV} : aget T (.c v) = v := rfl
theorem exAppend_e_nils {z b : Nat} : exAppend z b H .nils [] = some (.tt, .nils, H) := rfl
theorem exAppend_e_slc {z b id off len : Nat} {cap : Option Nat} : exAppend z b H (.slc id off len cap) [] = some (.tt, .slc id off len cap, H) := rfl
theorem exAppend_e_rslc {z b z' : Nat} {els : List (List CV)} {cap : Option Nat} : exAppend z b H (.rslc z' els cap) [] = some (.tt, .rslc z' els cap, H) := rfl
theorem exAppend_nils {z bytes : Nat} {x0 : List CV} {xs' : List (List CV)} : exAppend z bytes H .nils (x0 :: xs') = some (roomOk (x0 :: xs').length bytes, .slc H.length 0 (x0 :: xs').length none, H ++ [.arr z (x0 :: xs')]) := rfl
theorem exAppend_rslc {z bytes z' c : Nat} {els : List (List CV)} {x0 : List CV} {xs' : List (List CV)} : exAppend z bytes H (.rslc z' els (some c)) (x0 :: xs') = if z' = z then some (.and (.le (c + 1) (els.length + (x0 :: xs').length)) (roomOk (els.length + (x0 :: xs').length) bytes), .slc H.length 0 (els.length + (x0 :: xs').length) none, H ++ [.arr z (els ++ (x0 :: xs'))]) else none := rfl
theorem exAppend_slc {z bytes id off len : Nat} {cap : Option Nat} {x0 : List CV} {xs' : List (List CV)} : exAppend z bytes H (.slc id off len cap) (x0 :: xs') = match H[id]? with
      | some (.arr z' els) => if z' = z ∧ off + len = els.length then
          match cap with
          | none => some (roomOk (len + (x0 :: xs').length) bytes, .slc H.length 0 (len + (x0 :: xs').length) none, (H.set id .dead) ++ [.arr z (els.drop off ++ (x0 :: xs'))])
          | some c => some (.and (.le (c + 1) (len + (x0 :: xs').length)) (roomOk (len + (x0 :: xs').length) bytes), .slc H.length 0 (len + (x0 :: xs').length) none, H ++ [.arr z (els.drop off ++ (x0 :: xs'))])
        else none
      | _ => none := rfl
theorem ite_true_eq {α : Type} {a b : α} : (if True then a else b) = a := if_pos trivial

end

attribute [go_sem] vrun0_eq v_nil v_blk v_ops_nil v_op v_gop v_skip v_seq v_block v_cond v_ret v_exit v_reg v_loop v_dreg v_rfunc vres_some vres_none Cond.holds true_and and_true Bool.and_true Bool.true_and Bool.and_self if_true if_false ite_true_eq forall_const decide_true decide_false Bool.not_true Bool.not_false Bool.false_and Bool.and_false Bool.true_or Bool.or_true Bool.false_or Bool.or_false eq_self reduceCtorEq decide_eq_true_eq decide_eq_false_iff_not Bool.true_eq_false Bool.false_eq_true false_implies true_implies implies_true not_true_eq_false not_false_eq_true false_and and_false and_self Nat.add_zero Nat.zero_add Nat.le_refl Int.toNat_natCast Int.natCast_zero or_false false_or or_true true_or Option.map_some Option.map_none Option.getD_some Option.getD_none bne_self_eq_false beq_self_eq_true vcond_true vcond_false vguard_skip vguard_tt vguard_ff vguard_tf vguard_ft vexit_some vexit_none
  vloopQ_normal vloopQ_exit vloopQ_ret retQ_ret retQ_normal resAll_tmp resAll_nil resAll_tmp2 resAll_tmp3 resK resAll resOne put_some put_none aget_s aget_c exec binI exBin negIf exIntOf exBound exLen exHi exMx exSlice exAppend_e_nils exAppend_e_slc exAppend_e_rslc exAppend_nils exAppend_rslc exAppend_slc xexit fillParts fillEls CV.cells CV.oneCell allOne splice elsOf keyEq findKV isKey cellsEq
  List.getD_cons_zero List.getD_cons_succ List.set_cons_zero List.set_cons_succ List.getElem?_cons_zero List.getElem?_cons_succ List.map_cons List.map_nil List.cons_append List.nil_append List.length_cons List.length_nil List.take_succ_cons List.drop_succ_cons List.take_zero List.drop_zero List.take_nil List.drop_nil List.replicate_succ List.replicate_zero

attribute [go_sem low] vcond_bool vguard_bool

attribute [go_sem_proc] Nat.reduceAdd Nat.reduceSub Nat.reduceMul Nat.reduceLeDiff Nat.reduceEqDiff Nat.reduceLT Nat.reduceBEq Int.reduceToNat Int.reduceAdd Int.reduceSub Int.reduceMul Int.reduceNeg Int.reduceLE Int.reduceLT Int.reduceEq Int.reduceBEq Int.reduceBNe reduceIte

end Go.Cm
end

section
namespace Go.Cm

mutual
/-- No owned object is named. -/
def CV.closed : CV → Bool
  | .ptr _ _ _ => false
  | .slc _ _ _ _ => false
  | .map _ => false
  | .fn _ l1 l2 => closedL l1 && closedL l2
  | .iface _ c => c.closed
  | .agg l => closedL l
  | .tup l => closedL l
  | _ => true
def closedL : List CV → Bool
  | [] => true
  | c :: cs => c.closed && closedL cs
end

mutual
theorem closed_rel {own own' : List Own} {imm : Nat → Nat → Option Value} : ∀ (c : CV) (v : Value), c.closed = true → rel own imm c v → rel own' imm c v
  | .un, _, _, _ => by simp only [rel]
  | .bool _, _, _, h => by simp only [rel] at h ⊢; exact h
  | .int _ _, _, _, h => by simp only [rel] at h ⊢; exact h
  | .str _, _, _, h => by simp only [rel] at h ⊢; exact h
  | .nilp, _, _, h => by simp only [rel] at h ⊢; exact h
  | .ptr _ _ _, _, hc, _ => by simp [CV.closed] at hc
  | .rptr _, _, _, h => by simp only [rel] at h ⊢; exact h
  | .nils, _, _, h => by simp only [rel] at h ⊢; exact h
  | .slc _ _ _ _, _, hc, _ => by simp [CV.closed] at hc
  | .rslc _ _ _, _, _, h => by simp only [rel] at h ⊢; exact h
  | .nilm, _, _, h => by simp only [rel] at h ⊢; exact h
  | .map _, _, hc, _ => by simp [CV.closed] at hc
  | .fn _ l1 l2, _, hc, h => by
    simp only [rel] at h ⊢
    simp only [CV.closed, Bool.and_eq_true] at hc
    obtain ⟨vs1, vs2, e, h1, h2⟩ := h
    exact ⟨vs1, vs2, e, closedL_rels l1 _ hc.1 h1, closedL_rels l2 _ hc.2 h2⟩
  | .yld _, _, _, h => by simp only [rel] at h ⊢; exact h
  | .nilf, _, _, h => by simp only [rel] at h ⊢; exact h
  | .iface _ c, _, hc, h => by
    simp only [rel] at h ⊢
    simp only [CV.closed] at hc
    obtain ⟨r, e, h1⟩ := h
    exact ⟨r, e, closed_rel c _ hc h1⟩
  | .nili, _, _, h => by simp only [rel] at h ⊢; exact h
  | .agg l, _, hc, h => by
    simp only [rel] at h ⊢
    simp only [CV.closed] at hc
    obtain ⟨vs, e, h1⟩ := h
    exact ⟨vs, e, closedL_rels l _ hc h1⟩
  | .tup l, _, hc, h => by
    simp only [rel] at h ⊢
    simp only [CV.closed] at hc
    obtain ⟨vs, e, h1⟩ := h
    exact ⟨vs, e, closedL_rels l _ hc h1⟩
theorem closedL_rels {own own' : List Own} {imm : Nat → Nat → Option Value} : ∀ (l : List CV) (vs : List Value), closedL l = true → rels own imm l vs → rels own' imm l vs
  | [], vs, _, h => by simp only [rels] at h ⊢; exact h
  | c :: cs, vs, hc, h => by
    simp only [rels] at h ⊢
    simp only [closedL, Bool.and_eq_true] at hc
    obtain ⟨r, rs, e, h1, h2⟩ := h
    exact ⟨r, rs, e, closed_rel c _ hc.1 h1, closedL_rels cs _ hc.2 h2⟩
end

def closedEls : List (List CV) → Bool
  | [] => true
  | e :: es => closedL e && closedEls es

theorem closedEls_get : ∀ {els : List (List CV)}, closedEls els = true → ∀ (j : Nat) e, els[j]? = some e → closedL e = true
  | [], _, j, e, h => by simp at h
  | x :: xs, hc, j, e, h => by
    simp only [closedEls, Bool.and_eq_true] at hc
    cases j with
    | zero => simp at h; subst h; exact hc.1
    | succ j => exact closedEls_get hc.2 j e (by simpa using h)

theorem closedL_get : ∀ {l : List CV}, closedL l = true → ∀ (j : Nat) c, l[j]? = some c → c.closed = true
  | [], _, j, e, h => by simp at h
  | x :: xs, hc, j, e, h => by
    simp only [closedL, Bool.and_eq_true] at hc
    cases j with
    | zero => simp at h; subst h; exact hc.1
    | succ j => exact closedL_get hc.2 j e (by simpa using h)

/-! ### Freezing an object -/

mutual
/-- A value, once the object is frozen. -/
def frz (id z : Nat) (els : List (List CV)) : CV → CV
  | .slc j off len cap => if j = id then (if off + len ≤ els.length then .rslc z ((els.drop off).take len) none else .un) else .slc j off len cap
  | .ptr j i off => if j = id then .rptr ((els.getD i []).drop off) else .ptr j i off
  | .fn f l1 l2 => .fn f (frzL id z els l1) (frzL id z els l2)
  | .iface t c => .iface t (frz id z els c)
  | .agg l => .agg (frzL id z els l)
  | .tup l => .tup (frzL id z els l)
  | c => c
def frzL (id z : Nat) (els : List (List CV)) : List CV → List CV
  | [] => []
  | c :: cs => frz id z els c :: frzL id z els cs
end

def frzO (id z : Nat) (els : List (List CV)) : CObj → CObj
  | .arr z' e => .arr z' (e.map (frzL id z els))
  | .map kvs => .map (kvs.map fun p => (frz id z els p.1, frz id z els p.2))
  | o => o

theorem frzL_length {id z : Nat} {els : List (List CV)} : ∀ (l : List CV), (frzL id z els l).length = l.length
  | [] => rfl
  | _ :: cs => by simp [frzL, frzL_length cs]

theorem frzL_get {id z : Nat} {els : List (List CV)} : ∀ (l : List CV) (i : Nat), (frzL id z els l)[i]? = (l[i]?).map (frz id z els)
  | [], _ => by simp [frzL]
  | c :: cs, 0 => by simp [frzL]
  | c :: cs, i + 1 => by simp [frzL, frzL_get cs i]

def frzH (id z : Nat) (els : List (List CV)) (H : List CObj) : List CObj := (H.map (frzO id z els)).set id .dead

/-- The cells of a block are immutable from here on. -/
def immOf (imm : Nat → Nat → Option Value) (B : Nat) (cells : Array Value) : Nat → Nat → Option Value := fun B' i => if B' = B then cells[i]? else imm B' i

section
variable {E : Env} {n0 : Nat} {m : Bk} {H : List CObj} {w : World}

theorem relEls_of_relO {own : List Own} {imm : Nat → Nat → Option Value} {z o : Nat} {els : List (List CV)} {R : Nat → Option Value} (h : relO own imm z els R o) (hc : closedEls els = true) : relEls imm z els R o := by
  rw [relEls_iff]
  intro j e he
  refine ⟨(h j e he).1, fun t c ht => ?_⟩
  obtain ⟨r, h1, h2⟩ := (h j e he).2 t c ht
  exact ⟨r, h1, closed_rel c r (closedL_get (closedEls_get hc j e he) t c ht) h2⟩

theorem relEls_sub {imm : Nat → Nat → Option Value} {z o : Nat} {els : List (List CV)} {R : Nat → Option Value} (h : relEls imm z els R o) (k n : Nat) : relEls imm z ((els.drop k).take n) R (o + k * z) := by
  rw [relEls_iff] at h ⊢
  intro j e hj
  have hj1 : j < n := by have := (List.getElem?_eq_some_iff.1 hj).1; simp at this; omega
  rw [List.getElem?_take_of_lt hj1, List.getElem?_drop] at hj
  have := h _ _ hj
  rw [Nat.add_mul] at this
  refine ⟨this.1, fun t c hc => ?_⟩
  have := this.2 t c hc
  rw [show o + k * z + j * z + t = o + (k * z + j * z) + t by omega]; exact this

mutual
theorem frz_rel {own : List Own} {imm imm' : Nat → Nat → Option Value} {id z : Nat} {els : List (List CV)} {x : Own} (hi : immLe imm imm') (hx : own[id]? = some x) (hz : x.z = z) (hr : relEls imm' z els (imm' x.B) x.o) :
    ∀ (c : CV) (v : Value), rel own imm c v → rel own imm' (frz id z els c) v
  | .un, _, _ => by simp only [frz, rel]
  | .bool _, _, h => by simp only [frz, rel] at h ⊢; exact h
  | .int _ _, _, h => by simp only [frz, rel] at h ⊢; exact h
  | .str _, _, h => by simp only [frz, rel] at h ⊢; exact h
  | .nilp, _, h => by simp only [frz, rel] at h ⊢; exact h
  | .ptr j i off, v, h => by
    simp only [frz]
    by_cases hj : j = id
    · subst hj
      simp only [rel] at h
      obtain ⟨x', hx', rfl⟩ := h
      rw [hx] at hx'; cases hx'
      simp only [if_true, rel]
      refine ⟨x.B, x.o + i * x.z + off, rfl, ?_⟩
      rw [relAt_iff]
      intro t c ht
      rw [List.getElem?_drop] at ht
      cases he : els[i]? with
      | none => simp [List.getD, he] at ht
      | some e =>
        simp [List.getD, he] at ht
        obtain ⟨r, h1, h2⟩ := ((relEls_iff _ _).1 hr i e he).2 _ _ ht
        exact ⟨r, by rw [hz]; rw [show x.o + i * z + off + t = x.o + i * z + (off + t) by omega]; exact h1, h2⟩
    · rw [if_neg hj]
      exact rel_mono (ownLe.refl _) hi _ _ h
  | .rptr cs, v, h => by
    simp only [frz]
    exact rel_mono (ownLe.refl _) hi _ _ h
  | .nils, _, h => by simp only [frz, rel] at h ⊢; exact h
  | .slc j off len cap, v, h => by
    simp only [frz]
    by_cases hj : j = id
    · subst hj
      rw [if_pos rfl]
      by_cases hl : off + len ≤ els.length
      · rw [if_pos hl]
        simp only [rel] at h
        obtain ⟨x', a, c, hx', rfl, hlc, hcap, ha, hle⟩ := h
        rw [hx] at hx'; cases hx'
        have hlen : ((els.drop off).take len).length = len := by simp; omega
        simp only [rel]
        by_cases hc0 : c = 0
        · subst hc0
          have : len = 0 := by omega
          subst this
          exact .inl ⟨trivial, by simp, _, rfl⟩
        · refine .inr ⟨x.B, x.o + off * x.z, c, by rw [hlen, ha hc0], by rw [hlen]; exact hlc, by simp, ?_⟩
          rw [hz]
          exact relEls_sub hr off len
      · rw [if_neg hl]; simp only [rel]
    · rw [if_neg hj]
      exact rel_mono (ownLe.refl _) hi _ _ h
  | .rslc z' e cap, v, h => by
    simp only [frz]
    exact rel_mono (ownLe.refl _) hi _ _ h
  | .nilm, _, h => by simp only [frz, rel] at h ⊢; exact h
  | .map _, _, h => by simp only [frz, rel] at h ⊢; exact h
  | .fn f l1 l2, _, h => by
    simp only [frz, rel] at h ⊢
    obtain ⟨vs1, vs2, e, h1, h2⟩ := h
    exact ⟨vs1, vs2, e, frz_rels hi hx hz hr l1 _ h1, frz_rels hi hx hz hr l2 _ h2⟩
  | .yld _, _, h => by simp only [frz, rel] at h ⊢; exact h
  | .nilf, _, h => by simp only [frz, rel] at h ⊢; exact h
  | .iface _ c, _, h => by
    simp only [frz, rel] at h ⊢
    obtain ⟨r, e, h1⟩ := h
    exact ⟨r, e, frz_rel hi hx hz hr c _ h1⟩
  | .nili, _, h => by simp only [frz, rel] at h ⊢; exact h
  | .agg l, _, h => by
    simp only [frz, rel] at h ⊢
    obtain ⟨vs, e, h1⟩ := h
    exact ⟨vs, e, frz_rels hi hx hz hr l _ h1⟩
  | .tup l, _, h => by
    simp only [frz, rel] at h ⊢
    obtain ⟨vs, e, h1⟩ := h
    exact ⟨vs, e, frz_rels hi hx hz hr l _ h1⟩
theorem frz_rels {own : List Own} {imm imm' : Nat → Nat → Option Value} {id z : Nat} {els : List (List CV)} {x : Own} (hi : immLe imm imm') (hx : own[id]? = some x) (hz : x.z = z) (hr : relEls imm' z els (imm' x.B) x.o) :
    ∀ (l : List CV) (vs : List Value), rels own imm l vs → rels own imm' (frzL id z els l) vs
  | [], vs, h => by simp only [frzL, rels] at h ⊢; exact h
  | c :: cs, vs, h => by
    simp only [frzL, rels] at h ⊢
    obtain ⟨r, rs, e, h1, h2⟩ := h
    exact ⟨r, rs, e, frz_rel hi hx hz hr c _ h1, frz_rels hi hx hz hr cs _ h2⟩
end

theorem frzO_alive {id z : Nat} {els : List (List CV)} (o : CObj) : (frzO id z els o).alive = o.alive := by cases o <;> rfl

theorem frzH_get {id z k : Nat} {els : List (List CV)} {o : CObj} (h : (frzH id z els H)[k]? = some o) : ∃ o0, H[k]? = some o0 ∧ ((k = id ∧ o = .dead) ∨ (k ≠ id ∧ o = frzO id z els o0)) := by
  simp only [frzH, List.getElem?_set, List.length_map] at h
  split at h
  · rename_i hk
    subst hk
    split at h
    · rename_i hlt
      exact ⟨H[id], List.getElem?_eq_getElem hlt, .inl ⟨rfl, (Option.some.inj h).symm⟩⟩
    · cases h
  · rename_i hk
    rw [List.getElem?_map] at h
    cases hH : H[k]? with
    | none => simp [hH] at h
    | some o0 => simp [hH] at h; exact ⟨o0, rfl, .inr ⟨fun e => hk e.symm, h.symm⟩⟩

theorem relO_frz {own : List Own} {imm imm' : Nat → Nat → Option Value} {id z zz o : Nat} {els es : List (List CV)} {R : Nat → Option Value} (hf : ∀ c v, rel own imm c v → rel own imm' (frz id z els c) v) (h : relO own imm zz es R o) : relO own imm' zz (es.map (frzL id z els)) R o := by
  intro j e he
  rw [List.getElem?_map] at he
  cases hes : es[j]? with
  | none => simp [hes] at he
  | some e0 =>
    simp [hes] at he; subst he
    obtain ⟨h1, h2⟩ := h j e0 hes
    refine ⟨by rw [frzL_length]; exact h1, fun t c hc => ?_⟩
    rw [frzL_get] at hc
    cases ht : e0[t]? with
    | none => simp [ht] at hc
    | some c0 =>
      simp [ht] at hc; subst hc
      obtain ⟨r, h3, h4⟩ := h2 t c0 ht
      exact ⟨r, h3, hf _ _ h4⟩

/-- FREEZING. -/
theorem Sim.freeze {id z : Nat} {els : List (List CV)} (hs : Sim E m H w) (hH : H[id]? = some (.arr z els)) (hc : closedEls els = true) :
    ∃ imm', Sim E { m with imm := imm' } (frzH id z els H) w ∧ Ext n0 m H w { m with imm := imm' } (frzH id z els H) w ∧ ∀ c v, rel m.own m.imm c v → rel m.own imm' (frz id z els c) v := by
  have hlt : id < m.own.length := by rw [hs.len]; exact (List.getElem?_eq_some_iff.1 hH).1
  have hx : m.own[id]? = some m.own[id] := List.getElem?_eq_getElem hlt
  generalize m.own[id] = x at hx
  obtain ⟨hz, cells, elem, hb, hsz, hle, hrow, hone⟩ := hs.obj id _ x hH hx
  have hi : immLe m.imm (immOf m.imm x.B cells) := by
    intro B i v hv
    simp only [immOf]
    split
    · rename_i hB
      subst hB
      have := hs.imm _ i v hv
      simpa [World.cell?, hb] using this
    · exact hv
  have hrel : relEls (immOf m.imm x.B cells) z els (immOf m.imm x.B cells x.B) x.o := by
    have h1 : relO m.own (immOf m.imm x.B cells) x.z els (fun i => cells[i]?) x.o := relO_mono (ownLe.refl _) hi hrow
    have h2 := relEls_of_relO h1 hc
    rw [hz] at h2
    have e : immOf m.imm x.B cells x.B = fun i => cells[i]? := by funext i; simp [immOf]
    rw [e]; exact h2
  have hf : ∀ c v, rel m.own m.imm c v → rel m.own (immOf m.imm x.B cells) (frz id z els c) v := frz_rel hi hx hz hrel
  have hxB : x.B < w.heap.size := (Array.getElem?_eq_some_iff.1 hb).1
  refine ⟨immOf m.imm x.B cells, ⟨by simp [frzH, hs.len], fun k o x' hk hx' => ?_, fun B i v hv => ?_, fun B i v hv => ?_, fun k k' o o' x1 x2 h1 h2 ha1 ha2 hx1 hx2 hB => ?_, fun k o x' hk ha hx' i hi => ?_, fun k s b hk => ?_, fun k o x' hk ha hx' => ?_, hs.extlt⟩, ⟨Nat.le_refl _, fun _ _ _ => rfl, hi, fun B ho => .inl ?_, fun B i v hv => ?_, fun _ _ _ h => h, fun h => h, rfl, rfl, rfl⟩, hf⟩
  · obtain ⟨o0, h0, hh⟩ := frzH_get hk
    rcases hh with ⟨_, rfl⟩ | ⟨hne, rfl⟩
    · trivial
    · have := hs.obj k o0 x' h0 hx'
      cases o0 with
      | arr z' es =>
        obtain ⟨a1, c, el, a2, a3, a4, a5, a6⟩ := this
        exact ⟨a1, c, el, a2, a3, by simpa using a4, relO_frz hf a5, a6⟩
      | map kvs =>
        obtain ⟨es, clock, a1, a2, a3⟩ := this
        refine ⟨es, clock, a1, by simpa using a2, fun i k v e hk he => ?_⟩
        rw [List.getElem?_map] at hk
        cases hkv : kvs[i]? with
        | none => simp [hkv] at hk
        | some p =>
          simp [hkv] at hk
          obtain ⟨rfl, rfl⟩ := hk
          have := a3 i p.1 p.2 e hkv he
          exact ⟨hf _ _ this.1, hf _ _ this.2⟩
      | dead => trivial
      | ext s b => trivial
  · simp only [immOf] at hv
    split at hv
    · rename_i hB; subst hB; simpa [World.cell?, hb] using hv
    · exact hs.imm B i v hv
  · simp only [immOf] at hv
    split at hv
    · exact hone _ v hv
    · exact hs.one B i v hv
  · obtain ⟨p1, q1, hh1⟩ := frzH_get h1
    obtain ⟨p2, q2, hh2⟩ := frzH_get h2
    rcases hh1 with ⟨_, rfl⟩ | ⟨_, rfl⟩
    · cases ha1
    rcases hh2 with ⟨_, rfl⟩ | ⟨_, rfl⟩
    · cases ha2
    rw [frzO_alive] at ha1 ha2
    exact hs.sep k k' p1 p2 x1 x2 q1 q2 ha1 ha2 hx1 hx2 hB
  · obtain ⟨p1, q1, hh1⟩ := frzH_get hk
    rcases hh1 with ⟨_, rfl⟩ | ⟨hne, rfl⟩
    · cases ha
    rw [frzO_alive] at ha
    have hBne : x'.B ≠ x.B := fun e => hne (hs.sep k id p1 _ x' x q1 hH ha rfl hx' hx e)
    simp only [immOf, if_neg hBne]
    exact hs.ro k p1 x' q1 ha hx' i hi
  · obtain ⟨p1, q1, hh1⟩ := frzH_get hk
    rcases hh1 with ⟨_, h⟩ | ⟨hne, h⟩
    · cases h
    have : p1 = .ext s b := by cases p1 <;> simp [frzO] at h; simp [h]
    subst this
    refine E.stable _ _ _ _ _ _ _ (hs.ext k s b q1) (fun _ _ => rfl) (Nat.le_refl _) hi (fun B i v hv => ?_) (fun B i v hv => ?_) (fun B i v hv => ?_)
    · simp only [immOf] at hv
      split at hv
      · rename_i hB; subst hB; exact .inr (hs.extsep id _ x hH rfl hx)
      · exact .inl hv
    · simp only [immOf] at hv
      split at hv
      · rename_i hB; subst hB; simpa [World.cell?, hb] using hv
      · exact hs.imm B i v hv
    · simp only [immOf] at hv
      split at hv
      · exact hone _ v hv
      · exact hs.one B i v hv
  · obtain ⟨p1, q1, hh1⟩ := frzH_get hk
    rcases hh1 with ⟨_, rfl⟩ | ⟨hne, rfl⟩
    · cases ha
    rw [frzO_alive] at ha
    exact hs.extsep k p1 x' q1 ha hx'
  · rcases ho with h | ⟨k, o, x', hk, ha, hx', hB⟩
    · exact .inl h
    · obtain ⟨p1, q1, hh1⟩ := frzH_get hk
      rcases hh1 with ⟨_, rfl⟩ | ⟨hne, rfl⟩
      · cases ha
      rw [frzO_alive] at ha
      exact .inr ⟨k, p1, x', q1, ha, hx', hB⟩
  · simp only [immOf] at hv
    split at hv
    · rename_i hB; subst hB; exact .inr (.inl (.inr ⟨id, _, x, hH, rfl, hx, rfl⟩))
    · exact .inl hv

end
end Go.Cm
end

section
namespace Go.Cm

section
variable {P : Program} {E : Env} {n0 : Nat} {N : Fr} {Q : Exit → List CV → List CObj → Prop} {H : List CObj} {T : List CV} {k : List KItem}

theorem ok_freeze {id z : Nat} {els : List (List CV)} (hH : H[id]? = some (.arr z els)) (hc : closedEls els = true) (h : Ok P E n0 N Q k (frzL id z els T) (frzH id z els H)) : Ok P E n0 N Q k T H := by
  intro m w a b cs kr rest hp hd hk
  obtain ⟨imm', hs, he, hf⟩ := Sim.freeze (n0 := n0) hp.sim hH hc
  have hT : rels m.own imm' (frzL id z els T) a.tmps.toList := by
    have ht := hp.tmps
    rw [rels_iff] at ht ⊢
    refine ⟨by rw [frzL_length]; exact ht.1, fun i c v hc' hv => ?_⟩
    rw [frzL_get] at hc'
    cases hTi : T[i]? with
    | none => simp [hTi] at hc'
    | some c0 => simp [hTi] at hc'; subst hc'; exact hf _ _ (ht.2 i c0 v hTi hv)
  exact Reach.step (.refl _ _) he (h { m with imm := imm' } w a b cs kr rest ⟨hs, hT, by simpa [frzH] using hp.long⟩ (hd.ext he) hk)

theorem CallsC.freeze {f : Nat} {args : List CV} {R R' : CV → List CObj → Prop} (h : CallsC P E f args H R) (hR : ∀ v H', R v H' → ∃ id z els, H'[id]? = some (.arr z els) ∧ closedEls els = true ∧ R' (frz id z els v) (frzH id z els H')) : CallsC P E f args H R' := by
  intro m w vs hs hv
  refine (h m w vs hs hv).mono ?_
  rintro e w' ⟨r, m', v, H', h1, h2, h3, h4, h5⟩
  obtain ⟨id, z, els, g1, g2, g3⟩ := hR _ _ h5
  obtain ⟨imm', hs', he, hf⟩ := Sim.freeze (n0 := H.length) h3 g1 g2
  exact ⟨r, _, _, _, h1, h2.trans he, hs', hf _ _ h4, g3⟩

/-- What runs from nothing leaves everything else. -/
theorem Sim.back {m : Bk} {w w' : World} {m' : Bk} {H' : List CObj} (hs : Sim E m H w) (hext : Ext n0 { own := [], imm := m.imm, ext := fun _ => False } [] w m' H' w') (hs' : Sim Env.none m' H' w') :
    Sim E { m with imm := m'.imm } H w' ∧ ∀ n1, Ext n1 m H w { m with imm := m'.imm } H w' := by
  have hno : ∀ B, ¬ owned { own := [], imm := m.imm, ext := fun _ => False } [] B := by
    rintro B (h | ⟨k, o, x, hk, _⟩)
    · exact h
    · simp at hk
  have hfr : ∀ B, B < w.heap.size → w'.heap[B]? = w.heap[B]? := fun B hB => hext.frame B hB (hno B)
  have hi : immLe m.imm m'.imm := hext.imm
  have hnew : ∀ B i v, m'.imm B i = some v → m.imm B i = some v ∨ w.heap.size ≤ B := fun B i v hv => by
    rcases hext.newImm B i v hv with h | h | h
    · exact .inl h
    · exact absurd h (hno B)
    · exact .inr h
  refine ⟨⟨hs.len, fun k o x hk hx => ?_, hs'.imm, hs'.one, hs.sep, fun k o x hk hal hx i hxi => ?_, fun k s b hk => ?_, hs.extsep, fun B hB => Nat.lt_of_lt_of_le (hs.extlt B hB) hext.size⟩, fun n1 => ⟨hext.size, fun B hB _ => hfr B hB, hi, fun B ho => .inl ho, fun B i v hv => ?_, fun _ _ _ h => h, fun h => h, hext.same⟩⟩
  · by_cases hal : o.alive = true
    · exact objRel_mono (ownLe.refl _) hi (fun _ => hfr _ (blk_lt hs hk hal hx)) (hs.obj k o x hk hx)
    · cases o <;> simp [CObj.alive] at hal <;> trivial
  · cases hv : m'.imm x.B i with
    | none => rfl
    | some v =>
      rcases hnew _ _ _ hv with h | h
      · rw [hs.ro k o x hk hal hx i hxi] at h; cases h
      · have := blk_lt hs hk hal hx; omega
  · exact E.stable _ _ _ _ _ _ _ (hs.ext k s b hk) (fun B hB => hfr B (hs.extlt B hB)) hext.size hi (fun B i v hv => by
      rcases hnew B i v hv with h | h
      · exact .inl h
      · exact .inr fun hb => by have := hs.extlt B hb; omega) hs'.imm hs'.one
  · rcases hnew B i v hv with h | h
    · exact .inl h
    · exact .inr (.inr h)

theorem Sim.nothing {m : Bk} {w : World} (hs : Sim E m H w) : Sim Env.none { own := [], imm := m.imm, ext := fun _ => False } [] w :=
  ⟨rfl, by simp, hs.imm, hs.one, by simp, by simp, by simp, by simp, by simp⟩

/-- THE FRAME: a call of closed values that answers a closed value, from nothing to anywhere. -/
theorem CallsC.frame {f : Nat} {args : List CV} {R : CV → List CObj → Prop} {R' : CV → Prop} (h : CallsC P Env.none f args [] R) (ha : closedL args = true) (hR : ∀ v H', R v H' → v.closed = true ∧ R' v) : CallsC P E f args H fun v H' => R' v ∧ H' = H := by
  intro m w vs hs hv
  refine (h _ w vs hs.nothing (closedL_rels _ _ ha hv)).mono ?_
  rintro e w' ⟨r, m', v, H', rfl, hext, hs', hrel, hRv⟩
  obtain ⟨hcl, hR'⟩ := hR _ _ hRv
  obtain ⟨h1, h2⟩ := hs.back hext hs'
  exact ⟨r, { m with imm := m'.imm }, v, H, rfl, h2 _, h1, closed_rel v r hcl hrel, hR', rfl⟩

/-- A contract of a function that is given closed values and answers a closed value: what it made is left behind. -/
def Fn (P : Program) (f : Nat) (args : List CV) (v : CV) : Prop := ∀ (E : Env) (H : List CObj), Pure P E f args H v

theorem fn_of {f : Nat} {args : List CV} {v : CV} (h : CallsC P Env.none f args [] fun v' _ => v' = v) (ha : closedL args = true) (hv : v.closed = true) : Fn P f args v :=
  fun E H => h.frame ha fun v' _ hv' => by subst hv'; exact ⟨hv, rfl⟩

/-- The same, off the code. -/
theorem fn_of_code {f : Nat} {F : IFunc} {args : List CV} {v : CV} (hF : compFn P f = some F) (ha : closedL args = true) (hv : v.closed = true) (h : ∀ n, vrun0 P Env.none 0 ⟨n, false⟩ (retQ F.results fun v' _ => v' = v) [.code F.body] (args ++ List.replicate (F.ntmps - args.length) .un) []) : Fn P f args v :=
  fn_of (vr_fn hF h) ha hv

theorem vr_f {d : Option Nat} {f : Nat} {as : List IArg} {l : List IOper} {v : CV} (hcall : Fn P f (as.map (aget T)) v) (h : vrun P E n0 N Q (.ops l :: k) (put T d v) H) : Ok P E n0 N Q (.ops (⟨d, .call f as, none⟩ :: l) :: k) T H :=
  vr_pure (hcall E H) h

theorem vr_fg {d : Option Nat} {g : Option (Nat × Bool)} {f : Nat} {as : List IArg} {l : List IOper} {v : CV} (hg : GOk T g) (hcall : Fn P f (as.map (aget T)) v) (h : vrun P E n0 N Q (.ops l :: k) (put T d v) H) : Ok P E n0 N Q (.ops (⟨d, .call f as, g⟩ :: l) :: k) T H :=
  vr_pureg hg (hcall E H) h

end
end Go.Cm
end

section
namespace Go.Cm

def IArg.rd : IArg → List Nat
  | .s n => [n]
  | .c _ => []

def rdL : List IArg → List Nat
  | [] => []
  | x :: l => x.rd ++ rdL l

def rdO : Option IArg → List Nat
  | none => []
  | some x => x.rd

def rdP : List (Nat × Nat × IArg) → List Nat
  | [] => []
  | (_, _, x) :: l => x.rd ++ rdP l

def rdE : List (Nat × IArg) → List Nat
  | [] => []
  | (_, x) :: l => x.rd ++ rdE l

/-- The slots that an operation reads. -/
def IOp.rd : IOp → List Nat
  | .mv a => a.rd
  | .pick c a b => c.rd ++ (a.rd ++ b.rd)
  | .alloc _ => []
  | .box a => a.rd
  | .build _ ps => rdP ps
  | .bslice _ _ _ ps => rdE ps
  | .load _ _ a => a.rd
  | .store _ a v => a.rd ++ v.rd
  | .bin _ _ x y => x.rd ++ y.rd
  | .eqs _ _ x y => x.rd ++ y.rd
  | .not x => x.rd
  | .neg x => x.rd
  | .conv _ x => x.rd
  | .mkfn _ l1 l2 => rdL l1 ++ rdL l2
  | .mkmap => []
  | .mkslice _ _ _ l c => l.rd ++ c.rd
  | .slice _ x lo hi mx => x.rd ++ (rdO lo ++ (rdO hi ++ rdO mx))
  | .faddr _ x => x.rd
  | .field _ _ _ x => x.rd
  | .iaddr _ x i => x.rd ++ i.rd
  | .indexS x i => x.rd ++ i.rd
  | .lookup _ _ _ m k => m.rd ++ k.rd
  | .mapset _ m k v => m.rd ++ (k.rd ++ v.rd)
  | .len _ x => x.rd
  | .append _ _ s x => s.rd ++ x.rd
  | .clear _ x => x.rd
  | .extract x _ => x.rd
  | .call _ as => rdL as
  | .callv x as => x.rd ++ rdL as

/-- The same at these slots. -/
def agree (l : List Nat) (T T' : List CV) : Prop := ∀ s ∈ l, T.getD s .un = T'.getD s .un

theorem agree_app {a b : List Nat} {T T' : List CV} (h : agree (a ++ b) T T') : agree a T T' ∧ agree b T T' :=
  ⟨fun s hs => h s (by simp [hs]), fun s hs => h s (by simp [hs])⟩

theorem agree_arg {x : IArg} {T T' : List CV} (h : agree x.rd T T') : aget T x = aget T' x := by
  cases x with
  | s n => exact h n (by simp [IArg.rd])
  | c v => rfl

theorem agree_argL {T T' : List CV} : ∀ {l : List IArg}, agree (rdL l) T T' → l.map (aget T) = l.map (aget T')
  | [], _ => rfl
  | x :: l, h => by
    simp only [rdL] at h
    simp only [List.map_cons, agree_arg (agree_app h).1, agree_argL (agree_app h).2]

theorem agree_fillParts {T T' : List CV} : ∀ {ps : List (Nat × Nat × IArg)} {c : List CV}, agree (rdP ps) T T' → fillParts T c ps = fillParts T' c ps
  | [], _, _ => rfl
  | (off, n, x) :: ps, c, h => by
    simp only [rdP] at h
    simp only [fillParts, agree_arg (agree_app h).1]
    split
    · rfl
    · split
      · exact agree_fillParts (agree_app h).2
      · rfl

theorem agree_fillEls {z : Nat} {T T' : List CV} : ∀ {ps : List (Nat × IArg)} {c : List (List CV)}, agree (rdE ps) T T' → fillEls T z c ps = fillEls T' z c ps
  | [], _, _ => rfl
  | (i, x) :: ps, c, h => by
    simp only [rdE] at h
    simp only [fillEls, agree_arg (agree_app h).1]
    split
    · rfl
    · split
      · exact agree_fillEls (agree_app h).2
      · rfl

theorem agree_bound {d : Int} {x : Option IArg} {T T' : List CV} (h : agree (rdO x) T T') : exBound T d x = exBound T' d x := by
  cases x with
  | none => rfl
  | some x => simp only [exBound, agree_arg (T := T) (T' := T') (x := x) h]
theorem agree_hi {v : CV} {x : Option IArg} {T T' : List CV} (h : agree (rdO x) T T') : exHi T v x = exHi T' v x := by
  cases x with
  | none => rfl
  | some x => simp only [exHi, agree_arg (T := T) (T' := T') (x := x) h]
theorem agree_mx {x : Option IArg} {T T' : List CV} (h : agree (rdO x) T T') : exMx T x = exMx T' x := by
  cases x with
  | none => rfl
  | some x => simp only [exMx, agree_arg (T := T) (T' := T') (x := x) h]

theorem exec_congr {op : IOp} {T T' : List CV} {H : List CObj} (h : agree op.rd T T') : exec op T H = exec op T' H := by
  cases op <;> simp only [IOp.rd] at h <;> simp only [exec]
  case mv a => rw [agree_arg h]
  case pick c a b => rw [agree_arg (agree_app h).1, agree_arg (agree_app (agree_app h).2).1, agree_arg (agree_app (agree_app h).2).2]
  case box a => rw [agree_arg h]
  case build z ps => rw [agree_fillParts h]
  case bslice z n zero ps => rw [agree_fillEls h]
  case load => rw [agree_arg h]
  case store => rw [agree_arg (agree_app h).1, agree_arg (agree_app h).2]
  case bin => rw [agree_arg (agree_app h).1, agree_arg (agree_app h).2]
  case eqs => rw [agree_arg (agree_app h).1, agree_arg (agree_app h).2]
  case not => rw [agree_arg h]
  case neg => rw [agree_arg h]
  case conv => rw [agree_arg h]
  case mkfn => rw [agree_argL (agree_app h).1, agree_argL (agree_app h).2]
  case mkslice => rw [agree_arg (agree_app h).1, agree_arg (agree_app h).2]
  case slice => rw [agree_arg (agree_app h).1, agree_bound (agree_app (agree_app h).2).1, agree_hi (agree_app (agree_app (agree_app h).2).2).1, agree_mx (agree_app (agree_app (agree_app h).2).2).2]
  case faddr => rw [agree_arg h]
  case field => rw [agree_arg h]
  case iaddr => rw [agree_arg (agree_app h).1, agree_arg (agree_app h).2]
  case indexS => rw [agree_arg (agree_app h).1, agree_arg (agree_app h).2]
  case lookup => rw [agree_arg (agree_app h).1, agree_arg (agree_app h).2]
  case mapset => rw [agree_arg (agree_app h).1, agree_arg (agree_app (agree_app h).2).1, agree_arg (agree_app (agree_app h).2).2]
  case len => rw [agree_arg h]
  case append => rw [agree_arg (agree_app h).1, agree_arg (agree_app h).2]
  case clear => rw [agree_arg h]
  case extract => rw [agree_arg h]

/-- A row, or a cell, that is made of closed values, and is only read. -/
def FV (op : IOp) (T : List CV) (v : CV) : Prop :=
  closedL (op.rd.map fun s => T.getD s .un) = true ∧ v.closed = true ∧ ∃ c v0 H0 id z els, exec op T [] = some (c, v0, H0) ∧ c.holds ∧ H0[id]? = some (.arr z els) ∧ closedEls els = true ∧ v = frz id z els v0

theorem FV.congr {op : IOp} {T T' : List CV} {v : CV} (h : agree op.rd T T') (hv : FV op T v) : FV op T' v := by
  obtain ⟨h1, h2, c, v0, H0, id, z, els, h3, h4⟩ := hv
  refine ⟨?_, h2, c, v0, H0, id, z, els, by rw [← exec_congr h]; exact h3, h4⟩
  rw [← h1]
  congr 1
  exact List.map_congr_left fun s hs => (h s hs).symm

/-- The slots that an operation with its guard reads. -/
def IOper.rd (io : IOper) : List Nat := (match io.guard with | some (g, _) => [g] | none => []) ++ io.op.rd

section
variable (P : Program) (E : Env)

/-- What an operation gives that leaves the heap. -/
def Val (io : IOper) (T : List CV) (H : List CObj) (v : CV) : Prop :=
  (∃ g want, io.guard = some (g, want) ∧ (T.getD g .un = .bool (!want) ∨ T.getD g .un = .tup []) ∧ v = .tup []) ∨
  (GOk T io.guard ∧ ((∃ c, exec io.op T H = some (c, v, H) ∧ c.holds) ∨ (∃ f as, io.op = .call f as ∧ Pure P E f (as.map (aget T)) H v) ∨ FV io.op T v))

end

section
variable {P : Program} {E : Env} {n0 : Nat} {N : Fr} {Q : Exit → List CV → List CObj → Prop} {H : List CObj} {T T' : List CV} {k : List KItem} {io : IOper} {v : CV}

theorem Val.congr (h : agree io.rd T T') (hv : Val P E io T H v) : Val P E io T' H v := by
  obtain ⟨d, op, g⟩ := io
  have hg := (agree_app h).1
  have ho := (agree_app h).2
  rcases hv with ⟨s, want, h1, h2, h3⟩ | ⟨h1, h2⟩
  · simp only at h1; subst h1
    exact .inl ⟨s, want, rfl, by rw [← hg s (by simp)]; exact h2, h3⟩
  · refine .inr ⟨?_, ?_⟩
    · rcases h1 with h1 | ⟨s, want, h1, h4⟩
      · exact .inl h1
      · simp only at h1; subst h1
        exact .inr ⟨s, want, rfl, by rw [← hg s (by simp)]; exact h4⟩
    · rcases h2 with ⟨c, h5, h6⟩ | ⟨f, as, h5, h6⟩ | h5
      · exact .inl ⟨c, by rw [← exec_congr ho]; exact h5, h6⟩
      · simp only at h5; subst h5
        exact .inr (.inl ⟨f, as, rfl, by rw [← agree_argL ho]; exact h6⟩)
      · exact .inr (.inr (h5.congr ho))

/-- The frame but for the slots that are read. -/
def onlyAt (rd : List Nat) (T : List CV) : Nat → List CV
  | 0 => []
  | n + 1 => onlyAt rd T n ++ [if rd.contains n then T.getD n .un else .un]

theorem onlyAt_len (rd : List Nat) (T : List CV) : ∀ n, (onlyAt rd T n).length = n
  | 0 => rfl
  | n + 1 => by simp [onlyAt, onlyAt_len rd T n]

theorem onlyAt_get (rd : List Nat) (T : List CV) : ∀ n i, i < n → (onlyAt rd T n)[i]? = some (if rd.contains i then T.getD i .un else .un)
  | n + 1, i, h => by
    rw [onlyAt]
    by_cases hi : i < n
    · rw [List.getElem?_append_left (by rw [onlyAt_len]; exact hi)]; exact onlyAt_get rd T n i hi
    · have : i = n := by omega
      subst this
      rw [List.getElem?_append_right (by rw [onlyAt_len]; exact Nat.le_refl _), onlyAt_len, Nat.sub_self]; rfl

theorem onlyAt_agree (rd : List Nat) (T : List CV) : agree rd T (onlyAt rd T T.length) := by
  intro s hs
  by_cases h : s < T.length
  · have h1 := onlyAt_get rd T T.length s h
    have h2 : rd.contains s = true := by simpa using hs
    rw [h2, if_pos rfl] at h1
    simp only [List.getD_eq_getElem?_getD, h1, Option.getD_some]
  · have h1 : (onlyAt rd T T.length)[s]? = none := List.getElem?_eq_none (by rw [onlyAt_len]; omega)
    have h2 : T[s]? = none := List.getElem?_eq_none (by omega)
    simp only [List.getD_eq_getElem?_getD, h1, h2]

theorem onlyAt_rels {rd : List Nat} {T : List CV} {vs : List Value} {own own' : List Own} {imm : Nat → Nat → Option Value} (hc : closedL (rd.map fun s => T.getD s .un) = true) (h : rels own imm T vs) : rels own' imm (onlyAt rd T T.length) vs := by
  rw [rels_iff] at h ⊢
  refine ⟨by rw [onlyAt_len]; exact h.1, fun i c v hc' hv => ?_⟩
  have hi : i < T.length := by have := (List.getElem?_eq_some_iff.1 hc').1; rwa [onlyAt_len] at this
  rw [onlyAt_get rd T _ i hi] at hc'
  cases hc'
  by_cases hm : rd.contains i = true
  · rw [if_pos hm]
    refine closed_rel _ _ ?_ (h.2 i _ v (by rw [List.getElem?_eq_getElem hi, List.getD_eq_getElem?_getD, List.getElem?_eq_getElem hi]; rfl) hv)
    have hmem : i ∈ rd := by simpa using hm
    obtain ⟨j, hj⟩ := List.getElem?_of_mem (List.mem_map_of_mem (f := fun s => T.getD s .un) hmem)
    exact closedL_get hc j _ hj
  · rw [if_neg hm]; simp only [rel]

theorem ok_fv {d : Option Nat} {op : IOp} {g : Option (Nat × Bool)} {l : List IOper} (hg : GOk T g) (hv : FV op T v) (h : Ok P E n0 N Q (.ops l :: k) (put T d v) H) : Ok P E n0 N Q (.ops (⟨d, op, g⟩ :: l) :: k) T H := by
  obtain ⟨hcl, hvc, c, v0, H0, id, z, els, he, hc, hH, hce, hvf⟩ := hv
  intro m w a b cs kr rest hp hd hk
  obtain ⟨ops, i, is, kr', o, rfl, ho, hco, hk'⟩ := ops_cons hk
  obtain ⟨hw, hdst, hop⟩ := wanted_ok hco hg hp.tmps
  have hp0 : Pre Env.none 0 { own := [], imm := m.imm, ext := fun _ => False } [] w (onlyAt op.rd T T.length) a := ⟨hp.sim.nothing, onlyAt_rels hcl hp.tmps, Nat.zero_le _⟩
  obtain ⟨m1, w1, r, nx, hrun, hnx, hext, hsim, hrel, _⟩ := comp_sound hop (by rw [← exec_congr (onlyAt_agree op.rd T)]; exact he) hc hp0
  obtain ⟨imm', hs', he', hf⟩ := Sim.freeze (n0 := 0) hsim hH hce
  obtain ⟨g1, g2⟩ := hp.sim.back (hext.trans he') hs'
  have hr := closed_rel (own' := m.own) v r hvc (by rw [hvf]; exact hf _ _ hrel)
  have hst := step_value (b := b) (cs := cs) (is := is) (kr := kr' ++ rest) ho hw (semAt_plain hop) hrun hnx
  rw [hdst] at hst
  refine Reach.step (.one hst) (g2 n0) (h _ w1 _ b cs (.inRegion ops is :: kr') rest (pre_put g1 (rels_mono (ownLe.refl _) (hext.trans he').imm _ _ hp.tmps) hp.long hr) ?_ hk')
  rw [put_defers]; exact hd.ext (g2 n0)

theorem Val.ok {l : List IOper} (hv : Val P E io T H v) (h : Ok P E n0 N Q (.ops l :: k) (put T io.dst v) H) : Ok P E n0 N Q (.ops (io :: l) :: k) T H := by
  obtain ⟨d, op, g⟩ := io
  rcases hv with ⟨s, want, h1, h2, h3⟩ | ⟨h1, h2⟩
  · subst h3; exact ok_skipop h1 h2 h
  · rcases h2 with ⟨c, h5, h6⟩ | ⟨f, as, h5, h6⟩ | h5
    · exact ok_op h1 h5 h6 h
    · simp only at h5; subst h5
      exact ok_call h1 h6 fun v' H' ⟨hv, hH⟩ => by rw [hv, hH]; exact h
    · exact ok_fv h1 h5 h

end
end Go.Cm
end
