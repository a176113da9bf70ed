/-
  The framework Cm, part DH: drawn regions that write to the heap: each operation with the objects it looks at and the objects it
  changes; whatever is drawn, the end is that of the text's order. Conditions: none.
  The framework Cm, part DI: drawn regions whose walk ends in given slots and a given heap; two operations that no edge orders and
  that both make objects. Conditions: none.
  Parts of arrays: the statements RegionCells and RegionSizes, their code. Conditions: none.
  Parts of arrays: the statements RegionEnds and RegionLeast, their code. Conditions: none.
  Parts of arrays: what does not depend on the order of the parts, nor on empty parts. Conditions: none.
  Parts of arrays: a part cut into two; the statement RegionSplit, its code. Conditions: none.
  THE STATEMENT RegionSplit: for every input the law returns true, and its arguments read as before. Conditions: none.
-/
import Derived.Test.YtodbhbjjeamoaaaCm3
import Derived.Test.YtodbhbjjeamoaaaPt2
import Derived.Test.YtodbhbjjeamoaaaRows
import Derived.WalkKit
import Derived.ProofKit
set_option linter.unusedSimpArgs false
set_option linter.unusedVariables false

section
namespace Go.Cm

/-- Which parts of the heap: 0 is its length, i + 1 the object i. -/
inductive Foot where
  | all
  | on (l : List Nat)

def Foot.has : Foot → Nat → Prop
  | .all, _ => True
  | .on l, x => x ∈ l

def Foot.meets : Foot → Foot → Bool
  | .all, .all => true
  | .all, .on l => !l.isEmpty
  | .on l, .all => !l.isEmpty
  | .on l, .on l' => l.any fun x => l'.contains x

theorem Foot.meets_of {a b : Foot} {x : Nat} (ha : a.has x) (hb : b.has x) : a.meets b = true := by
  cases a <;> cases b <;> simp only [Foot.has, Foot.meets] at *
  · rename_i l; cases l <;> simp_all
  · rename_i l; cases l <;> simp_all
  · exact List.any_eq_true.2 ⟨x, ha, by simpa using hb⟩

def hat (H : List CObj) : Nat → Option CObj × Nat
  | 0 => (none, H.length)
  | i + 1 => (H[i]?, 0)

theorem hat_ext {H H' : List CObj} (h : ∀ x, hat H x = hat H' x) : H = H' := List.ext_getElem? fun i => by
  have := h (i + 1)
  simpa [hat] using this

def lfoot (fs : List (Foot × Foot)) (i : Nat) : Foot × Foot := fs.getD i (.all, .all)

section
variable (P : Program) (E : Env)

/-- What an operation gives and does: v, and the heap H' for H; wherever the heap is as H in what it looks at. -/
structure HS (io : IOper) (T : List CV) (H : List CObj) (v : CV) (H' : List CObj) (f : Foot × Foot) : Prop where
  out : ∀ x, ¬ f.2.has x → hat H' x = hat H x
  run : ∀ T2 H2, agree io.rd T T2 → (∀ x, f.1.has x → hat H2 x = hat H x) → ∃ H2', (∀ x, f.2.has x → hat H2' x = hat H' x) ∧ (∀ x, ¬ f.2.has x → hat H2' x = hat H2 x) ∧
    ∀ (n0 : Nat) (N : Fr) (Q : Exit → List CV → List CObj → Prop) (k : List KItem) (l : List IOper), Ok P E n0 N Q (.ops l :: k) (put T2 io.dst v) H2' → Ok P E n0 N Q (.ops (io :: l) :: k) T2 H2

end

def orderedH (l : List IOper) (es : List (List Nat)) (fs : List (Foot × Foot)) : Bool :=
  ordered l es && (List.range l.length).all fun i => (List.range l.length).all fun j => i == j || !((lfoot fs i).2.meets (lfoot fs j).1 || (lfoot fs i).2.meets (lfoot fs j).2) || (es.getD j []).contains i || (es.getD i []).contains j

structure OrderedH (l : List IOper) (es : List (List Nat)) (fs : List (Foot × Foot)) : Prop where
  base : Ordered l es
  ord : ∀ i j x, i < l.length → j < l.length → i ≠ j → (lfoot fs i).2.has x → ((lfoot fs j).1.has x ∨ (lfoot fs j).2.has x) → i ∈ es.getD j [] ∨ j ∈ es.getD i []

theorem orderedH_sound {l : List IOper} {es : List (List Nat)} {fs : List (Foot × Foot)} (h : orderedH l es fs = true) : OrderedH l es fs := by
  simp only [orderedH, Bool.and_eq_true, List.all_eq_true, List.mem_range] at h
  refine ⟨ordered_sound h.1, fun i j x hi hj hne h1 h2 => ?_⟩
  have h3 := h.2 i hi j hj
  have hm : ((lfoot fs i).2.meets (lfoot fs j).1 || (lfoot fs i).2.meets (lfoot fs j).2) = true := by
    rcases h2 with h2 | h2
    · rw [Foot.meets_of h1 h2]; rfl
    · rw [Foot.meets_of h1 h2, Bool.or_true]
  have hne' : (i == j) = false := by simpa using hne
  rw [hm, hne'] at h3
  simp only [Bool.false_or, Bool.not_true, Bool.or_eq_true, List.contains_iff_mem] at h3
  exact h3

def AtH (l : List IOper) (fs : List (Foot × Foot)) (hh : Nat → List CObj) (S : Nat → Bool) (H : List CObj) : Prop :=
  ∀ x m, m ≤ l.length → (∀ i, i < l.length → (lfoot fs i).2.has x → (S i = true ↔ i < m)) → hat H x = hat (hh m) x

section
variable {P : Program} {E : Env} {n0 : Nat} {N : Fr} {Q : Exit → List CV → List CObj → Prop} {H : List CObj} {T : List CV} {k : List KItem} {l : List IOper} {es : List (List Nat)} {fs : List (Foot × Foot)} {v : Nat → CV} {hh : Nat → List CObj}

theorem hh_const (hv : ∀ j, j < l.length → HS P E (lget l j) (tst l v T j) (hh j) (v j) (hh (j + 1)) (lfoot fs j)) {x a : Nat} : ∀ d, a + d ≤ l.length → (∀ i, a ≤ i → i < a + d → ¬ (lfoot fs i).2.has x) → hat (hh (a + d)) x = hat (hh a) x
  | 0, _, _ => rfl
  | d + 1, h, hn => by
    have h1 := (hv (a + d) (by omega)).out x (hn (a + d) (by omega) (by omega))
    have h2 := hh_const hv d (by omega) fun i hi hi' => hn i hi (by omega)
    rw [← h2]; exact h1

theorem any_orderH (ho : OrderedH l es fs) (hv : ∀ j, j < l.length → HS P E (lget l j) (tst l v T j) (hh j) (v j) (hh (j + 1)) (lfoot fs j)) (hfin : Ok P E n0 N Q k (tst l v T l.length) (hh l.length)) {S : Nat → Bool} {is : List Nat} (h : Sched l.length es S is) :
    ∀ T' H', (∀ i, i < l.length → S i = true → ∀ e ∈ es.getD i [], S e = true) → At l v T S T' → AtH l fs hh S H' → Ok P E n0 N Q (.ops (is.map (lget l)) :: k) T' H' := by
  induction h with
  | nil hn =>
    rename_i S
    intro T' H' hcl hA hB
    have hall : ∀ i, i < l.length → S i = true := by
      intro i
      induction i using Nat.strongRecOn with
      | _ i ih =>
        intro hi
        cases hS : S i with
        | true => rfl
        | false =>
          obtain ⟨e, he, hSe⟩ := hn i hi hS
          have hlt := ho.base.lt i hi e he
          have := ih e hlt (by omega)
          rw [this] at hSe; cases hSe
    have hH : H' = hh l.length := hat_ext fun x => hB x l.length (Nat.le_refl _) fun i hi _ => ⟨fun _ => hi, fun _ => hall i hi⟩
    rw [hA.all ho.base hall, hH]
    exact ok_ops_nil hfin
  | cons hi hS hr _ ih =>
    rename_i S j is hrest
    intro T' H' hcl hA hB
    have key : ∀ i, i < l.length → i ≠ j → ∀ x, (lfoot fs i).2.has x → ((lfoot fs j).1.has x ∨ (lfoot fs j).2.has x) → (S i = true ↔ i < j) := by
      intro i hil hne x h1 h2
      have h3 := ho.ord i j x hil hi hne h1 h2
      constructor
      · intro hSi
        rcases h3 with h3 | h3
        · exact ho.base.lt j hi i h3
        · have := hcl i hil hSi j h3; rw [hS] at this; cases this
      · intro hlt
        rcases h3 with h3 | h3
        · exact hr i h3
        · have := ho.base.lt i hil j h3; omega
    obtain ⟨H2', g1, g2, g3⟩ := (hv j hi).run T' H' (hA.agree ho.base hcl hi hS hr) (fun x hx => hB x j (by omega) fun i hil hw => by
      by_cases hij : i = j
      · subst hij; rw [hS]; simp
      · exact key i hil hij x hw (.inl hx))
    refine g3 n0 N Q k _ (ih _ _ (fun i hil hSi e he => ?_) (hA.step ho.base hi hS) ?_)
    · simp only [Bool.or_eq_true, beq_iff_eq] at hSi ⊢
      rcases hSi with h | h
      · exact .inl (hcl i hil h e he)
      · subst h; exact .inl (hr e he)
    · intro x m hm hw
      by_cases hx : (lfoot fs j).2.has x
      · rw [g1 x hx]
        have hjm : j < m := (hw j hi hx).1 (by simp)
        have hc := hh_const hv (x := x) (a := j + 1) (m - (j + 1)) (by omega) (fun i h1 h2 hxi => by
          have hil : i < l.length := by omega
          have h4 := (hw i hil hxi).2 (by omega)
          have hne : i ≠ j := by omega
          have h5 : S i = true := by simpa [hne] using h4
          have := (key i hil hne x hxi (.inr hx)).1 h5
          omega)
        have e : j + 1 + (m - (j + 1)) = m := by omega
        rw [e] at hc
        exact hc.symm
      · rw [g2 x hx]
        refine hB x m hm fun i hil hxi => ?_
        have hne : i ≠ j := fun e => hx (e ▸ hxi)
        have := hw i hil hxi
        simpa [hne] using this

/-- The edges with what follows from them. -/
def clo (es : List (List Nat)) : List (List Nat) := es.foldl (fun acc e => acc ++ [(e ++ e.flatMap fun d => acc.getD d []).eraseDups]) []

def cloOk (n : Nat) (es es' : List (List Nat)) : Bool := (List.range n).all fun j => ((es.getD j []).all fun e => (es'.getD j []).contains e) && (es'.getD j []).all fun e => (es.getD j []).contains e || (es.getD j []).any fun d => decide (d < j) && (es'.getD d []).contains e

theorem sched_clo {n : Nat} {es es' : List (List Nat)} (h : cloOk n es es' = true) {S : Nat → Bool} {is : List Nat} (hs : Sched n es S is) : (∀ i, i < n → S i = true → ∀ e ∈ es.getD i [], S e = true) → Sched n es' S is := by
  simp only [cloOk, List.all_eq_true, List.mem_range, Bool.and_eq_true, Bool.or_eq_true, List.any_eq_true, decide_eq_true_eq, List.contains_iff_mem] at h
  have up : ∀ (S : Nat → Bool), (∀ i, i < n → S i = true → ∀ e ∈ es.getD i [], S e = true) → ∀ j, j < n → (∀ e ∈ es.getD j [], S e = true) → ∀ e ∈ es'.getD j [], S e = true := by
    intro S hcl j
    induction j using Nat.strongRecOn with
    | _ j ih =>
      intro hj hd e he
      rcases (h j hj).2 e he with h1 | ⟨d, h1, h2, h3⟩
      · exact hd e h1
      · exact ih d h2 (by omega) (hcl d (by omega) (hd d h1)) e h3
  induction hs with
  | nil hn =>
    intro _
    refine .nil fun i hi hS => ?_
    obtain ⟨e, h1, h2⟩ := hn i hi hS
    exact ⟨e, (h i hi).1 e h1, h2⟩
  | cons hi hS hr _ ih =>
    rename_i S j is _
    intro hcl
    refine .cons hi hS (up S hcl j hi hr) (ih fun i hil hSi e he => ?_)
    simp only [Bool.or_eq_true, beq_iff_eq] at hSi ⊢
    rcases hSi with h1 | h1
    · exact .inl (hcl i hil h1 e he)
    · subst h1; exact .inl (hr e he)

/-- THE RULE FOR A REGION WHOSE ORDER IS DRAWN, heap and all. -/
theorem ok_dregH {es' : List (List Nat)} (hclo : cloOk l.length es es' = true) (hm : P.follows .mixedOrders = true) (hord : orderedH l es' fs = true) (hv : ∀ j, j < l.length → HS P E (lget l j) (tst l v T j) (hh j) (v j) (hh (j + 1)) (lfoot fs j)) (h0 : hh 0 = H) (hfin : Ok P E n0 N Q k (tst l v T l.length) (hh l.length)) : Ok P E n0 N Q (.code (.dreg l es) :: k) T H := by
  intro m w a b cs kr rest hp hd hk
  simp only [KRel] at hk
  obtain ⟨c', kr', rfl, hc, hk'⟩ := hk
  obtain ⟨id, ops, rfl, h1, rfl⟩ := inv_dreg hc
  obtain ⟨hl, hg⟩ := compOpers_get _ _ h1
  have hln : ops.size = l.length := by simpa using hl.symm
  have hsch := sched_go ops ops.size (w.tape w.drawn (.order b.fn id)) (Array.replicate ops.size false) (by simp) (by simp)
  have hst := stepR_region_draw (P := P) (b := b) (a := a) (k := kr' ++ rest) (cs := cs) (w := w) (ops := ops) (id := id)
  simp only [Region.schedule, hm, Bool.true_or, if_true, Region.linearise] at hst
  generalize Region.linearise.go .any ops ops.size (w.tape w.drawn (.order b.fn id)) (Array.replicate ops.size false) [] = is at hsch hst
  have hS0 : (fun i => (Array.replicate ops.size false).getD i false) = fun _ => false := by
    funext i
    simp only [Array.getD_eq_getD_getElem?, Array.getElem?_replicate]
    split <;> rfl
  rw [hS0, hln] at hsch
  have hlts : ∀ i ∈ is, i < l.length := by
    clear hst
    generalize (fun _ => false : Nat → Bool) = S at hsch
    induction hsch with
    | nil _ => intro i hi; cases hi
    | cons h _ _ _ ih => intro i hi; rcases List.mem_cons.1 hi with h' | h'
                         · subst h'; exact h
                         · exact ih i h'
  have hor := orderedH_sound hord
  have hsch := sched_clo hclo hsch fun _ _ h => by cases h
  have hrun := any_orderH (n0 := n0) (N := N) (Q := Q) (k := k) hor hv hfin hsch T H (fun _ _ h => by cases h) ⟨rfl, fun _ _ => rfl, fun _ _ _ h => by cases h⟩ (fun x m hm hw => by
    have hc := hh_const hv (x := x) (a := 0) m (by omega) (fun i _ h2 hxi => by
      have := (hw i (by omega) hxi).2 (by omega)
      cases this)
    rw [Nat.zero_add] at hc
    rw [hc, h0])
  have hs' : Sim E m H { w with drawn := w.drawn + 1 } := hp.sim.congr rfl
  have hx : Ext n0 m H w m H { w with drawn := w.drawn + 1 } := Ext.congr rfl ⟨rfl, rfl, rfl⟩
  refine Reach.step (.one hst) hx (hrun m _ a b cs (.inRegion ops is :: kr') rest ⟨hs', hp.tmps, hp.long⟩ (hd.ext hx) ?_)
  simp only [KRel]
  refine ⟨ops, is, kr', rfl, ⟨by simp, fun j i hj => ?_⟩, hk'⟩
  have hi := hlts i (List.mem_of_getElem? hj)
  obtain ⟨io, h2, h3⟩ := hg i (ops[i]'(by omega)) (by simp)
  exact ⟨ops[i]'(by omega), io, Array.getElem?_eq_getElem (by omega), by simp [hj, lget, List.getD_eq_getElem?_getD, h2], h3⟩

/-! ### Single operations -/

abbrev Foot.no : Foot × Foot := (.on [], .on [])
abbrev Foot.any : Foot × Foot := (.all, .all)

theorem hs_val {io : IOper} {x : CV} (h : ∀ H2, Val P E io T H2 x) : HS P E io T H x H Foot.no :=
  ⟨fun _ _ => rfl, fun T2 H2 ha _ => ⟨H2, fun y hy => (by cases hy), fun _ _ => rfl, fun _ _ _ _ _ hok => ((h H2).congr ha).ok hok⟩⟩

theorem gok_congr {io : IOper} {T2 : List CV} (h : agree io.rd T T2) (hg : GOk T io.guard) : GOk T2 io.guard := by
  obtain ⟨d, op, g⟩ := io
  rcases hg with h1 | ⟨s, want, h1, h4⟩
  · exact .inl h1
  · simp only at h1; subst h1
    exact .inr ⟨s, want, rfl, by rw [← (agree_app h).1 s (by simp)]; exact h4⟩

theorem hs_op {io : IOper} {x : CV} {c : Cond} {H' : List CObj} (hg : GOk T io.guard) (he : exec io.op T H = some (c, x, H')) (hc : c.holds) : HS P E io T H x H' Foot.any := by
  refine ⟨fun _ hn => absurd trivial hn, fun T2 H2 ha hx => ?_⟩
  have hH : H2 = H := hat_ext fun y => hx y trivial
  subst hH
  exact ⟨H', fun _ _ => rfl, fun _ hn => absurd trivial hn, fun _ _ _ _ _ hok => ok_op (gok_congr ha hg) (by rw [← exec_congr (agree_app ha).2]; exact he) hc hok⟩

end

/-! ### Operations that do not look at the heap -/

def stays : IOp → Bool
  | .mv _ => true
  | .bin _ _ _ _ => true
  | .slice _ _ _ _ _ => true
  | .len _ _ => true
  | .not _ => true
  | .neg _ => true
  | .conv _ _ => true
  | .pick _ _ _ => true
  | .build _ _ => true
  | .field _ _ _ _ => true
  | .faddr _ _ => true
  | .extract _ _ => true
  | .load _ _ _ => true
  | .iaddr _ _ _ => true
  | _ => false

theorem exSlice_nil {z : Nat} {x : CV} {lo hi : Int} {mx : Option Int} {r : Cond × CV} (h : exSlice z [] x lo hi mx = some r) (H : List CObj) : exSlice z H x lo hi mx = some r := by
  cases x <;> simp only [exSlice, List.getElem?_nil, reduceCtorEq] at h ⊢ <;> exact h

theorem exec_nil {op : IOp} {T : List CV} {c : Cond} {x : CV} (hop : stays op = true) (h : exec op T [] = some (c, x, [])) (H : List CObj) : exec op T H = some (c, x, H) := by
  cases op <;> simp only [stays, Bool.false_eq_true] at hop
  case slice z y lo hi mx =>
    simp only [exec] at h ⊢
    split at h
    · rename_i l hh m h1 h2 h3
      split at h
      · rename_i c' v' h4
        rw [exSlice_nil h4 H]
        simp_all
      · cases h
    · cases h
  case len tk y =>
    simp only [exec] at h ⊢
    split at h <;> simp_all
  all_goals
    simp only [exec] at h ⊢
    repeat' split at h
    all_goals simp_all

/-! ### The walk -/

/-- What an operation does: b says that it may look at the heap and change it. -/
def hexec (b : Bool) (op : IOp) (T : List CV) (H : List CObj) : Option (Cond × CV × List CObj) :=
  if b = true then exec op T H else if stays op = true then (match exec op T [] with | some (c, v, []) => some (c, v, H) | _ => none) else none

def footOf (b : Bool) : Foot × Foot := if b then Foot.any else Foot.no

section
variable (P : Program) (E : Env) (n0 : Nat) (N : Fr) (Q : Exit → List CV → List CObj → Prop)

def vdh (k : List KItem) : List IOper → List Bool → List CV → List CObj → Prop
  | [], _, T, H => vrun P E n0 N Q k T H
  | _ :: _, [], _, _ => False
  | ⟨d, op, none⟩ :: l, b :: bs, T, H => match hexec b op T H with
    | some (c, v, H') => c.holds ∧ vdh k l bs (put T d v) H'
    | none => ∃ v H', HS P E ⟨d, op, none⟩ T H v H' (footOf b) ∧ vdh k l bs (put T d v) H'
  | ⟨d, op, some g⟩ :: l, b :: bs, T, H => ∃ v H', HS P E ⟨d, op, some g⟩ T H v H' (footOf b) ∧ vdh k l bs (put T d v) H'

def vdhR (r : Option (Cond × CV × List CObj)) (d : Option Nat) (op : IOp) (b : Bool) (k : List KItem) (l : List IOper) (bs : List Bool) (T : List CV) (H : List CObj) : Prop :=
  match r with
  | some (c, v, H') => c.holds ∧ vdh P E n0 N Q k l bs (put T d v) H'
  | none => ∃ v H', HS P E ⟨d, op, none⟩ T H v H' (footOf b) ∧ vdh P E n0 N Q k l bs (put T d v) H'

end

section
variable {P : Program} {E : Env} {n0 : Nat} {N : Fr} {Q : Exit → List CV → List CObj → Prop} {H H' : List CObj} {T : List CV} {k : List KItem} {l : List IOper} {es : List (List Nat)} {bs : List Bool}

theorem vh_nil : vdh P E n0 N Q k [] bs T H = vrun P E n0 N Q k T H := propext (by cases bs <;> exact Iff.rfl)
theorem vh_op {d : Option Nat} {op : IOp} {b : Bool} : vdh P E n0 N Q k (⟨d, op, none⟩ :: l) (b :: bs) T H = vdhR P E n0 N Q (hexec b op T H) d op b k l bs T H := propext Iff.rfl
theorem vdhR_some {d : Option Nat} {op : IOp} {b : Bool} {c : Cond} {v : CV} : vdhR P E n0 N Q (some (c, v, H')) d op b k l bs T H = (c.holds ∧ vdh P E n0 N Q k l bs (put T d v) H') := propext Iff.rfl

theorem vdh_look {T' : List CV} {H' : List CObj} (hT : T = T') (hH : H = H') : vdh P E n0 N Q k l bs T H = vdh P E n0 N Q k l bs T' H' := by rw [hT, hH]
theorem vdhR_look {r r' : Option (Cond × CV × List CObj)} {d : Option Nat} {op : IOp} {b : Bool} (h : r = r') : vdhR P E n0 N Q r d op b k l bs T H = vdhR P E n0 N Q r' d op b k l bs T H := by rw [h]
attribute [congr] vdh_look vdhR_look

theorem hexec_sound {b : Bool} {d : Option Nat} {op : IOp} {c : Cond} {v : CV} (he : hexec b op T H = some (c, v, H')) (hc : c.holds) : HS P E ⟨d, op, none⟩ T H v H' (footOf b) := by
  unfold hexec at he
  split at he
  · rename_i hb; subst hb
    exact hs_op (.inl rfl) he hc
  · rename_i hb
    split at he
    · rename_i hs
      split at he
      · rename_i c' v' h1
        simp only [Option.some.injEq, Prod.mk.injEq] at he
        obtain ⟨rfl, rfl, rfl⟩ := he
        have : b = false := by simpa using hb
        subst this
        exact hs_val fun H2 => .inr ⟨.inl rfl, .inl ⟨_, exec_nil hs h1 H2, hc⟩⟩
      · cases he
    · cases he

theorem vdh_vals : ∀ (l : List IOper) (bs : List Bool) (T : List CV) (H : List CObj), vdh P E n0 N Q k l bs T H → l.length = bs.length → ∃ (v : Nat → CV) (hh : Nat → List CObj), hh 0 = H ∧ (∀ j, j < l.length → HS P E (lget l j) (tst l v T j) (hh j) (v j) (hh (j + 1)) (lfoot (bs.map footOf) j)) ∧ vrun P E n0 N Q k (tst l v T l.length) (hh l.length)
  | [], bs, T, H, h, _ => ⟨fun _ => .un, fun _ => H, rfl, by simp, by rw [vh_nil] at h; exact h⟩
  | io :: l, [], T, H, h, hl => by simp at hl
  | io :: l, b :: bs, T, H, h, hl => by
    have hex : ∃ v0 H', HS P E io T H v0 H' (footOf b) ∧ vdh P E n0 N Q k l bs (put T io.dst v0) H' := by
      obtain ⟨d, op, g⟩ := io
      cases g with
      | none =>
        rw [vh_op] at h
        unfold vdhR at h
        split at h
        · rename_i c v H' he
          exact ⟨v, H', hexec_sound he h.1, h.2⟩
        · exact h
      | some g => exact h
    obtain ⟨v0, H', h1, h2⟩ := hex
    obtain ⟨v, hh, h0, h3, h4⟩ := vdh_vals l bs _ _ h2 (by simpa using hl)
    let v' : Nat → CV := fun j => match j with | 0 => v0 | j + 1 => v j
    let hh' : Nat → List CObj := fun j => match j with | 0 => H | j + 1 => hh j
    have key : ∀ j, tst (io :: l) v' T (j + 1) = tst l v (put T io.dst v0) j := by
      intro j
      induction j with
      | zero => rfl
      | succ j ih => rw [tst, ih]; rfl
    refine ⟨v', hh', rfl, fun j hj => ?_, ?_⟩
    · cases j with
      | zero =>
        have e : hh' (0 + 1) = H' := h0
        rw [e]; exact h1
      | succ j => rw [key]; exact h3 j (by simpa using hj)
    · rw [List.length_cons, key]; exact h4

/-- The walk of a drawn region; bs says which operations look at the heap or change it. -/
theorem vr_dregH (bs : List Bool) (hm : P.follows .mixedOrders = true) (hord : (l.length == bs.length && (cloOk l.length es (clo es) && orderedH l (clo es) (bs.map footOf))) = true) (h : vdh P E n0 N Q k l bs T H) : Ok P E n0 N Q (.code (.dreg l es) :: k) T H := by
  simp only [Bool.and_eq_true, beq_iff_eq] at hord
  obtain ⟨v, hh, h0, h1, h2⟩ := vdh_vals l bs T H h hord.1
  exact ok_dregH hord.2.1 hm hord.2.2 h1 h0 (vrun_sound _ _ _ h2)

end

attribute [go_sem] hexec stays vh_nil vh_op vdhR_some

end Go.Cm
end

section
namespace Go.Cm

section
variable (P : Program) (E : Env)

/-- As vdh, but with any end K. -/
def vdk (K : List CV → List CObj → Prop) : List IOper → List Bool → List CV → List CObj → Prop
  | [], _, T, H => K T H
  | _ :: _, [], _, _ => False
  | ⟨d, op, none⟩ :: l, b :: bs, T, H => match hexec b op T H with
    | some (c, v, H') => c.holds ∧ vdk K l bs (put T d v) H'
    | none => ∃ v H', HS P E ⟨d, op, none⟩ T H v H' (footOf b) ∧ vdk K l bs (put T d v) H'
  | ⟨d, op, some g⟩ :: l, b :: bs, T, H => ∃ v H', HS P E ⟨d, op, some g⟩ T H v H' (footOf b) ∧ vdk K l bs (put T d v) H'

def vdkR (r : Option (Cond × CV × List CObj)) (d : Option Nat) (op : IOp) (b : Bool) (K : List CV → List CObj → Prop) (l : List IOper) (bs : List Bool) (T : List CV) (H : List CObj) : Prop :=
  match r with
  | some (c, v, H') => c.holds ∧ vdk P E K l bs (put T d v) H'
  | none => ∃ v H', HS P E ⟨d, op, none⟩ T H v H' (footOf b) ∧ vdk P E K l bs (put T d v) H'

/-- From these slots and this heap one gets to those. -/
def leads (n0 : Nat) (N : Fr) (Q : Exit → List CV → List CObj → Prop) (T' : List CV) (H' : List CObj) (T : List CV) (H : List CObj) : Prop :=
  ∀ k, Ok P E n0 N Q k T' H' → Ok P E n0 N Q k T H

end

section
variable {P : Program} {E : Env} {n0 : Nat} {N : Fr} {Q : Exit → List CV → List CObj → Prop} {H H' : List CObj} {T T' : List CV} {k : List KItem} {l : List IOper} {es : List (List Nat)} {bs : List Bool} {K : List CV → List CObj → Prop}

theorem vk_nil : vdk P E K [] bs T H = K T H := propext (by cases bs <;> exact Iff.rfl)
theorem vk_op {d : Option Nat} {op : IOp} {b : Bool} : vdk P E K (⟨d, op, none⟩ :: l) (b :: bs) T H = vdkR P E (hexec b op T H) d op b K l bs T H := propext Iff.rfl
theorem vdkR_some {d : Option Nat} {op : IOp} {b : Bool} {c : Cond} {v : CV} : vdkR P E (some (c, v, H')) d op b K l bs T H = (c.holds ∧ vdk P E K l bs (put T d v) H') := propext Iff.rfl

theorem vdk_look {T' : List CV} {H' : List CObj} (hT : T = T') (hH : H = H') : vdk P E K l bs T H = vdk P E K l bs T' H' := by rw [hT, hH]
theorem vdkR_look {r r' : Option (Cond × CV × List CObj)} {d : Option Nat} {op : IOp} {b : Bool} (h : r = r') : vdkR P E r d op b K l bs T H = vdkR P E r' d op b K l bs T H := by rw [h]
attribute [congr] vdk_look vdkR_look

theorem vdk_vals : ∀ (l : List IOper) (bs : List Bool) (T : List CV) (H : List CObj), vdk P E K l bs T H → l.length = bs.length → ∃ (v : Nat → CV) (hh : Nat → List CObj), hh 0 = H ∧ (∀ j, j < l.length → HS P E (lget l j) (tst l v T j) (hh j) (v j) (hh (j + 1)) (lfoot (bs.map footOf) j)) ∧ K (tst l v T l.length) (hh l.length)
  | [], bs, T, H, h, _ => ⟨fun _ => .un, fun _ => H, rfl, by simp, by rw [vk_nil] at h; exact h⟩
  | io :: l, [], T, H, h, hl => by simp at hl
  | io :: l, b :: bs, T, H, h, hl => by
    have hex : ∃ v0 H', HS P E io T H v0 H' (footOf b) ∧ vdk P E K l bs (put T io.dst v0) H' := by
      obtain ⟨d, op, g⟩ := io
      cases g with
      | none =>
        rw [vk_op] at h
        unfold vdkR at h
        split at h
        · rename_i c v H' he
          exact ⟨v, H', hexec_sound he h.1, h.2⟩
        · exact h
      | some g => exact h
    obtain ⟨v0, H', h1, h2⟩ := hex
    obtain ⟨v, hh, h0, h3, h4⟩ := vdk_vals l bs _ _ h2 (by simpa using hl)
    let v' : Nat → CV := fun j => match j with | 0 => v0 | j + 1 => v j
    let hh' : Nat → List CObj := fun j => match j with | 0 => H | j + 1 => hh j
    have key : ∀ j, tst (io :: l) v' T (j + 1) = tst l v (put T io.dst v0) j := by
      intro j
      induction j with
      | zero => rfl
      | succ j ih => rw [tst, ih]; rfl
    refine ⟨v', hh', rfl, fun j hj => ?_, ?_⟩
    · cases j with
      | zero =>
        have e : hh' (0 + 1) = H' := h0
        rw [e]; exact h1
      | succ j => rw [key]; exact h3 j (by simpa using hj)
    · rw [List.length_cons, key]; exact h4

theorem sched_run (hord : (l.length == bs.length && (cloOk l.length es (clo es) && orderedH l (clo es) (bs.map footOf))) = true) (h : vdk P E (leads P E n0 N Q T' H') l bs T H) (hfin : Ok P E n0 N Q k T' H') {is : List Nat} (hs : Sched l.length es (fun _ => false) is) : Ok P E n0 N Q (.ops (is.map (lget l)) :: k) T H := by
  simp only [Bool.and_eq_true, beq_iff_eq] at hord
  obtain ⟨v, hh, h0, hv, h2⟩ := vdk_vals l bs T H h hord.1
  have hsch := sched_clo hord.2.1 hs fun _ _ h => by cases h
  exact any_orderH (orderedH_sound hord.2.2) hv (h2 k hfin) hsch T H (fun _ _ h => by cases h) ⟨rfl, fun _ _ => rfl, fun _ _ _ h => by cases h⟩ (fun x m hm hw => by
    have hc := hh_const hv (x := x) (a := 0) m (by omega) (fun i _ h2 hxi => by
      have := (hw i (by omega) hxi).2 (by omega)
      cases this)
    rw [Nat.zero_add] at hc
    rw [hc, h0])

theorem ok_draw (hm : P.follows .mixedOrders = true) (h : ∀ is, Sched l.length es (fun _ => false) is → Ok P E n0 N Q (.ops (is.map (lget l)) :: k) T H) : Ok P E n0 N Q (.code (.dreg l es) :: k) T H := by
  intro m w a b cs kr rest hp hd hk
  simp only [KRel] at hk
  obtain ⟨c', kr', rfl, hc, hk'⟩ := hk
  obtain ⟨id, ops, rfl, h1, rfl⟩ := inv_dreg hc
  obtain ⟨hl, hg⟩ := compOpers_get _ _ h1
  have hln : ops.size = l.length := by simpa using hl.symm
  have hsch := sched_go ops ops.size (w.tape w.drawn (.order b.fn id)) (Array.replicate ops.size false) (by simp) (by simp)
  have hst := stepR_region_draw (P := P) (b := b) (a := a) (k := kr' ++ rest) (cs := cs) (w := w) (ops := ops) (id := id)
  simp only [Region.schedule, hm, Bool.true_or, if_true, Region.linearise] at hst
  generalize Region.linearise.go .any ops ops.size (w.tape w.drawn (.order b.fn id)) (Array.replicate ops.size false) [] = is at hsch hst
  have hS0 : (fun i => (Array.replicate ops.size false).getD i false) = fun _ => false := by
    funext i
    simp only [Array.getD_eq_getD_getElem?, Array.getElem?_replicate]
    split <;> rfl
  rw [hS0, hln] at hsch
  have hlts : ∀ i ∈ is, i < l.length := by
    clear hst h
    generalize (fun _ => false : Nat → Bool) = S at hsch
    induction hsch with
    | nil _ => intro i hi; cases hi
    | cons h _ _ _ ih => intro i hi; rcases List.mem_cons.1 hi with h' | h'
                         · subst h'; exact h
                         · exact ih i h'
  have hrun := h is hsch
  have hs' : Sim E m H { w with drawn := w.drawn + 1 } := hp.sim.congr rfl
  have hx : Ext n0 m H w m H { w with drawn := w.drawn + 1 } := Ext.congr rfl ⟨rfl, rfl, rfl⟩
  refine Reach.step (.one hst) hx (hrun m _ a b cs (.inRegion ops is :: kr') rest ⟨hs', hp.tmps, hp.long⟩ (hd.ext hx) ?_)
  simp only [KRel]
  refine ⟨ops, is, kr', rfl, ⟨by simp, fun j i hj => ?_⟩, hk'⟩
  have hi := hlts i (List.mem_of_getElem? hj)
  obtain ⟨io, h2, h3⟩ := hg i (ops[i]'(by omega)) (by simp)
  exact ⟨ops[i]'(by omega), io, Array.getElem?_eq_getElem (by omega), by simp [hj, lget, List.getD_eq_getElem?_getD, h2], h3⟩

/-- A drawn region that leads to given slots and a given heap. -/
theorem vr_dregK (bs : List Bool) (T' : List CV) (H' : List CObj) (hm : P.follows .mixedOrders = true) (hord : (l.length == bs.length && (cloOk l.length es (clo es) && orderedH l (clo es) (bs.map footOf))) = true) (h : vdk P E (leads P E n0 N Q T' H') l bs T H) (hfin : vrun P E n0 N Q k T' H') : Ok P E n0 N Q (.code (.dreg l es) :: k) T H :=
  ok_draw hm fun _ hs => sched_run hord h (vrun_sound _ _ _ hfin) hs

/-! ### Two operations in either order -/

def addE (es : List (List Nat)) (j i : Nat) : List (List Nat) := es.set j (i :: es.getD j [])

theorem addE_get {es : List (List Nat)} {j i a : Nat} (hj : j < es.length) : (addE es j i).getD a [] = if a = j then i :: es.getD j [] else es.getD a [] := by
  unfold addE
  simp only [List.getD_eq_getElem?_getD, List.getElem?_set]
  by_cases h : j = a
  · subst h; simp [hj]
  · rw [if_neg h, if_neg fun e => h e.symm]

theorem sched_add {n : Nat} {i j : Nat} (hj : j < es.length) {S : Nat → Bool} {is : List Nat} (h : Sched n es S is) : S i = true → Sched n (addE es j i) S is := by
  induction h with
  | nil hn =>
    intro hi
    refine .nil fun a ha hS => ?_
    obtain ⟨e, h1, h2⟩ := hn a ha hS
    refine ⟨e, ?_, h2⟩
    rw [addE_get hj]
    split
    · rename_i h; subst h; exact List.mem_cons_of_mem _ h1
    · exact h1
  | cons ha hS hr _ ih =>
    intro hi
    refine .cons ha hS (fun e he => ?_) (ih (by simp [hi]))
    rw [addE_get hj] at he
    split at he
    · rename_i h; subst h
      rcases List.mem_cons.1 he with h | h
      · rw [h]; exact hi
      · exact hr e h
    · exact hr e he

theorem sched_pair {n i j : Nat} (hij : i ≠ j) (hi : i < es.length) (hj : j < es.length) {S : Nat → Bool} {is : List Nat} (h : Sched n es S is) : S i = false → S j = false → Sched n (addE es j i) S is ∨ Sched n (addE es i j) S is := by
  induction h with
  | nil hn =>
    intro _ _
    refine .inl (.nil fun a ha hS => ?_)
    obtain ⟨e, h1, h2⟩ := hn a ha hS
    refine ⟨e, ?_, h2⟩
    rw [addE_get hj]
    split
    · rename_i h; subst h; exact List.mem_cons_of_mem _ h1
    · exact h1
  | cons ha hS hr hrest ih =>
    rename_i S a is
    intro h1 h2
    by_cases hai : a = i
    · subst hai
      refine .inl (.cons ha hS (fun e he => ?_) (sched_add hj hrest (by simp)))
      rw [addE_get hj, if_neg hij] at he
      exact hr e he
    · by_cases haj : a = j
      · subst haj
        refine .inr (.cons ha hS (fun e he => ?_) (sched_add hi hrest (by simp)))
        rw [addE_get hi, if_neg hai] at he
        exact hr e he
      · rcases ih (by simp [h1, Ne.symm hai]) (by simp [h2, Ne.symm haj]) with h | h
        · exact .inl (.cons ha hS (fun e he => by rw [addE_get hj, if_neg haj] at he; exact hr e he) h)
        · exact .inr (.cons ha hS (fun e he => by rw [addE_get hi, if_neg hai] at he; exact hr e he) h)

def swi (i j a : Nat) : Nat := if a = i then j else if a = j then i else a

theorem swi_lt {n i j a : Nat} (hi : i < n) (hj : j < n) (ha : a < n) : swi i j a < n := by
  unfold swi
  split
  · exact hj
  · split
    · exact hi
    · exact ha

theorem swi_swi {i j a : Nat} : swi i j (swi i j a) = a := by
  unfold swi; split <;> split <;> simp_all

theorem sched_swap {n i j : Nat} {es2 : List (List Nat)} (hi : i < n) (hj : j < n) (he : ∀ a, a < n → es2.getD (swi i j a) [] = (es.getD a []).map (swi i j)) {S : Nat → Bool} {is : List Nat} (h : Sched n es S is) : Sched n es2 (fun a => S (swi i j a)) (is.map (swi i j)) := by
  have hb : ∀ a, a < n → swi i j a < n := fun a ha => swi_lt hi hj ha
  induction h with
  | nil hn =>
    refine .nil fun a ha hS => ?_
    obtain ⟨e, h1, h2⟩ := hn _ (hb a ha) hS
    refine ⟨swi i j e, ?_, by rw [swi_swi]; exact h2⟩
    have := he _ (hb a ha)
    rw [swi_swi] at this
    rw [this]; exact List.mem_map_of_mem h1
  | cons ha hS hr _ ih =>
    rename_i S a is _
    refine .cons (hb a ha) (by rw [swi_swi]; exact hS) (fun e hm => ?_) ?_
    · rw [he a ha] at hm
      obtain ⟨e', h1, rfl⟩ := List.mem_map.1 hm
      rw [swi_swi]; exact hr e' h1
    · have e : (fun b => S (swi i j b) || b == swi i j a) = fun b => S (swi i j b) || swi i j b == a := by
        funext b
        congr 1
        by_cases h : b = swi i j a
        · subst h; rw [swi_swi]; simp
        · have : swi i j b ≠ a := fun hh => h (by rw [← hh, swi_swi])
          rw [beq_false_of_ne h, beq_false_of_ne this]
      rw [e]; exact ih

/-- The list with two of its places changed over, and the edges of that list. -/
def swl (l : List IOper) (i j : Nat) : List IOper := (List.range l.length).map fun a => lget l (swi i j a)
def swe (es : List (List Nat)) (i j : Nat) : List (List Nat) := (List.range es.length).map fun a => (es.getD (swi i j a) []).map (swi i j)

theorem swl_get {i j a : Nat} (ha : a < l.length) : lget (swl l i j) a = lget l (swi i j a) := by
  unfold swl
  rw [lget, List.getD_eq_getElem?_getD]
  simp [ha]

def pairOk (l : List IOper) (es : List (List Nat)) (bs bs2 : List Bool) (i j : Nat) : Bool :=
  decide (i < j) && decide (j < l.length) && (es.length == l.length) &&
  (l.length == bs.length && (cloOk l.length (addE es j i) (clo (addE es j i)) && orderedH l (clo (addE es j i)) (bs.map footOf))) &&
  ((swl l i j).length == bs2.length && (cloOk (swl l i j).length (swe (addE es i j) i j) (clo (swe (addE es i j) i j)) && orderedH (swl l i j) (clo (swe (addE es i j) i j)) (bs2.map footOf)))

/-- A drawn region with two operations i and j that no edge orders and that do not commute: two walks. -/
theorem vr_dregP (i j : Nat) (bs bs2 : List Bool) (T' : List CV) (H' : List CObj) (hm : P.follows .mixedOrders = true) (hord : pairOk l es bs bs2 i j = true) (h1 : vdk P E (leads P E n0 N Q T' H') l bs T H) (h2 : vdk P E (leads P E n0 N Q T' H') (swl l i j) bs2 T H) (hfin : vrun P E n0 N Q k T' H') : Ok P E n0 N Q (.code (.dreg l es) :: k) T H := by
  unfold pairOk at hord
  rw [Bool.and_eq_true, Bool.and_eq_true] at hord
  obtain ⟨⟨g0, g1⟩, g2⟩ := hord
  simp only [Bool.and_eq_true, decide_eq_true_eq, beq_iff_eq] at g0
  obtain ⟨⟨a1, a2⟩, a3⟩ := g0
  refine ok_draw hm fun is hs => ?_
  rcases sched_pair (i := i) (j := j) (by omega) (by omega) (by omega) hs rfl rfl with h | h
  · exact sched_run g1 h1 (vrun_sound _ _ _ hfin) h
  · have hlen : (swl l i j).length = l.length := by simp [swl]
    have hsw := sched_swap (es2 := swe (addE es i j) i j) (i := i) (j := j) (by omega) a2 (fun a ha => by
      have hb : swi i j a < l.length := swi_lt (by omega) a2 (by assumption)
      have hl2 : (addE es i j).length = l.length := by simp [addE, a3]
      unfold swe
      rw [List.getD_eq_getElem?_getD]
      simp only [List.getElem?_map, hl2]
      rw [List.getElem?_range hb]
      simp [swi_swi]) h
    rw [← hlen] at hsw
    have := sched_run g2 h2 (vrun_sound (k := k) _ _ hfin) hsw
    have e : (is.map (swi i j)).map (lget (swl l i j)) = is.map (lget l) := by
      rw [List.map_map]
      refine List.map_congr_left fun a ha => ?_
      have hal : a < l.length := by
        clear this hsw
        generalize (fun _ => false : Nat → Bool) = S at hs
        clear h
        induction hs with
        | nil _ => cases ha
        | cons h _ _ _ ih => rcases List.mem_cons.1 ha with h' | h'
                             · subst h'; exact h
                             · exact ih h'
      have hb : swi i j a < l.length := swi_lt (by omega) a2 (by assumption)
      simp only [Function.comp]
      rw [swl_get hb, swi_swi]
    rw [e] at this
    exact this

/-! ### Ends -/

theorem leads_forget (h : forget T T') : leads P E n0 N Q T' H T H := fun _ hok => ok_weaken (forget_wks h) hok

theorem leads_ren {T1 : List CV} {H1 : List CObj} (ρ : List Nat) (hr : renOk ρ n0 H.length = true) (h : leads P E n0 N Q T1 H1 (renL ρ T) (renH ρ H)) : leads P E n0 N Q T1 H1 T H := fun k hok => ok_ren (renOk_sound hr) (h k hok)

theorem leads_freeze {T1 : List CV} {H1 : List CObj} {id z : Nat} {els : List (List CV)} (hH : H[id]? = some (.arr z els)) (hc : closedEls els = true) (h : leads P E n0 N Q T1 H1 (frzL id z els T) (frzH id z els H)) : leads P E n0 N Q T1 H1 T H := fun k hok => ok_freeze hH hc (h k hok)

theorem leads_to (ρ : List Nat) (hr : renOk ρ n0 H.length = true) (hT : forget (renL ρ T) T') (hH : renH ρ H = H') : leads P E n0 N Q T' H' T H := leads_ren ρ hr (by rw [hH]; exact leads_forget hT)

end

attribute [go_sem] vk_nil vk_op vdkR_some

end Go.Cm
end

section
open Go.Proofs
namespace Go.Cm

theorem one_ok (p : Pt) : ptsOk [p] = p.ok := by simp [ptsOk]

set_option maxHeartbeats 4000000 in
set_option maxRecDepth 100000 in
theorem law6 (p : Pt) (n : Int) : Fn Try.prog 6 [.agg p.cv, .int .i64 n] (.bool true) := by
  refine fn_of_code c6_ok rfl rfl fun N => ?_
  have p1 := s27 p n
  by_cases hv : p.ok = true
  · by_cases hz : isSz n = true
    · have hz2 : 0 ≤ n ∧ n ≤ 100 := by simpa [isSz] using hz
      have z1 : ¬ n < 0 := by omega
      have z2 : ¬ 100 < n := by omega
      have hsm := small_of hv hz
      rw [if_pos hv, if_pos hz] at p1
      simp only [c6, go_sem, Pt.cv]
      refine vr_f p1 ?_
      simp only [go_sem, Pt.cv]
      refine vr_freeze (id := 1) (z := 5) (els := [p].map Pt.cv) rfl rfl ?_
      simp only [go_sem, frzL, frzH, frz, frzO, Pt.cv]
      refine vr_f (s17 [p] none (by simp)) ?_
      rw [one_ok, hv]
      simp only [go_sem, z1, z2]
      refine vr_fg (gok rfl) (s29 p n hsm) ?_
      simp only [go_sem]
      refine vr_fg (gok rfl) (s28 _ none none (by rw [cells_length]; have := count_le hsm; omega)) ?_
      simp only [go_sem]
      refine vr_fg (gok rfl) s12 ?_
      simp only [go_sem]
    · have hz2 : ¬ (0 ≤ n ∧ n ≤ 100) := by simpa [isSz] using hz
      rw [if_pos hv, if_neg hz] at p1
      have hD : (decide (n < 0) = false ∧ decide (100 < n) = true) ∨ (decide (n < 0) = true ∧ decide (100 < n) = false) := by
        simp only [decide_eq_false_iff_not, decide_eq_true_eq]; omega
      rcases hD with ⟨z1, z2⟩ | ⟨z1, z2⟩
      all_goals
        simp only [c6, go_sem, Pt.cv]
        refine vr_f p1 ?_
        simp only [go_sem, Pt.cv]
        refine vr_freeze (id := 1) (z := 5) (els := [p].map Pt.cv) rfl rfl ?_
        simp only [go_sem, frzL, frzH, frz, frzO, Pt.cv]
        refine vr_f (s17 [p] none (by simp)) ?_
        rw [one_ok, hv]
        simp only [go_sem, z1, z2]
        refine vr_fg (gok rfl) s12 ?_
        simp only [go_sem]
  · have hv2 : p.ok = false := by simpa using hv
    rw [if_neg hv] at p1
    simp only [c6, go_sem, Pt.cv]
    refine vr_f p1 ?_
    simp only [go_sem, Pt.cv]
    refine vr_freeze (id := 1) (z := 5) (els := [p].map Pt.cv) rfl rfl ?_
    simp only [go_sem, frzL, frzH, frz, frzO, Pt.cv]
    refine vr_f (s17 [p] none (by simp)) ?_
    rw [one_ok, hv2]
    simp only [go_sem]
    refine vr_fg (gok rfl) s12 ?_
    simp only [go_sem]

theorem lst_dn (l : List Pt) : ∀ (j : Nat) (a : Int), (j : Int) ≤ a → (szs l j).reverse.foldl (fun a x => if x = a - 1 then x else a) a = if a = j then (dn l j : Int) else a
  | 0, a, _ => by
    have : szs l 0 = [] := rfl
    rw [this]
    simp only [List.reverse_nil, List.foldl_nil]
    split
    · rename_i h; rw [h]; rfl
    · rfl
  | j + 1, a, ha => by
    rw [szs_succ, List.reverse_append, List.foldl_append, dn_succ]
    by_cases hE : (allM l (j : Nat)).isEmpty = true
    · rw [if_pos hE, if_pos hE]
      simp only [List.reverse_cons, List.reverse_nil, List.nil_append, List.foldl_cons, List.foldl_nil]
      by_cases h1 : (j : Int) = a - 1
      · rw [if_pos h1, lst_dn l j _ (Int.le_refl _), if_pos rfl, if_pos (by omega)]
      · rw [if_neg h1, lst_dn l j a (by omega), if_neg (by omega), if_neg (by omega)]
    · rw [if_neg hE, if_neg hE]
      simp only [List.reverse_nil, List.foldl_nil]
      rw [lst_dn l j a (by omega), if_neg (by omega)]
      split
      · rename_i h; rw [h]
      · rfl

theorem least_dn (l : List Pt) : leastOf l = (dn l 101 : Int) := by
  unfold leastOf lstF
  rw [lst_dn l 101 101 (by omega)]; rfl

theorem filt_len (l : List Pt) (q : Pt → Bool) : (l.filter q).length ≤ l.length := List.length_filter_le _ _

/-- How long a row is that the statements look at: by two questions. -/
theorem look (l : List Pt) (h : ¬ (6 < l.length ∧ l.length ≤ 12)) : (decide ((6 : Int) < (l.length : Nat)) = false ∧ decide (((l.length : Nat) : Int) ≤ 12) = true) ∨ (decide ((6 : Int) < (l.length : Nat)) = true ∧ decide (((l.length : Nat) : Int) ≤ 12) = false) := by
  simp only [decide_eq_false_iff_not, decide_eq_true_eq]; omega

set_option maxHeartbeats 4000000 in
set_option maxRecDepth 100000 in
theorem law10 (l : List Pt) (cap : Option Nat) : Fn Try.prog 10 [.rslc 5 (l.map Pt.cv) cap] (.bool true) := by
  refine fn_of_code c10_ok rfl rfl fun N => ?_
  by_cases hA : 6 < l.length ∧ l.length ≤ 12
  · have a1 : (6 : Int) < (l.length : Nat) := by omega
    have a2 : ((l.length : Nat) : Int) ≤ 12 := by omega
    simp only [c10, go_sem, List.length_map, a1, a2]
    refine vr_f s12 ?_
    simp only [go_sem]
  by_cases hB : 24 < l.length
  · have a1 : (6 : Int) < (l.length : Nat) := by omega
    have a2 : ¬ ((l.length : Nat) : Int) ≤ 12 := by omega
    have a3 : (24 : Int) < (l.length : Nat) := by omega
    simp only [c10, go_sem, List.length_map, a1, a2, a3]
    refine vr_f s12 ?_
    simp only [go_sem]
  have a3 : ¬ (24 : Int) < (l.length : Nat) := by omega
  have hlen : l.length ≤ 1000 := by omega
  have hC := look l hA
  have p1 := s23 l none hlen
  have p2 := s22 l none hlen
  have p3 := s30 l hlen
  have hd := dn_le l 101
  rw [least_dn] at p2
  by_cases hv : ptsOk l = true
  · rw [if_pos hv] at p1 p2 p3
    by_cases h101 : dn l 101 = 101
    · have hz : isSz (dn l 101 : Nat) = false := by rw [h101]; rfl
      rw [if_neg (by rw [hz]; simp)] at p2
      have p4 := s33 l cap hv hlen
      rw [if_pos h101] at p4
      rcases hC with ⟨e1, e2⟩ | ⟨e1, e2⟩
      all_goals
        simp only [c10, go_sem, List.length_map, a3, e1, e2]
        refine vr_f (s13 l cap hlen) ?_
        simp only [go_sem]
        refine vr_f p1 ?_
        simp only [go_sem]
        refine vr_f p2 ?_
        simp only [go_sem]
        refine vr_f p3 ?_
        simp only [go_sem]
        refine vr_f (s16 l none cap hlen) ?_
        simp only [go_sem]
        refine vr_f (s17 l cap hlen) ?_
        simp only [go_sem, hv]
        refine vr_fg (gok rfl) (s31 l cap hv hlen) ?_
        simp only [go_sem]
        refine vr_fg (gok rfl) (s28 _ none none (by have := szs_len l 101; omega)) ?_
        simp only [go_sem]
        refine vr_fg (gok rfl) (s32 l cap hv hlen) ?_
        simp only [go_sem]
        refine vr_fg (gok rfl) (s16 _ none none (by have := filt_len l (fun p => !emp p 101); omega)) ?_
        simp only [go_sem]
        refine vr_f p4 ?_
        simp only [go_sem]
        refine vr_fg (gok rfl) s12 ?_
        simp only [go_sem]
    · have hz : isSz (dn l 101 : Nat) = true := by simp [isSz]; omega
      rw [if_pos hz] at p2
      have p4 := s33 l cap hv hlen
      rw [if_neg h101] at p4
      have hp : (0 : Int) ≤ (dn l 101 : Nat) := by omega
      rcases hC with ⟨e1, e2⟩ | ⟨e1, e2⟩
      all_goals
        simp only [c10, go_sem, List.length_map, a3, e1, e2]
        refine vr_f (s13 l cap hlen) ?_
        simp only [go_sem]
        refine vr_f p1 ?_
        simp only [go_sem]
        refine vr_f p2 ?_
        simp only [go_sem]
        refine vr_f p3 ?_
        simp only [go_sem]
        refine vr_f (s16 l none cap hlen) ?_
        simp only [go_sem]
        refine vr_f (s17 l cap hlen) ?_
        simp only [go_sem, hv]
        refine vr_fg (gok rfl) (s31 l cap hv hlen) ?_
        simp only [go_sem]
        refine vr_fg (gok rfl) (s28 _ none none (by have := szs_len l 101; omega)) ?_
        simp only [go_sem]
        refine vr_fg (gok rfl) (s32 l cap hv hlen) ?_
        simp only [go_sem]
        refine vr_fg (gok rfl) (s16 _ none none (by have := filt_len l (fun p => !emp p 101); omega)) ?_
        simp only [go_sem]
        refine vr_f p4 ?_
        simp only [go_sem, hp]
        refine vr_fg (gok rfl) s12 ?_
        simp only [go_sem]
  · have hv2 : ptsOk l = false := by simpa using hv
    rw [if_neg hv] at p1 p2 p3
    rcases hC with ⟨e1, e2⟩ | ⟨e1, e2⟩
    all_goals
      simp only [c10, go_sem, List.length_map, a3, e1, e2]
      refine vr_f (s13 l cap hlen) ?_
      simp only [go_sem]
      refine vr_f p1 ?_
      simp only [go_sem]
      refine vr_f p2 ?_
      simp only [go_sem]
      refine vr_f p3 ?_
      simp only [go_sem]
      refine vr_f (s16 l none cap hlen) ?_
      simp only [go_sem]
      refine vr_f (s17 l cap hlen) ?_
      simp only [go_sem, hv2]
      refine ⟨inr64 (by omega) (by omega), ?_⟩
      refine vr_fg (gok rfl) s12 ?_
      simp only [go_sem]

end Go.Cm
end

section
open Go.Proofs
namespace Go.Cm

theorem inr_u8 {x : Int} (h : InR .u8 x) : 0 ≤ x ∧ x ≤ 255 := ⟨h.lo, h.hi⟩

def endP (n m by' : Int) : Pt := ⟨false, n, true, m, by'⟩

theorem end_count (n m s k : Int) : (endP n m s).count k = ((k - m - n + s) / s).toNat := rfl

theorem end_more {n m s k : Int} (hs : 1 ≤ s) (h : (endP n m s).count k ≠ 0) : (endP n m s).count (k + s) = (endP n m s).count k + 1 := by
  rw [end_count] at h ⊢
  rw [end_count]
  have e : k + s - m - n + s = (k - m - n + s) + 1 * s := by omega
  rw [e, Int.add_mul_ediv_right _ _ (by omega)]
  omega

theorem end_same (n m s k : Int) : (endP n m s).count k = (endP m n s).count k := by
  rw [end_count, end_count]; congr 2; omega

theorem end_ok {n m s : Int} (hn : 0 ≤ n ∧ n ≤ 100) (hm : 0 ≤ m ∧ m ≤ 100) (hs : 1 ≤ s ∧ s ≤ 9) : (endP n m s).ok = true := by
  have : (endP n m s).ok = ((decide (1 ≤ s) && decide (s ≤ 9)) && isSz n && isSz m) := rfl
  rw [this]
  simp [isSz, hn, hm, hs]

set_option maxHeartbeats 4000000 in
set_option maxRecDepth 100000 in
theorem law8 (a b c : Int) (ha : InR .u8 a) (hb : InR .u8 b) (hc : InR .u8 c) : Fn Try.prog 8 [.int .u8 a, .int .u8 b, .int .u8 c] (.bool true) := by
  refine fn_of_code c8_ok rfl rfl fun N => ?_
  have ha := inr_u8 ha
  have hb := inr_u8 hb
  have hc := inr_u8 hc
  obtain ⟨n, hn⟩ : ∃ n, a.tmod 101 = n := ⟨_, rfl⟩
  obtain ⟨m, hm⟩ : ∃ n, b.tmod 101 = n := ⟨_, rfl⟩
  obtain ⟨r, hr⟩ : ∃ n, c.tmod 9 = n := ⟨_, rfl⟩
  have hn2 : 0 ≤ n ∧ n ≤ 100 := by rw [← hn, Int.tmod_eq_emod_of_nonneg ha.1]; omega
  have hm2 : 0 ≤ m ∧ m ≤ 100 := by rw [← hm, Int.tmod_eq_emod_of_nonneg hb.1]; omega
  have hr2 : 0 ≤ r ∧ r ≤ 8 := by rw [← hr, Int.tmod_eq_emod_of_nonneg hc.1]; omega
  have hokp : (endP n m (r + 1)).ok = true := end_ok hn2 hm2 (by omega)
  have hokq : (endP m n (r + 1)).ok = true := end_ok hm2 hn2 (by omega)
  simp only [c8, go_sem, hn, hm, hr]
  refine ⟨inr64 (by omega) (by omega), by omega, inr64 (by omega) (by omega), by omega, inr64 (by omega) (by omega), by omega, inr64 (by omega) (by omega), ?_⟩
  refine vr_loop (I := fun k : Nat => k ≤ 101) (inv := fun k => gp [(9, .int .i64 (r + 1)), (0, .ptr 0 0 0), (0, .ptr 1 0 0), (0, .int .i64 k)] 85) (hp := fun _ => [.arr 5 [[.bool false, .int .i64 n, .bool true, .int .i64 m, .int .i64 (r + 1)]], .arr 5 [[.bool false, .int .i64 m, .bool true, .int .i64 n, .int .i64 (r + 1)]]]) (μ := fun k => 101 - k) 0 (by omega) ?_ rfl ?_
  · simp [forget, gp]
  · intro k hk
    simp only [go_sem]
    refine ⟨fun h5 => ?_, fun h5 => ?_⟩
    · have hz : isSz (k : Nat) = true := by simp [isSz]; omega
      have p1 := s27 (endP n m (r + 1)) k
      have p2 := s27 (endP m n (r + 1)) k
      rw [if_pos hokp, if_pos hz] at p1
      rw [if_pos hokq, if_pos hz] at p2
      have hl1 : (ints ((endP n m (r + 1)).cells k)).length = (endP n m (r + 1)).count k := by rw [ints_len, cells_length]
      have hl2 : (ints ((endP m n (r + 1)).cells k)).length = (endP n m (r + 1)).count k := by rw [ints_len, cells_length, end_same]
      have hcn := count_le (small_of (p := endP n m (r + 1)) (n := k) hokp hz)
      refine vr_f p1 ?_
      simp only [go_sem]
      refine vr_f p2 ?_
      by_cases hbig : (100 : Int) < k + (r + 1)
      · simp only [go_sem, hl1, hl2, hbig]
        exact ⟨inr64 (by omega) (by omega), inr64 (by omega) (by omega), k + 1, by omega, by omega, by simp [forget]⟩
      · by_cases h0 : (endP n m (r + 1)).count k = 0
        · simp only [go_sem, hl1, hl2, hbig, h0]
          exact ⟨inr64 (by omega) (by omega), inr64 (by omega) (by omega), k + 1, by omega, by omega, by simp [forget]⟩
        · have h1 : ((((endP n m (r + 1)).count k : Nat) : Int) == 0) = false := by simp; omega
          simp only [go_sem, hl1, hl2, hbig, h1]
          refine ⟨inr64 (by omega) (by omega), inr64 (by omega) (by omega), ?_⟩
          have hz3 : isSz (k + (r + 1)) = true := by simp only [isSz, Bool.and_eq_true, decide_eq_true_eq]; omega
          have p3 := s27 (endP n m (r + 1)) (k + (r + 1))
          rw [if_pos hokp, if_pos hz3] at p3
          have hl3 : (ints ((endP n m (r + 1)).cells (k + (r + 1)))).length = (endP n m (r + 1)).count k + 1 := by rw [ints_len, cells_length]; exact end_more (by omega) h0
          have h6 : ((((endP n m (r + 1)).count k + 1 : Nat) : Int) != ((endP n m (r + 1)).count k : Nat) + 1) = false := by simp
          refine vr_f p3 ?_
          simp only [go_sem, hl3, hl1, h6]
          exact ⟨inr64 (by omega) (by omega), inr64 (by omega) (by omega), k + 1, by omega, by omega, by simp [forget]⟩
    · refine vr_f s12 ?_
      simp only [go_sem]


/-! ### Least -/

theorem dn_above (l : List Pt) : ∀ (j s : Nat), dn l j ≤ s → s < j → (allM l (s : Nat)).isEmpty = true
  | 0, s, _, h => by omega
  | j + 1, s, h1, h2 => by
    rw [dn_succ] at h1
    by_cases hE : (allM l (j : Nat)).isEmpty = true
    · rw [if_pos hE] at h1
      by_cases hs : s = j
      · subst hs; exact hE
      · exact dn_above l j s h1 (by omega)
    · rw [if_neg hE] at h1; omega

theorem dn_below (l : List Pt) : ∀ (j : Nat), 0 < dn l j → (allM l ((dn l j - 1 : Nat) : Nat)).isEmpty = false
  | 0, h => by simp [dn] at h
  | j + 1, h => by
    rw [dn_succ] at h ⊢
    by_cases hE : (allM l (j : Nat)).isEmpty = true
    · rw [if_pos hE] at h ⊢; exact dn_below l j h
    · rw [if_neg hE]; simpa using hE

theorem szs_dn (l : List Pt) : ∀ (j : Nat), j ≤ dn l j + (szs l j).length
  | 0 => by omega
  | j + 1 => by
    have := szs_dn l j
    rw [dn_succ, szs_succ, List.length_append]
    by_cases hE : (allM l (j : Nat)).isEmpty = true
    · rw [if_pos hE, if_pos hE]; simp; omega
    · rw [if_neg hE, if_neg hE]; simp

theorem szs_mem {l : List Pt} {j : Nat} {x : Int} (h : x ∈ szs l j) : 0 ≤ x ∧ x < j := by
  unfold szs at h
  obtain ⟨s, hs, rfl⟩ := List.mem_map.1 h
  rw [List.mem_filter, List.mem_range] at hs
  omega

set_option maxHeartbeats 4000000 in
set_option maxRecDepth 100000 in
theorem law4 (l : List Pt) (cap : Option Nat) : Fn Try.prog 4 [.rslc 5 (l.map Pt.cv) cap] (.bool true) := by
  refine fn_of_code c4_ok rfl rfl fun N => ?_
  by_cases hv : (decide (l.length ≤ 6) && ptsOk l) = true
  · simp only [Bool.and_eq_true, decide_eq_true_eq] at hv
    obtain ⟨h6, hv⟩ := hv
    have hlen : l.length ≤ 1000 := by omega
    have hd := dn_le l 101
    have hsl := szs_len l 101
    have p1 := s22 l none hlen
    have p2 := s23 l none hlen
    rw [least_dn] at p1
    rw [if_pos hv] at p1 p2
    have hb : (decide (l.length ≤ 6) && ptsOk l) = true := by simp [h6, hv]
    simp only [c4, go_sem]
    refine vr_f (s21 l cap) ?_
    rw [hb]
    simp only [go_sem]
    refine vr_f (s13 l cap hlen) ?_
    simp only [go_sem]
    by_cases hD : dn l 101 = 101
    · have hz : isSz (dn l 101 : Nat) = false := by rw [hD]; rfl
      rw [if_neg (by rw [hz]; simp)] at p1
      refine vr_f p1 ?_
      simp only [go_sem]
      refine vr_f (s13 l cap hlen) ?_
      simp only [go_sem]
      refine vr_f p2 ?_
      simp only [go_sem]
      have hs100 : szs l 101 = szs l 100 := by
        have h0 : dn l 101 = _ := dn_succ l 100
        have h1 : szs l 101 = _ := szs_succ l 100
        by_cases hE : (allM l ((100 : Nat) : Nat)).isEmpty = true
        · rw [if_pos hE] at h0; have := dn_le l 100; omega
        · rw [if_neg hE, List.append_nil] at h1; exact h1
      rw [hs100]
      cases hx : szs l 100 with
      | nil =>
        simp only [go_sem, ints, List.map_nil]
        refine vr_fg (gok rfl) s12 ?_
        simp only [go_sem]
      | cons y ys =>
        have hlast : ∃ z, (ints (szs l 100)).getD ((szs l 100).length - 1) [] = [.int .i64 z] ∧ z < 100 := by
          have hlt : (szs l 100).length - 1 < (szs l 100).length := by rw [hx]; simp
          refine ⟨(szs l 100)[(szs l 100).length - 1], ?_, ?_⟩
          · simp [ints, List.getD_eq_getElem?_getD, List.getElem?_eq_getElem hlt]
          · exact (szs_mem (List.getElem_mem hlt)).2
        rw [hx] at hlast
        obtain ⟨z, hz1, hz2⟩ := hlast
        have hl : (ints (y :: ys)).length = ys.length + 1 := by simp [ints]
        have hysl : ys.length ≤ 101 := by have := szs_len l 100; rw [hx] at this; simp at this; omega
        have he0 : (((ys.length + 1 : Nat) : Int) == 0) = false := by simp; omega
        have hz3 : (ints (y :: ys)).getD (((ys.length + 1 : Nat) : Int) - 1).toNat [] = [.int .i64 z] := by
          rw [← hz1]; congr 1; simp
        simp only [go_sem, hl, he0, hz3, hz2]
        refine ⟨inr64 (by omega) (by omega), ⟨by omega, by omega⟩, ?_⟩
        refine vr_fg (gok rfl) s12 ?_
        simp only [go_sem]
    · have hz : isSz (dn l 101 : Nat) = true := by simp [isSz]; omega
      rw [if_pos hz] at p1
      have hch : chk l (dn l 101 : Nat) = 0 := by simp [chk, hv, hz]
      have p3 := s15 l none (dn l 101 : Nat) hlen
      have hfn : firstM l (101 - ((dn l 101 : Nat) : Int)).toNat (dn l 101 : Nat) = none := firstM_none _ _ fun i hi => by
        have := dn_above l 101 (dn l 101 + i) (by omega) (by omega)
        rw [show ((dn l 101 : Nat) : Int) + (i : Int) = ((dn l 101 + i : Nat) : Int) by omega]; exact this
      rw [if_pos hch, hfn] at p3
      have hsd := szs_dn l 101
      have hbl := dn_below l 101
      generalize dn l 101 = D at *
      have n0 : ¬ (D : Int) < 0 := by omega
      have n1 : ¬ (100 : Int) < D := by omega
      refine vr_f p1 ?_
      simp only [go_sem]
      refine vr_f (s13 l cap hlen) ?_
      simp only [go_sem]
      refine vr_f p2 ?_
      simp only [go_sem, n0, n1, ints_len]
      refine vr_f (s13 l cap hlen) ?_
      simp only [go_sem, n0, n1, ints_len]
      refine vr_f p3 ?_
      simp only [go_sem, noM, ints_len]
      have hgt : (100 : Int) - D < ((szs l 101).length : Nat) := by omega
      by_cases hD0 : D = 0
      · subst hD0
        have hgt2 : (100 : Int) - (0 : Nat) < ((szs l 101).length : Nat) := hgt
        simp only [go_sem, Int.lt_irrefl]
        have hg0 : (100 : Int) < ((szs l 101).length : Nat) := by omega
        refine ⟨inr64 (by omega) (by omega), fun hg => ?_, fun h => absurd hg0 h⟩
        simp only [go_sem, hg]
        refine vr_fg (gok rfl) s12 ?_
        simp only [go_sem]
      · have hpos : (0 : Int) < D := by omega
        have hE := hbl (by omega)
        have hz4 : isSz ((D : Int) - 1) = true := by simp [isSz]; omega
        have hch2 : chk l ((D : Int) - 1) = 0 := by simp [chk, hv, hz4]
        have p4 := s15 l none ((D : Int) - 1) hlen
        have hcast : ((D - 1 : Nat) : Int) = (D : Int) - 1 := by omega
        rw [hcast] at hE
        have hfm : ∃ c d, firstM l (101 - ((D : Int) - 1)).toNat ((D : Int) - 1) = some (missCv ((D : Int) - 1) c d) := by
          have e : (101 - ((D : Int) - 1)).toNat = (101 - ((D : Int) - 1)).toNat - 1 + 1 := by omega
          cases hm : allM l ((D : Int) - 1) with
          | nil => rw [hm] at hE; simp at hE
          | cons m r =>
            obtain ⟨c, d, rfl⟩ := allM_cell l ((D : Int) - 1) m (by rw [hm]; simp)
            exact ⟨c, d, by rw [e]; exact firstM_cons hm⟩
        obtain ⟨c, d, hfm⟩ := hfm
        rw [if_pos hch2, hfm] at p4
        simp only [go_sem, hpos]
        refine vr_f (s13 l cap hlen) ?_
        simp only [go_sem]
        refine ⟨inr64 (by omega) (by omega), ?_⟩
        refine vr_f p4 ?_
        simp only [go_sem, missCv, hgt, ints_len]
        refine ⟨inr64 (by omega) (by omega), inr64 (by omega) (by omega), ?_⟩
        refine vr_fg (gok rfl) s12 ?_
        simp only [go_sem]
  · have hb : (decide (l.length ≤ 6) && ptsOk l) = false := by simpa using hv
    simp only [c4, go_sem]
    refine vr_f (s21 l cap) ?_
    rw [hb]
    simp only [go_sem]
    refine vr_f s12 ?_
    simp only [go_sem]

end Go.Cm
end

section
open Go.Proofs
namespace Go.Cm

theorem rms_same {l l' : List Pt} {n : Int} (h : ∀ c, hasN l n c = hasN l' n c) : ∀ k, rms l n k = rms l' n k
  | 0 => rfl
  | k + 1 => by
    have : howOf l n ((k : Int) - 200) = howOf l' n ((k : Int) - 200) := by unfold howOf; rw [h]
    simp only [rms]
    rw [rms_same h k, this]

theorem allM_same {l l' : List Pt} (h1 : ptsOk l = true) (h2 : ptsOk l' = true) {n : Int} (hn : 0 ≤ n ∧ n ≤ 100) (h : ∀ c, hasN l n c = hasN l' n c) : allM l n = allM l' n := by
  rw [← rms_all (smallsN h1 hn) hn, ← rms_all (smallsN h2 hn) hn, rms_same h]

theorem szs_same {l l' : List Pt} (h1 : ptsOk l = true) (h2 : ptsOk l' = true) (h : ∀ n : Int, 0 ≤ n ∧ n ≤ 100 → ∀ c, hasN l n c = hasN l' n c) : szs l 101 = szs l' 101 := by
  unfold szs
  refine congrArg (List.map _) (List.filter_congr fun s hs => ?_)
  rw [List.mem_range] at hs
  rw [allM_same h1 h2 (n := (s : Nat)) (by omega) (h _ (by omega))]

theorem hasN_app (a b : List Pt) (n c : Int) : hasN (a ++ b) n c = hasN a n c + hasN b n c := by simp [hasN]

theorem hasN_rot (l : List Pt) (k : Nat) (n c : Int) : hasN l n c = hasN (l.drop k ++ l.take k) n c := by
  have h : hasN (l.take k ++ l.drop k) n c = hasN l n c := by rw [List.take_append_drop]
  rw [← h, hasN_app, hasN_app, Nat.add_comm]

theorem hasN_slim (l : List Pt) {n : Int} (hn : 0 ≤ n ∧ n ≤ 100) (c : Int) : hasN l n c = hasN (l.filter fun p => !emp p 101) n c := by
  unfold hasN
  rw [List.filter_filter]
  refine congrArg List.length (List.filter_congr fun p _ => ?_)
  cases he : emp p 101 with
  | false => simp
  | true =>
    have hx : p.last n < p.first n := by
      simp only [emp, List.all_eq_true, List.mem_range, decide_eq_true_eq] at he
      have h1 := he n.toNat (by omega)
      rwa [show ((n.toNat : Nat) : Int) = n by omega] at h1
    have : p.has n c = false := by
      unfold Pt.has
      by_cases h1 : p.first n ≤ c
      · have h2 : ¬ c ≤ p.last n := by omega
        simp [h2]
      · simp [h1]
    simp [this]

theorem ptsOk_rot {l : List Pt} (h : ptsOk l = true) (k : Nat) : ptsOk (l.drop k ++ l.take k) = true := by
  simp only [ptsOk, Bool.and_eq_true, decide_eq_true_eq, List.all_eq_true] at h ⊢
  refine ⟨by simp; omega, fun p hp => h.2 p ?_⟩
  rcases List.mem_append.1 hp with h1 | h1
  · exact List.mem_of_mem_drop h1
  · exact List.mem_of_mem_take h1

theorem ptsOk_filter {l : List Pt} (h : ptsOk l = true) (q : Pt → Bool) : ptsOk (l.filter q) = true := by
  simp only [ptsOk, Bool.and_eq_true, decide_eq_true_eq, List.all_eq_true] at h ⊢
  refine ⟨by have := List.length_filter_le q l; omega, fun p hp => h.2 p (List.mem_filter.1 hp).1⟩

end Go.Cm
end

section
open Go.Proofs
namespace Go.Cm

/-- Every second cell, and the first cell alone. -/
def evA (p : Pt) : Pt := { p with st := 2 * p.st }
def evB (p : Pt) : Pt := { p with fn := p.fn + p.st, st := 2 * p.st }
def odA (p : Pt) : Pt := { p with ts := p.fs, tn := p.fn }
def odB (p : Pt) : Pt := { p with fn := p.fn + p.st }

theorem has_dvd {p : Pt} {n c : Int} : p.has n c = true ↔ p.first n ≤ c ∧ c ≤ p.last n ∧ p.st ∣ (c - p.first n) := by
  unfold Pt.has
  simp only [Bool.and_eq_true, decide_eq_true_eq, and_assoc]
  refine and_congr_right fun _ => and_congr_right fun _ => ⟨Int.dvd_of_tmod_eq_zero, Int.tmod_eq_zero_of_dvd⟩

def b1 (b : Bool) : Nat := if b then 1 else 0

theorem b1_sum {x y z : Bool} (h1 : x = true ↔ y = true ∨ z = true) (h2 : ¬ (y = true ∧ z = true)) : b1 x = b1 y + b1 z := by
  revert h1 h2
  cases x <;> cases y <;> cases z <;> decide

theorem split_even {p : Pt} {n : Int} (hf : p.fs = false) (hst : 0 < p.st) (c : Int) : b1 (p.has n c) = b1 ((evA p).has n c) + b1 ((evB p).has n c) := by
  have f1 : p.first n = p.fn := by simp [Pt.first, bval, hf]
  have f2 : (evA p).first n = p.fn := by simp [Pt.first, bval, evA, hf]
  have f3 : (evB p).first n = p.fn + p.st := by simp [Pt.first, bval, evB, hf]
  have l2 : (evA p).last n = p.last n := rfl
  have l3 : (evB p).last n = p.last n := rfl
  have s2 : (evA p).st = 2 * p.st := rfl
  have s3 : (evB p).st = 2 * p.st := rfl
  refine b1_sum ?_ ?_
  · rw [has_dvd, has_dvd, has_dvd, f1, f2, f3, l2, l3, s2, s3]
    constructor
    · rintro ⟨h1, h2, q, h3⟩
      have hq0 : 0 ≤ q := by
        refine Int.not_lt.1 fun hq => ?_
        have h9 := Int.mul_neg_of_pos_of_neg hst hq
        omega
      obtain ⟨m, hm | hm⟩ : ∃ m, q = 2 * m ∨ q = 2 * m + 1 := ⟨q / 2, by omega⟩
      · subst hm
        exact .inl ⟨h1, h2, m, by rw [h3]; simp only [Int.mul_comm, Int.mul_left_comm]⟩
      · subst hm
        have e : c - p.fn = p.st + 2 * p.st * m := by rw [h3, Int.mul_add, Int.mul_one, Int.mul_comm 2 p.st, Int.mul_assoc]; omega
        have hm0 : 0 ≤ 2 * p.st * m := Int.mul_nonneg (by omega) (by omega)
        exact .inr ⟨by omega, h2, m, by omega⟩
    · rintro (⟨h1, h2, q, h3⟩ | ⟨h1, h2, q, h3⟩)
      · exact ⟨h1, h2, 2 * q, by rw [h3]; simp only [Int.mul_comm, Int.mul_left_comm]⟩
      · refine ⟨by omega, h2, 2 * q + 1, ?_⟩
        have e : p.st * (2 * q + 1) = 2 * p.st * q + p.st := by rw [Int.mul_add, Int.mul_one, Int.mul_comm 2 p.st, Int.mul_assoc]
        omega
  · rw [has_dvd, has_dvd, f2, f3, s2, s3]
    rintro ⟨⟨_, _, q, h3⟩, ⟨_, _, q', h4⟩⟩
    have e : 2 * p.st * q - 2 * p.st * q' = p.st := by omega
    rw [← Int.mul_sub, Int.mul_assoc] at e
    generalize q - q' = d at e
    have e2 : p.st * (2 * d) = p.st * 1 := by rw [Int.mul_one, Int.mul_left_comm]; exact e
    have := Int.eq_of_mul_eq_mul_left (by omega) e2
    omega

theorem split_odd {p : Pt} {n : Int} (hf : p.fs = false) (hst : 0 < p.st) (hne : p.first n ≤ p.last n) (c : Int) : b1 (p.has n c) = b1 ((odA p).has n c) + b1 ((odB p).has n c) := by
  have f1 : p.first n = p.fn := by simp [Pt.first, bval, hf]
  have f2 : (odA p).first n = p.fn := by simp [Pt.first, bval, odA, hf]
  have f3 : (odB p).first n = p.fn + p.st := by simp [Pt.first, bval, odB, hf]
  have l2 : (odA p).last n = p.fn := by simp [Pt.last, bval, odA, hf]
  have l3 : (odB p).last n = p.last n := rfl
  have s2 : (odA p).st = p.st := rfl
  have s3 : (odB p).st = p.st := rfl
  rw [f1] at hne
  refine b1_sum ?_ ?_
  · rw [has_dvd, has_dvd, has_dvd, f1, f2, f3, l2, l3, s2, s3]
    constructor
    · rintro ⟨h1, h2, q, h3⟩
      have hq0 : 0 ≤ q := by
        refine Int.not_lt.1 fun hq => ?_
        have h9 := Int.mul_neg_of_pos_of_neg hst hq
        omega
      by_cases h0 : q = 0
      · subst h0; rw [Int.mul_zero] at h3; exact .inl ⟨h1, by omega, 0, by omega⟩
      · have e : p.st * q = p.st + p.st * (q - 1) := by rw [Int.mul_sub, Int.mul_one]; omega
        have hm0 : 0 ≤ p.st * (q - 1) := Int.mul_nonneg (by omega) (by omega)
        exact .inr ⟨by omega, h2, q - 1, by omega⟩
    · rintro (⟨h1, h2, q, h3⟩ | ⟨h1, h2, q, h3⟩)
      · exact ⟨h1, by omega, q, h3⟩
      · refine ⟨by omega, h2, q + 1, ?_⟩
        rw [Int.mul_add, Int.mul_one]; omega
  · rw [has_dvd, has_dvd, f2, f3, l2]
    rintro ⟨⟨_, _, _⟩, ⟨_, _, _⟩⟩
    omega

theorem hasN_split {l : List Pt} {k : Nat} {p a b : Pt} (h : l[k]? = some p) {n c : Int} (hs : b1 (p.has n c) = b1 (a.has n c) + b1 (b.has n c)) : hasN (l.take k ++ l.drop (k + 1) ++ [a, b]) n c = hasN l n c := by
  have hlt := (List.getElem?_eq_some_iff.1 h).1
  have hp := (List.getElem?_eq_some_iff.1 h).2
  have e : l = l.take k ++ (p :: l.drop (k + 1)) := by rw [← hp, ← List.drop_eq_getElem_cons hlt, List.take_append_drop]
  have g : ∀ (q : Pt) (r : List Pt), hasN (q :: r) n c = b1 (q.has n c) + hasN r n c := fun q r => by
    cases h : q.has n c
    · simp [hasN, b1, List.filter_cons, h]
    · simp [hasN, b1, List.filter_cons, h]; omega
  have g0 : hasN [] n c = 0 := rfl
  conv => rhs; rw [e]
  rw [hasN_app, hasN_app, hasN_app, g, g, g, g0, hs]
  omega

set_option maxHeartbeats 8000000 in
set_option maxRecDepth 100000 in
theorem law7 (l : List Pt) (cap : Option Nat) (r s : Int) (hr : InR .u8 r) (hs : InR .u8 s) : Fn Try.prog 7 [.rslc 5 (l.map Pt.cv) cap, .int .u8 r, .int .u8 s] (.bool true) := by
  refine fn_of_code c7_ok rfl rfl fun N => ?_
  have hr := inr_u8 hr
  have hs := inr_u8 hs
  obtain ⟨n, hn⟩ : ∃ n, s.tmod 101 = n := ⟨_, rfl⟩
  have hn2 : 0 ≤ n ∧ n ≤ 100 := by rw [← hn, Int.tmod_eq_emod_of_nonneg hs.1]; omega
  by_cases hv : (decide (l.length ≤ 6) && ptsOk l) = true
  · by_cases hz0 : l.length = 0
    · have hb0 : ((l.length : Int) == 0) = true := by simp [hz0]
      simp only [c7, go_sem, hn]
      refine ⟨inr64 (by omega) (by omega), by omega, ?_⟩
      refine vr_f (s21 l cap) ?_
      rw [hv]
      simp only [go_sem, List.length_map, hb0]
      refine vr_f s12 ?_
      simp only [go_sem]
    have hb0 : ((l.length : Int) == 0) = false := by
      rw [beq_eq_false_iff_ne]; omega
    have hb := hv
    simp only [Bool.and_eq_true, decide_eq_true_eq] at hv
    obtain ⟨h6, hv⟩ := hv
    have hlen : l.length ≤ 1000 := by omega
    obtain ⟨k, hk⟩ : ∃ k : Nat, (r.tdiv 2).tmod l.length = (k : Int) := ⟨((r.tdiv 2).tmod l.length).toNat, by
      have h1 : 0 ≤ r.tdiv 2 := Int.tdiv_nonneg hr.1 (by omega)
      rw [Int.tmod_eq_emod_of_nonneg h1]; have := Int.emod_nonneg (r.tdiv 2) (b := (l.length : Int)) (by omega); omega⟩
    have hk2 : k < l.length := by
      have h1 : 0 ≤ r.tdiv 2 := Int.tdiv_nonneg hr.1 (by omega)
      rw [Int.tmod_eq_emod_of_nonneg h1] at hk
      have := Int.emod_lt_of_pos (r.tdiv 2) (b := (l.length : Int)) (by omega)
      omega
    obtain ⟨p, hp⟩ : ∃ p, l[k]? = some p := ⟨_, List.getElem?_eq_getElem hk2⟩
    have hgp : (l.map Pt.cv).getD k [] = p.cv := by simp [List.getD_eq_getElem?_getD, hp]
    have hpm : p ∈ l := List.mem_of_getElem? hp
    have hpo : p.ok = true := by
      simp only [ptsOk, Bool.and_eq_true, List.all_eq_true] at hv
      exact hv.2 p hpm
    have hz : isSz n = true := by simp [isSz, hn2]
    have hsm := small_of hpo hz
    simp only [c7, go_sem, hn]
    refine ⟨inr64 (by omega) (by omega), by omega, ?_⟩
    refine vr_f (s21 l cap) ?_
    rw [hb]
    simp only [go_sem, List.length_map, hb0, hk, Int.toNat_natCast, hgp, Pt.cv]
    refine ⟨inr64 (by omega) (by omega), ⟨by omega, inr64 (by have := Int.tdiv_nonneg hr.1 (show (0:Int) ≤ 2 by omega); omega) (by have := Int.tdiv_le_self (a := r) 2 hr.1; omega)⟩, by omega, ⟨by omega, by omega⟩, ?_⟩
    refine vr_freeze (id := 0) (z := 5) (els := [p.cv]) rfl rfl ?_
    simp only [go_sem, frzL, frzH, frz, frzO]
    obtain ⟨X, hX⟩ : ∃ X, l.take k ++ l.drop (k + 1) = X := ⟨_, rfl⟩
    have hXl : X.length + 1 = l.length := by rw [← hX]; simp; omega
    have f1 : List.take (l.length - (k + 1)) (List.drop (k + 1) (l.map Pt.cv)) = (l.drop (k + 1)).map Pt.cv := by
      rw [← List.map_drop, List.take_of_length_le (by simp)]
    have f2 : List.take (k - 0) (l.map Pt.cv) = (l.take k).map Pt.cv := by rw [List.map_take, Nat.sub_zero]
    have f3 : ((k : Int) + 1).toNat = k + 1 := by omega
    have e0 : ∀ x xs, exAppend 5 40 [CObj.dead, CObj.arr 5 []] (CV.slc 1 0 0 (some 0)) (x :: xs) = some (condE [] (xs.length + 1) (roomOk (0 + (xs.length + 1)) 40), .slc 2 0 (0 + (xs.length + 1)) none, [.dead, .arr 5 [], .arr 5 (x :: xs)]) := fun x xs => exAppend_E (els := []) rfl rfl
    have e1 : ∀ y ys x xs, exAppend 5 40 [CObj.dead, CObj.arr 5 [], .arr 5 (y :: ys)] (CV.slc 2 0 (ys.length + 1) none) (x :: xs) = some (condE (y :: ys) (xs.length + 1) (roomOk ((y :: ys).length + (xs.length + 1)) 40), .slc 3 0 ((y :: ys).length + (xs.length + 1)) none, [.dead, .arr 5 [], .dead, .arr 5 (y :: ys ++ x :: xs)]) := fun y ys x xs => exAppend_E (els := y :: ys) rfl (by simp)
    have hdl : (l.drop (k + 1)).length ≤ 6 := by simp; omega
    have htl : (l.take k).length ≤ 6 := by simp; omega
    have hXc : closedEls (X.map Pt.cv) = true := closed_cvs X
    refine vr_dregK [true, false, false, false, true, false, false, false, false, true, false] (gp [(0, .rslc 5 (l.map Pt.cv) cap), (0, .int .u8 r), (4, .bool false), (0, .int .i64 n), (1, .rptr p.cv), (0, .slc 1 0 X.length (capE (X.map Pt.cv)))] 125) [.dead, .arr 5 (X.map Pt.cv)] mixed (by decide +kernel) ?_ ?_
    · rcases hA : l.take k with _ | ⟨a, A⟩ <;> rcases hB : l.drop (k + 1) with _ | ⟨b, B⟩ <;> rw [hA, hB] at hX <;> rw [hB] at hdl <;> rw [hA] at htl <;> simp only [List.length_cons, List.length_nil] at hdl htl
      case nil.nil =>
        simp only [go_sem, List.length_map, Int.toNat_natCast, f1, f2, f3, hA, hB, List.map_nil]
        refine ⟨by omega, inr64 (by omega) (by omega), by omega, ?_⟩
        refine leads_to [0, 1] rfl ?_ ?_
        · rw [← hX]; simp [forget, gp, renL, ren, renId, capE, Pt.cv]
        · rw [← hX]; rfl
      case nil.cons =>
        simp only [go_sem, List.length_map, Int.toNat_natCast, f1, f2, f3, hA, hB, List.map_nil, List.map_cons, e0]
        refine ⟨by omega, inr64 (by omega) (by omega), by omega, by simp only [roomOk, Cond.holds, List.length_map]; omega, ?_⟩
        refine leads_to [0, 2] rfl ?_ ?_
        · rw [← hX]; simp [forget, gp, renL, ren, renId, capE, Pt.cv]
        · rw [← hX] at hXc ⊢; simp only [renH, List.map_cons, List.map_nil, go_sem, renO_arr, renO_dead] at hXc ⊢; rw [← List.map_cons, renEls_closed hXc]
      case cons.nil =>
        simp only [go_sem, List.length_map, Int.toNat_natCast, f1, f2, f3, hA, hB, List.map_nil, List.map_cons, e0]
        refine ⟨by omega, by simp only [roomOk, Cond.holds, List.length_map]; omega, inr64 (by omega) (by omega), by omega, ?_⟩
        rw [List.append_nil] at hX
        refine leads_to [0, 2] rfl ?_ ?_
        · rw [← hX]; simp [forget, gp, renL, ren, renId, capE, Pt.cv]
        · rw [← hX] at hXc ⊢; simp only [renH, List.map_cons, List.map_nil, go_sem, renO_arr, renO_dead] at hXc ⊢; rw [← List.map_cons, renEls_closed hXc]
      case cons.cons =>
        simp only [go_sem, List.length_map, Int.toNat_natCast, f1, f2, f3, hA, hB, List.map_cons, e0, e1]
        refine ⟨by omega, by simp only [roomOk, Cond.holds, List.length_map]; omega, inr64 (by omega) (by omega), by omega, by simp only [roomOk, Cond.holds, List.length_map]; omega, ?_⟩
        refine leads_to [0, 3] rfl ?_ ?_
        · rw [← hX]; simp [forget, gp, renL, ren, renId, capE, Pt.cv]; omega
        · rw [← hX] at hXc ⊢
          simp only [List.cons_append, List.map_cons, List.map_append] at hXc ⊢
          simp only [renH, List.map_cons, List.map_nil, go_sem, renO_arr, renO_dead]
          rw [← List.map_cons (f := renL [0, 3])]
          have e9 := renEls_closed (ρ := [0, 3]) hXc
          simp only [List.map_cons, List.map_append] at e9 ⊢
          rw [e9]
    simp only [gp, List.replicate, go_sem]
    refine vr_dregP 2 3 [false, false, true, true, true, true] [false, false, true, true, true, true] (gp [(0, .rslc 5 (l.map Pt.cv) cap), (0, .int .u8 r), (4, .bool false), (0, .int .i64 n), (1, .rptr p.cv), (0, .slc 1 0 X.length (capE (X.map Pt.cv))), (0, .ptr 2 0 0), (0, .ptr 3 0 0)] 123) [.dead, .arr 5 (X.map Pt.cv), .arr 5 [p.cv], .arr 5 [p.cv]] mixed (by decide +kernel) ?_ ?_ ?_
    · simp only [go_sem, Pt.cv, splice]
      exact leads_to [0, 1, 2, 3] rfl (by simp [forget, renL, ren, renId]) (by simp only [renH, List.map_cons, List.map_nil, go_sem, renO_arr, renO_dead, renEls_closed hXc, renL, ren])
    · simp only [swl, swi, lget, List.range, List.range.loop, List.length_cons, List.length_nil, List.map_cons, List.map_nil, List.getD_cons_zero, List.getD_cons_succ, go_sem, Pt.cv, splice]
      exact leads_to [0, 1, 3, 2] rfl (by simp [forget, renL, ren, renId]) (by simp only [renH, List.map_cons, List.map_nil, go_sem, renO_arr, renO_dead, renEls_closed hXc, renL, ren])
    have hst := hsm.st
    have hfn := hsm.fn
    have p1 := s27 p n
    rw [if_pos hpo, if_pos hz] at p1
    simp only [Pt.cv] at p1
    have hpr : 0 ≤ r.tmod 2 ∧ r.tmod 2 ≤ 1 := by rw [Int.tmod_eq_emod_of_nonneg hr.1]; omega
    have hne : 0 < (p.cells n).length → p.first n ≤ p.last n := fun h => by
      rw [cells_length] at h
      have h1 := (lt_count (p := p) (n := n) (s := 0) (by omega)).1 h
      simpa [Pt.at] using h1
    have e2 : ∀ a b o2 o3 o4 o5, exAppend 5 40 [CObj.dead, .arr 5 (X.map Pt.cv), o2, o3, o4, o5] (CV.slc 1 0 X.length (capE (X.map Pt.cv))) [a, b] = some (condE (X.map Pt.cv) (1 + 1) (roomOk ((X.map Pt.cv).length + (1 + 1)) 40), .slc 6 0 ((X.map Pt.cv).length + (1 + 1)) none, [.dead, deadE 5 (X.map Pt.cv), o2, o3, o4, o5, .arr 5 (X.map Pt.cv ++ [a, b])]) := fun a b o2 o3 o4 o5 => exAppend_E (x := a) (xs := [b]) rfl (by simp)
    have hfz : ∀ id z els, List.map (frzL id z els) (X.map Pt.cv) = X.map Pt.cv := fun id z els => by
      rw [List.map_map]
      refine List.map_congr_left fun q _ => frzL_closed _ rfl
    by_cases hpar : r.tmod 2 = 0
    · have q1 : (r.tmod 2 == 0) = true := by rw [hpar]; rfl
      simp only [gp, List.replicate, go_sem, Pt.cv, splice, q1]
      refine ⟨inr64 (by omega) (by omega), by have := Int.tmod_eq_emod_of_nonneg hr.1 (b := 2); omega, ?_⟩
      refine vr_dregH [false, false, false, false, false, false, false, true, false, true] mixed (by decide +kernel) ?_
      simp only [go_sem, splice]
      refine ⟨inr64 (by omega) (by omega), inr64 (by omega) (by omega), ?_⟩
      refine vr_f p1 ?_
      simp only [go_sem]
      by_cases hfs : p.fs = true
      · simp only [go_sem, hfs]
        refine vr_fg (gok rfl) s12 ?_
        simp only [go_sem]
      have hfs : p.fs = false := by simpa using hfs
      by_cases hc0 : (p.cells n).length = 0
      · have c1 : (((p.cells n).length : Int) == 0) = true := by rw [hc0]; rfl
        simp only [go_sem, hfs, ints_len, c1]
        refine vr_fg (gok rfl) s12 ?_
        simp only [go_sem]
      have c1 : (((p.cells n).length : Int) == 0) = false := by rw [beq_eq_false_iff_ne]; omega
      obtain ⟨A, hA⟩ : ∃ A : Pt, A = ⟨false, p.fn, p.ts, p.tn, 2 * p.st⟩ := ⟨_, rfl⟩
      obtain ⟨B, hB⟩ : ∃ B : Pt, B = ⟨false, p.fn + p.st, p.ts, p.tn, 2 * p.st⟩ := ⟨_, rfl⟩
      have hA2 : evA p = A := by rw [hA]; simp [evA, hfs]
      have hB2 : evB p = B := by rw [hB]; simp [evB, hfs]
      simp only [go_sem, hfs, ints_len, c1]
      refine vr_freeze (id := 4) (z := 5) (els := [A, B].map Pt.cv) (by rw [hA, hB]; rfl) (closed_cvs _) ?_
      simp only [go_sem, frzL, frzH, frz, frzO, hfz]
      refine vr_fg (gok rfl) (s17 [A, B] _ (by simp)) ?_
      by_cases hok : ptsOk [A, B] = true
      · rw [hok]
        simp only [go_sem]
        have hXo : ptsOk (X ++ [A, B]) = true := by
          simp only [ptsOk, Bool.and_eq_true, decide_eq_true_eq, List.all_eq_true] at hok hv ⊢
          refine ⟨by simp; omega, fun q hq => ?_⟩
          rcases List.mem_append.1 hq with h1 | h1
          · refine hv.2 q ?_
            rw [← hX] at h1
            rcases List.mem_append.1 h1 with h2 | h2
            · exact List.mem_of_mem_take h2
            · exact List.mem_of_mem_drop h2
          · exact hok.2 q h1
        have hch : chk l n = 0 := by simp [chk, hv, hz]
        have hcX : chk (X ++ [A, B]) n = 0 := by simp [chk, hXo, hz]
        have m1 : allM (X ++ [A, B]) n = allM l n := allM_same hXo hv hn2 fun c => by
          rw [← hX]
          refine hasN_split hp ?_
          rw [← hA2, ← hB2]
          exact split_even hfs (by omega) c
        have u1 := s14 l none n hlen
        have u2 := s14 (X ++ [A, B]) none n (by simp; omega)
        rw [if_pos hch] at u1
        rw [if_pos hcX, m1] at u2
        have hcell : ∀ m ∈ allM l n, ∃ a c d, m = missCv a c d := fun m h => ⟨n, allM_cell l n m h⟩
        have hml : (allM l n).length ≤ 1000 := by rw [allM_eq]; have := mss_len l n (n.toNat + 201); omega
        refine vr_f (s13 l cap hlen) ?_
        simp only [go_sem]
        refine vr_f u1 ?_
        simp only [go_sem, e2]
        refine ⟨by simp only [condE_holds, roomOk, Cond.holds, List.length_map]; omega, ?_⟩
        obtain ⟨Y, hY⟩ : ∃ Y, X ++ [A, B] = Y := ⟨_, rfl⟩
        have hRn : X.length + 2 = Y.length := by rw [← hY]; simp
        have hTk : List.take Y.length (Y.map Pt.cv) = Y.map Pt.cv := List.take_of_length_le (by simp)
        rw [hY] at u2
        refine vr_freeze (id := 6) (z := 5) (els := Y.map Pt.cv) (by rw [← hY, hA, hB, List.map_append]; rfl) (closed_cvs _) ?_
        simp only [go_sem, frzL, frzH, frz, frzO, List.length_map, hRn, hTk, Nat.le_refl]
        refine vr_f u2 ?_
        simp only [go_sem]
        refine vr_fg (gok rfl) (s18 _ hcell none none hml) ?_
        simp only [go_sem]
        refine vr_fg (gok rfl) s12 ?_
        simp only [go_sem]
      · have hok : ptsOk [A, B] = false := by simpa using hok
        rw [hok]
        simp only [go_sem]
        refine vr_fg (gok rfl) s12 ?_
        simp only [go_sem]
    · have q1 : (r.tmod 2 == 0) = false := by rw [beq_eq_false_iff_ne]; exact hpar
      simp only [gp, List.replicate, go_sem, Pt.cv, splice, q1]
      refine ⟨inr64 (by omega) (by omega), by have := Int.tmod_eq_emod_of_nonneg hr.1 (b := 2); omega, ?_⟩
      refine vr_f p1 ?_
      simp only [go_sem]
      by_cases hfs : p.fs = true
      · simp only [go_sem, hfs]
        refine vr_fg (gok rfl) s12 ?_
        simp only [go_sem]
      have hfs : p.fs = false := by simpa using hfs
      by_cases hc0 : (p.cells n).length = 0
      · have c1 : (((p.cells n).length : Int) == 0) = true := by rw [hc0]; rfl
        simp only [go_sem, hfs, ints_len, c1]
        refine vr_fg (gok rfl) s12 ?_
        simp only [go_sem]
      have c1 : (((p.cells n).length : Int) == 0) = false := by rw [beq_eq_false_iff_ne]; omega
      obtain ⟨A, hA⟩ : ∃ A : Pt, A = ⟨false, p.fn, false, p.fn, p.st⟩ := ⟨_, rfl⟩
      obtain ⟨B, hB⟩ : ∃ B : Pt, B = ⟨false, p.fn + p.st, p.ts, p.tn, p.st⟩ := ⟨_, rfl⟩
      have hA2 : odA p = A := by rw [hA]; simp [odA, hfs]
      have hB2 : odB p = B := by rw [hB]; simp [odB, hfs]
      simp only [go_sem, hfs, ints_len, c1]
      refine vr_freeze (id := 4) (z := 5) (els := [A, B].map Pt.cv) (by rw [hA, hB]; rfl) (closed_cvs _) ?_
      simp only [go_sem, frzL, frzH, frz, frzO, hfz]
      refine vr_fg (gok rfl) (s17 [A, B] _ (by simp)) ?_
      by_cases hok : ptsOk [A, B] = true
      · rw [hok]
        simp only [go_sem]
        have hXo : ptsOk (X ++ [A, B]) = true := by
          simp only [ptsOk, Bool.and_eq_true, decide_eq_true_eq, List.all_eq_true] at hok hv ⊢
          refine ⟨by simp; omega, fun q hq => ?_⟩
          rcases List.mem_append.1 hq with h1 | h1
          · refine hv.2 q ?_
            rw [← hX] at h1
            rcases List.mem_append.1 h1 with h2 | h2
            · exact List.mem_of_mem_take h2
            · exact List.mem_of_mem_drop h2
          · exact hok.2 q h1
        have hch : chk l n = 0 := by simp [chk, hv, hz]
        have hcX : chk (X ++ [A, B]) n = 0 := by simp [chk, hXo, hz]
        have m1 : allM (X ++ [A, B]) n = allM l n := allM_same hXo hv hn2 fun c => by
          rw [← hX]
          refine hasN_split hp ?_
          rw [← hA2, ← hB2]
          exact split_odd hfs (by omega) (hne (by omega)) c
        have u1 := s14 l none n hlen
        have u2 := s14 (X ++ [A, B]) none n (by simp; omega)
        rw [if_pos hch] at u1
        rw [if_pos hcX, m1] at u2
        have hcell : ∀ m ∈ allM l n, ∃ a c d, m = missCv a c d := fun m h => ⟨n, allM_cell l n m h⟩
        have hml : (allM l n).length ≤ 1000 := by rw [allM_eq]; have := mss_len l n (n.toNat + 201); omega
        refine vr_f (s13 l cap hlen) ?_
        simp only [go_sem]
        refine vr_f u1 ?_
        simp only [go_sem, e2]
        refine ⟨by simp only [condE_holds, roomOk, Cond.holds, List.length_map]; omega, ?_⟩
        obtain ⟨Y, hY⟩ : ∃ Y, X ++ [A, B] = Y := ⟨_, rfl⟩
        have hRn : X.length + 2 = Y.length := by rw [← hY]; simp
        have hTk : List.take Y.length (Y.map Pt.cv) = Y.map Pt.cv := List.take_of_length_le (by simp)
        rw [hY] at u2
        refine vr_freeze (id := 6) (z := 5) (els := Y.map Pt.cv) (by rw [← hY, hA, hB, List.map_append]; rfl) (closed_cvs _) ?_
        simp only [go_sem, frzL, frzH, frz, frzO, List.length_map, hRn, hTk, Nat.le_refl]
        refine vr_f u2 ?_
        simp only [go_sem]
        refine vr_fg (gok rfl) (s18 _ hcell none none hml) ?_
        simp only [go_sem]
        refine vr_fg (gok rfl) s12 ?_
        simp only [go_sem]
      · have hok : ptsOk [A, B] = false := by simpa using hok
        rw [hok]
        simp only [go_sem]
        refine vr_fg (gok rfl) s12 ?_
        simp only [go_sem]
  · have hb : (decide (l.length ≤ 6) && ptsOk l) = false := by simpa using hv
    simp only [c7, go_sem, hn]
    refine ⟨inr64 (by omega) (by omega), by omega, ?_⟩
    refine vr_f (s21 l cap) ?_
    rw [hb]
    simp only [go_sem]
    refine vr_f s12 ?_
    simp only [go_sem]

end Go.Cm
end

section
open Go.Proofs
namespace Go.Proofs.Ytodbhbjjeamoaaa
open Go.Cm Go.ChangeShapes Go.WideShapes Go.RowKit

theorem own7 : ownKnob Try.prog.godebug = none := by kernel_rfl

set_option maxRecDepth 100000 in
theorem lifted7 (os : Os) (started : os.Started) (H : Type) (enc : TypeId × Value → H) :
    ReturnsInHanded {} Try.checked os 7 .any (Rows.regionSplitSpec.pre6 enc Try.prog Try.f7 Rows.regionSplitRow.domain false) (Rows.regionSplitSpec.post enc Try.prog Try.f7 false true false false) := by
  refine returnsInHanded_of_change (C := Try.checked) own7 started (by kernel_rfl) Try.func7
    (ChangeSpec.witness6 (enc := enc) (C := Try.checked) false ⟨#[], #[.slice none 0 0, .int .u8 0, .int .u8 0], []⟩ 8 (by kernel_rfl) (by kernel_rfl) (by kernel_rfl) (by kernel_rfl)) ?_
  intro W base args ds gs before hval hW _ _
  refine law_contract (d := 4) reg_laid reg_maps reg_full Try.underlying4 (by kernel_rfl) rfl (fun ds hds => ?_) (by kernel_rfl) (fun l hl => ?_) W base args ds gs before hval hW
  · rw [Try.params7] at hds
    match ds, hds with
    | [a, b, c], _ => exact ⟨rfl, rfl, rfl⟩
  · rw [Try.params7] at hl
    obtain ⟨c0, l0, rfl, h0, c1, l1, rfl, h1, c2, l2, rfl, h2, rfl⟩ := hl
    obtain ⟨x0, rfl⟩ := top_parts h0
    obtain ⟨x1, rfl, r1⟩ := top_int Try.underlying5 h1
    obtain ⟨x2, rfl, r2⟩ := top_int Try.underlying5 h2
    exact law7 x0 none x1 x2 r1 r2

theorem regionSplit_holds : Rows.RegionSplitSaid :=
  OpenClaim.holds_of_wide 7 Try.f7 rfl rfl rfl rfl rfl rfl rfl ⟨rfl, rfl, rfl, rfl, rfl⟩ rfl rfl rfl rfl rfl (by kernel_rfl) Try.func7 (by kernel_rfl)
    (of_decide_eq_true (by kernel_rfl)) (by unfold Func.isWrapper; first | (rw [if_pos (by decide +kernel)]; kernel_rfl) | (rw [if_neg (by decide +kernel)]; exact ⟨rfl, rfl⟩))
    (fun os started H enc _ => lifted7 os started H enc)

#print axioms regionSplit_holds
end Go.Proofs.Ytodbhbjjeamoaaa
end
