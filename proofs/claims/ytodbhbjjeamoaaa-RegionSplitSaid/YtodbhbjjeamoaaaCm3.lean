/-
  The framework Cm, part U: regions whose order is drawn. Conditions: none.
  The framework Cm, part V: drawn regions in the walk. Conditions: none.
  The framework Cm, part W: a call of yield. Conditions: none.
  The framework Cm, part X: a range over a function. Conditions: none.
  The framework Cm, part Y: the rule for a range over a function. Conditions: none.
  The framework Cm, part Z: ranges over functions in the walk. Conditions: none.
  The framework Cm, part RN: owned objects are numbered anew. Conditions: none.
  The framework Cm, part RO: loops whose heap is numbered anew at each turn. Conditions: none.
  The framework Cm, part RW: rows that are built turn by turn, nil while they are empty. Conditions: none.
  The framework Cm, part EQ: an empty row compared with nil, which may be nil or not. Conditions: none.
  The framework Cm, part SH: the shell: a law's contract at abstract values, turned into the given statement's contract. Conditions: none.
-/
import Derived.Test.YtodbhbjjeamoaaaCm2
import Derived.Orders
import Derived.RangeFuncRecord
import Derived.RowKit
import Derived.RowKit2
import Derived.RowKit3
import Derived.Carry
import Derived.Below
import Derived.ReadAgain
import Derived.ChangeSame
import Derived.WideShapes
import Derived.ChangeArms
import Derived.OpenShut
import Derived.ChangeCalls
set_option linter.unusedSimpArgs false
set_option linter.unusedVariables false

section
namespace Go.Cm

def lget (l : List IOper) (i : Nat) : IOper := l.getD i ⟨none, .mv (.c .un), none⟩

/-- An order that may be drawn, from what is listed. -/
inductive Sched (n : Nat) (es : List (List Nat)) : (Nat → Bool) → List Nat → Prop
  | nil {S : Nat → Bool} : (∀ i, i < n → S i = false → ∃ e ∈ es.getD i [], S e = false) → Sched n es S []
  | cons {S : Nat → Bool} {i : Nat} {is : List Nat} : i < n → S i = false → (∀ e ∈ es.getD i [], S e = true) → Sched n es (fun j => S j || j == i) is → Sched n es S (i :: is)

theorem edges_get {ops : Array Oper} {i : Nat} {o : Oper} (h : ops[i]? = some o) : (ops.toList.map edgesOf).getD i [] = edgesOf o := by
  have : ops.toList[i]? = some o := by simpa using h
  simp [List.getD, this]

theorem ready_edges {o : Oper} {listed : Array Bool} : (o.after.all fun e => !Region.binds .any e || listed.getD e.on false) = true ↔ ∀ e ∈ edgesOf o, listed.getD e false = true := by
  rw [Array.all_eq_true_iff_forall_mem]
  unfold edgesOf
  constructor
  · intro h e he
    simp only [List.mem_map, List.mem_filter] at he
    obtain ⟨x, ⟨h1, h2⟩, rfl⟩ := he
    have := h x (by simpa using h1)
    simpa [h2] using this
  · intro h x hx
    by_cases hb : Region.binds .any x = true
    · have := h x.on (by simp only [List.mem_map, List.mem_filter]; exact ⟨x, ⟨by simpa using hx, hb⟩, rfl⟩)
      simpa [hb] using this
    · simp [hb]

theorem listed_set {listed : Array Bool} {i : Nat} (hi : i < listed.size) : (fun j => (listed.setIfInBounds i true).getD j false) = fun j => listed.getD j false || j == i := by
  funext j
  simp only [Array.getD_eq_getD_getElem?, Array.getElem?_setIfInBounds]
  by_cases h : i = j
  · subst h; simp [hi]
  · have : (j == i) = false := by simpa using fun e => h e.symm
    simp [h, this]

theorem sched_go (ops : Array Oper) : ∀ (fuel t : Nat) (listed : Array Bool), listed.size = ops.size → listed.toList.count false ≤ fuel →
    Sched ops.size (ops.toList.map edgesOf) (fun i => listed.getD i false) (Region.linearise.go .any ops fuel t listed []) := by
  intro fuel
  induction fuel with
  | zero =>
    intro t listed hs hc
    simp only [Region.linearise.go, List.reverse_nil]
    refine .nil fun i hi hS => ?_
    have hlt : i < listed.size := by omega
    have : listed.toList.count false = 0 := by omega
    rw [List.count_eq_zero] at this
    have hm : listed[i] ∈ listed.toList := by simp
    have : listed[i] ≠ false := fun e => this (e ▸ hm)
    simp only [Array.getD_eq_getD_getElem?, Array.getElem?_eq_getElem hlt, Option.getD_some] at hS
    exact absurd hS this
  | succ fuel ih =>
    intro t listed hs hc
    simp only [Region.linearise.go]
    generalize hrs : (List.range ops.size).filter (fun i => !listed.getD i true && ((ops[i]?).map (·.after.all fun e => !Region.binds .any e || listed.getD e.on false)).getD false) = rs
    have hmem : ∀ i, i ∈ rs ↔ i < ops.size ∧ listed.getD i false = false ∧ ∀ e ∈ (ops.toList.map edgesOf).getD i [], listed.getD e false = true := by
      intro i
      rw [← hrs, List.mem_filter, List.mem_range]
      constructor
      · rintro ⟨h1, h2⟩
        simp only [Bool.and_eq_true, Bool.not_eq_true'] at h2
        have ho : ops[i]? = some ops[i] := Array.getElem?_eq_getElem h1
        have hl : listed[i]? = some (listed[i]'(by omega)) := Array.getElem?_eq_getElem (by omega)
        refine ⟨h1, ?_, ?_⟩
        · have := h2.1
          simp only [Array.getD_eq_getD_getElem?, hl, Option.getD_some] at this ⊢
          exact this
        · rw [edges_get ho]
          have := h2.2
          simp only [ho, Option.map_some, Option.getD_some] at this
          exact ready_edges.1 this
      · rintro ⟨h1, h2, h3⟩
        have ho : ops[i]? = some ops[i] := Array.getElem?_eq_getElem h1
        have hl : listed[i]? = some (listed[i]'(by omega)) := Array.getElem?_eq_getElem (by omega)
        refine ⟨h1, ?_⟩
        simp only [Bool.and_eq_true, Bool.not_eq_true']
        refine ⟨?_, ?_⟩
        · simp only [Array.getD_eq_getD_getElem?, hl, Option.getD_some] at h2 ⊢
          exact h2
        · simp only [ho, Option.map_some, Option.getD_some]
          rw [edges_get ho] at h3
          exact ready_edges.2 h3
    cases hi : rs[t % rs.length]? with
    | none =>
      have hnil : rs = [] := by
        cases hr : rs with
        | nil => rfl
        | cons x xs =>
          rw [hr] at hi
          have hlt : t % (x :: xs).length < (x :: xs).length := Nat.mod_lt _ (by simp)
          rw [List.getElem?_eq_getElem hlt] at hi
          cases hi
      simp only [List.reverse_nil]
      refine .nil fun i hi hS => ?_
      refine Classical.byContradiction fun hn => ?_
      have : i ∈ rs := (hmem i).2 ⟨hi, hS, fun e he => by
        cases h : listed.getD e false with
        | true => rfl
        | false => exact absurd ⟨e, he, h⟩ hn⟩
      rw [hnil] at this; cases this
    | some i =>
      simp only
      rw [linearise_go_acc, List.reverse_singleton, List.singleton_append]
      obtain ⟨h1, h2, h3⟩ := (hmem i).1 (List.mem_of_getElem? hi)
      refine .cons h1 h2 h3 ?_
      have hlt : i < listed.size := by omega
      have := ih (t / rs.length) (listed.setIfInBounds i true) (by simpa using hs) (by
        have hcs := List.count_set (a := true) (b := false) (l := listed.toList) (i := i) (by simpa using hlt)
        simp only [Array.toList_setIfInBounds, hcs]
        have : listed.toList[i]'(by simpa using hlt) = false := by
          simp only [Array.getD_eq_getD_getElem?, Array.getElem?_eq_getElem hlt, Option.getD_some] at h2
          simpa using h2
        have e1 : (listed.toList[i]'(by simpa using hlt) == false) = true := by rw [this]; rfl
        have e2 : (true == false) = false := rfl
        have e3 : listed.toList.count false ≤ fuel + 1 := hc
        rw [if_pos e1, e2]
        simp only [Bool.false_eq_true, if_false]
        omega)
      rwa [listed_set hlt] at this

/-! ### One state, whatever the order -/

/-- The slots after the first j operations in the order of the text. -/
def tst (l : List IOper) (v : Nat → CV) (T : List CV) : Nat → List CV
  | 0 => T
  | j + 1 => put (tst l v T j) (lget l j).dst (v j)

/-- What must be ordered is ordered. -/
def ordered (l : List IOper) (es : List (List Nat)) : Bool :=
  (List.range l.length).all fun j => (es.getD j []).all (fun e => e < j) && (List.range l.length).all fun i => i == j || match (lget l i).dst with
    | none => true
    | some s => !((lget l j).dst == some s) && (!((lget l j).rd.contains s) || (es.getD j []).contains i || (es.getD i []).contains j)

structure Ordered (l : List IOper) (es : List (List Nat)) : Prop where
  lt : ∀ j, j < l.length → ∀ e ∈ es.getD j [], e < j
  uniq : ∀ i j s, i < l.length → j < l.length → (lget l i).dst = some s → (lget l j).dst = some s → i = j
  ord : ∀ i j s, i < l.length → j < l.length → i ≠ j → (lget l i).dst = some s → s ∈ (lget l j).rd → i ∈ es.getD j [] ∨ j ∈ es.getD i []

theorem ordered_sound {l : List IOper} {es : List (List Nat)} (h : ordered l es = true) : Ordered l es := by
  simp only [ordered, List.all_eq_true, List.mem_range, Bool.and_eq_true, decide_eq_true_eq] at h
  refine ⟨fun j hj => (h j hj).1, fun i j s hi hj h1 h2 => ?_, fun i j s hi hj hne h1 h2 => ?_⟩
  · have := (h j hj).2 i hi
    rw [h1] at this
    by_cases he : i = j
    · exact he
    · simp [he, h2] at this
  · have := (h j hj).2 i hi
    rw [h1] at this
    simp only [Bool.or_eq_true, beq_iff_eq, hne, false_or, Bool.and_eq_true, List.contains_iff_mem, Bool.not_eq_true'] at this
    rcases this.2 with (h3 | h3) | h3
    · have := List.contains_iff_mem.2 h2
      rw [this] at h3; cases h3
    · exact .inl h3
    · exact .inr h3

theorem put_length {T : List CV} {d : Option Nat} {v : CV} : (put T d v).length = T.length := by cases d <;> simp [put]

theorem tst_length {l : List IOper} {v : Nat → CV} {T : List CV} : ∀ j, (tst l v T j).length = T.length
  | 0 => rfl
  | j + 1 => by rw [tst, put_length, tst_length j]

theorem put_getD {T : List CV} {d : Option Nat} {v : CV} {s : Nat} : (put T d v).getD s .un = if d = some s ∧ s < T.length then v else T.getD s .un := by
  cases d with
  | none => simp [put]
  | some d =>
    simp only [put, List.getD_eq_getElem?_getD, List.getElem?_set, Option.some.injEq]
    by_cases h : d = s
    · subst h
      by_cases hl : d < T.length <;> simp [hl]
    · simp [h]

theorem tst_other {l : List IOper} {v : Nat → CV} {T : List CV} {s : Nat} : ∀ j, (∀ i, i < j → (lget l i).dst ≠ some s) → (tst l v T j).getD s .un = T.getD s .un
  | 0, _ => rfl
  | j + 1, h => by
    rw [tst, put_getD, if_neg (fun hh => h j (Nat.lt_succ_self j) hh.1)]
    exact tst_other j fun i hi => h i (Nat.lt_succ_of_lt hi)

theorem tst_at {l : List IOper} {v : Nat → CV} {T : List CV} {s i : Nat} (hd : (lget l i).dst = some s) (hs : s < T.length) : ∀ j, i < j → (∀ i', i' < j → (lget l i').dst = some s → i' = i) → (tst l v T j).getD s .un = v i
  | 0, h, _ => by omega
  | j + 1, h, hu => by
    rw [tst, put_getD, tst_length]
    by_cases hj : (lget l j).dst = some s
    · have := hu j (Nat.lt_succ_self j) hj
      subst this
      rw [if_pos ⟨hj, hs⟩]
    · rw [if_neg (fun hh => hj hh.1)]
      have : i ≠ j := fun e => hj (e ▸ hd)
      exact tst_at hd hs j (by omega) fun i' hi' => hu i' (Nat.lt_succ_of_lt hi')

/-- The slots when the operations in S have run. -/
structure At (l : List IOper) (v : Nat → CV) (T : List CV) (S : Nat → Bool) (T' : List CV) : Prop where
  len : T'.length = T.length
  out : ∀ s, (∀ i, i < l.length → S i = true → (lget l i).dst ≠ some s) → T'.getD s .un = T.getD s .un
  inn : ∀ i s, i < l.length → S i = true → (lget l i).dst = some s → s < T.length → T'.getD s .un = v i

section
variable {P : Program} {E : Env} {n0 : Nat} {N : Fr} {Q : Exit → List CV → List CObj → Prop} {H : List CObj} {T T' : List CV} {k : List KItem} {l : List IOper} {es : List (List Nat)} {v : Nat → CV}

theorem At.agree (ho : Ordered l es) {S : Nat → Bool} (hA : At l v T S T') (hcl : ∀ i, i < l.length → S i = true → ∀ e ∈ es.getD i [], S e = true) {j : Nat} (hj : j < l.length) (hS : S j = false) (hr : ∀ e ∈ es.getD j [], S e = true) : agree (lget l j).rd (tst l v T j) T' := by
  intro s hs
  by_cases hlt : s < T.length
  · by_cases hex : ∃ i, i < l.length ∧ (lget l i).dst = some s
    · obtain ⟨i, hi, hd⟩ := hex
      have hu : ∀ i', i' < l.length → (lget l i').dst = some s → i' = i := fun i' hi' hd' => ho.uniq i' i s hi' hi hd' hd
      rcases Nat.lt_trichotomy i j with h | h | h
      · have hin : i ∈ es.getD j [] := by
          rcases ho.ord i j s hi hj (by omega) hd hs with h1 | h1
          · exact h1
          · have := ho.lt i hi j h1; omega
        rw [hA.inn i s hi (hr i hin) hd hlt]
        exact tst_at hd hlt j h fun i' hi' hd' => hu i' (by omega) hd'
      · subst h
        rw [hA.out s fun i' hi' hS' hd' => by have := hu i' hi' hd'; subst this; rw [hS] at hS'; cases hS']
        exact tst_other i fun i' hi' hd' => by have := hu i' (by omega) hd'; omega
      · have hin : j ∈ es.getD i [] := by
          rcases ho.ord i j s hi hj (by omega) hd hs with h1 | h1
          · have := ho.lt j hj i h1; omega
          · exact h1
        rw [hA.out s fun i' hi' hS' hd' => by
          have := hu i' hi' hd'; subst this
          have := hcl i' hi' hS' j hin
          rw [hS] at this; cases this]
        exact tst_other j fun i' hi' hd' => by have := hu i' (by omega) hd'; omega
    · rw [hA.out s fun i hi _ hd => hex ⟨i, hi, hd⟩]
      exact tst_other j fun i hi hd => hex ⟨i, by omega, hd⟩
  · have e1 : (tst l v T j).getD s .un = .un := by
      rw [List.getD_eq_getElem?_getD, List.getElem?_eq_none (by rw [tst_length]; omega)]; rfl
    have e2 : T'.getD s .un = .un := by
      rw [List.getD_eq_getElem?_getD, List.getElem?_eq_none (by rw [hA.len]; omega)]; rfl
    rw [e1, e2]

theorem At.step (ho : Ordered l es) {S : Nat → Bool} (hA : At l v T S T') {j : Nat} (hj : j < l.length) (hS : S j = false) : At l v T (fun i => S i || i == j) (put T' (lget l j).dst (v j)) := by
  refine ⟨by rw [put_length, hA.len], fun s hs => ?_, fun i s hi hSi hd hlt => ?_⟩
  · rw [put_getD, if_neg (fun hh => hs j hj (by simp) hh.1)]
    exact hA.out s fun i hi hSi => hs i hi (by simp [hSi])
  · rw [put_getD, hA.len]
    by_cases hij : i = j
    · subst hij; rw [if_pos ⟨hd, hlt⟩]
    · rw [if_neg fun hh => hij (ho.uniq i j s hi hj hd hh.1)]
      have : S i = true := by simpa [hij] using hSi
      exact hA.inn i s hi this hd hlt

theorem At.all (ho : Ordered l es) {S : Nat → Bool} (hA : At l v T S T') (hS : ∀ i, i < l.length → S i = true) : T' = tst l v T l.length := by
  apply List.ext_getElem?
  intro s
  by_cases hlt : s < T.length
  · have key : T'.getD s .un = (tst l v T l.length).getD s .un := by
      by_cases hex : ∃ i, i < l.length ∧ (lget l i).dst = some s
      · obtain ⟨i, hi, hd⟩ := hex
        rw [hA.inn i s hi (hS i hi) hd hlt]
        exact (tst_at hd hlt _ hi fun i' hi' hd' => ho.uniq i' i s hi' hi hd' hd).symm
      · rw [hA.out s fun i hi _ hd => hex ⟨i, hi, hd⟩]
        exact (tst_other _ fun i hi hd => hex ⟨i, hi, hd⟩).symm
    have h1 : s < T'.length := by rw [hA.len]; exact hlt
    have h2 : s < (tst l v T l.length).length := by rw [tst_length]; exact hlt
    rw [List.getElem?_eq_getElem h1, List.getElem?_eq_getElem h2]
    simpa [List.getD_eq_getElem?_getD, List.getElem?_eq_getElem h1, List.getElem?_eq_getElem h2] using key
  · rw [List.getElem?_eq_none (by rw [hA.len]; omega), List.getElem?_eq_none (by rw [tst_length]; omega)]

theorem any_order (ho : Ordered l es) (hv : ∀ j, j < l.length → Val P E (lget l j) (tst l v T j) H (v j)) (hfin : Ok P E n0 N Q k (tst l v T l.length) H) {S : Nat → Bool} {is : List Nat} (h : Sched l.length es S is) :
    ∀ T', (∀ i, i < l.length → S i = true → ∀ e ∈ es.getD i [], S e = true) → At l v T S T' → Ok P E n0 N Q (.ops (is.map (lget l)) :: k) T' H := by
  induction h with
  | nil hn =>
    rename_i S
    intro T' hcl hA
    have hall : ∀ i, i < l.length → S i = true := by
      intro i
      induction i using Nat.strongRecOn with
      | _ i ih =>
        intro hi
        cases hS : S i with
        | true => rfl
        | false =>
          obtain ⟨e, he, hSe⟩ := hn i hi hS
          have hlt := ho.lt i hi e he
          have := ih e hlt (by omega)
          rw [this] at hSe; cases hSe
    rw [hA.all ho hall]
    exact ok_ops_nil hfin
  | cons hi hS hr _ ih =>
    rename_i S i is hrest
    intro T' hcl hA
    refine Val.ok ((hv i hi).congr (hA.agree ho hcl hi hS hr)) (ih _ (fun j hj hSj e he => ?_) (hA.step ho hi hS))
    simp only [Bool.or_eq_true, beq_iff_eq] at hSj ⊢
    rcases hSj with h | h
    · exact .inl (hcl j hj h e he)
    · subst h; exact .inl (hr e he)

/-- THE RULE FOR A REGION WHOSE ORDER IS DRAWN, of operations that leave the heap. -/
theorem ok_dreg (hm : P.follows .mixedOrders = true) (hord : ordered l es = true) (hv : ∀ j, j < l.length → Val P E (lget l j) (tst l v T j) H (v j)) (hfin : Ok P E n0 N Q k (tst l v T l.length) H) : Ok P E n0 N Q (.code (.dreg l es) :: k) T H := by
  intro m w a b cs kr rest hp hd hk
  simp only [KRel] at hk
  obtain ⟨c', kr', rfl, hc, hk'⟩ := hk
  obtain ⟨id, ops, rfl, h1, rfl⟩ := inv_dreg hc
  obtain ⟨hl, hg⟩ := compOpers_get _ _ h1
  have hln : ops.size = l.length := by simpa using hl.symm
  have hsch := sched_go ops ops.size (w.tape w.drawn (.order b.fn id)) (Array.replicate ops.size false) (by simp) (by simp)
  have hst := stepR_region_draw (P := P) (b := b) (a := a) (k := kr' ++ rest) (cs := cs) (w := w) (ops := ops) (id := id)
  simp only [Region.schedule, hm, Bool.true_or, if_true, Region.linearise] at hst
  generalize Region.linearise.go .any ops ops.size (w.tape w.drawn (.order b.fn id)) (Array.replicate ops.size false) [] = is at hsch hst
  have hS0 : (fun i => (Array.replicate ops.size false).getD i false) = fun _ => false := by
    funext i
    simp only [Array.getD_eq_getD_getElem?, Array.getElem?_replicate]
    split <;> rfl
  rw [hS0, hln] at hsch
  have hlts : ∀ i ∈ is, i < l.length := by
    clear hst
    generalize (fun _ => false : Nat → Bool) = S at hsch
    induction hsch with
    | nil _ => intro i hi; cases hi
    | cons h _ _ _ ih => intro i hi; rcases List.mem_cons.1 hi with h' | h'
                         · subst h'; exact h
                         · exact ih i h'
  have hrun := any_order (n0 := n0) (N := N) (Q := Q) (k := k) (ordered_sound hord) hv hfin hsch T (fun _ _ h => by cases h) ⟨rfl, fun _ _ => rfl, fun _ _ _ h => by cases h⟩
  have hs' : Sim E m H { w with drawn := w.drawn + 1 } := hp.sim.congr rfl
  have hx : Ext n0 m H w m H { w with drawn := w.drawn + 1 } := Ext.congr rfl ⟨rfl, rfl, rfl⟩
  refine Reach.step (.one hst) hx (hrun m _ a b cs (.inRegion ops is :: kr') rest ⟨hs', hp.tmps, hp.long⟩ (hd.ext hx) ?_)
  simp only [KRel]
  refine ⟨ops, is, kr', rfl, ⟨by simp, fun j i hj => ?_⟩, hk'⟩
  have hi := hlts i (List.mem_of_getElem? hj)
  obtain ⟨io, h2, h3⟩ := hg i (ops[i]'(by omega)) (by simp)
  exact ⟨ops[i]'(by omega), io, Array.getElem?_eq_getElem (by omega), by simp [hj, lget, List.getD_eq_getElem?_getD, h2], h3⟩

end
end Go.Cm
end

section
namespace Go.Cm

/-- Operations that make an object: in a drawn region they give one that is only read. -/
def heapy : IOp → Bool
  | .bslice _ _ _ _ => true
  | .box _ => true
  | _ => false

def dexec (op : IOp) (T : List CV) (H : List CObj) : Option (Cond × CV × List CObj) := if heapy op then none else exec op T H

section
variable (P : Program) (E : Env) (n0 : Nat) (N : Fr) (Q : Exit → List CV → List CObj → Prop)

/-- The walk of a drawn region, in the order of the text: what is to be shown. -/
def vdr (k : List KItem) : List IOper → List CV → List CObj → Prop
  | [], T, H => vrun P E n0 N Q k T H
  | ⟨d, op, none⟩ :: l, T, H => match dexec op T H with
    | some (c, v, H') => H' = H ∧ c.holds ∧ vdr k l (put T d v) H
    | none => ∃ v, Val P E ⟨d, op, none⟩ T H v ∧ vdr k l (put T d v) H
  | ⟨d, op, some (s, want)⟩ :: l, T, H => match T.getD s .un with
    | .bool t => (t = want → match dexec op T H with
      | some (c, v, H') => H' = H ∧ c.holds ∧ vdr k l (put T d v) H
      | none => ∃ v, Val P E ⟨d, op, some (s, want)⟩ T H v ∧ vdr k l (put T d v) H) ∧ (t = (!want) → vdr k l (put T d (.tup [])) H)
    | .tup [] => vdr k l (put T d (.tup [])) H
    | _ => False

/-- A call that the walk of a drawn region waits for. -/
def vdrC (k : List KItem) (io : IOper) (l : List IOper) (T : List CV) (H : List CObj) : Prop := ∃ v, Val P E io T H v ∧ vdr P E n0 N Q k l (put T io.dst v) H

def vdrR (r : Option (Cond × CV × List CObj)) (d : Option Nat) (op : IOp) (g : Option (Nat × Bool)) (k : List KItem) (l : List IOper) (T : List CV) (H : List CObj) : Prop :=
  match r with
  | some (c, v, H') => H' = H ∧ c.holds ∧ vdr P E n0 N Q k l (put T d v) H
  | none => vdrC P E n0 N Q k ⟨d, op, g⟩ l T H

end

section
variable {P : Program} {E : Env} {n0 : Nat} {N : Fr} {Q : Exit → List CV → List CObj → Prop} {H H' : List CObj} {T : List CV} {k : List KItem} {l : List IOper} {es : List (List Nat)}

theorem vd_nil : vdr P E n0 N Q k [] T H = vrun P E n0 N Q k T H := propext Iff.rfl
theorem vd_op {d : Option Nat} {op : IOp} : vdr P E n0 N Q k (⟨d, op, none⟩ :: l) T H = vdrR P E n0 N Q (dexec op T H) d op none k l T H := propext Iff.rfl
theorem vd_gop {d : Option Nat} {op : IOp} {s : Nat} {want : Bool} : vdr P E n0 N Q k (⟨d, op, some (s, want)⟩ :: l) T H = vguard (T.getD s .un) want (vdrR P E n0 N Q (dexec op T H) d op (some (s, want)) k l T H) (vdr P E n0 N Q k l (put T d (.tup [])) H) := propext Iff.rfl
theorem vdrR_some {d : Option Nat} {op : IOp} {g : Option (Nat × Bool)} {c : Cond} {v : CV} : vdrR P E n0 N Q (some (c, v, H')) d op g k l T H = (H' = H ∧ c.holds ∧ vdr P E n0 N Q k l (put T d v) H) := propext Iff.rfl
theorem vdrR_none {d : Option Nat} {op : IOp} {g : Option (Nat × Bool)} : vdrR P E n0 N Q none d op g k l T H = vdrC P E n0 N Q k ⟨d, op, g⟩ l T H := propext Iff.rfl

theorem vdr_look {T' : List CV} {H' : List CObj} (hT : T = T') (hH : H = H') : vdr P E n0 N Q k l T H = vdr P E n0 N Q k l T' H' := by rw [hT, hH]
theorem vdrR_look {r r' : Option (Cond × CV × List CObj)} {d : Option Nat} {op : IOp} {g : Option (Nat × Bool)} (h : r = r') : vdrR P E n0 N Q r d op g k l T H = vdrR P E n0 N Q r' d op g k l T H := by rw [h]
attribute [congr] vdr_look vdrR_look

theorem vdr_vals : ∀ (l : List IOper) (T : List CV), vdr P E n0 N Q k l T H → ∃ v : Nat → CV, (∀ j, j < l.length → Val P E (lget l j) (tst l v T j) H (v j)) ∧ vrun P E n0 N Q k (tst l v T l.length) H
  | [], T, h => ⟨fun _ => .un, by simp, h⟩
  | io :: l, T, h => by
    have hex : ∃ v0, Val P E io T H v0 ∧ vdr P E n0 N Q k l (put T io.dst v0) H := by
      obtain ⟨d, op, g⟩ := io
      have cs : ∀ g, GOk T g → vdrR P E n0 N Q (dexec op T H) d op g k l T H → ∃ v0, Val P E ⟨d, op, g⟩ T H v0 ∧ vdr P E n0 N Q k l (put T d v0) H := by
        intro g hg h
        unfold vdrR at h
        split at h
        · rename_i c v H' he
          obtain ⟨rfl, hc, h⟩ := h
          have he2 : exec op T H' = some (c, v, H') := by
            unfold dexec at he
            split at he
            · cases he
            · exact he
          exact ⟨v, .inr ⟨hg, .inl ⟨c, he2, hc⟩⟩, h⟩
        · exact h
      cases g with
      | none => rw [vd_op] at h; exact cs none (.inl rfl) h
      | some g =>
        obtain ⟨s, want⟩ := g
        rw [vd_gop] at h
        unfold vguard at h
        split at h
        · rename_i t ht
          by_cases htw : t = want
          · exact cs _ (.inr ⟨s, want, rfl, by rw [ht, htw]⟩) (h.1 htw)
          · have e : t = !want := by cases t <;> cases want <;> simp_all
            exact ⟨.tup [], .inl ⟨s, want, rfl, .inl (by rw [ht, e]), rfl⟩, h.2 e⟩
        · rename_i ht
          exact ⟨.tup [], .inl ⟨s, want, rfl, .inr ht, rfl⟩, h⟩
        · exact h.elim
    obtain ⟨v0, h1, h2⟩ := hex
    obtain ⟨v, h3, h4⟩ := vdr_vals l _ h2
    let v' : Nat → CV := fun j => match j with | 0 => v0 | j + 1 => v j
    have key : ∀ j, tst (io :: l) v' T (j + 1) = tst l v (put T io.dst v0) j := by
      intro j
      induction j with
      | zero => rfl
      | succ j ih => rw [tst, ih]; rfl
    refine ⟨v', fun j hj => ?_, ?_⟩
    · cases j with
      | zero => exact h1
      | succ j => rw [key]; exact h3 j (by simpa using hj)
    · rw [List.length_cons, key]; exact h4

theorem vr_dreg (hm : P.follows .mixedOrders = true) (hord : ordered l es = true) (h : vdr P E n0 N Q k l T H) : Ok P E n0 N Q (.code (.dreg l es) :: k) T H := by
  obtain ⟨v, h1, h2⟩ := vdr_vals l T h
  exact ok_dreg hm hord h1 (vrun_sound _ _ _ h2)

theorem vd_call {d : Option Nat} {g : Option (Nat × Bool)} {f : Nat} {as : List IArg} {v : CV} (hg : GOk T g) (hcall : Fn P f (as.map (aget T)) v) (h : vdr P E n0 N Q k l (put T d v) H) : vdrC P E n0 N Q k ⟨d, .call f as, g⟩ l T H :=
  ⟨v, .inr ⟨hg, .inr (.inl ⟨f, as, rfl, hcall E H⟩)⟩, h⟩

/-- A row of closed values in a drawn region. -/
theorem vd_row {d : Option Nat} {g : Option (Nat × Bool)} {z n : Nat} {zero : List CV} {ps : List (Nat × IArg)} (els : List (List CV)) (hg : GOk T g) (hcl : closedL ((IOp.bslice z n zero ps).rd.map fun s => T.getD s .un) = true) (he : fillEls T z (List.replicate n zero) ps = some els) (hn : els.length = n) (hc : closedEls els = true) (h : vdr P E n0 N Q k l (put T d (.rslc z els none)) H) : vdrC P E n0 N Q k ⟨d, .bslice z n zero ps, g⟩ l T H := by
  refine ⟨.rslc z els none, .inr ⟨hg, .inr (.inr ⟨hcl, rfl, .tt, .slc 0 0 n (some n), [.arr z els], 0, z, els, ?_, trivial, rfl, hc, ?_⟩)⟩, h⟩
  · simp [exec, he]
  · subst hn; simp [frz]

theorem dexec_mv {a : IArg} : dexec (.mv a) T H = exec (.mv a) T H := rfl
theorem dexec_of {op : IOp} (h : heapy op = false) : dexec op T H = exec op T H := by simp [dexec, h]
theorem dexec_row {z n : Nat} {zero : List CV} {ps : List (Nat × IArg)} : dexec (.bslice z n zero ps) T H = none := rfl
theorem dexec_box {a : IArg} : dexec (.box a) T H = none := rfl

end

attribute [go_sem] dexec heapy
attribute [go_sem] vd_nil vd_op vd_gop vdrR_some vdrR_none

end Go.Cm
end

section
namespace Go.Cm

/-- What the world outside has done, seen by one who owns blocks of his own. -/
structure Went (bs : Nat → Prop) (imm : Nat → Nat → Option Value) (w : World) (bs' : Nat → Prop) (imm' : Nat → Nat → Option Value) (w' : World) : Prop where
  size : w.heap.size ≤ w'.heap.size
  frame : ∀ B, B < w.heap.size → ¬ bs B → w'.heap[B]? = w.heap[B]?
  grow : immLe imm imm'
  newImm : ∀ B i v, imm' B i = some v → imm B i = some v ∨ bs B ∨ w.heap.size ≤ B
  newBs : ∀ B, bs' B → bs B ∨ w.heap.size ≤ B
  bslt : ∀ B, bs' B → B < w'.heap.size
  valid : ∀ B i v, imm' B i = some v → w'.cell? ⟨B, i, none⟩ = some v
  one : ∀ B i v, imm' B i = some v → v.oneCell' = true
  same : w'.os = w.os ∧ w'.output = w.output ∧ w'.tape = w.tape

/-- What a loop promises the function that it ranges over: round s may be given xs[s]. -/
def YieldOk (P : Program) (E : Env) (l : Nat) (xs : List (List CV)) : Prop :=
  ∀ s bs imm w x (vs : Array Value), E.X s true bs imm w → (∀ B i v, imm B i = some v → w.cell? ⟨B, i, none⟩ = some v) → (∀ B i v, imm B i = some v → v.oneCell' = true) → (∀ B, bs B → B < w.heap.size) → xs[s]? = some x → rels [] imm x vs.toList →
    ∃ fn tmps assign body, (Instr.yield l vs).run P w = .ok (.round l fn tmps assign body) w ∧
      RoundIn (WF none) 0 P l fn tmps assign body w fun e w' => ∃ b bs' imm', e = .returned (.bool b) ∧ E.X (s + 1) b bs' imm' w' ∧ Went bs imm w bs' imm' w'

section
variable {P : Program} {E : Env} {n0 : Nat} {N : Fr} {Q : Exit → List CV → List CObj → Prop} {H : List CObj} {T : List CV} {k : List KItem} {b : Frame} {cs : List Frame} {m : Bk} {w : World}

theorem Sim.went {bs' : Nat → Prop} {imm' : Nat → Nat → Option Value} {w' : World} {i s s' : Nat} {c c' : Bool} (hs : Sim E m H w) (hH : H[i]? = some (.ext s c)) (hu : ∀ k s b, H[k]? = some (.ext s b) → k = i) (hx : E.X s' c' bs' imm' w') (hw : Went m.ext m.imm w bs' imm' w') :
    Sim E { own := m.own, imm := imm', ext := bs' } (H.set i (.ext s' c')) w' ∧ Ext n0 m H w { own := m.own, imm := imm', ext := bs' } (H.set i (.ext s' c')) w' := by
  have hlt : i < H.length := (List.getElem?_eq_some_iff.1 hH).1
  have key : ∀ (k : Nat) o, (H.set i (.ext s' c'))[k]? = some o → (k = i ∧ o = .ext s' c') ∨ (k ≠ i ∧ H[k]? = some o) := by
    intro k o hk
    rw [List.getElem?_set] at hk
    split at hk
    · rename_i e; subst e; simp [hlt] at hk; exact .inl ⟨rfl, hk.symm⟩
    · rename_i e; exact .inr ⟨fun h => e h.symm, hk⟩
  have alive : ∀ (k : Nat) o, (H.set i (.ext s' c'))[k]? = some o → o.alive = true → H[k]? = some o := by
    intro k o hk ha
    rcases key k o hk with ⟨_, rfl⟩ | ⟨_, h⟩
    · cases ha
    · exact h
  have notbs : ∀ (k : Nat) o x, H[k]? = some o → o.alive = true → m.own[k]? = some x → ¬ bs' x.B := by
    intro k o x hk ha hx hb
    rcases hw.newBs _ hb with h | h
    · exact hs.extsep k o x hk ha hx h
    · have := blk_lt hs hk ha hx; omega
  refine ⟨⟨by simp [hs.len], fun k o x hk hx => ?_, hw.valid, hw.one, fun k k' o o' x x' hk hk' ha ha' hx hx' hB => hs.sep k k' o o' x x' (alive _ _ hk ha) (alive _ _ hk' ha') ha ha' hx hx' hB, fun k o x hk ha hx j hj => ?_, fun k t d hk => ?_, fun k o x hk ha hx => notbs k o x (alive _ _ hk ha) ha hx, hw.bslt⟩,
    ⟨hw.size, fun B hB hn => hw.frame B hB fun h => hn (.inl h), hw.grow, fun B ho => ?_, fun B j v hv => ?_, fun _ _ _ h => h, fun h => h, hw.same⟩⟩
  · rcases key k o hk with ⟨_, rfl⟩ | ⟨_, h⟩
    · trivial
    · by_cases ha : o.alive = true
      · exact objRel_mono (ownLe.refl _) hw.grow (fun _ => hw.frame _ (blk_lt hs h ha hx) (hs.extsep k o x h ha hx)) (hs.obj k o x h hx)
      · cases o <;> simp [CObj.alive] at ha <;> trivial
  · cases hv : imm' x.B j with
    | none => exact hv
    | some v =>
      have h := alive _ _ hk ha
      rcases hw.newImm _ _ _ hv with h1 | h1 | h1
      · rw [hs.ro k o x h ha hx j hj] at h1; cases h1
      · exact absurd h1 (hs.extsep k o x h ha hx)
      · have := blk_lt hs h ha hx; omega
  · rcases key k _ hk with ⟨_, h⟩ | ⟨hne, h⟩
    · cases h; exact hx
    · exact absurd (hu _ _ _ h) hne
  · rcases ho with h | ⟨k, o, x, hk, ha, hx, hB⟩
    · rcases hw.newBs _ h with h1 | h1
      · exact .inl (.inl h1)
      · exact .inr h1
    · exact .inl (.inr ⟨k, o, x, alive _ _ hk ha, ha, hx, hB⟩)
  · rcases hw.newImm _ _ _ hv with h1 | h1 | h1
    · exact .inl h1
    · exact .inr (.inl (.inl h1))
    · exact .inr (.inr h1)

theorem step_round {ops : Array Oper} {i : Nat} {is : List Nat} {o : Oper} {a : Act} {kr : List Item} {l fn : Nat} {tmps : Array Value} {assign body : Code} {R : Ending → World → Prop} (ho : ops[i]? = some o) (hw : Region.wanted o (yielded ops a.tmps) = true) (hsem : o.semAt b.roundOf a.eval = execOp a.eval o) (hrun : (execOp a.eval o).run P w = .ok (.round l fn tmps assign body) w)
    (hcall : RoundIn (WF none) 0 P l fn tmps assign body w R) (hR : ∀ e w', R e w' → ∃ r, e = .returned r) : ∃ r w', R (.returned r) w' ∧ Steps P (lone (b.atR a (.inRegion ops (i :: is) :: kr)) cs w) (lone (b.atR (a.put o.dst r) (.inRegion ops is :: kr)) cs w') := by
  have hg := stepGR_op (P := P) (b := b) (k := kr) (cs := cs) (w := w) (rest := is) ho hw
  rw [hsem] at hg
  have hfin : ∀ v, (b.atR a (.inRegion ops (i :: is) :: kr)).finish v = b.atR (a.put o.dst v) (.inRegion ops is :: kr) := by
    intro v; rw [Frame.finish_atR, ho]; rfl
  obtain ⟨e, w'', hRe, hsteps⟩ := hcall.2 (b.atR a (.inRegion ops (i :: is) :: kr)) cs (room_WF _ _)
  have henter : Go.step P (lone (b.atR a (.inRegion ops (i :: is) :: kr)) cs w) = .next (lone (Frame.round l fn tmps assign body .normal) (b.atR a (.inRegion ops (i :: is) :: kr) :: cs) w) :=
    step_lone_go (by rw [hg]; simp [stepG.apply, hrun, Frame.atR])
  obtain ⟨r, rfl⟩ := hR e w'' hRe
  refine ⟨r, w'', hRe, .head henter ?_⟩
  rw [← hfin]; exact StepsIn.steps hsteps

/-- A CALL OF YIELD. -/
theorem ok_yield {d : Option Nat} {g : Option (Nat × Bool)} {x : IArg} {l i s : Nat} {as : List IArg} {lst : List IOper} {xs : List (List CV)} (hg : GOk T g) (hx : aget T x = .yld l) (hy : YieldOk P E l xs) (hH : H[i]? = some (.ext s true)) (hu : ∀ k s b, H[k]? = some (.ext s b) → k = i)
    (hxs : xs[s]? = some (as.map (aget T))) (hcl : closedL (as.map (aget T)) = true) (h : ∀ c, Ok P E n0 N Q (.ops lst :: k) (put T d (.bool c)) (H.set i (.ext (s + 1) c))) : Ok P E n0 N Q (.ops (⟨d, .callv x as, g⟩ :: lst) :: k) T H := by
  intro m w a b cs kr rest hp hd hk
  obtain ⟨ops, j, is, kr', o, rfl, ho, hco, hk'⟩ := ops_cons hk
  obtain ⟨hw, hdst, hop⟩ := wanted_ok hco hg hp.tmps
  obtain ⟨cl, xo, ho2, hcal, hxo, has⟩ := invo_callv hop
  have hr := arg_rel (a := a) hp.tmps hxo
  rw [hx] at hr; simp only [rel] at hr
  obtain ⟨fn, tmps, assign, body, hrun, hround⟩ := hy s m.ext m.imm w _ (cl.args.map a.eval) (hp.sim.ext i s true hH) hp.sim.imm hp.sim.one hp.sim.extlt hxs (closedL_rels _ _ hcl (by simpa using args_rel hp.tmps has))
  have hrun' : (execOp a.eval o).run P w = .ok (.round l fn tmps assign body) w := by
    simp only [execOp, ho2, resolve, hcal, hr, Deferred.ofValue, Sem.run_bind, Sem.run_pure, Result.andThen_ok, invoke]
    simpa using hrun
  obtain ⟨r, w', ⟨c, bs', imm', he, hX, hwent⟩, hsteps⟩ := step_round (b := b) (cs := cs) (is := is) (kr := kr' ++ rest) ho hw (semAt_plain hop) hrun' hround (fun e w' ⟨c, _, _, h, _⟩ => ⟨_, h⟩)
  cases he
  rw [hdst] at hsteps
  obtain ⟨hsim, hext⟩ := Sim.went (n0 := n0) hp.sim hH hu hX hwent
  refine Reach.step hsteps hext (h c _ w' _ b cs (.inRegion ops is :: kr') rest (pre_put hsim (rels_mono (ownLe.refl _) hwent.grow _ _ hp.tmps) (by simpa using hp.long) (by simp [rel])) ?_ hk')
  rw [put_defers]; exact hd.ext hext

end
end Go.Cm
end

section
namespace Go.Cm

/-- The loop's parameters take the values that are given. -/
def pset : List CV → List Nat → List CV → List CV
  | T, p :: ps, c :: cs => pset (T.set p c) ps cs
  | T, [], _ => T
  | T, _, [] => T

theorem pset_rels {own : List Own} {imm : Nat → Nat → Option Value} : ∀ (ps : List Nat) (cs : List CV) (vs : List Value) (T : List CV) (tmps : Array Value), rels own imm T tmps.toList → rels own imm cs vs →
    rels own imm (pset T ps cs) ((ps.zip vs).foldl (fun (t : Array Value) (p : Nat × Value) => t.setIfInBounds p.1 p.2) tmps).toList
  | [], cs, vs, T, tmps, h, _ => by cases cs <;> simpa [pset] using h
  | p :: ps, [], vs, T, tmps, h, hc => by simp only [rels] at hc; subst hc; simpa [pset] using h
  | p :: ps, c :: cs, vs, T, tmps, h, hc => by
    simp only [rels] at hc
    obtain ⟨r, rs, rfl, h1, h2⟩ := hc
    simp only [pset, List.zip_cons_cons, List.foldl_cons]
    refine pset_rels ps cs rs _ _ ?_ h2
    rw [Array.toList_setIfInBounds]
    exact rels_set h p h1

section
variable {P : Program} {E : Env} {n0 : Nat} {N : Fr} {Q : Exit → List CV → List CObj → Prop} {H : List CObj} {T : List CV} {k : List KItem} {m : Bk} {w : World}

theorem Sim.grow (hs : Sim E m H w) {imm' : Nat → Nat → Option Value} {w' : World} (hf : ∀ B, owned m H B → w'.heap[B]? = w.heap[B]?) (hsz : w.heap.size ≤ w'.heap.size) (hi : immLe m.imm imm') (hn : ∀ B i v, imm' B i = some v → m.imm B i = some v ∨ ¬ owned m H B)
    (hv : ∀ B i v, imm' B i = some v → w'.cell? ⟨B, i, none⟩ = some v) (h1 : ∀ B i v, imm' B i = some v → v.oneCell' = true) : Sim E { own := m.own, imm := imm', ext := m.ext } H w' := by
  refine ⟨hs.len, fun k o x hk hx => ?_, hv, h1, hs.sep, fun k o x hk ha hx i hxi => ?_, fun k s b hk => ?_, hs.extsep, fun B hB => Nat.lt_of_lt_of_le (hs.extlt B hB) hsz⟩
  · by_cases ha : o.alive = true
    · exact objRel_mono (ownLe.refl _) hi (fun _ => hf _ (.inr ⟨k, o, x, hk, ha, hx, rfl⟩)) (hs.obj k o x hk hx)
    · cases o <;> simp [CObj.alive] at ha <;> trivial
  · cases hv : imm' x.B i with
    | none => exact hv
    | some v =>
      rcases hn _ _ _ hv with h | h
      · rw [hs.ro k o x hk ha hx i hxi] at h; cases h
      · exact absurd (.inr ⟨k, o, x, hk, ha, hx, rfl⟩) h
  · exact E.stable _ _ _ _ _ _ _ (hs.ext k s b hk) (fun B hB => hf B (.inl hB)) hsz hi (fun B i v hv => (hn B i v hv).imp_right fun h hb => h (.inl hb)) hv h1

/-- The state of the one who ranges, seen by the function that is ranged over. -/
def OutX (P : Program) (E : Env) (n0 : Nat) (N : Fr) (Q : Exit → List CV → List CObj → Prop) (k : List KItem) (T : List CV) (I : Nat → List CObj → Prop) (own0 : List Own) (imm0 : Nat → Nat → Option Value) (n1 L D : Nat) (rc : LoopState → Option Code → Loop) (s : Nat) (b : Bool) (bs : Nat → Prop) (imm : Nat → Nat → Option Value) (w : World) : Prop :=
  ∃ (own : List Own) (ex : Nat → Prop) (Hs : List CObj), Sim E ⟨own, imm, ex⟩ Hs w ∧ (∀ B, owned ⟨own, imm, ex⟩ Hs B → bs B) ∧ bs L ∧ bs D ∧ ¬ owned ⟨own, imm, ex⟩ Hs L ∧ ¬ owned ⟨own, imm, ex⟩ Hs D ∧ w.heap[D]? = some (.deferred (some [])) ∧
    ownLe own0 own ∧ immLe imm0 imm ∧ n1 ≤ Hs.length ∧
    (b = true → I s Hs ∧ w.heap[L]? = some (.loop (rc .ready none))) ∧ (b = false → ∃ c ic, compCode P c = some ic ∧ Ok P E n0 N Q (.code ic :: k) T Hs ∧ w.heap[L]? = some (.loop (rc .done (some c))))

def OutE (P : Program) (E : Env) (n0 : Nat) (N : Fr) (Q : Exit → List CV → List CObj → Prop) (k : List KItem) (T : List CV) (I : Nat → List CObj → Prop) (own0 : List Own) (imm0 : Nat → Nat → Option Value) (n1 L D : Nat) (rc : LoopState → Option Code → Loop) : Env where
  X := OutX P E n0 N Q k T I own0 imm0 n1 L D rc
  stable := by
    rintro s b bs imm imm' w w' ⟨own, ex, Hs, h1, h2, h3, h4, h5, h6, h7, h8, h9, h10, h11, h12⟩ hf hsz hi hn hv ho
    refine ⟨own, ex, Hs, h1.grow (fun B hB => hf B (h2 B hB)) hsz hi (fun B i v hv => (hn B i v hv).imp_right fun h hb => h (h2 B hb)) hv ho, h2, h3, h4, h5, h6, (hf D h4).trans h7, h8, h9.trans hi, h10, fun hb => ⟨(h11 hb).1, (hf L h3).trans (h11 hb).2⟩, fun hb => ?_⟩
    obtain ⟨c, ic, a1, a2, a3⟩ := h12 hb
    exact ⟨c, ic, a1, a2, (hf L h3).trans a3⟩

/-- A function that is ranged over: it gives the values xs, in their order. -/
def Iter (P : Program) (g : Nat) (l1 l2 : List CV) (xs : List (List CV)) : Prop :=
  ∀ E l, YieldOk P E l xs → CallsC P E g (l1 ++ .yld l :: l2) [.ext 0 true] fun _ H' => H'[0]? = some (.ext xs.length true) ∨ ∃ s, H'[0]? = some (.ext s false)

/-- How the assignment to the loop's variables ends. -/
def asgQ (K : List CV → List CObj → Prop) : Exit → List CV → List CObj → Prop
  | .normal, T, H => K T H
  | _, _, _ => False

/-- How a round ends. -/
def roundQ (P : Program) (E : Env) (n0 : Nat) (N : Fr) (Q : Exit → List CV → List CObj → Prop) (k : List KItem) (T : List CV) (I : List CObj → Prop) : Exit → List CV → List CObj → Prop
  | .normal, _, H => I H
  | .ret, _, H => Ok P E n0 N Q (.code .ret :: k) T H
  | .exit id, _, H => Ok P E n0 N Q (.code (.exit id) :: k) T H
  | _, _, _ => False

theorem fenced_eq (ro : Option Nat) : (Machine.fenced P (WF none)) = Machine.fenced P (WF ro) := by
  funext mm
  exact propext ⟨fun _ => fenced_WF P ro mm, fun _ => fenced_WF P none mm⟩

theorem inRound_WF (l : Nat) : (WF none).inRound l = WF (some l) := rfl

/-- ONE ROUND. -/
theorem round_ok {ps : List Nat} {x y : ICode} {ca cb : Code} {xs : List (List CV)} {I : Nat → List CObj → Prop} {own0 : List Own} {imm0 : Nat → Nat → Option Value} {tmps : Array Value} {fn L D : Nat} (hca : compCode P ca = some x) (hcb : compCode P cb = some y) (hn1 : own0.length = H.length) (hT : rels own0 imm0 T tmps.toList)
    (hxs : ∀ c ∈ xs, c.length = ps.length) (hround : ∀ s Hs c, I s Hs → xs[s]? = some c → Ok P E H.length ⟨0, true⟩ (asgQ fun T2 H2 => Ok P E H.length ⟨0, true⟩ (roundQ P E n0 N Q k T (I (s + 1))) [.code y] T2 H2) [.code x] (pset T ps c) Hs) :
    YieldOk P (OutE P E n0 N Q k T I own0 imm0 H.length L D fun st pe => { state := st, pending := pe, fn, tmps, params := ps.toArray, assign := ca, body := cb, defers := D }) L xs := by
  intro s bs imm w xv vs hX hval hone hbslt hx hr
  obtain ⟨own, ex, Hs, h1, h2, h3, h4, h5, h6, h7, h8, h9, h10, h11, _⟩ := hX
  obtain ⟨hI, hl⟩ := h11 rfl
  have hsize : vs.size = ps.length := by
    have := rels_length hr
    rw [hxs _ (List.mem_of_getElem? hx)] at this
    simpa using this.symm
  have hLD : L ≠ D := by intro e; rw [e, h7] at hl; cases hl
  refine ⟨fn, _, ca, cb, run_yield hl (by simpa using hsize), roundIn_of_wpIn trivial ?_⟩
  intro b2 k2 cs2 hro2 _ _
  have hkr : KRel P [.code x] [.code ca] := by simp only [KRel]; exact ⟨ca, [], rfl, hca, rfl⟩
  have hkr' : KRel P [.code y] [.code cb] := by simp only [KRel]; exact ⟨cb, [], rfl, hcb, rfl⟩
  have htm := pset_rels ps xv vs.toList T tmps (rels_mono h8 h9 _ _ hT) (rels_mono (ownLe.nil _) (immLe.refl _) _ _ hr)
  obtain ⟨e, a1, w1, m1, T1, H1, hext1, hp1, hd1, hq1, harr1⟩ := hround s Hs xv hI hx ⟨own, imm, ex⟩ w { tmps := (ps.toArray.zip vs).foldl (fun (t : Array Value) (p : Nat × Value) => t.setIfInBounds p.1 p.2) tmps, defers := [] } b2 cs2 [.code ca] k2
    ⟨h1, by
      have e1 : (ps.toArray.zip vs).foldl (fun (t : Array Value) (p : Nat × Value) => t.setIfInBounds p.1 p.2) tmps = (ps.zip vs.toList).foldl (fun (t : Array Value) (p : Nat × Value) => t.setIfInBounds p.1 p.2) tmps := by
        rw [← Array.foldl_toList]; simp
      rw [e1]; exact htm, h10⟩ (DefOk.nil _ _ (fun h => by cases h) _ _ _ (Nat.zero_le _)) hkr
  have hLs : L < w.heap.size := hbslt L h3
  have hDs : D < w.heap.size := hbslt D h4
  cases e with
  | normal =>
    simp only [asgQ] at hq1
    refine ⟨.normal, a1, w1, ?_, by rw [inRound_WF, ← fenced_eq]; exact harr1⟩
    have hl1 : w1.heap[L]? = some _ := (hext1.frame L hLs h5).trans hl
    have hd1D : w1.heap[D]? = some _ := (hext1.frame D hDs h6).trans h7
    have hnL1 : ¬ owned m1 H1 L := fun h => (hext1.newOwn L h).elim h5 (fun h => by omega)
    have hnD1 : ¬ owned m1 H1 D := fun h => (hext1.newOwn D h).elim h6 (fun h => by omega)
    refine ⟨_, run_beginRound hl1 rfl, ?_⟩
    intro b3 k3 cs3 hro3 _ _
    have hs2 := hp1.sim.putDef (ob := .loop { state := .busy, pending := none, fn, tmps, params := ps.toArray, assign := ca, body := cb, defers := D }) hl1 (by intro c e f h; cases h) hnL1
    have hdef2 : DefOk ⟨0, true⟩ b3 m1 H1 (w1.putObj L (.loop { state := .busy, pending := none, fn, tmps, params := ps.toArray, assign := ca, body := cb, defers := D })) a1.defers := by
      obtain ⟨_, _, Ds, e1, e2, e3⟩ := hd1
      refine ⟨fun h => (by cases h), Nat.zero_le _, Ds, e1, e2, fun D' hD' => ?_⟩
      obtain ⟨f1, f2, f3⟩ := e3 D' hD'
      have hne : D' ≠ L := by intro e; rw [e, hl1] at f2; cases f2
      exact ⟨f1, (World.putObj_heap_other hne).trans f2, f3⟩
    obtain ⟨e2, a2, w3, m2, T2, H2, hext2, hp2, hd2, hq2, harr2⟩ := hq1 m1 _ a1 b3 cs3 [.code cb] k3 ⟨hs2, hp1.tmps, hp1.long⟩ hdef2 hkr'
    refine ⟨e2, a2, w3, ?_, by rw [inRound_WF, ← fenced_eq]; exact harr2⟩
    have hL1s : L < w1.heap.size := Nat.lt_of_lt_of_le hLs hext1.size
    have hsz2 : (w1.putObj L (.loop { state := .busy, pending := none, fn, tmps, params := ps.toArray, assign := ca, body := cb, defers := D })).heap.size = w1.heap.size := World.putObj_size
    have hl3 : w3.heap[L]? = some (.loop { state := .busy, pending := none, fn, tmps, params := ps.toArray, assign := ca, body := cb, defers := D }) := (hext2.frame L (by rw [hsz2]; exact hL1s) hnL1).trans (World.putObj_heap_same hL1s)
    have hD3 : w3.heap[D]? = some (.deferred (some [])) := (hext2.frame D (by rw [hsz2]; exact Nat.lt_of_lt_of_le hDs hext1.size) hnD1).trans ((World.putObj_heap_other (Ne.symm hLD)).trans hd1D)
    have hnL2 : ¬ owned m2 H2 L := fun h => (hext2.newOwn L h).elim hnL1 (fun h => by omega)
    have hnD2 : ¬ owned m2 H2 D := fun h => by
      rcases hext2.newOwn D h with h | h
      · exact hnD1 h
      · have := hext1.size; omega
    have fin : ∀ (jump : Option Code), (jump = none → I (s + 1) H2) → (∀ c, jump = some c → ∃ ic, compCode P c = some ic ∧ Ok P E n0 N Q (.code ic :: k) T H2) →
        ∃ v w', (Instr.endRound L jump).run P w3 = .ok v w' ∧ ∃ b bs' imm', Ending.returned v = .returned (.bool b) ∧ OutX P E n0 N Q k T I own0 imm0 H.length L D (fun st pe => { state := st, pending := pe, fn, tmps, params := ps.toArray, assign := ca, body := cb, defers := D }) (s + 1) b bs' imm' w' ∧ Went bs imm w bs' imm' w' := by
      intro jump hj1 hj2
      have hs4 := hp2.sim.putDef (ob := .loop { state := if jump.isNone then .ready else .done, pending := jump, fn, tmps, params := ps.toArray, assign := ca, body := cb, defers := D }) hl3 (by intro c e f h; cases h) hnL2
      have hL3s : L < w3.heap.size := (Array.getElem?_eq_some_iff.1 hl3).1
      have hsz3 : w.heap.size ≤ w3.heap.size := Nat.le_trans hext1.size (by have := hext2.size; omega)
      refine ⟨_, _, run_endRound jump hl3, jump.isNone, fun B => bs B ∨ owned m2 H2 B, m2.imm, rfl, ⟨m2.own, m2.ext, H2, hs4, fun B hB => .inr hB, .inl h3, .inl h4, hnL2, hnD2, (World.putObj_heap_other (Ne.symm hLD)).trans hD3, fun k x hk => ?_, (h9.trans hext1.imm).trans hext2.imm, hp2.long, fun hb => ?_, fun hb => ?_⟩, ⟨?_, fun B hB hnb => ?_, hext1.imm.trans hext2.imm, fun B i v hv => ?_, fun B hB => ?_, fun B hB => ?_, hs4.imm, hs4.one, ?_⟩⟩
      · have hlt : k < H.length := by rw [← hn1]; exact (List.getElem?_eq_some_iff.1 hk).1
        exact hext2.base k x hlt (hext1.base k x hlt (h8 k x hk))
      · have : jump = none := by cases jump with | none => rfl | some c => cases hb
        subst this
        exact ⟨hj1 rfl, World.putObj_heap_same hL3s⟩
      · cases jump with
        | none => cases hb
        | some c =>
          obtain ⟨ic, g1, g2⟩ := hj2 c rfl
          exact ⟨c, ic, g1, g2, World.putObj_heap_same hL3s⟩
      · rw [World.putObj_size]; exact hsz3
      · have hBL : B ≠ L := fun e => hnb (e ▸ h3)
        have hn0 : ¬ owned ⟨own, imm, ex⟩ Hs B := fun h => hnb (h2 B h)
        have hn1' : ¬ owned m1 H1 B := fun h => (hext1.newOwn B h).elim hn0 (fun h => by omega)
        rw [World.putObj_heap_other hBL, hext2.frame B (by rw [hsz2]; exact Nat.lt_of_lt_of_le hB hext1.size) hn1', World.putObj_heap_other hBL, hext1.frame B hB hn0]
      · rcases hext2.newImm B i v hv with h | h | h
        · rcases hext1.newImm B i v h with h | h | h
          · exact .inl h
          · exact .inr (.inl (h2 B h))
          · exact .inr (.inr h)
        · rcases hext1.newOwn B h with h | h
          · exact .inr (.inl (h2 B h))
          · exact .inr (.inr h)
        · exact .inr (.inr (by rw [hsz2] at h; exact Nat.le_trans hext1.size h))
      · rcases hB with h | h
        · exact .inl h
        · rcases hext2.newOwn B h with h | h
          · rcases hext1.newOwn B h with h | h
            · exact .inl (h2 B h)
            · exact .inr h
          · exact .inr (by rw [hsz2] at h; exact Nat.le_trans hext1.size h)
      · rw [World.putObj_size]
        rcases hB with h | h
        · exact Nat.lt_of_lt_of_le (hbslt B h) hsz3
        · exact owned_lt hp2.sim h
      · obtain ⟨a1', b1', c1'⟩ := hext1.same
        obtain ⟨a2', b2', c2'⟩ := hext2.same
        exact ⟨a2'.trans a1', b2'.trans b1', c2'.trans c1'⟩
    cases e2 with
    | normal => exact fin none (fun _ => hq2) (fun c h => by cases h)
    | ret => exact fin (some .ret) (fun h => by cases h) (fun c h => by cases h; exact ⟨.ret, by simp [compCode], hq2⟩)
    | exit id => exact fin (some (.exit id)) (fun h => by cases h) (fun c h => by cases h; exact ⟨.exit id, by simp [compCode], hq2⟩)
    | goto l => exact hq2.elim
    | panic ch => exact hq2.elim
    | outgrown => exact hq2.elim
  | ret => exact hq1.elim
  | exit id => exact hq1.elim
  | goto l => exact hq1.elim
  | panic ch => exact hq1.elim
  | outgrown => exact hq1.elim

end
end Go.Cm
end

section
namespace Go.Cm

section
variable {P : Program} {E : Env} {n0 : Nat} {N : Fr} {Q : Exit → List CV → List CObj → Prop} {H : List CObj} {T : List CV} {k : List KItem}

theorem ok_rfunc {f : IArg} {ps : List Nat} {x y : ICode} {g : Nat} {l1 l2 : List CV} {xs : List (List CV)} {fn : Func} (I : Nat → List CObj → Prop) (hrnd : N.rnd = false) (hf : aget T f = .fn g l1 l2) (hc1 : closedL l1 = true) (hc2 : closedL l2 = true) (hfn : P.funcs[g]? = some fn) (hbd : fn.body.isSome = true) (hnm : fn.name ≠ "runtime.NumGoroutine")
    (hit : Iter P g l1 l2 xs) (hxs : ∀ c ∈ xs, c.length = ps.length) (h0 : I 0 H) (hround : ∀ s Hs c, I s Hs → xs[s]? = some c → Ok P E H.length ⟨0, true⟩ (asgQ fun T2 H2 => Ok P E H.length ⟨0, true⟩ (roundQ P E n0 N Q k T (I (s + 1))) [.code y] T2 H2) [.code x] (pset T ps c) Hs)
    (hdone : ∀ H', I xs.length H' → Ok P E n0 N Q k T H') : Ok P E n0 N Q (.code (.rfunc f ps x y) :: k) T H := by
  intro m w a b cs kr rest hp hd hk
  simp only [KRel] at hk
  obtain ⟨c', kr', rfl, hc, hk'⟩ := hk
  obtain ⟨g0, qs, ca, cb, rfl, hg0, hps, hca, hcb⟩ := inv_rfunc hc
  have hro : b.roundOf = none := hd.1 hrnd
  have hr := arg_rel (a := a) hp.tmps hg0
  rw [hf] at hr; simp only [rel] at hr
  obtain ⟨vs1, vs2, hv, hr1, hr2⟩ := hr
  have hqs : qs = ps.toArray := by rw [← hps]
  generalize hD : w.heap.size = D at *
  generalize hrc : (fun (st : LoopState) (pe : Option Code) => ({ state := st, pending := pe, fn := b.fn, tmps := a.tmps, params := ps.toArray, assign := ca, body := cb, defers := D } : Loop)) = rc
  generalize hW1 : (w.alloc (.deferred (some []))).alloc (.loop (rc .ready none)) = W1
  have he : (Instr.enterLoop b.fn a.tmps qs ca cb b.roundOf).run P w = .ok (D + 1, [{ target := .collected D, args := #[] }]) W1 := by
    rw [hro, ← hW1, ← hrc, hqs, ← hD]; exact run_enterLoop_outer _ _ _ _ _
  have hsz1 : W1.heap.size = D + 2 := by rw [← hW1]; simp [hD]
  have hheap1 : ∀ B, B < D → W1.heap[B]? = w.heap[B]? := by
    intro B hB
    have e : W1.heap = (w.heap.push (.deferred (some []))).push (.loop (rc .ready none)) := by rw [← hW1]; rfl
    rw [e, Array.getElem?_push, Array.getElem?_push, if_neg (by simp [hD]; omega), if_neg (by omega)]
  have hD1 : W1.heap[D]? = some (.deferred (some [])) := by
    have e : W1.heap = (w.heap.push (.deferred (some []))).push (.loop (rc .ready none)) := by rw [← hW1]; rfl
    rw [e, Array.getElem?_push, Array.getElem?_push, if_neg (by simp [hD]), if_pos hD.symm]
  have hL1 : W1.heap[D + 1]? = some (.loop (rc .ready none)) := by
    rw [← hW1]
    have := World.alloc_heap_new (w.alloc (.deferred (some []))) (.loop (rc .ready none))
    rwa [World.size_alloc, hD] at this
  have hsame1 : W1.os = w.os ∧ W1.output = w.output ∧ W1.tape = w.tape := by rw [← hW1]; exact ⟨rfl, rfl, rfl⟩
  have hown : ∀ B, owned m H B → B < D := fun B h => by rw [← hD]; exact owned_lt hp.sim h
  have himm1 : ∀ B i v, m.imm B i = some v → W1.cell? ⟨B, i, none⟩ = some v := fun B i v hv => (cell?_congr (hheap1 B (by rw [← hD]; exact imm_lt hp.sim hv))).trans (hp.sim.imm B i v hv)
  have hs1 : Sim E m H W1 := hp.sim.grow (fun B h => hheap1 B (hown B h)) (by omega) (immLe.refl _) (fun B i v h => .inl h) himm1 hp.sim.one
  have hn1 : m.own.length = H.length := hp.sim.len
  have hy : YieldOk P (OutE P E n0 N Q k T I m.own m.imm H.length (D + 1) D rc) (D + 1) xs := by
    rw [← hrc]; exact round_ok hca hcb hn1 hp.tmps hxs hround
  have hres : (resolve a.eval (rangeCall g0 (D + 1)) 0).run P W1 = .ok { target := .fn (.func g) vs2, args := vs1 ++ #[.func (.yield (D + 1)) #[] #[]] } W1 := by
    simp only [resolve, hv]
    simp [Deferred.ofValue, Act.eval]
  have hinv : (invoke (.fn (.func g) vs2) (vs1 ++ #[.func (.yield (D + 1)) #[] #[]])).run P W1 = .ok (.enter g (vs1 ++ #[.func (.yield (D + 1)) #[] #[]] ++ vs2)) W1 := by
    simp only [invoke]; exact run_callFunc hfn hbd hnm
  have henter := stepR_rangeFunc (P := P) (b := b) (a := a) (k := kr' ++ rest) (cs := cs) (w := w) he hres hinv
  let bs0 : Nat → Prop := fun B => owned m H B ∨ B = D + 1 ∨ B = D
  have hX0 : OutX P E n0 N Q k T I m.own m.imm H.length (D + 1) D rc 0 true bs0 m.imm W1 :=
    ⟨m.own, m.ext, H, hs1, fun B h => .inl h, .inr (.inl rfl), .inr (.inr rfl), fun h => by have := hown _ h; omega, fun h => by have := hown _ h; omega, hD1, ownLe.refl _, immLe.refl _, Nat.le_refl _, fun _ => ⟨h0, hL1⟩, fun h => by cases h⟩
  have hsim0 : Sim (OutE P E n0 N Q k T I m.own m.imm H.length (D + 1) D rc) { own := [⟨0, 0, 0, 0⟩], imm := m.imm, ext := bs0 } [.ext 0 true] W1 := by
    refine ⟨rfl, fun k o x hk hx => ?_, himm1, hp.sim.one, fun k k' o o' x x' hk hk' ha => ?_, fun k o x hk ha => ?_, fun k s b hk => ?_, fun k o x hk ha => ?_, fun B hB => ?_⟩
    · cases k with
      | zero => simp at hk; subst hk; trivial
      | succ k => simp at hk
    · cases k with
      | zero => simp at hk; subst hk; cases ha
      | succ k => simp at hk
    · cases k with
      | zero => simp at hk; subst hk; cases ha
      | succ k => simp at hk
    · cases k with
      | zero => simp at hk; obtain ⟨rfl, rfl⟩ := hk; exact hX0
      | succ k => simp at hk
    · cases k with
      | zero => simp at hk; subst hk; cases ha
      | succ k => simp at hk
    · rcases hB with h | h | h
      · have := hown _ h; omega
      · omega
      · omega
  have hvs : rels [⟨0, 0, 0, 0⟩] m.imm (l1 ++ .yld (D + 1) :: l2) (vs1 ++ #[Value.func (Fn.yield (D + 1)) #[] #[]] ++ vs2).toList := by
    simp only [Array.toList_append, List.append_assoc]
    refine rels_append (closedL_rels _ _ hc1 hr1) ?_
    simp only [rels, rel, List.cons_append, List.nil_append]
    exact ⟨_, _, rfl, rfl, closedL_rels _ _ hc2 hr2⟩
  obtain ⟨e, w3, fr, ⟨r, m', v, H', rfl, hext, hs3, _, hR⟩, hsteps, _, hleave⟩ := (hit _ _ hy _ W1 _ hsim0 hvs).2 (b.atR { a with defers := [{ target := .collected D, args := #[] }] ++ a.defers } (.inRangeFunc (D + 1) :: (kr' ++ rest)) :: cs) (room_WF _ _)
  have hno : ∀ B, owned { own := [⟨0, 0, 0, 0⟩], imm := m.imm, ext := bs0 } [.ext 0 true] B → bs0 B := by
    rintro B (h | ⟨k, o, x, hk, ha, _⟩)
    · exact h
    · cases k with
      | zero => simp at hk; subst hk; cases ha
      | succ k => simp at hk
  -- behind the function
  have fin : ∀ (s : Nat) (c : Bool), H'[0]? = some (.ext s c) → (c = true → s = xs.length) → Reach P E n0 N Q b rest cs m H w (lone (b.atR a (.code (.rangeFunc g0 qs ca cb) :: (kr' ++ rest))) cs w) := by
    intro s c hc0 hcs
    obtain ⟨own, ex, Hs, g1, g2, g3, g4, g5, g6, g7, g8, g9, g10, g11, g12⟩ := hs3.ext 0 s c hc0
    have go : ∀ (st : LoopState) (pe : Option Code) (kk : List KItem) (krr : List Item), st ≠ .busy → w3.heap[D + 1]? = some (.loop (rc st pe)) → Ok P E n0 N Q kk T Hs → KRel P kk krr → krr ++ rest = (pe.map Item.code).toList ++ (kr' ++ rest) →
        Reach P E n0 N Q b rest cs m H w (lone (b.atR a (.code (.rangeFunc g0 qs ca cb) :: (kr' ++ rest))) cs w) := by
      intro st pe kk krr hst hl hok hkk hkr
      have hrs : (rc st pe).state = st := by rw [← hrc]
      have hrp : (rc st pe).pending = pe := by rw [← hrc]
      have hend : (Instr.endLoop (D + 1)).run P w3 = .ok pe (w3.putObj (D + 1) (.loop { rc st pe with state := .exhausted })) := by
        have h := run_endLoop (P := P) hl (by rw [hrs]; exact hst)
        rw [h]
        simp only [hrp]
      have hback := stepR_endRangeFunc (P := P) (b := b) (a := { a with defers := [{ target := .collected D, args := #[] }] ++ a.defers }) (k := kr' ++ rest) (cs := cs) hend
      have hs4 := g1.putDef (ob := .loop { rc st pe with state := .exhausted }) hl (by intro c e f h; cases h) g5
      have hsize := hext.size
      have hext4 : Ext n0 m H w ⟨own, m'.imm, ex⟩ Hs (w3.putObj (D + 1) (.loop { rc st pe with state := .exhausted })) := by
        refine ⟨by rw [World.putObj_size]; omega, fun B hB hnb => ?_, hext.imm, fun B hB => ?_, fun B i v hv => ?_, fun k x hk hx => g8 k x hx, fun _ => ?_, ?_⟩
        · have hBD : B < D := by omega
          rw [World.putObj_heap_other (by omega), hext.frame B (by omega) (fun h => by rcases hno B h with h | h | h; · exact hnb h
                                                                                       · omega
                                                                                       · omega), hheap1 B hBD]
        · rcases hext.newOwn B (.inl (g2 B hB)) with h | h
          · rcases hno B h with h | h | h
            · exact .inl h
            · exact .inr (by omega)
            · exact .inr (by omega)
          · exact .inr (by omega)
        · rcases hext.newImm B i v hv with h | h | h
          · exact .inl h
          · rcases hno B h with h | h | h
            · exact .inr (.inl h)
            · exact .inr (.inr (by omega))
            · exact .inr (.inr (by omega))
          · exact .inr (.inr (by omega))
        · exact Nat.le_trans hp.long (Nat.le_trans g10 (Nat.le_of_eq g1.len.symm))
        · obtain ⟨s1, s2, s3⟩ := hsame1
          obtain ⟨t1, t2, t3⟩ := hext.same
          exact ⟨t1.trans s1, t2.trans s2, t3.trans s3⟩
      have hT4 : rels own m'.imm T a.tmps.toList := rels_mono g8 hext.imm _ _ hp.tmps
      have hlen4 : n0 ≤ Hs.length := Nat.le_trans hp.long g10
      have hd4 : DefOk N b ⟨own, m'.imm, ex⟩ Hs (w3.putObj (D + 1) (.loop { rc st pe with state := .exhausted })) ([{ target := .collected D, args := #[] }] ++ a.defers) := by
        obtain ⟨q1, q2, Ds, q3, q4, q5⟩ := hd
        have hlt : ∀ D' ∈ Ds, D' < D := fun D' h => by rw [← hD]; exact (Array.getElem?_eq_some_iff.1 (q5 D' h).2.1).1
        refine ⟨q1, Nat.le_trans q2 hext4.size, D :: Ds, by rw [q3]; rfl, List.nodup_cons.2 ⟨fun h => Nat.lt_irrefl _ (hlt D h), q4⟩, fun D' hD' => ?_⟩
        rcases List.mem_cons.1 hD' with rfl | h
        · exact ⟨by omega, (World.putObj_heap_other (by omega)).trans g7, g6⟩
        · obtain ⟨r1, r2, r3⟩ := q5 D' h
          have := hlt D' h
          exact ⟨r1, (hext4.frame D' (by omega) r3).trans r2, fun ho => (hext4.newOwn D' ho).elim r3 (fun h => by omega)⟩
      refine Reach.step (.head henter (Steps.trans (StepsIn.steps hsteps) (.head (step_leave_returned hleave) ?_))) hext4 (hok ⟨own, m'.imm, ex⟩ _ { a with defers := [{ target := .collected D, args := #[] }] ++ a.defers } b cs krr rest ⟨hs4, hT4, hlen4⟩ hd4 hkk)
      rw [finish_atR_inRangeFunc, hkr]
      exact .one hback
    cases c with
    | true =>
      obtain ⟨hI, hl⟩ := g11 rfl
      exact go .ready none k kr' (by simp) hl (hdone Hs (hcs rfl ▸ hI)) hk' (by simp)
    | false =>
      obtain ⟨c, ic, q1, q2, q3⟩ := g12 rfl
      exact go .done (some c) (.code ic :: k) (.code c :: kr') (by simp) q3 q2 (by simp only [KRel]; exact ⟨c, kr', rfl, q1, hk'⟩) (by simp)
  rcases hR with h | ⟨s, h⟩
  · exact fin _ _ h fun _ => rfl
  · exact fin _ _ h fun h => by cases h

end
end Go.Cm
end

section
namespace Go.Cm

section
variable {P : Program} {E : Env} {n0 : Nat} {N : Fr} {Q : Exit → List CV → List CObj → Prop} {H : List CObj} {T : List CV} {k : List KItem}

theorem vr_yield {d : Option Nat} {g : Option (Nat × Bool)} {x : IArg} {l i s : Nat} {as : List IArg} {lst : List IOper} {xs : List (List CV)} (hg : GOk T g) (hx : aget T x = .yld l) (hy : YieldOk P E l xs) (hH : H[i]? = some (.ext s true)) (hu : ∀ k s b, H[k]? = some (.ext s b) → k = i)
    (hxs : xs[s]? = some (as.map (aget T))) (hcl : closedL (as.map (aget T)) = true) (h : ∀ c, vrun P E n0 N Q (.ops lst :: k) (put T d (.bool c)) (H.set i (.ext (s + 1) c))) : Ok P E n0 N Q (.ops (⟨d, .callv x as, g⟩ :: lst) :: k) T H :=
  ok_yield hg hx hy hH hu hxs hcl fun c => vrun_sound _ _ _ (h c)

/-- How a round ends, in the walk. -/
def vroundQ (P : Program) (E : Env) (n0 : Nat) (N : Fr) (Q : Exit → List CV → List CObj → Prop) (k : List KItem) (T : List CV) (I : List CObj → Prop) (e : Exit) (_ : List CV) (H : List CObj) : Prop :=
  match e with
  | .normal => I H
  | .ret => Q .ret T H
  | .exit id => vexit P E n0 N Q (xexit id k) id T H
  | _ => False

theorem vroundQ_normal {T' : List CV} {I : List CObj → Prop} : vroundQ P E n0 N Q k T I .normal T' H = I H := rfl
theorem vroundQ_ret {T' : List CV} {I : List CObj → Prop} : vroundQ P E n0 N Q k T I .ret T' H = Q .ret T H := rfl
theorem vroundQ_exit {T' : List CV} {I : List CObj → Prop} {id : Nat} : vroundQ P E n0 N Q k T I (.exit id) T' H = vexit P E n0 N Q (xexit id k) id T H := rfl
theorem asgQ_normal {K : List CV → List CObj → Prop} : asgQ K .normal T H = K T H := rfl

theorem vr_rfunc {f : IArg} {ps : List Nat} {x y : ICode} {g : Nat} {l1 l2 : List CV} {xs : List (List CV)} (hp : Nat → List CObj) (hrnd : N.rnd = false) (hf : aget T f = .fn g l1 l2) (hc1 : closedL l1 = true) (hc2 : closedL l2 = true) {F : IFunc} (hF : compFn P g = some F) (hnm : (P.funcs[g]?.map (·.name)) ≠ some "runtime.NumGoroutine")
    (hit : Iter P g l1 l2 xs) (hxs : ∀ c ∈ xs, c.length = ps.length) (h0 : H = hp 0)
    (hround : ∀ s c, xs[s]? = some c → vrun P E H.length ⟨0, true⟩ (asgQ fun T2 H2 => vrun P E H.length ⟨0, true⟩ (vroundQ P E n0 N Q k T (fun H' => H' = hp (s + 1))) [.code y] T2 H2) [.code x] (pset T ps c) (hp s))
    (hdone : vrun P E n0 N Q k T (hp xs.length)) : Ok P E n0 N Q (.code (.rfunc f ps x y) :: k) T H := by
  have hfn : ∃ fn, P.funcs[g]? = some fn ∧ fn.body.isSome = true := by
    unfold compFn at hF
    split at hF
    · rename_i fn hfn
      split at hF
      · rename_i c hb
        exact ⟨fn, hfn, by rw [hb]; rfl⟩
      · cases hF
    · cases hF
  obtain ⟨fn, hfn, hbd⟩ := hfn
  refine ok_rfunc (fun s H' => H' = hp s) hrnd hf hc1 hc2 hfn hbd (fun e => hnm (by rw [hfn, ← e]; rfl)) hit hxs h0 (fun s Hs c hI hc => ?_) (fun H' hI => by rw [hI]; exact vrun_sound _ _ _ hdone)
  rw [hI]
  refine (vrun_sound _ _ _ (hround s c hc)).mono fun e T2 H2 hq => ?_
  cases e with
  | normal =>
    refine (vrun_sound _ _ _ hq).mono fun e T3 H3 hq3 => ?_
    cases e with
    | normal => exact hq3
    | ret => exact ok_ret hq3
    | exit id =>
      refine ok_exit ?_
      simp only [vroundQ, vexit] at hq3
      split <;> rename_i hx <;> rw [hx] at hq3
      · exact vrun_sound _ _ _ hq3
      · exact hq3
    | goto l => exact hq3.elim
    | panic c => exact hq3.elim
    | outgrown => exact hq3.elim
  | ret => exact hq.elim
  | exit id => exact hq.elim
  | goto l => exact hq.elim
  | panic c => exact hq.elim
  | outgrown => exact hq.elim

theorem vr_rfuncE {f : IArg} {ps : List Nat} {x y : ICode} {g : Nat} {l1 l2 : List CV} {xs : List (List CV)} {Γ : Type} (hp : Nat → Γ → List CObj) (γ0 : Γ) (hrnd : N.rnd = false) (hf : aget T f = .fn g l1 l2) (hc1 : closedL l1 = true) (hc2 : closedL l2 = true) {F : IFunc} (hF : compFn P g = some F) (hnm : (P.funcs[g]?.map (·.name)) ≠ some "runtime.NumGoroutine")
    (hit : Iter P g l1 l2 xs) (hxs : ∀ c ∈ xs, c.length = ps.length) (h0 : H = hp 0 γ0)
    (hround : ∀ s γ c, xs[s]? = some c → vrun P E H.length ⟨0, true⟩ (asgQ fun T2 H2 => vrun P E H.length ⟨0, true⟩ (vroundQ P E n0 N Q k T (fun H' => ∃ γ', H' = hp (s + 1) γ')) [.code y] T2 H2) [.code x] (pset T ps c) (hp s γ))
    (hdone : ∀ γ, vrun P E n0 N Q k T (hp xs.length γ)) : Ok P E n0 N Q (.code (.rfunc f ps x y) :: k) T H := by
  have hfn : ∃ fn, P.funcs[g]? = some fn ∧ fn.body.isSome = true := by
    unfold compFn at hF
    split at hF
    · rename_i fn hfn
      split at hF
      · rename_i c hb
        exact ⟨fn, hfn, by rw [hb]; rfl⟩
      · cases hF
    · cases hF
  obtain ⟨fn, hfn, hbd⟩ := hfn
  refine ok_rfunc (fun s H' => ∃ γ, H' = hp s γ) hrnd hf hc1 hc2 hfn hbd (fun e => hnm (by rw [hfn, ← e]; rfl)) hit hxs ⟨γ0, h0⟩ (fun s Hs c hI hc => ?_) (fun H' ⟨γ, hI⟩ => by rw [hI]; exact vrun_sound _ _ _ (hdone γ))
  obtain ⟨γ, rfl⟩ := hI
  refine (vrun_sound _ _ _ (hround s γ c hc)).mono fun e T2 H2 hq => ?_
  cases e with
  | normal =>
    refine (vrun_sound _ _ _ hq).mono fun e T3 H3 hq3 => ?_
    cases e with
    | normal => exact hq3
    | ret => exact ok_ret hq3
    | exit id =>
      refine ok_exit ?_
      simp only [vroundQ, vexit] at hq3
      split <;> rename_i hx <;> rw [hx] at hq3
      · exact vrun_sound _ _ _ hq3
      · exact hq3
    | goto l => exact hq3.elim
    | panic c => exact hq3.elim
    | outgrown => exact hq3.elim
  | ret => exact hq.elim
  | exit id => exact hq.elim
  | goto l => exact hq.elim
  | panic c => exact hq.elim
  | outgrown => exact hq.elim

theorem CallsC.wkRes {f : Nat} {args : List CV} {R R' : CV → List CObj → Prop} (h : CallsC P E f args H R) (hR : ∀ v H', R v H' → ∃ v', wk v v' ∧ R' v' H') : CallsC P E f args H R' := by
  intro m w vs hs hv
  refine (h m w vs hs hv).mono ?_
  rintro e w' ⟨r, m', v, H', h1, h2, h3, h4, h5⟩
  obtain ⟨v', g1, g2⟩ := hR _ _ h5
  exact ⟨r, m', v', H', h1, h2, h3, g1 _ _ _ h4, g2⟩

/-- A contract of a function that answers a row which it has made. -/
theorem fn_of_row {f : Nat} {args : List CV} {z : Nat} {els : List (List CV)} (h : CallsC P Env.none f args [] fun v H' => (els = [] ∧ v = .nils) ∨ ∃ id, H'[id]? = some (.arr z els) ∧ ∃ cap, v = .slc id 0 els.length cap) (ha : closedL args = true) (hc : closedEls els = true) : Fn P f args (.rslc z els none) := by
  refine fn_of ?_ ha rfl
  intro m w vs hs hv
  refine (h m w vs hs hv).mono ?_
  rintro e w' ⟨r, m', v, H', h1, h2, h3, h4, ⟨rfl, rfl⟩ | ⟨id, g1, cap, rfl⟩⟩
  · exact ⟨r, m', _, H', h1, h2, h3, wk.nils _ _ _ h4, rfl⟩
  · obtain ⟨imm', hs', he, hf⟩ := Sim.freeze (n0 := ([] : List CObj).length) h3 g1 hc
    refine ⟨r, _, _, _, h1, h2.trans he, hs', hf _ _ h4, ?_⟩
    simp [frz]

/-- A contract of a function that answers a row which it has made, and a number. -/
theorem fn_of_row2 {f : Nat} {args : List CV} {z : Nat} {els : List (List CV)} {ik : IntKind} {x : Int} (h : CallsC P Env.none f args [] fun v H' => (els = [] ∧ v = .tup [.nils, .int ik x]) ∨ ∃ id, H'[id]? = some (.arr z els) ∧ ∃ cap, v = .tup [.slc id 0 els.length cap, .int ik x]) (ha : closedL args = true) (hc : closedEls els = true) : Fn P f args (.tup [.rslc z els none, .int ik x]) := by
  refine fn_of ?_ ha rfl
  intro m w vs hs hv
  refine (h m w vs hs hv).mono ?_
  rintro e w' ⟨r, m', v, H', h1, h2, h3, h4, ⟨rfl, rfl⟩ | ⟨id, g1, cap, rfl⟩⟩
  · refine ⟨r, m', _, H', h1, h2, h3, ?_, rfl⟩
    simp only [rel, rels] at h4 ⊢
    obtain ⟨vs', e1, r1, rs, e2, e3, e4⟩ := h4
    exact ⟨vs', e1, r1, rs, e2, .inl ⟨trivial, trivial, none, e3⟩, e4⟩
  · obtain ⟨imm', hs', he, hf⟩ := Sim.freeze (n0 := ([] : List CObj).length) h3 g1 hc
    refine ⟨r, _, _, _, h1, h2.trans he, hs', hf _ _ h4, ?_⟩
    simp [frz, frzL]

theorem getElem?_app_len {g l : List CObj} : (g ++ l)[g.length]? = l[0]? := by rw [List.getElem?_append_right (Nat.le_refl _)]; simp
theorem getElem?_app_add {g l : List CObj} {n : Nat} : (g ++ l)[g.length + n]? = l[n]? := by rw [List.getElem?_append_right (Nat.le_add_right _ _)]; congr 1; omega
theorem set_app_len {g l : List CObj} {x : CObj} : (g ++ l).set g.length x = g ++ l.set 0 x := by rw [List.set_append_right _ _ (Nat.le_refl _)]; simp
theorem set_app_add {g l : List CObj} {n : Nat} {x : CObj} : (g ++ l).set (g.length + n) x = g ++ l.set n x := by rw [List.set_append_right _ _ (Nat.le_add_right _ _)]; congr 2; omega

/-- A call of a function value that is closed. -/
theorem vr_fv {d : Option Nat} {g : Option (Nat × Bool)} {x : IArg} {f : Nat} {l1 l2 : List CV} {as : List IArg} {l : List IOper} {v : CV} {F : IFunc} (hg : GOk T g) (hx : aget T x = .fn f l1 l2) (hF : compFn P f = some F) (hnm : (P.funcs[f]?.map (·.name)) ≠ some "runtime.NumGoroutine")
    (hcall : Fn P f (l1 ++ as.map (aget T) ++ l2) v) (h : vrun P E n0 N Q (.ops l :: k) (put T d v) H) : Ok P E n0 N Q (.ops (⟨d, .callv x as, g⟩ :: l) :: k) T H := by
  have hfn : ∃ fn, P.funcs[f]? = some fn ∧ fn.body.isSome = true := by
    unfold compFn at hF
    split at hF
    · rename_i fn hfn
      split at hF
      · rename_i c hb
        exact ⟨fn, hfn, by rw [hb]; rfl⟩
      · cases hF
    · cases hF
  obtain ⟨fn, hfn, hbd⟩ := hfn
  exact ok_callv hg hx hfn hbd (fun e => hnm (by rw [hfn, ← e]; rfl)) (hcall E H) fun v' H' ⟨h1, h2⟩ => by rw [h1, h2]; exact vrun_sound _ _ _ h

theorem vr_freeze {id z : Nat} {els : List (List CV)} (hH : H[id]? = some (.arr z els)) (hc : closedEls els = true) (h : vrun P E n0 N Q k (frzL id z els T) (frzH id z els H)) : Ok P E n0 N Q k T H :=
  ok_freeze hH hc (vrun_sound _ _ _ h)

end

attribute [go_sem] getElem?_app_len getElem?_app_add set_app_len set_app_add List.append_assoc List.length_append vroundQ_normal vroundQ_ret vroundQ_exit asgQ_normal pset

end Go.Cm
end

section
namespace Go.Cm

def renId (id : Nat) : List Nat → Nat → Option Nat
  | [], _ => none
  | k :: ρ, i => if k = id then some i else renId id ρ (i + 1)

mutual
def ren (ρ : List Nat) : CV → CV
  | .slc j off len cap => match renId j ρ 0 with | some j' => .slc j' off len cap | none => .un
  | .ptr j i off => match renId j ρ 0 with | some j' => .ptr j' i off | none => .un
  | .map j => match renId j ρ 0 with | some j' => .map j' | none => .un
  | .fn f l1 l2 => .fn f (renL ρ l1) (renL ρ l2)
  | .iface t c => .iface t (ren ρ c)
  | .agg l => .agg (renL ρ l)
  | .tup l => .tup (renL ρ l)
  | c => c
def renL (ρ : List Nat) : List CV → List CV
  | [] => []
  | c :: cs => ren ρ c :: renL ρ cs
end

theorem renId_some {id : Nat} : ∀ (ρ : List Nat) (i j : Nat), renId id ρ i = some j → i ≤ j ∧ ρ[j - i]? = some id
  | [], _, _, h => by simp [renId] at h
  | k :: ρ, i, j, h => by
    simp only [renId] at h
    split at h
    · rename_i hk
      cases h; simp [hk]
    · obtain ⟨h1, h2⟩ := renId_some ρ (i + 1) j h
      refine ⟨by omega, ?_⟩
      rw [show j - i = (j - (i + 1)) + 1 by omega]
      simpa using h2

theorem renId_zero {id j : Nat} {ρ : List Nat} (h : renId id ρ 0 = some j) : ρ[j]? = some id := by
  simpa using (renId_some ρ 0 j h).2

mutual
theorem ren_rel {own own' : List Own} {imm : Nat → Nat → Option Value} {ρ : List Nat} (ho : ∀ (j : Nat) id, ρ[j]? = some id → own'[j]? = own[id]?) : ∀ (c : CV) (v : Value), rel own imm c v → rel own' imm (ren ρ c) v
  | .un, _, _ => by simp only [ren, rel]
  | .bool _, _, h => by simp only [ren, rel] at h ⊢; exact h
  | .int _ _, _, h => by simp only [ren, rel] at h ⊢; exact h
  | .str _, _, h => by simp only [ren, rel] at h ⊢; exact h
  | .nilp, _, h => by simp only [ren, rel] at h ⊢; exact h
  | .ptr j i off, v, h => by
    simp only [ren]
    split
    · rename_i j' hj
      simp only [rel] at h ⊢
      obtain ⟨x, hx, e⟩ := h
      exact ⟨x, (ho j' j (renId_zero hj)).trans hx, e⟩
    · simp only [rel]
  | .rptr cs, v, h => by simp only [ren, rel] at h ⊢; exact h
  | .nils, _, h => by simp only [ren, rel] at h ⊢; exact h
  | .slc j off len cap, v, h => by
    simp only [ren]
    split
    · rename_i j' hj
      simp only [rel] at h ⊢
      obtain ⟨x, a, c, hx, e⟩ := h
      exact ⟨x, a, c, (ho j' j (renId_zero hj)).trans hx, e⟩
    · simp only [rel]
  | .rslc z' e cap, v, h => by simp only [ren, rel] at h ⊢; exact h
  | .nilm, _, h => by simp only [ren, rel] at h ⊢; exact h
  | .map j, v, h => by
    simp only [ren]
    split
    · rename_i j' hj
      simp only [rel] at h ⊢
      obtain ⟨x, hx, e⟩ := h
      exact ⟨x, (ho j' j (renId_zero hj)).trans hx, e⟩
    · simp only [rel]
  | .fn f l1 l2, _, h => by
    simp only [ren, rel] at h ⊢
    obtain ⟨vs1, vs2, e, h1, h2⟩ := h
    exact ⟨vs1, vs2, e, ren_rels ho l1 _ h1, ren_rels ho l2 _ h2⟩
  | .yld _, _, h => by simp only [ren, rel] at h ⊢; exact h
  | .nilf, _, h => by simp only [ren, rel] at h ⊢; exact h
  | .iface _ c, _, h => by
    simp only [ren, rel] at h ⊢
    obtain ⟨r, e, h1⟩ := h
    exact ⟨r, e, ren_rel ho c _ h1⟩
  | .nili, _, h => by simp only [ren, rel] at h ⊢; exact h
  | .agg l, _, h => by
    simp only [ren, rel] at h ⊢
    obtain ⟨vs, e, h1⟩ := h
    exact ⟨vs, e, ren_rels ho l _ h1⟩
  | .tup l, _, h => by
    simp only [ren, rel] at h ⊢
    obtain ⟨vs, e, h1⟩ := h
    exact ⟨vs, e, ren_rels ho l _ h1⟩
theorem ren_rels {own own' : List Own} {imm : Nat → Nat → Option Value} {ρ : List Nat} (ho : ∀ (j : Nat) id, ρ[j]? = some id → own'[j]? = own[id]?) : ∀ (l : List CV) (vs : List Value), rels own imm l vs → rels own' imm (renL ρ l) vs
  | [], vs, h => by simp only [renL, rels] at h ⊢; exact h
  | c :: cs, vs, h => by
    simp only [renL, rels] at h ⊢
    obtain ⟨r, rs, e, h1, h2⟩ := h
    exact ⟨r, rs, e, ren_rel ho c _ h1, ren_rels ho cs _ h2⟩
end

def renO (ρ : List Nat) : CObj → CObj
  | .arr z e => .arr z (e.map (renL ρ))
  | .map kvs => .map (kvs.map fun p => (ren ρ p.1, ren ρ p.2))
  | o => o

def renH (ρ : List Nat) (H : List CObj) : List CObj := ρ.map fun id => renO ρ (H.getD id .dead)

structure RenOk (ρ : List Nat) (n0 : Nat) (H : List CObj) : Prop where
  nodup : ρ.Nodup
  lt : ∀ id ∈ ρ, id < H.length
  base : ∀ k, k < n0 → ρ[k]? = some k

theorem renL_length {ρ : List Nat} : ∀ (l : List CV), (renL ρ l).length = l.length
  | [] => rfl
  | _ :: cs => by simp [renL, renL_length cs]

theorem renL_get {ρ : List Nat} : ∀ (l : List CV) (i : Nat), (renL ρ l)[i]? = (l[i]?).map (ren ρ)
  | [], _ => by simp [renL]
  | c :: cs, 0 => by simp [renL]
  | c :: cs, i + 1 => by simp [renL, renL_get cs i]

theorem renO_alive {ρ : List Nat} (o : CObj) : (renO ρ o).alive = o.alive := by cases o <;> rfl

theorem renH_get {ρ : List Nat} {H : List CObj} {k : Nat} {o : CObj} (hl : ∀ id ∈ ρ, id < H.length) (h : (renH ρ H)[k]? = some o) : ∃ id o0, ρ[k]? = some id ∧ H[id]? = some o0 ∧ o = renO ρ o0 := by
  simp only [renH, List.getElem?_map] at h
  cases hk : ρ[k]? with
  | none => simp [hk] at h
  | some id =>
    have hlt := hl id (List.mem_of_getElem? hk)
    simp [hk, List.getD_eq_getElem?_getD, List.getElem?_eq_getElem hlt] at h
    exact ⟨id, H[id], rfl, List.getElem?_eq_getElem hlt, h.symm⟩

theorem relO_ren {own own' : List Own} {imm : Nat → Nat → Option Value} {ρ : List Nat} {zz o : Nat} {es : List (List CV)} {R : Nat → Option Value} (hf : ∀ c v, rel own imm c v → rel own' imm (ren ρ c) v) (h : relO own imm zz es R o) : relO own' imm zz (es.map (renL ρ)) R o := by
  intro j e he
  rw [List.getElem?_map] at he
  cases hes : es[j]? with
  | none => simp [hes] at he
  | some e0 =>
    simp [hes] at he; subst he
    obtain ⟨h1, h2⟩ := h j e0 hes
    refine ⟨by rw [renL_length]; exact h1, fun t c hc => ?_⟩
    rw [renL_get] at hc
    cases ht : e0[t]? with
    | none => simp [ht] at hc
    | some c0 =>
      simp [ht] at hc; subst hc
      obtain ⟨r, h3, h4⟩ := h2 t c0 ht
      exact ⟨r, h3, hf _ _ h4⟩

section
variable {E : Env} {n0 : Nat} {m : Bk} {H : List CObj} {w : World}

/-- NUMBERING ANEW. -/
theorem Sim.ren {ρ : List Nat} (hs : Sim E m H w) (hr : RenOk ρ n0 H) (hn : n0 ≤ H.length) :
    ∃ own', Sim E { m with own := own' } (renH ρ H) w ∧ Ext n0 m H w { m with own := own' } (renH ρ H) w ∧ (∀ c v, rel m.own m.imm c v → rel own' m.imm (ren ρ c) v) ∧ ∀ l vs, rels m.own m.imm l vs → rels own' m.imm (renL ρ l) vs := by
  let own' : List Own := ρ.map fun id => m.own.getD id ⟨0, 0, 0, 0⟩
  have ho : ∀ (j : Nat) id, ρ[j]? = some id → own'[j]? = m.own[id]? := by
    intro j id hj
    have hlt : id < m.own.length := by rw [hs.len]; exact hr.lt id (List.mem_of_getElem? hj)
    simp [own', hj, List.getD_eq_getElem?_getD, List.getElem?_eq_getElem hlt]
  have hf : ∀ c v, rel m.own m.imm c v → rel own' m.imm (Go.Cm.ren ρ c) v := ren_rel ho
  have key : ∀ (k : Nat) o x, (renH ρ H)[k]? = some o → own'[k]? = some x → ∃ id o0, ρ[k]? = some id ∧ H[id]? = some o0 ∧ o = renO ρ o0 ∧ m.own[id]? = some x := by
    intro k o x hk hx
    obtain ⟨id, o0, h1, h2, h3⟩ := renH_get hr.lt hk
    exact ⟨id, o0, h1, h2, h3, (ho k id h1).symm.trans hx⟩
  refine ⟨own', ⟨by simp [own', renH], fun k o x hk hx => ?_, hs.imm, hs.one, fun k k' o o' x x' hk hk' ha ha' hx hx' hB => ?_, fun k o x hk ha hx => ?_, fun k s b hk => ?_, fun k o x hk ha hx => ?_, hs.extlt⟩, ⟨Nat.le_refl _, fun _ _ _ => rfl, immLe.refl _, fun B hB => .inl ?_, fun B i v hv => .inl hv, fun k x hk hx => ?_, fun _ => ?_, rfl, rfl, rfl⟩, hf, ren_rels ho⟩
  · obtain ⟨id, o0, h1, h2, rfl, h4⟩ := key k o x hk hx
    have := hs.obj id o0 x h2 h4
    cases o0 with
    | arr z' es =>
      obtain ⟨a1, c, el, a2, a3, a4, a5, a6⟩ := this
      exact ⟨a1, c, el, a2, a3, by simpa using a4, relO_ren hf a5, a6⟩
    | map kvs =>
      obtain ⟨es, clock, a1, a2, a3⟩ := this
      refine ⟨es, clock, a1, by simpa using a2, fun i k v e hk he => ?_⟩
      rw [List.getElem?_map] at hk
      cases hkv : kvs[i]? with
      | none => simp [hkv] at hk
      | some p =>
        simp [hkv] at hk
        obtain ⟨rfl, rfl⟩ := hk
        have := a3 i p.1 p.2 e hkv he
        exact ⟨hf _ _ this.1, hf _ _ this.2⟩
    | dead => trivial
    | ext s b => trivial
  · obtain ⟨id, o0, h1, h2, rfl, h4⟩ := key k o x hk hx
    obtain ⟨id', o0', h1', h2', rfl, h4'⟩ := key k' o' x' hk' hx'
    rw [renO_alive] at ha ha'
    have := hs.sep id id' o0 o0' x x' h2 h2' ha ha' h4 h4' hB
    subst this
    exact (List.getElem?_inj (List.getElem?_eq_some_iff.1 h1).1 hr.nodup).1 (h1.trans h1'.symm)
  · obtain ⟨id, o0, h1, h2, rfl, h4⟩ := key k o x hk hx
    rw [renO_alive] at ha
    exact hs.ro id o0 x h2 ha h4
  · obtain ⟨id, o0, h1, h2, h3⟩ := renH_get hr.lt hk
    have : o0 = .ext s b := by cases o0 <;> simp [renO] at h3; simp [h3]
    subst this
    exact hs.ext id s b h2
  · obtain ⟨id, o0, h1, h2, rfl, h4⟩ := key k o x hk hx
    rw [renO_alive] at ha
    exact hs.extsep id o0 x h2 ha h4
  · rcases hB with h | ⟨k, o, x, hk, ha, hx, hB⟩
    · exact .inl h
    · obtain ⟨id, o0, h1, h2, rfl, h4⟩ := key k o x hk hx
      rw [renO_alive] at ha
      exact .inr ⟨id, o0, x, h2, ha, h4, hB⟩
  · exact (ho k k (hr.base k hk)).trans hx
  · cases n0 with
    | zero => exact Nat.zero_le _
    | succ n =>
      have := (List.getElem?_eq_some_iff.1 (hr.base n (Nat.lt_succ_self n))).1
      simp [own']; omega

end
end Go.Cm
end

section
namespace Go.Cm

def renOk (ρ : List Nat) (n0 len : Nat) : Bool := decide ρ.Nodup && ρ.all (fun id => decide (id < len)) && (List.range n0).all (fun k => ρ[k]? == some k)

theorem renOk_sound {ρ : List Nat} {n0 : Nat} {H : List CObj} (h : renOk ρ n0 H.length = true) : RenOk ρ n0 H := by
  simp only [renOk, Bool.and_eq_true, decide_eq_true_eq, List.all_eq_true, List.mem_range, beq_iff_eq] at h
  exact ⟨h.1.1, h.1.2, h.2⟩

section
variable {P : Program} {E : Env} {n0 : Nat} {N : Fr} {Q : Exit → List CV → List CObj → Prop} {H : List CObj} {T : List CV} {k : List KItem}

theorem ok_ren {ρ : List Nat} (hr : RenOk ρ n0 H) (h : Ok P E n0 N Q k (renL ρ T) (renH ρ H)) : Ok P E n0 N Q k T H := by
  intro m w a b cs kr rest hp hd hk
  obtain ⟨own', hs, he, _, hT⟩ := Sim.ren (n0 := n0) hp.sim hr hp.long
  have hlen : n0 ≤ (renH ρ H).length := by
    cases n0 with
    | zero => exact Nat.zero_le _
    | succ n =>
      have := (List.getElem?_eq_some_iff.1 (hr.base n (Nat.lt_succ_self n))).1
      simp [renH]; omega
  exact Reach.step (.refl _ _) he (h { m with own := own' } w a b cs kr rest ⟨hs, hT _ _ hp.tmps, hlen⟩ (hd.ext he) hk)

/-- A loop whose heap is numbered anew at each turn. -/
theorem vr_loopR {x : ICode} {σ : Type} (I : σ → Prop) (inv : σ → List CV) (hp : σ → List CObj) (μ : σ → Nat) (s0 : σ) (ρ0 : List Nat) (h0 : I s0) (hr0 : renOk ρ0 n0 H.length = true) (hT : forget (renL ρ0 T) (inv s0)) (hH : renH ρ0 H = hp s0)
    (hb : ∀ s, I s → vrun P E n0 N (vloopQ P E n0 N Q k fun T' H' => ∃ s' ρ, I s' ∧ μ s' < μ s ∧ renOk ρ n0 H'.length = true ∧ renH ρ H' = hp s' ∧ forget (renL ρ T') (inv s')) [.code x] (inv s) (hp s)) : Ok P E n0 N Q (.code (.loop x) :: k) T H := by
  refine ok_loop (I := fun s T H => I s ∧ ∃ ρ, RenOk ρ n0 H ∧ wks (renL ρ T) (inv s) ∧ renH ρ H = hp s) μ s0 ⟨h0, ρ0, renOk_sound hr0, forget_wks hT, hH⟩ ?_
  rintro s T H ⟨hs, ρ, hr, hw, hH⟩
  refine ok_ren hr (ok_weaken hw ?_)
  rw [hH]
  refine (vrun_sound _ _ _ (hb s hs)).mono fun e T' H' hq => vloopQ_sound (fun T2 H2 h2 => ?_) hq
  obtain ⟨s', ρ', hs', hlt, h3, h4, hf⟩ := h2
  exact ⟨s', ⟨hs', ρ', renOk_sound h3, forget_wks hf, h4⟩, hlt⟩

end
end Go.Cm
end

section
namespace Go.Cm

/-- The slots of a frame: each known one behind a gap of unknown ones, and a gap at the end. -/
def gp : List (Nat × CV) → Nat → List CV
  | [], n => List.replicate n .un
  | (g, v) :: l, n => List.replicate g .un ++ v :: gp l n

def rowV (id : Nat) (els : List (List CV)) : CV := match els with
  | [] => .nils
  | _ :: _ => .slc id 0 els.length none
def rowO (z : Nat) (els : List (List CV)) : CObj := match els with
  | [] => .dead
  | _ :: _ => .arr z els

theorem rowV_nil {id : Nat} : rowV id [] = .nils := rfl
theorem rowO_nil {z : Nat} : rowO z [] = .dead := rfl
theorem rowV_cons {id : Nat} {e : List CV} {els : List (List CV)} : rowV id (e :: els) = .slc id 0 (els.length + 1) none := rfl
theorem rowO_cons {z : Nat} {e : List CV} {els : List (List CV)} : rowO z (e :: els) = .arr z (e :: els) := rfl
theorem rowV_ne {id : Nat} {els : List (List CV)} (h : els ≠ []) : rowV id els = .slc id 0 els.length none := by cases els <;> simp_all [rowV]
theorem rowO_ne {z : Nat} {els : List (List CV)} (h : els ≠ []) : rowO z els = .arr z els := by cases els <;> simp_all [rowO]
theorem rowV_app {id : Nat} {e : List CV} {l els : List (List CV)} : rowV id (els ++ e :: l) = .slc id 0 (els.length + (l.length + 1)) none := by rw [rowV_ne (by simp)]; simp
theorem rowO_app {z : Nat} {e : List CV} {l els : List (List CV)} : rowO z (els ++ e :: l) = .arr z (els ++ e :: l) := rowO_ne (by simp)

theorem renO_arr {ρ : List Nat} {z : Nat} {els : List (List CV)} : renO ρ (.arr z els) = .arr z (els.map (renL ρ)) := rfl
theorem renO_map {ρ : List Nat} {kvs : List (CV × CV)} : renO ρ (.map kvs) = .map (kvs.map fun p => (ren ρ p.1, ren ρ p.2)) := rfl
theorem renO_dead {ρ : List Nat} : renO ρ .dead = .dead := rfl
theorem renO_rowO {ρ : List Nat} {z : Nat} {els : List (List CV)} (hc : els.map (renL ρ) = els) : renO ρ (rowO z els) = rowO z els := by
  cases els with
  | nil => rfl
  | cons e l => simp only [rowO, renO]; rw [hc]

mutual
theorem ren_closed {ρ : List Nat} : ∀ (c : CV), c.closed = true → ren ρ c = c
  | .un, _ => rfl
  | .bool _, _ => rfl
  | .int _ _, _ => rfl
  | .str _, _ => rfl
  | .nilp, _ => rfl
  | .ptr _ _ _, h => by simp [CV.closed] at h
  | .rptr _, _ => rfl
  | .nils, _ => rfl
  | .slc _ _ _ _, h => by simp [CV.closed] at h
  | .rslc _ _ _, _ => rfl
  | .nilm, _ => rfl
  | .map _, h => by simp [CV.closed] at h
  | .fn f l1 l2, h => by
    simp only [CV.closed, Bool.and_eq_true] at h
    simp only [ren, renL_closed l1 h.1, renL_closed l2 h.2]
  | .yld _, _ => rfl
  | .nilf, _ => rfl
  | .iface t c, h => by
    simp only [CV.closed] at h
    simp only [ren, ren_closed c h]
  | .nili, _ => rfl
  | .agg l, h => by
    simp only [CV.closed] at h
    simp only [ren, renL_closed l h]
  | .tup l, h => by
    simp only [CV.closed] at h
    simp only [ren, renL_closed l h]
theorem renL_closed {ρ : List Nat} : ∀ (l : List CV), closedL l = true → renL ρ l = l
  | [], _ => rfl
  | c :: cs, h => by
    simp only [closedL, Bool.and_eq_true] at h
    simp only [renL, ren_closed c h.1, renL_closed cs h.2]
end

theorem renEls_closed {ρ : List Nat} : ∀ {els : List (List CV)}, closedEls els = true → els.map (renL ρ) = els
  | [], _ => rfl
  | e :: l, h => by
    simp only [closedEls, Bool.and_eq_true] at h
    simp only [List.map_cons, renL_closed e h.1, renEls_closed h.2]

section
variable {P : Program} {E : Env} {n0 : Nat} {N : Fr} {Q : Exit → List CV → List CObj → Prop} {H : List CObj} {T : List CV} {k : List KItem} {m : Bk} {w : World}

theorem vr_ren (ρ : List Nat) (hr : renOk ρ n0 H.length = true) (h : vrun P E n0 N Q k (renL ρ T) (renH ρ H)) : Ok P E n0 N Q k T H :=
  ok_ren (renOk_sound hr) (vrun_sound _ _ _ h)

theorem CallsC.ren {f : Nat} {args : List CV} {R R' : CV → List CObj → Prop} (h : CallsC P E f args H R) (hR : ∀ v H', R v H' → ∃ ρ, renOk ρ H.length H'.length = true ∧ R' (ren ρ v) (renH ρ H')) : CallsC P E f args H R' := by
  intro m w vs hs hv
  refine (h m w vs hs hv).mono ?_
  rintro e w' ⟨r, m', v, H', h1, h2, h3, h4, h5⟩
  obtain ⟨ρ, g1, g2⟩ := hR _ _ h5
  have hlen : H.length ≤ H'.length := by have := h2.long (by rw [hs.len]; exact Nat.le_refl _); rw [h3.len] at this; exact this
  obtain ⟨own', hs', he, hf, _⟩ := Sim.ren (n0 := H.length) h3 (renOk_sound g1) hlen
  exact ⟨r, _, _, _, h1, h2.trans he, hs', hf _ _ h4, g2⟩

/-- A dead object more. -/
theorem Sim.pad (hs : Sim E m H w) : Sim E { m with own := m.own ++ [⟨0, 0, 0, 0⟩] } (H ++ [.dead]) w ∧ ownLe m.own (m.own ++ [⟨0, 0, 0, 0⟩]) ∧ Ext n0 m H w { m with own := m.own ++ [⟨0, 0, 0, 0⟩] } (H ++ [.dead]) w := by
  have ho := ownLe.append m.own [⟨0, 0, 0, 0⟩]
  have key : ∀ (k : Nat) o x, (H ++ [CObj.dead])[k]? = some o → o ≠ .dead → (m.own ++ [⟨0, 0, 0, 0⟩])[k]? = some x → H[k]? = some o ∧ m.own[k]? = some x := by
    intro k o x hk hd hx
    by_cases hlt : k < H.length
    · rw [List.getElem?_append_left hlt] at hk
      rw [List.getElem?_append_left (by rw [hs.len]; exact hlt)] at hx
      exact ⟨hk, hx⟩
    · rw [List.getElem?_append_right (by omega)] at hk
      cases hj : k - H.length with
      | zero => rw [hj] at hk; simp at hk; exact absurd hk.symm hd
      | succ j => rw [hj] at hk; simp at hk
  have al : ∀ o : CObj, o.alive = true → o ≠ .dead := by rintro o h rfl; simp [CObj.alive] at h
  refine ⟨⟨by simp [hs.len], fun k o x hk hx => ?_, hs.imm, hs.one, fun k k' o o' x x' hk hk' ha ha' hx hx' hB => ?_, fun k o x hk ha hx => ?_, fun k s b hk => ?_, fun k o x hk ha hx => ?_, hs.extlt⟩, ho,
    ⟨Nat.le_refl _, fun _ _ _ => rfl, immLe.refl _, fun B hB => .inl ?_, fun B i v hv => .inl hv, fun k x _ hx => ho _ _ hx, fun h => by simp; omega, rfl, rfl, rfl⟩⟩
  · by_cases hd : o = .dead
    · subst hd; trivial
    · obtain ⟨h1, h2⟩ := key k o x hk hd hx
      exact objRel_mono ho (immLe.refl _) (fun _ => rfl) (hs.obj k o x h1 h2)
  · obtain ⟨h1, h2⟩ := key k o x hk (al o ha) hx
    obtain ⟨h3, h4⟩ := key k' o' x' hk' (al o' ha') hx'
    exact hs.sep k k' o o' x x' h1 h3 ha ha' h2 h4 hB
  · obtain ⟨h1, h2⟩ := key k o x hk (al o ha) hx
    exact hs.ro k o x h1 ha h2
  · have hlt : k < H.length := by
      refine Classical.byContradiction fun hlt => ?_
      rw [List.getElem?_append_right (by omega)] at hk
      cases hj : k - H.length with
      | zero => rw [hj] at hk; simp at hk
      | succ j => rw [hj] at hk; simp at hk
    rw [List.getElem?_append_left hlt] at hk
    exact hs.ext k s b hk
  · obtain ⟨h1, h2⟩ := key k o x hk (al o ha) hx
    exact hs.extsep k o x h1 ha h2
  · rcases hB with h | ⟨k, o, x, hk, ha, hx, hB⟩
    · exact .inl h
    · obtain ⟨h1, h2⟩ := key k o x hk (al o ha) hx
      exact .inr ⟨k, o, x, h1, ha, h2, hB⟩

theorem vr_pad (h : vrun P E n0 N Q k T (H ++ [.dead])) : Ok P E n0 N Q k T H := by
  intro m w a b cs kr rest hp hd hk
  obtain ⟨hs, ho, he⟩ := Sim.pad (n0 := n0) hp.sim
  exact Reach.step (.refl _ _) he (vrun_sound _ _ _ h _ w a b cs kr rest ⟨hs, rels_mono ho (immLe.refl _) _ _ hp.tmps, by have := hp.long; simp; omega⟩ (hd.ext he) hk)

theorem exAppend_row {z bytes id : Nat} {els : List (List CV)} {x : List CV} {xs : List (List CV)} (hH : H[id]? = some (rowO z els)) :
    exAppend z bytes H (rowV id els) (x :: xs) = some (roomOk (els.length + (xs.length + 1)) bytes, .slc H.length 0 (els.length + (xs.length + 1)) none, H.set id .dead ++ [.arr z (els ++ x :: xs)]) := by
  cases els with
  | nil =>
    have hlt := (List.getElem?_eq_some_iff.1 hH).1
    have : H.set id .dead = H := by
      refine List.ext_getElem? fun i => ?_
      rw [List.getElem?_set]
      split
      · rename_i h; subst h; rw [hH]; simp [hlt, rowO]
      · rfl
    simp [exAppend, rowV, this]
  | cons e l =>
    simp only [rowO] at hH
    simp [exAppend, rowV, hH]

/-! Rows that begin empty, but not nil. -/
def capE (els : List (List CV)) : Option Nat := match els with
  | [] => some 0
  | _ :: _ => none
def deadE (z : Nat) (els : List (List CV)) : CObj := match els with
  | [] => .arr z []
  | _ :: _ => .dead
def condE (els : List (List CV)) (n : Nat) (c : Cond) : Cond := match els with
  | [] => .and (.le 1 (0 + n)) c
  | _ :: _ => c
theorem condE_holds {els : List (List CV)} {n : Nat} {c : Cond} : (condE els (n + 1) c).holds = c.holds := by
  cases els with
  | nil => simp [condE, Cond.holds]
  | cons e l => rfl
theorem capE_nil : capE [] = some 0 := rfl
theorem capE_app {e : List CV} {l els : List (List CV)} : capE (els ++ e :: l) = none := by cases els <;> rfl

theorem exAppend_E {z bytes id n : Nat} {els : List (List CV)} {x : List CV} {xs : List (List CV)} (hH : H[id]? = some (.arr z els)) (hn : n = els.length) :
    exAppend z bytes H (.slc id 0 n (capE els)) (x :: xs) = some (condE els (xs.length + 1) (roomOk (els.length + (xs.length + 1)) bytes), .slc H.length 0 (els.length + (xs.length + 1)) none, H.set id (deadE z els) ++ [.arr z (els ++ x :: xs)]) := by
  subst hn
  cases els with
  | nil =>
    have hlt := (List.getElem?_eq_some_iff.1 hH).1
    have : H.set id (.arr z []) = H := by
      refine List.ext_getElem? fun i => ?_
      rw [List.getElem?_set]
      split
      · rename_i h; subst h; rw [hH]
      · rfl
    simp [exAppend, capE, deadE, condE, hH, this]
  | cons e l => simp [exAppend, capE, deadE, condE, hH]

/-- A row is finished: it becomes one that is only read. -/
def frzR (id z : Nat) (els : List (List CV)) (T : List CV) : List CV := match els with
  | [] => T
  | _ :: _ => frzL id z els T
def frzRH (id z : Nat) (els : List (List CV)) (H : List CObj) : List CObj := match els with
  | [] => H
  | _ :: _ => frzH id z els H

/-- What may be read of a frame in which a row was finished. -/
def frzTo (id z : Nat) (els : List (List CV)) : List CV → List CV → Prop
  | [], [] => True
  | a :: T, b :: T' => (b = .un ∨ (a = rowV id els ∧ b = .rslc z els none) ∨ (a = b ∧ a.closed = true)) ∧ frzTo id z els T T'
  | _, _ => False

mutual
theorem frz_closed {id z : Nat} {els : List (List CV)} : ∀ (c : CV), c.closed = true → frz id z els c = c
  | .un, _ => rfl
  | .bool _, _ => rfl
  | .int _ _, _ => rfl
  | .str _, _ => rfl
  | .nilp, _ => rfl
  | .ptr _ _ _, h => by simp [CV.closed] at h
  | .rptr _, _ => rfl
  | .nils, _ => rfl
  | .slc _ _ _ _, h => by simp [CV.closed] at h
  | .rslc _ _ _, _ => rfl
  | .nilm, _ => rfl
  | .map _, h => by simp [CV.closed] at h
  | .fn f l1 l2, h => by
    simp only [CV.closed, Bool.and_eq_true] at h
    simp only [frz, frzL_closed l1 h.1, frzL_closed l2 h.2]
  | .yld _, _ => rfl
  | .nilf, _ => rfl
  | .iface t c, h => by
    simp only [CV.closed] at h
    simp only [frz, frz_closed c h]
  | .nili, _ => rfl
  | .agg l, h => by
    simp only [CV.closed] at h
    simp only [frz, frzL_closed l h]
  | .tup l, h => by
    simp only [CV.closed] at h
    simp only [frz, frzL_closed l h]
theorem frzL_closed {id z : Nat} {els : List (List CV)} : ∀ (l : List CV), closedL l = true → frzL id z els l = l
  | [], _ => rfl
  | c :: cs, h => by
    simp only [closedL, Bool.and_eq_true] at h
    simp only [frzL, frz_closed c h.1, frzL_closed cs h.2]
end

theorem frzTo_wks {id z : Nat} {els : List (List CV)} : ∀ {T T' : List CV}, frzTo id z els T T' → wks (frzR id z els T) T'
  | [], [], _ => by cases els <;> trivial
  | a :: T, b :: T', h => by
    have ih := frzTo_wks h.2
    cases els with
    | nil =>
      refine ⟨?_, ih⟩
      rcases h.1 with h | ⟨h1, h2⟩ | ⟨h1, _⟩
      · rw [h]; exact wk.un _
      · rw [h1, h2]; exact wk.nils
      · exact wk.eq h1
    | cons e l =>
      refine ⟨?_, ih⟩
      rcases h.1 with h | ⟨h1, h2⟩ | ⟨h1, h2⟩
      · rw [h]; exact wk.un _
      · rw [h1, h2]
        refine wk.eq ?_
        simp [rowV, frz]
      · rw [← h1]; exact wk.eq (frz_closed a h2)
  | [], _ :: _, h => h.elim
  | _ :: _, [], h => h.elim

theorem frzTo_un {id z : Nat} {els : List (List CV)} {a : CV} {T T' : List CV} : frzTo id z els (a :: T) (.un :: T') = frzTo id z els T T' := by simp [frzTo]
theorem frzTo_row {id z : Nat} {els : List (List CV)} {T T' : List CV} : frzTo id z els (rowV id els :: T) (.rslc z els none :: T') = frzTo id z els T T' := by simp [frzTo]
theorem frzTo_nil {id z : Nat} {els : List (List CV)} : frzTo id z els [] [] = True := rfl

theorem vr_freezeRow {id z : Nat} {els : List (List CV)} (T' : List CV) (H' : List CObj) (hH : H[id]? = some (rowO z els)) (hc : closedEls els = true) (hT : frzTo id z els T T') (hH' : frzRH id z els H = H') (h : vrun P E n0 N Q k T' H') : Ok P E n0 N Q k T H := by
  subst hH'
  cases els with
  | nil => exact ok_weaken (frzTo_wks hT) (vrun_sound _ _ _ h)
  | cons e l =>
    refine ok_freeze (id := id) (z := z) (els := e :: l) (by rw [hH]; rfl) hc ?_
    exact ok_weaken (frzTo_wks hT) (vrun_sound _ _ _ h)

/-- A contract of a function that answers a row which it has made. -/
theorem fn_of_rowV {f : Nat} {args : List CV} {z : Nat} {els : List (List CV)} (h : CallsC P Env.none f args [] fun v H' => ∃ id, v = rowV id els ∧ H'[id]? = some (rowO z els)) (ha : closedL args = true) (hc : closedEls els = true) : Fn P f args (.rslc z els none) := by
  refine fn_of_row (h.mono fun v H' ⟨id, h1, h2⟩ => ?_) ha hc
  cases els with
  | nil => exact .inl ⟨rfl, h1⟩
  | cons e l => exact .inr ⟨id, h2, none, h1⟩

/-- The same, for rows that are not nil. -/
theorem fn_of_rowS {f : Nat} {args : List CV} {z : Nat} {els : List (List CV)} (h : CallsC P Env.none f args [] fun v H' => ∃ id off len cap es, v = .slc id off len cap ∧ H'[id]? = some (.arr z es) ∧ off + len ≤ es.length ∧ (es.drop off).take len = els ∧ closedEls es = true) (ha : closedL args = true) : Fn P f args (.rslc z els none) := by
  refine fn_of ?_ ha rfl
  have h2 := h.freeze (R' := fun v H' => v = .rslc z els none) fun v H' ⟨id, off, len, cap, es, h1, h2, h5, h4, h3⟩ => ⟨id, z, es, h2, h3, by rw [h1]; simp [frz, h4, h5]⟩
  exact h2

end

attribute [go_sem high] exAppend_E
attribute [go_sem] condE_holds exAppend_row gp List.length_set

end Go.Cm
end

section
namespace Go.Cm

section
variable {P : Program} {E : Env} {n0 : Nat} {N : Fr} {Q : Exit → List CV → List CObj → Prop} {H : List CObj} {T : List CV} {k : List KItem} {m : Bk} {w : World} {a : Act} {o : Oper}

theorem invo_bin {op : Op} {b : BinOp} {tk : TK} {i j : IArg} (h : compOp P op = some (.bin b tk i j)) : ∃ t d x y ty, op = .binOp b t x y ty ∧ P.underlying t = some d ∧ tk = tkOf d ∧ argOf x = some i ∧ argOf y = some j := by
  unfold compOp at h
  split at h
  all_goals (repeat' split at h)
  all_goals first
    | (cases h; done)
    | (obtain ⟨_, _, h9⟩ := optmap h; cases h9; done)
    | skip
  cases h
  exact ⟨_, _, _, _, _, rfl, ‹_›, rfl, ‹_›, ‹_›⟩

theorem eqnil_good {i : IArg} {z : Nat} (hcomp : compOp P o.op = some (.bin .eql .slice i (.c .nils))) (hx : aget T i = .rslc z [] none) (hp : Pre E n0 m H w T a) : ∃ b : Bool, Good P E n0 m H w (execOp a.eval o) (.bool b) H := by
  obtain ⟨t, d, x, y, ty, ho, hd, htk, hxi, hyi⟩ := invo_bin hcomp
  obtain ⟨e, rfl⟩ := tk_slice htk.symm
  have h1 := arg_rel hp.tmps hxi
  have h2 := arg_rel hp.tmps hyi
  rw [hx] at h1
  rw [aget_c] at h2
  simp only [rel] at h1 h2
  have key : ∀ u : Value, (∃ p, u = .slice p 0 0) ∨ (∃ p q r, u = .slice (some p) q r) → ∃ b : Bool, ∀ w, (binOp .eql t u (.slice none 0 0)).run P w = .ok (.bool b) w := by
    rintro u (⟨p, rfl⟩ | ⟨p, q, r, rfl⟩)
    · cases p with
      | none =>
        obtain ⟨r, hr, _, _, hrun⟩ := eqv (P := P) (op := .eql) (t := t) (b := true) (v := .bool true) (c := .tt) (own := []) (imm := fun _ _ => none) (z := .slice none 0 0) (z' := .slice none 0 0) (fun n w => by simp only [Op.equalIn, Sem.run_bind, run_underlying hd, Result.andThen_ok]; rfl) rfl rfl rfl (by simp) (by simp)
        simp only [rel] at hr; subst hr
        exact ⟨true, hrun⟩
      | some p =>
        obtain ⟨r, hr, _, _, hrun⟩ := eqv (P := P) (op := .eql) (t := t) (b := false) (v := .bool false) (c := .tt) (own := []) (imm := fun _ _ => none) (z := .slice (some p) 0 0) (z' := .slice none 0 0) (fun n w => by simp only [Op.equalIn, Sem.run_bind, run_underlying hd, Result.andThen_ok]; rfl) rfl rfl rfl (by simp) (by simp)
        simp only [rel] at hr; subst hr
        exact ⟨false, hrun⟩
    · obtain ⟨r', hr, _, _, hrun⟩ := eqv (P := P) (op := .eql) (t := t) (b := false) (v := .bool false) (c := .tt) (own := []) (imm := fun _ _ => none) (z := .slice (some p) q r) (z' := .slice none 0 0) (fun n w => by simp only [Op.equalIn, Sem.run_bind, run_underlying hd, Result.andThen_ok]; rfl) rfl rfl rfl (by simp) (by simp)
      simp only [rel] at hr; subst hr
      exact ⟨false, hrun⟩
  have hu : (∃ p, a.eval x = .slice p 0 0) ∨ (∃ p q r, a.eval x = .slice (some p) q r) := by
    rcases h1 with ⟨_, _, b, hb⟩ | ⟨B, o1, c, hb, _⟩
    · exact .inl ⟨b, hb⟩
    · exact .inr ⟨_, _, _, hb⟩
  obtain ⟨b, hrun⟩ := key _ hu
  refine ⟨b, good_same (r := .bool b) hp.sim ?_ (by simp only [rel])⟩
  have hna : ∀ cs ds, ¬ (a.eval x = .agg cs ∧ a.eval y = .agg ds) := by
    rintro cs ds ⟨_, h⟩; rw [h2] at h; cases h
  have hni : ¬ (a.eval x = .nilIface ∧ a.eval y = .nilIface) := by
    rintro ⟨_, h⟩; rw [h2] at h; cases h
  simp only [execOp, ho, Sem.run_bind, eqGuard_plain .eql t x y _ _ w hna hni, Result.andThen_ok, Sem.run_pure]
  rw [h2, hrun w]; rfl

theorem ok_eqnil {d : Option Nat} {i : IArg} {z : Nat} {l : List IOper} (hx : aget T i = .rslc z [] none) (h : ∀ b, vrun P E n0 N Q (.ops l :: k) (put T d (.bool b)) H) : Ok P E n0 N Q (.ops (⟨d, .bin .eql .slice i (.c .nils), none⟩ :: l) :: k) T H := by
  intro m w a b cs kr rest hp hd hk
  obtain ⟨ops, j, is, kr', o, rfl, ho, hco, hk'⟩ := ops_cons hk
  obtain ⟨hw, hdst, hop⟩ := wanted_ok hco (.inl rfl) hp.tmps
  obtain ⟨bb, m', w', r, nx, hrun, hnx, hext, hsim, hrel, hown⟩ := eqnil_good hop hx hp
  have hst := step_value (b := b) (cs := cs) (is := is) (kr := kr' ++ rest) ho hw (semAt_plain hop) hrun hnx
  rw [hdst] at hst
  have hlen : n0 ≤ H.length := by rw [← hsim.len]; exact hext.long (by rw [hp.sim.len]; exact hp.long)
  refine Reach.step (.one hst) hext ((vrun_sound _ _ _ (h bb)) m' w' _ b cs (.inRegion ops is :: kr') rest (pre_put hsim (rels_mono hown hext.imm _ _ hp.tmps) hlen hrel) ?_ hk')
  rw [put_defers]; exact hd.ext hext

end
end Go.Cm
end

section
open Go.ChangeShapes Go.WideShapes Go.RowKit
namespace Go.Cm

/-- All cells that lie. -/
def immW (W : World) (B i : Nat) : Option Value := match W.cell? ⟨B, i, none⟩ with
  | some v => if v.oneCell' = true then some v else none
  | none => none

theorem immW_some {W : World} {B i : Nat} {v : Value} (h : immW W B i = some v) : W.cell? ⟨B, i, none⟩ = some v ∧ v.oneCell' = true := by
  unfold immW at h
  split at h
  · split at h
    · cases h; exact ⟨‹_›, ‹_›⟩
    · cases h
  · cases h

theorem immW_mk {W : World} {B i : Nat} {v : Value} (h : W.cell? ⟨B, i, none⟩ = some v) (h1 : v.oneCell' = true) : immW W B i = some v := by
  simp [immW, h, h1]

theorem sim_start (W : World) : Sim Env.none { own := [], imm := immW W, ext := fun _ => False } [] W :=
  ⟨rfl, by simp, fun B i v h => (immW_some h).1, fun B i v h => (immW_some h).2, by simp, by simp, by simp, by simp, by simp⟩

theorem one_of_rel {own : List Own} {imm : Nat → Nat → Option Value} {c : CV} {v : Value} (h : c.oneCell = true) (hr : rel own imm c v) : v.oneCell' = true := by
  cases c <;> simp [CV.oneCell] at h <;> simp only [rel] at hr
  case bool => subst hr; rfl
  case int => subst hr; rfl
  case str => subst hr; rfl
  case nilp => subst hr; rfl
  case ptr => obtain ⟨x, _, rfl⟩ := hr; rfl
  case rptr => obtain ⟨B, o, rfl, _⟩ := hr; rfl
  case nils => subst hr; rfl
  case slc => obtain ⟨x, a, c, _, rfl, _⟩ := hr; rfl
  case rslc => rcases hr with ⟨_, _, b, rfl⟩ | ⟨B, o, c, rfl, _⟩ <;> rfl
  case nilm => subst hr; rfl
  case map => obtain ⟨x, _, rfl⟩ := hr; rfl
  case fn => obtain ⟨a, b, rfl, _⟩ := hr; rfl
  case yld => subst hr; rfl
  case nilf => subst hr; rfl
  case iface => obtain ⟨r, rfl, _⟩ := hr; rfl
  case nili => subst hr; rfl

/-- Types that are made of bools, integers, strings, structs and slices. -/
def plainT (P : Program) : Nat → TypeId → Bool
  | 0, _ => false
  | d + 1, t => match P.underlying t with
    | some .bool => true
    | some (.int _) => true
    | some .string => true
    | some (.slice e) => plainT P d e && decide (0 < P.cellsOf e)
    | some (.struct fs) => fs.toList.all fun f => plainT P d f.type
    | _ => false

/-- What the cells of such a type are. -/
def fits (P : Program) : Nat → TypeId → List CV → Prop
  | 0, _, _ => False
  | d + 1, t, l => match P.underlying t with
    | some .bool => ∃ b, l = [.bool b]
    | some (.int k) => ∃ x, l = [.int k x] ∧ InR k x
    | some .string => ∃ s, l = [.str s] ∧ s.size ≤ maxLen
    | some (.slice e) => ∃ els, l = [.rslc (P.cellsOf e) els none] ∧ els.length ≤ maxLen ∧ ∀ x ∈ els, fits P d e x
    | some (.struct fs) => ∃ ls : List (List CV), l = ls.flatten ∧ ls.length = fs.size ∧ ∀ (i : Nat) f li, fs[i]? = some f → ls[i]? = some li → fits P d f.type li
    | _ => False

theorem allOne_iff : ∀ {l : List CV}, allOne l = true ↔ ∀ c ∈ l, c.oneCell = true
  | [] => by simp [allOne]
  | c :: l => by simp [allOne, allOne_iff (l := l)]

theorem rels_flatten {own : List Own} {imm : Nat → Nat → Option Value} : ∀ (sizes : List Nat) (cs : List Value) (ls : List (List CV)), cs.length = sizes.sum → ls.length = sizes.length →
    (∀ (j : Nat) n li, sizes[j]? = some n → ls[j]? = some li → rels own imm li ((cs.drop (sizes.take j).sum).take n)) → rels own imm ls.flatten cs
  | [], cs, ls, h1, h2, _ => by
    have : ls = [] := List.eq_nil_of_length_eq_zero h2
    subst this
    have : cs = [] := List.eq_nil_of_length_eq_zero (by simpa using h1)
    subst this
    simp [rels]
  | n :: sizes, cs, [], _, h2, _ => by simp at h2
  | n :: sizes, cs, l :: ls, h1, h2, h => by
    simp only [List.sum_cons] at h1
    have e : cs = cs.take n ++ cs.drop n := (List.take_append_drop n cs).symm
    have h3 := h 0 n l rfl rfl
    simp only [List.take_zero, List.sum_nil, List.drop_zero] at h3
    have ih := rels_flatten sizes (cs.drop n) ls (by rw [List.length_drop]; omega) (by simpa using h2) (fun j m li hj hl => by
      have := h (j + 1) m li (by simpa using hj) (by simpa using hl)
      simp only [List.take_succ_cons, List.sum_cons] at this
      rw [List.drop_drop]; exact this)
    rw [e, List.flatten_cons]
    exact rels_append h3 ih

section
variable {H : Type} {enc : TypeId × Value → H} {P : Program} {W : World} {held : Bool}

theorem cells?_get {base : Nat} {a : Addr} {n : Nat} {cs : List Value} (h : W.cells? base a n = some cs) : cs.length = n ∧ ∀ t, t < n → W.cell? (a.add t) = cs[t]? := by
  unfold World.cells? at h
  split at h
  · have hl := mapM_some_length h
    refine ⟨by simpa using hl, fun t ht => mapM_some_get h t t (by simp [ht])⟩
  · cases h

theorem trod_fits {T : TypeId → Prop} (K : Kids P T) : ∀ (d : Nat) (t : TypeId) (cs : List Value) (x : DataW H × List MemPlace) (fuel : Nat), T t → plainT P d t = true →
    DataW.trod enc P W 0 (fun _ => true) held fuel t cs = some x → ∃ l, rels [] (immW W) l cs ∧ allOne l = true ∧ fits P d t l
  | 0, _, _, _, _, _, h, _ => by simp [plainT] at h
  | d + 1, t, cs, x, fuel, hT, hp, h => by
    unfold plainT at hp
    split at hp
    · rename_i ht
      obtain ⟨b, rfl, _⟩ := DataW.trod_bool ht h
      exact ⟨[.bool b], by simp [rels, rel], rfl, by simp [fits, ht]⟩
    · rename_i k ht
      obtain ⟨n, rfl, _, hw⟩ := DataW.trod_int ht h
      refine ⟨[.int k n], by simp [rels, rel], rfl, ?_⟩
      simp only [fits, ht]
      refine ⟨n, rfl, ?_⟩
      simp only [Lit.wf, Bool.and_eq_true, decide_eq_true_eq] at hw
      exact ⟨hw.1, hw.2⟩
    · rename_i ht
      obtain ⟨s, rfl, _, hs⟩ := DataW.trod_string ht h
      exact ⟨[.str s], by simp [rels, rel], rfl, by simp [fits, ht]; exact hs⟩
    · rename_i e ht
      simp only [Bool.and_eq_true, decide_eq_true_eq] at hp
      obtain ⟨hpe, hz⟩ := hp
      have hTe := K.slice hT ht
      rcases DataW.trod_slice ht h with ⟨rfl, _⟩ | ⟨a, len, cap, elems, rest, n, rfl, rfl, _, _, hlc, hmax, hel, he, hr, _⟩
      · refine ⟨[.rslc (P.cellsOf e) [] none], by simp [rels, rel], rfl, ?_⟩
        simp only [fits, ht]
        exact ⟨[], rfl, by simp, by simp⟩
      · have hr := hr rfl
        have key : ∀ i, i < len → ∃ li, (∃ csi, W.cells? 0 (a.add (i * P.cellsOf e)) (P.cellsOf e) = some csi ∧ rels [] (immW W) li csi) ∧ allOne li = true ∧ fits P d e li := by
          intro i hi
          have h1 := he i hi
          rw [List.getElem?_eq_getElem (by omega)] at h1
          obtain ⟨csi, h2, h3⟩ := Option.bind_eq_some_iff.1 h1
          obtain ⟨li, g1, g2, g3⟩ := trod_fits K d e csi _ n hTe hpe h3
          exact ⟨li, ⟨csi, h2, g1⟩, g2, g3⟩
        have keyC : ∃ F : Nat → List CV, ∀ i, i < len → (∃ csi, W.cells? 0 (a.add (i * P.cellsOf e)) (P.cellsOf e) = some csi ∧ rels [] (immW W) (F i) csi) ∧ allOne (F i) = true ∧ fits P d e (F i) := by
          refine ⟨fun i => if hi : i < len then Classical.choose (key i hi) else [], fun i hi => ?_⟩
          simp only [dif_pos hi]
          exact Classical.choose_spec (key i hi)
        obtain ⟨F, hF⟩ := keyC
        refine ⟨[.rslc (P.cellsOf e) ((List.range len).map F) none], ?_, rfl, ?_⟩
        · simp only [rels]
          refine ⟨_, _, rfl, ?_, rfl⟩
          simp only [rel]
          by_cases hc0 : cap = 0
          · subst hc0
            have : len = 0 := by omega
            subst this
            exact .inl ⟨trivial, rfl, _, rfl⟩
          · have hplain : ∃ b off, a = ⟨b, off, none⟩ := by
              have hcell : ∃ v, W.cell? a = some v := by
                by_cases hl0 : len = 0
                · subst hl0
                  have h1 := hr.2 0 (by omega)
                  rw [List.getElem?_eq_getElem (by omega)] at h1
                  obtain ⟨csi, h2, _⟩ := Option.bind_eq_some_iff.1 h1
                  obtain ⟨h3, h4⟩ := cells?_get h2
                  have h5 := h4 0 hz
                  rw [List.getElem?_eq_getElem (by omega)] at h5
                  exact ⟨_, by simpa [Addr.add] using h5⟩
                · obtain ⟨csi, h2, _⟩ := (hF 0 (by omega)).1
                  obtain ⟨h3, h4⟩ := cells?_get h2
                  have h5 := h4 0 hz
                  rw [List.getElem?_eq_getElem (by omega)] at h5
                  exact ⟨_, by simpa [Addr.add] using h5⟩
              obtain ⟨v, hv⟩ := hcell
              obtain ⟨b, off, spot⟩ := a
              have hspot : spot = none := World.cell?_spot hv
              subst hspot
              exact ⟨b, off, rfl⟩
            obtain ⟨b, off, rfl⟩ := hplain
            refine .inr ⟨b, off, cap, by simp, by simpa using hlc, by simp, ?_⟩
            rw [relEls_iff]
            intro j el hj
            have hjl : j < len := by have := (List.getElem?_eq_some_iff.1 hj).1; simpa using this
            simp [hjl] at hj
            subst hj
            obtain ⟨⟨csi, h2, h3⟩, h4, _⟩ := hF j hjl
            obtain ⟨h5, h6⟩ := cells?_get h2
            have hlen := rels_length h3
            refine ⟨by rw [hlen, h5], fun t c hc => ?_⟩
            obtain ⟨v, hv, hrel⟩ := rels_get h3 hc
            have htl : t < P.cellsOf e := by have := (List.getElem?_eq_some_iff.1 hv).1; omega
            have h7 := h6 t htl
            rw [hv] at h7
            rw [Go.WideShapes.add_plain, Go.WideShapes.add_plain] at h7
            refine ⟨v, immW_mk h7 (one_of_rel (allOne_iff.1 h4 c (List.mem_of_getElem? hc)) hrel), hrel⟩
        · simp only [fits, ht]
          refine ⟨_, rfl, by simp; omega, fun y hy => ?_⟩
          obtain ⟨i, hi, rfl⟩ := List.mem_map.1 hy
          exact (hF i (List.mem_range.1 hi)).2.2
    · rename_i fs ht
      obtain ⟨xs, n, rfl, rfl, hlen, hxs, hf⟩ := DataW.trod_struct ht h
      obtain ⟨hk1, hk2, hk3⟩ := K.struct hT ht
      rw [List.all_eq_true] at hp
      have key : ∀ (i : Nat) f, fs[i]? = some f → ∃ li, rels [] (immW W) li ((cs.drop f.offset).take (P.cellsOf f.type)) ∧ allOne li = true ∧ fits P d f.type li := by
        intro i f hi
        have h1 := hf i f hi
        have hlt : i < fs.size := (Array.getElem?_eq_some_iff.1 hi).1
        rw [List.getElem?_eq_getElem (by omega)] at h1
        have hm : f ∈ fs.toList := List.mem_of_getElem? (by rw [Array.getElem?_toList]; exact hi)
        exact trod_fits K d f.type _ _ n (hk1 f hm) (hp f hm) h1
      have keyC : ∃ F : Nat → List CV, ∀ (i : Nat) f, fs[i]? = some f → rels [] (immW W) (F i) ((cs.drop f.offset).take (P.cellsOf f.type)) ∧ allOne (F i) = true ∧ fits P d f.type (F i) := by
        refine ⟨fun i => if hi : i < fs.size then Classical.choose (key i fs[i] (Array.getElem?_eq_getElem hi)) else [], fun i f hi => ?_⟩
        have hlt : i < fs.size := (Array.getElem?_eq_some_iff.1 hi).1
        simp only [dif_pos hlt]
        have := Classical.choose_spec (key i fs[i] (Array.getElem?_eq_getElem hlt))
        rw [Array.getElem?_eq_getElem hlt] at hi
        cases hi
        exact this
      obtain ⟨F, hF⟩ := keyC
      refine ⟨((List.range fs.size).map F).flatten, ?_, ?_, ?_⟩
      · refine rels_flatten (fs.toList.map fun f => P.cellsOf f.type) cs _ (by rw [hlen, hk2]) (by simp) (fun j n li hj hl => ?_)
        rw [List.getElem?_map] at hj
        cases hfj : fs.toList[j]? with
        | none => simp [hfj] at hj
        | some f =>
          simp [hfj] at hj
          subst hj
          have hfj2 : fs[j]? = some f := by rw [← Array.getElem?_toList]; exact hfj
          have hlt : j < fs.size := (Array.getElem?_eq_some_iff.1 hfj2).1
          simp [hlt] at hl
          subst hl
          have h1 := (hF j f hfj2).1
          rw [hk3 j f hfj] at h1
          rw [← List.map_take]
          exact h1
      · rw [allOne_iff]
        intro c hc
        obtain ⟨l1, hl1, hc1⟩ := List.mem_flatten.1 hc
        obtain ⟨i, hi, rfl⟩ := List.mem_map.1 hl1
        rw [List.mem_range] at hi
        exact allOne_iff.1 (hF i fs[i] (Array.getElem?_eq_getElem hi)).2.1 c hc1
      · simp only [fits, ht]
        refine ⟨_, rfl, by simp, fun i f li hi hl => ?_⟩
        have hlt : i < fs.size := (Array.getElem?_eq_some_iff.1 hi).1
        simp [hlt] at hl
        subst hl
        exact (hF i f hi).2.2
    · simp at hp

/-- An argument. -/
def fitsTop (P : Program) (d : Nat) (t : TypeId) (c : CV) : Prop := match P.underlying t with
  | some (.struct _) => ∃ l, c = .agg l ∧ fits P d t l
  | _ => fits P d t [c]

def fitsAll (P : Program) (d : Nat) : List TypeId → List CV → Prop
  | [], l => l = []
  | t :: ts, l => ∃ c cs, l = c :: cs ∧ fitsTop P d t c ∧ fitsAll P d ts cs

theorem trod_top {T : TypeId → Prop} (K : Kids P T) {d : Nat} {t : TypeId} {v : Value} {dd : DataW H} {p : List MemPlace} {base : Nat} (hT : T t) (hp : plainT P d t = true) (hv : Value.okWide P W .any base t v)
    (h : DataW.Trod enc P W 0 (fun _ => true) held t v dd p) : ∃ c, rel [] (immW W) c v ∧ fitsTop P d t c := by
  obtain ⟨fuel, hf⟩ := h
  obtain ⟨l, h1, h2, h3⟩ := trod_fits K d t _ _ fuel hT hp hf
  cases d with
  | zero => simp [plainT] at hp
  | succ d =>
    have one : ∀ w : Value, w = v → v.cells = #[v] → (∀ fs, P.underlying t ≠ some (.struct fs)) → ∃ c, rel [] (immW W) c v ∧ fitsTop P (d + 1) t c := by
      intro w _ hc hns
      rw [hc] at h1
      simp only [rels] at h1
      cases l with
      | nil => simp [rels] at h1
      | cons c l =>
        simp only [rels] at h1
        obtain ⟨r, rs, e, g1, g2⟩ := h1
        simp at e
        obtain ⟨rfl, rfl⟩ := e
        have : l = [] := List.eq_nil_of_length_eq_zero (by rw [rels_length g2]; rfl)
        subst this
        refine ⟨c, g1, ?_⟩
        unfold fitsTop
        split
        · rename_i fs hfs; exact absurd hfs (hns fs)
        · exact h3
    have hp' := hp
    unfold plainT at hp
    split at hp
    · rename_i ht
      obtain ⟨b, rfl⟩ := okWide_bool ht hv
      exact one _ rfl rfl (by rw [ht]; simp)
    · rename_i k ht
      obtain ⟨b, rfl⟩ := okWide_int ht hv
      exact one _ rfl rfl (by rw [ht]; simp)
    · rename_i ht
      obtain ⟨b, rfl⟩ := okWide_string ht hv
      exact one _ rfl rfl (by rw [ht]; simp)
    · rename_i e ht
      obtain ⟨a, b, c, rfl⟩ := okWide_slice ht hv
      exact one _ rfl rfl (by rw [ht]; simp)
    · rename_i fs ht
      obtain ⟨cs, rfl, _⟩ := okWide_struct ht hv
      refine ⟨.agg l, ?_, ?_⟩
      · simp only [rel]; exact ⟨cs, rfl, h1⟩
      · simp only [fitsTop, ht]; exact ⟨l, rfl, h3⟩
    · simp at hp

theorem trod_all {T : TypeId → Prop} (K : Kids P T) {d : Nat} {base : Nat} : ∀ {ts : List TypeId} {vs : List Value} {ds : List (DataW H)} {p : List MemPlace}, (∀ t ∈ ts, T t ∧ plainT P d t = true) →
    (∀ (j : Nat) t v, ts[j]? = some t → vs[j]? = some v → Value.okWide P W .any base t v) → DataW.TrodAll enc P W 0 (fun _ => true) held ts vs ds p → ∃ l, rels [] (immW W) l vs ∧ fitsAll P d ts l
  | [], [], [], _, _, _, _ => ⟨[], by simp [rels], rfl⟩
  | t :: ts, v :: vs, dd :: ds, _, hT, hv, ⟨p, q, h1, h2, _⟩ => by
    obtain ⟨c, g1, g2⟩ := trod_top K (hT t (by simp)).1 (hT t (by simp)).2 (hv 0 t v rfl rfl) h1
    obtain ⟨l, g3, g4⟩ := trod_all K (fun t ht => hT t (by simp [ht])) (fun j t v hj hvj => hv (j + 1) t v (by simpa using hj) (by simpa using hvj)) h2
    exact ⟨c :: l, by simp only [rels]; exact ⟨v, vs, rfl, g1, g3⟩, c, l, rfl, g2, g4⟩
  | [], [], _ :: _, _, _, _, h => h.elim
  | [], _ :: _, _, _, _, _, h => by cases h
  | _ :: _, [], _, _, _, _, h => by cases h
  | _ :: _, _ :: _, [], _, _, _, h => h.elim

theorem trodAll_carry {W' : World} {sp : Nat → Bool} : ∀ {ts : List TypeId} {vs : List Value} {ds : List (DataW H)} {p : List MemPlace}, DataW.TrodAll enc P W 0 sp held ts vs ds p → (∀ x ∈ p, W.sameAt W' x) → DataW.TrodAll enc P W' 0 sp held ts vs ds p
  | [], [], [], _, h, _ => h
  | t :: ts, v :: vs, dd :: ds, _, ⟨p, q, ⟨n, h1⟩, h2, e⟩, hs => by
    subst e
    exact ⟨p, q, ⟨n, DataW.trod_carry n _ _ _ h1 fun x hx => hs x (List.mem_append_left _ hx)⟩, trodAll_carry h2 fun x hx => hs x (List.mem_append_right _ hx), rfl⟩
  | [], [], _ :: _, _, h, _ => h.elim
  | [], _ :: _, _, _, h, _ => by cases h
  | _ :: _, [], _, _, h, _ => by cases h
  | _ :: _, _ :: _, [], _, h, _ => h.elim

theorem post_of_below {f : Func} {s : ChangeSpec} {apart fresh handsOn again : Bool} {W W' : World} {args : Array Value} {v : Value} {ds gs : List (DataW H)} {before pa pv : List MemPlace}
    (hW : DataW.Whole enc P f.params.toList s.vars apart W args.toList ds gs before)
    (hres : ∀ (b : Nat) (sp : Nat → Bool) (hd : Bool), DataW.TrodAll enc P W' b sp hd f.resultTypes.toList (v.resultList f.resultTypes.size) (s.fn H (ds ++ gs)).results [])
    (hargs : ∀ sp : Nat → Bool, (∀ p ∈ before, sp p.block = true) → DataW.TrodAll enc P W' 0 sp true f.params.toList args.toList (s.fn H (ds ++ gs)).args pa)
    (hvars : ∀ sp : Nat → Bool, (∀ p ∈ before, sp p.block = true) → DataW.TrodVars enc P W' sp s.vars (s.fn H (ds ++ gs)).vars pv)
    (hps : before = pa ++ pv) (hb : Below W.heap.size W W')
    (hok : ∀ (j : Nat) (t : TypeId) (r : Value), f.resultTypes[j]? = some t → (v.resultList f.resultTypes.size)[j]? = some r → Value.okWide P W' .any 0 t r) :
    s.post enc P f apart fresh handsOn again W args v W' := by
  have hlt : ∀ p ∈ before, p.block < W.heap.size := fun p hp => hW.lt p hp
  have hold : ∀ p ∈ before, (fun b => decide (b < W.heap.size)) p.block = true := fun p hp => by simpa using hlt p hp
  refine ⟨ds, gs, before, [], pa, pv, hW, hres _ _ _, hargs _ hold, hvars _ hold, World.keptBut_mono (fun p hp => ⟨hp, ?_⟩) (hb.frame (· ∈ before)), fun _ => ?_⟩
  · rw [hps, List.mem_append] at hp
    exact Or.inr hp
  · obtain ⟨_, _, _, _, _, hz, hn⟩ := hW
    refine ⟨hok, _, _, ([] ++ pa) ++ pv, ⟨[] ++ pa, pv, trodAll_append (hargs _ (fun _ _ => rfl)) (hres _ _ _), hvars _ (fun _ _ => rfl), rfl, ?_, ?_⟩, ?_⟩
    · intro b off hp
      have hin : MemPlace.cell b off ∈ before := by rw [hps]; simpa using hp
      rw [hb.frozen (hlt _ hin)]
      exact hz b off hin
    · intro ha
      have := hn ha
      rw [hps] at this
      simpa using this
    · intro p hp _
      rw [hps]
      simpa using hp

/-- THE CONTRACT OF A LAW: it answers true whatever it is given, and leaves it. -/
theorem law_contract {f : Nat} {fn : Func} {s : ChangeSpec} {bt : TypeId} {d : Nat} (hl : laidOutB P = true) (hm : mapsRowed P = true)
    (hz : ((List.range P.types.size).all fun t => match P.underlying t with | some (.slice e) => decide (0 < P.cellsOf e) | _ => true) = true)
    (hbt : P.underlying bt = some .bool) (hres : fn.resultTypes = #[bt]) (hvars : s.vars = []) (hsp : ∀ ds : List (DataW H), ds.length = fn.params.size → (s.fn H ds).results = [.lit (.bool true)] ∧ (s.fn H ds).args = ds ∧ (s.fn H ds).vars = [])
    (hts : (fn.params.toList.all fun t => decide (t < P.types.size) && plainT P d t) = true)
    (law : ∀ l : List CV, fitsAll P d fn.params.toList l → Fn P f l (.bool true))
    (W : World) (base : Nat) (args : Array Value) (ds gs : List (DataW H)) (before : List MemPlace) (hval : ∀ (j : Nat) t v, fn.params[j]? = some t → args[j]? = some v → Value.okWide P W .any base t v)
    (hW : DataW.Whole enc P fn.params.toList s.vars false W args.toList ds gs before) :
    Calls P f args W fun e W' => ∃ v, e = .returned v ∧ s.post enc P fn false true false false W args v W' := by
  have K := kids_rows hl hm
  have hfull := slices_full_of P hz
  rw [List.all_eq_true] at hts
  have hT : ∀ t ∈ fn.params.toList, t < P.types.size ∧ plainT P d t = true := fun t ht => by simpa using hts t ht
  have hW' := hW
  obtain ⟨p, q, hA, hV, rfl, hfz, hnd⟩ := hW
  rw [hvars] at hV
  obtain ⟨rfl, rfl⟩ := trodVars_none hV
  obtain ⟨l, h1, h2⟩ := trod_all (d := d) (base := base) K hT (fun j t v hj hvj => hval j t v (by rw [← Array.getElem?_toList]; exact hj) (by rw [← Array.getElem?_toList]; exact hvj)) hA
  have hc := law l h2 Env.none [] _ W args (sim_start W) h1
  refine (hc.calls fun k => room_WF none k).mono ?_
  rintro e W' ⟨r, m', v, H', rfl, hext, hs, hrel, rfl, rfl⟩
  simp only [rel] at hrel
  subst hrel
  have hno : ∀ B, ¬ owned { own := [], imm := immW W, ext := fun _ => False } [] B := by
    rintro B (h | ⟨k, o, x, hk, _⟩)
    · exact h
    · simp at hk
  have hb : Below W.heap.size W W' := ⟨hext.same.1, hext.same.2.2, hext.same.2.1, hext.size, fun k hk => hext.frame k hk (hno k)⟩
  have hlt : ∀ x ∈ p ++ [], x.block < W.heap.size := fun x hx => hW'.lt x hx
  have hdl : ds.length = fn.params.size := by have := (trodAll_length hA).2; simpa using this
  obtain ⟨hs1, hs2, hs3⟩ := hsp (ds ++ []) (by simpa using hdl)
  refine ⟨_, rfl, post_of_below (pa := p) (pv := []) hW' (fun _ _ _ => ?_) (fun sp hsp' => ?_) (fun _ _ => ?_) (by simp) hb (ok_one hres rfl (okWide_bool_mk hbt _))⟩
  · rw [hres, hs1]
    exact trodAll_cons_mk (shut_bool hbt _) trodAll_mk0
  · rw [hs2, List.append_nil]
    exact DataW.TrodAll.respare K hfull (fun t ht => (hT t ht).1) (trodAll_carry hA fun x hx => hb.same (hlt x (by simpa using hx))) (fun x hx => hsp' x (by simpa using hx))
  · rw [hvars, hs3]; rfl

theorem fits_int {d : Nat} {t : TypeId} {k : IntKind} {l : List CV} (ht : P.underlying t = some (.int k)) (h : fits P d t l) : ∃ x, l = [.int k x] ∧ InR k x := by
  cases d with
  | zero => exact h.elim
  | succ d => simpa only [fits, ht] using h
theorem fits_bool {d : Nat} {t : TypeId} {l : List CV} (ht : P.underlying t = some .bool) (h : fits P d t l) : ∃ b, l = [.bool b] := by
  cases d with
  | zero => exact h.elim
  | succ d => simpa only [fits, ht] using h
theorem fits_str {d : Nat} {t : TypeId} {l : List CV} (ht : P.underlying t = some .string) (h : fits P d t l) : ∃ b, l = [.str b] ∧ b.size ≤ maxLen := by
  cases d with
  | zero => exact h.elim
  | succ d => simpa only [fits, ht] using h
theorem fits_slice {d : Nat} {t e : TypeId} {l : List CV} (ht : P.underlying t = some (.slice e)) (h : fits P (d + 1) t l) : ∃ els, l = [.rslc (P.cellsOf e) els none] ∧ els.length ≤ maxLen ∧ ∀ x ∈ els, fits P d e x := by
  simpa only [fits, ht] using h
theorem fits_struct2 {d : Nat} {t : TypeId} {f0 f1 : Field} {l : List CV} (ht : P.underlying t = some (.struct #[f0, f1])) (h : fits P (d + 1) t l) : ∃ a b, l = a ++ b ∧ fits P d f0.type a ∧ fits P d f1.type b := by
  simp only [fits, ht] at h
  obtain ⟨ls, rfl, hl, hf⟩ := h
  match ls, hl with
  | [a, b], _ => exact ⟨a, b, by simp, hf 0 f0 a rfl rfl, hf 1 f1 b rfl rfl⟩
theorem fits_struct3 {d : Nat} {t : TypeId} {f0 f1 f2 : Field} {l : List CV} (ht : P.underlying t = some (.struct #[f0, f1, f2])) (h : fits P (d + 1) t l) : ∃ a b c, l = a ++ (b ++ c) ∧ fits P d f0.type a ∧ fits P d f1.type b ∧ fits P d f2.type c := by
  simp only [fits, ht] at h
  obtain ⟨ls, rfl, hl, hf⟩ := h
  match ls, hl with
  | [a, b, c], _ => exact ⟨a, b, c, by simp, hf 0 f0 a rfl rfl, hf 1 f1 b rfl rfl, hf 2 f2 c rfl rfl⟩
theorem top_slice {d : Nat} {t e : TypeId} {c : CV} (ht : P.underlying t = some (.slice e)) (h : fitsTop P (d + 1) t c) : ∃ els, c = .rslc (P.cellsOf e) els none ∧ els.length ≤ maxLen ∧ ∀ x ∈ els, fits P d e x := by
  simp only [fitsTop, ht] at h
  obtain ⟨els, h1, h2⟩ := fits_slice ht h
  cases h1
  exact ⟨els, rfl, h2⟩
theorem top_int {d : Nat} {t : TypeId} {k : IntKind} {c : CV} (ht : P.underlying t = some (.int k)) (h : fitsTop P d t c) : ∃ x, c = .int k x ∧ InR k x := by
  simp only [fitsTop, ht] at h
  obtain ⟨x, h1, h2⟩ := fits_int ht h
  cases h1
  exact ⟨x, rfl, h2⟩
/-- Elements that each stand for something. -/
theorem els_map {α : Type} {enc : α → List CV} : ∀ {els : List (List CV)}, (∀ e ∈ els, ∃ a, e = enc a) → ∃ as : List α, els = as.map enc
  | [], _ => ⟨[], rfl⟩
  | e :: els, h => by
    obtain ⟨a, ha⟩ := h e (by simp)
    obtain ⟨as, has⟩ := els_map (els := els) fun e he => h e (by simp [he])
    exact ⟨a :: as, by rw [ha, has]; rfl⟩

end
end Go.Cm
end
