/-
  The framework Cm, part KC: contracts of the kit's form, made contracts of ours. Conditions: none.
-/
import Derived.Test.YtghkeneolbkliaaGreatDoorKFwYG
import Derived.Below
set_option linter.unusedSimpArgs false
set_option linter.unusedVariables false

section
open Go.RowKit
namespace Go.Cm

section
variable {P : Program} {E : Env} {H : List CObj} {m : Bk} {w w' : World}

/-- Nothing was touched, something may have been added. -/
theorem Sim.grown (hs : Sim E m H w) (hsz : w.heap.size ≤ w'.heap.size) (hfr : ∀ B, B < w.heap.size → w'.heap[B]? = w.heap[B]?) : Sim E m H w' := by
  refine ⟨hs.len, fun k o x hk hx => ?_, fun B i v hv => (cell?_congr (hfr _ (imm_lt hs hv))).trans (hs.imm B i v hv), hs.one, hs.sep, hs.ro, fun k s b hk => ?_, hs.extsep, fun B hB => Nat.lt_of_lt_of_le (hs.extlt B hB) hsz⟩
  · by_cases hal : o.alive = true
    · exact objRel_mono (ownLe.refl _) (immLe.refl _) (fun _ => hfr _ (blk_lt hs hk hal hx)) (hs.obj k o x hk hx)
    · cases o <;> simp [CObj.alive] at hal <;> trivial
  · exact E.stable _ _ _ _ _ _ _ (hs.ext k s b hk) (fun B hB => hfr B (hs.extlt B hB)) hsz (immLe.refl _) (fun B i v h => .inl h) (fun B i v hv => (cell?_congr (hfr _ (imm_lt hs hv))).trans (hs.imm B i v hv)) hs.one

theorem Ext.grown {n0 : Nat} (hsz : w.heap.size ≤ w'.heap.size) (hfr : ∀ B, B < w.heap.size → w'.heap[B]? = w.heap[B]?) (hsame : w'.os = w.os ∧ w'.output = w.output ∧ w'.tape = w.tape) : Ext n0 m H w m H w' where
  size := hsz
  frame B hB _ := hfr B hB
  imm := immLe.refl _
  newOwn B h := .inl h
  newImm B i v h := .inl h
  base _ _ _ h := h
  long h := h
  same := hsame

/-- A contract of the kit's: it answers r, and what was there stands. -/
theorem callsC_of_calls {f : Nat} {args : List CV} {v : CV} (h : ∀ (m : Bk) (w : World) (vs : Array Value), Sim E m H w → rels m.own m.imm args vs.toList → ∃ r, Calls P f vs w (fun e w' => e = .returned r ∧ Below w.heap.size w w') ∧ rel m.own m.imm v r) : CallsC P E f args H fun v' H' => v' = v ∧ H' = H := by
  intro m w vs hs hv
  obtain ⟨r, hc, hr⟩ := h m w vs hs hv
  refine ⟨trivial, fun cs _ => ?_⟩
  obtain ⟨e, w', fr, ⟨rfl, hb⟩, hst, hl⟩ := hc cs
  exact ⟨_, w', fr, ⟨r, m, v, H, rfl, Ext.grown hb.size hb.block ⟨hb.os, hb.output, hb.tape⟩, hs.grown hb.size hb.block, hr, rfl, rfl⟩, (show StepsIn _ _ _ _ from steps_WF hst), hl⟩

end
end Go.Cm
end
