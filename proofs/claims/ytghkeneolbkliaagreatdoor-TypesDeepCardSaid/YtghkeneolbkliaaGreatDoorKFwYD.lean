/-
  The framework Cm, part YD: closed runs, made for the kernel: runs of operations, drawn regions whose order does not matter. Conditions: none.
-/
import Derived.Test.YtghkeneolbkliaaGreatDoorKFwYC
set_option linter.unusedSimpArgs false
set_option linter.unusedVariables false

section
namespace Go.Cm

/-- What an operation gives and does. -/
def Xop (P : Program) (E : Env) (op : IOp) (T : List CV) (H : List CObj) (v : CV) (H' : List CObj) : Prop :=
  (∃ c, exec op T H = some (c, v, H') ∧ c.holds) ∨
  (∃ f as, op = .call f as ∧ CallsC P E f (as.map (aget T)) H fun v' H2 => v' = v ∧ H2 = H') ∨
  (∃ x as f l1 l2, op = .callv x as ∧ aget T x = .fn f l1 l2 ∧ FnOk P f ∧ CallsC P E f (l1 ++ as.map (aget T) ++ l2) H fun v' H2 => v' = v ∧ H2 = H')

section
variable {P : Program} {E : Env} {n0 : Nat} {N : Fr} {Q : Exit → List CV → List CObj → Prop} {H H' : List CObj} {T T2 : List CV} {k : List KItem} {op : IOp} {v : CV}

theorem Xop.leads {d : Option Nat} {g : Option (Nat × Bool)} (hg : GOk T g) (h : Xop P E op T H v H') : Leads P E n0 N Q k ⟨d, op, g⟩ T H (put T d v) H' := by
  intro l' hok
  rcases h with ⟨c, h1, h2⟩ | ⟨f, as, rfl, hC⟩ | ⟨x, as, f, l1, l2, rfl, hx, ⟨fn, h1, h2, h3⟩, hC⟩
  · exact ok_op (io := ⟨d, op, g⟩) hg h1 h2 hok
  · exact ok_call hg hC fun v' H2 ⟨h1, h2⟩ => by rw [h1, h2]; exact hok
  · exact ok_callv hg hx h1 h2 h3 hC fun v' H2 ⟨h4, h5⟩ => by rw [h4, h5]; exact hok

theorem Xop.congr (ha : agree op.rd T T2) (h : Xop P E op T H v H') : Xop P E op T2 H v H' := by
  rcases h with ⟨c, h1, h2⟩ | ⟨f, as, rfl, hC⟩ | ⟨x, as, f, l1, l2, rfl, hx, hf, hC⟩
  · exact .inl ⟨c, by rw [← exec_congr ha]; exact h1, h2⟩
  · simp only [IOp.rd] at ha
    exact .inr (.inl ⟨f, as, rfl, by rw [← agree_argL ha]; exact hC⟩)
  · simp only [IOp.rd] at ha
    exact .inr (.inr ⟨x, as, f, l1, l2, rfl, by rw [← agree_arg (agree_app ha).1]; exact hx, hf, by rw [← agree_argL (agree_app ha).2]; exact hC⟩)

inductive Runs (P : Program) (E : Env) : List IOper → List CV → List CObj → List CV → List CObj → Prop
  | nil {T : List CV} {H : List CObj} : Runs P E [] T H T H
  | op {io : IOper} {l : List IOper} {T T2 : List CV} {H H' H2 : List CObj} {v : CV} : xgd T io.guard = some true → Xop P E io.op T H v H' → Runs P E l (put T io.dst v) H' T2 H2 → Runs P E (io :: l) T H T2 H2
  | skip {io : IOper} {l : List IOper} {T T2 : List CV} {H H2 : List CObj} : xgd T io.guard = some false → Runs P E l (put T io.dst (.tup [])) H T2 H2 → Runs P E (io :: l) T H T2 H2

theorem runs_ok {l : List IOper} {H2 : List CObj} (h : Runs P E l T H T2 H2) (hok : Ok P E n0 N Q k T2 H2) : Ok P E n0 N Q (.ops l :: k) T H := by
  induction h with
  | nil => exact ok_ops_nil hok
  | op hg hx _ ih => exact hx.leads (xgd_true hg) _ (ih hok)
  | skip hg _ ih => exact xgd_false hg (ih hok)

theorem runs_len {l : List IOper} {H2 : List CObj} (h : Runs P E l T H T2 H2) : T2.length = T.length := by
  induction h with
  | nil => rfl
  | op _ _ _ ih => rw [ih, put_length]
  | skip _ _ ih => rw [ih, put_length]

/-! Drawn regions. -/

noncomputable def footX (op : IOp) : Foot × Foot := cond (vop op) Foot.no (cond (rop op) (.all, .on []) Foot.any)

def fastd (l : List IOper) (es : List (List Nat)) : Bool := cloOk l.length es (clo es) && orderedH l (clo es) (l.map fun io => if vop io.op then Foot.no else if rop io.op then (.all, .on []) else Foot.any)

theorem vop_all {c : Cond} (hv : vop op = true) (h : exec op T H = some (c, v, H')) : H' = H ∧ ∀ H2, exec op T H2 = some (c, v, H2) := by
  cases op <;> simp only [vop, Bool.false_eq_true] at hv
  case mmx big a b =>
    simp only [exec] at h ⊢
    split at h
    · split at h
      · rename_i hk
        simp only [Option.some.injEq, Prod.mk.injEq] at h
        refine ⟨h.2.2.symm, fun H2 => ?_⟩
        rw [if_pos hk]
        simp only [Option.some.injEq, Prod.mk.injEq]
        exact ⟨h.1, h.2.1, trivial⟩
      · cases h
    · cases h
  all_goals
    simp only [exec] at h ⊢
    repeat' split at h
    all_goals simp_all

theorem rop_same {c : Cond} (hv : rop op = true) (h : exec op T H = some (c, v, H')) : H' = H := by
  cases op <;> simp only [rop, Bool.false_eq_true] at hv
  all_goals
    simp only [exec] at h
    repeat' split at h
    all_goals simp_all

theorem foot_cases (op : IOp) : (vop op = true ∧ (if vop op then Foot.no else if rop op then (.all, .on []) else Foot.any) = Foot.no) ∨ (rop op = true ∧ (if vop op then Foot.no else if rop op then (.all, .on []) else Foot.any) = ((.all, .on []) : Foot × Foot)) ∨ ((if vop op then Foot.no else if rop op then (.all, .on []) else Foot.any) = Foot.any) := by
  cases hv : vop op with
  | true => exact .inl ⟨rfl, rfl⟩
  | false => cases hr : rop op with
    | true => exact .inr (.inl ⟨rfl, rfl⟩)
    | false => exact .inr (.inr rfl)

theorem vop_plain (h : vop op = true ∨ rop op = true) (hx : Xop P E op T H v H') : ∃ c, exec op T H = some (c, v, H') ∧ c.holds := by
  rcases hx with hx | ⟨f, as, rfl, _⟩ | ⟨x, as, f, l1, l2, rfl, _⟩
  · exact hx
  · simp [vop, rop] at h
  · simp [vop, rop] at h

theorem hs_run {io : IOper} (hg : xgd T io.guard = some true) (hx : Xop P E io.op T H v H') : HS P E io T H v H' (if vop io.op then Foot.no else if rop io.op then (.all, .on []) else Foot.any) := by
  have hgk := xgd_true hg
  rcases foot_cases io.op with ⟨hv, e⟩ | ⟨hr, e⟩ | e
  · rw [e]
    obtain ⟨c, h1, h2⟩ := vop_plain (.inl hv) hx
    obtain ⟨rfl, h3⟩ := vop_all hv h1
    exact ⟨fun _ _ => rfl, fun T2 H2 ha _ => ⟨H2, fun y hy => (by cases hy), fun _ _ => rfl, fun _ _ _ _ _ hok => ok_op (gok_congr ha hgk) (by rw [← exec_congr (agree_app ha).2]; exact h3 H2) h2 hok⟩⟩
  · rw [e]
    obtain ⟨c, h1, h2⟩ := vop_plain (.inr hr) hx
    obtain rfl := rop_same hr h1
    refine ⟨fun _ _ => rfl, fun T2 H2 ha hxx => ?_⟩
    have hH : H2 = H' := hat_ext fun y => hxx y trivial
    subst hH
    exact ⟨H2, fun y hy => (by cases hy), fun _ _ => rfl, fun _ _ _ _ _ hok => ok_op (gok_congr ha hgk) (by rw [← exec_congr (agree_app ha).2]; exact h1) h2 hok⟩
  · rw [e]
    refine ⟨fun _ hn => absurd trivial hn, fun T2 H2 ha hxx => ?_⟩
    have hH : H2 = H := hat_ext fun y => hxx y trivial
    subst hH
    exact ⟨H', fun _ _ => rfl, fun _ hn => absurd trivial hn, fun _ _ _ _ l hok => (hx.congr (agree_app ha).2).leads (d := io.dst) (gok_congr ha hgk) l hok⟩

theorem hs_skip {io : IOper} (hg : xgd T io.guard = some false) : HS P E io T H (.tup []) H (if vop io.op then Foot.no else if rop io.op then (.all, .on []) else Foot.any) := by
  have key : ∀ T2 H2, agree io.rd T T2 → ∀ (n0 : Nat) (N : Fr) (Q : Exit → List CV → List CObj → Prop) (k : List KItem) (l : List IOper), Ok P E n0 N Q (.ops l :: k) (put T2 io.dst (.tup [])) H2 → Ok P E n0 N Q (.ops (io :: l) :: k) T2 H2 :=
    fun T2 H2 ha _ _ _ _ _ hok => xgd_false (by rw [← xgd_congr ha]; exact hg) hok
  rcases foot_cases io.op with ⟨_, e⟩ | ⟨_, e⟩ | e
  · rw [e]; exact ⟨fun _ _ => rfl, fun T2 H2 ha _ => ⟨H2, fun y hy => (by cases hy), fun _ _ => rfl, key T2 H2 ha⟩⟩
  · rw [e]; exact ⟨fun _ _ => rfl, fun T2 H2 ha _ => ⟨H2, fun y hy => (by cases hy), fun _ _ => rfl, key T2 H2 ha⟩⟩
  · rw [e]
    refine ⟨fun _ _ => rfl, fun T2 H2 ha hxx => ?_⟩
    have hH : H2 = H := hat_ext fun y => hxx y trivial
    subst hH
    exact ⟨H2, fun _ _ => rfl, fun _ _ => rfl, key T2 H2 ha⟩

theorem runs_vals {l : List IOper} {H2 : List CObj} (h : Runs P E l T H T2 H2) : ∃ (v : Nat → CV) (hh : Nat → List CObj), hh 0 = H ∧ (∀ j, j < l.length → HS P E (lget l j) (tst l v T j) (hh j) (v j) (hh (j + 1)) (lfoot (l.map fun io => if vop io.op then Foot.no else if rop io.op then (.all, .on []) else Foot.any) j)) ∧ tst l v T l.length = T2 ∧ hh l.length = H2 := by
  have step : ∀ {io : IOper} {l : List IOper} {T T2 : List CV} {H H' H2 : List CObj} {v0 : CV}, HS P E io T H v0 H' (if vop io.op then Foot.no else if rop io.op then (.all, .on []) else Foot.any) →
      (∃ (v : Nat → CV) (hh : Nat → List CObj), hh 0 = H' ∧ (∀ j, j < l.length → HS P E (lget l j) (tst l v (put T io.dst v0) j) (hh j) (v j) (hh (j + 1)) (lfoot (l.map fun io => if vop io.op then Foot.no else if rop io.op then (.all, .on []) else Foot.any) j)) ∧ tst l v (put T io.dst v0) l.length = T2 ∧ hh l.length = H2) →
      ∃ (v : Nat → CV) (hh : Nat → List CObj), hh 0 = H ∧ (∀ j, j < (io :: l).length → HS P E (lget (io :: l) j) (tst (io :: l) v T j) (hh j) (v j) (hh (j + 1)) (lfoot ((io :: l).map fun io => if vop io.op then Foot.no else if rop io.op then (.all, .on []) else Foot.any) j)) ∧ tst (io :: l) v T (io :: l).length = T2 ∧ hh (io :: l).length = H2 := by
    rintro io l T T2 H H' H2 v0 hs ⟨v, hh, h0, h1, h2, h3⟩
    let v' : Nat → CV := fun j => match j with | 0 => v0 | j + 1 => v j
    let hh' : Nat → List CObj := fun j => match j with | 0 => H | j + 1 => hh j
    have key : ∀ j, tst (io :: l) v' T (j + 1) = tst l v (put T io.dst v0) j := by
      intro j
      induction j with
      | zero => rfl
      | succ j ih => rw [tst, ih]; rfl
    refine ⟨v', hh', rfl, fun j hj => ?_, by rw [List.length_cons, key]; exact h2, h3⟩
    cases j with
    | zero =>
      have e : hh' (0 + 1) = H' := h0
      rw [e]; exact hs
    | succ j => rw [key]; exact h1 j (by simpa using hj)
  induction h with
  | nil => rename_i T H; exact ⟨fun _ => .un, fun _ => H, rfl, by simp, rfl, rfl⟩
  | op hg hx _ ih => exact step (hs_run hg hx) ih
  | skip hg _ ih => exact step (hs_skip hg) ih

/-- A drawn region whose order does not matter, run in the order of its text. -/
theorem runs_dreg {l : List IOper} {es : List (List Nat)} {H2 : List CObj} (h : Runs P E l T H T2 H2) (hf : fastd l es = true) (hm : P.follows .mixedOrders = true) (hok : Ok P E n0 N Q k T2 H2) : Ok P E n0 N Q (.code (.dreg l es) :: k) T H := by
  simp only [fastd, Bool.and_eq_true] at hf
  obtain ⟨v, hh, h0, h1, h2, h3⟩ := runs_vals h
  exact ok_dregH hf.1 hm hf.2 h1 h0 (by rw [h2, h3]; exact hok)

end

/-! ### Code in which such regions are plain ones -/

inductive LowR : ICode → ICode → Prop
  | skip : LowR .skip .skip
  | reg {l : List IOper} : LowR (.reg l) (.reg l)
  | dreg {l : List IOper} {es : List (List Nat)} : LowR (.dreg l es) (.dreg l es)
  | fast {l : List IOper} {es : List (List Nat)} : fastd l es = true → LowR (.dreg l es) (.reg l)
  | seq {a b a' b' : ICode} : LowR a a' → LowR b b' → LowR (.seq a b) (.seq a' b')
  | cond {i : IArg} {a b a' b' : ICode} : LowR a a' → LowR b b' → LowR (.cond i a b) (.cond i a' b')
  | block {id : Nat} {a a' : ICode} : LowR a a' → LowR (.block id a) (.block id a')
  | loop {a a' : ICode} : LowR a a' → LowR (.loop a) (.loop a')
  | rfunc {f : IArg} {ps : List Nat} {a b a' b' : ICode} : LowR a a' → LowR b b' → LowR (.rfunc f ps a b) (.rfunc f ps a' b')
  | exit {id : Nat} : LowR (.exit id) (.exit id)
  | ret : LowR .ret .ret
  | bad : LowR .bad .bad

/-- The flags say, of each drawn region in the order of the text, whether it is taken as a plain one. -/
def low : ICode → List Bool → ICode × List Bool
  | .dreg l es, fl => match fl with
    | true :: fl => (.reg l, fl)
    | _ :: fl => (.dreg l es, fl)
    | [] => (.dreg l es, [])
  | .seq a b, fl => (.seq (low a fl).1 (low b (low a fl).2).1, (low b (low a fl).2).2)
  | .cond i a b, fl => (.cond i (low a fl).1 (low b (low a fl).2).1, (low b (low a fl).2).2)
  | .block id a, fl => (.block id (low a fl).1, (low a fl).2)
  | .loop a, fl => (.loop (low a fl).1, (low a fl).2)
  | .rfunc f ps a b, fl => (.rfunc f ps (low a fl).1 (low b (low a fl).2).1, (low b (low a fl).2).2)
  | c, fl => (c, fl)

def lowOk : ICode → List Bool → Bool
  | .dreg l es, fl => match fl with
    | true :: _ => fastd l es
    | _ => true
  | .seq a b, fl => lowOk a fl && lowOk b (low a fl).2
  | .cond _ a b, fl => lowOk a fl && lowOk b (low a fl).2
  | .block _ a, fl => lowOk a fl
  | .loop a, fl => lowOk a fl
  | .rfunc _ _ a b, fl => lowOk a fl && lowOk b (low a fl).2
  | _, _ => true

theorem low_sound : ∀ (c : ICode) (fl : List Bool), lowOk c fl = true → LowR c (low c fl).1
  | .skip, _, _ => .skip
  | .reg _, _, _ => .reg
  | .dreg l es, fl, h => by
    match fl, h with
    | true :: fl, h => exact .fast h
    | false :: fl, _ => exact .dreg
    | [], _ => exact .dreg
  | .seq a b, fl, h => by
    simp only [lowOk, Bool.and_eq_true] at h
    exact .seq (low_sound a fl h.1) (low_sound b _ h.2)
  | .cond i a b, fl, h => by
    simp only [lowOk, Bool.and_eq_true] at h
    exact .cond (low_sound a fl h.1) (low_sound b _ h.2)
  | .block id a, fl, h => .block (low_sound a fl h)
  | .loop a, fl, h => .loop (low_sound a fl h)
  | .rfunc f ps a b, fl, h => by
    simp only [lowOk, Bool.and_eq_true] at h
    exact .rfunc (low_sound a fl h.1) (low_sound b _ h.2)
  | .exit _, _, _ => .exit
  | .ret, _, _ => .ret
  | .bad, _, _ => .bad

end Go.Cm
end
