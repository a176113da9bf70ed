/-
  The framework Cm, part YF: closed runs, made for the kernel: the run is sound. Conditions: none.
-/
import Derived.Test.YtghkeneolbkliaaGreatDoorKFwYE
set_option linter.unusedSimpArgs false
set_option linter.unusedVariables false

section
namespace Go.Cm

section
variable {P : Program} {tb : BT YE}

theorem ycall_ok (ht : tb.All (YEOk P)) {run : YRun} (hr : YRunOk P run) (hrep : YRunRep run) (E : Env) : YC (COk P E) (ycall tb run) := by
  intro f args h v h' hy H hH
  have hy : Option.rec (motive := fun _ => YR) none (fun e => ycallE run args h e) (tb.get f) = some (v, h') := hy
  cases hf : tb.get f with
  | none => rw [hf] at hy; cases hy
  | some e =>
    rw [hf] at hy
    have hok := ht.get hf
    cases e with
    | code c n rs =>
      obtain ⟨hfn, F, hF, hl, rfl, rfl⟩ := hok
      obtain ⟨h1, h2⟩ := ycode_ok hr hrep E hF hl hH hy
      exact ⟨_, h1, hfn, h2⟩
    | pure c n rs =>
      obtain ⟨hfn, F, hF, hl, rfl, rfl⟩ := hok
      obtain ⟨hcl, h2⟩ := cnd (show cond (closedL args) (yclose h (ycode run args emptyH c F.ntmps F.results)) none = some (v, h') from hy)
      unfold yclose at h2
      split at h2
      · rename_i v2 h3 hx
        split at h2
        · rename_i v' hv
          simp only [Option.some.injEq, Prod.mk.injEq] at h2
          obtain ⟨rfl, rfl⟩ := h2
          obtain ⟨_, h4⟩ := ycode_ok hr hrep Env.none hF hl rep_emptyH hx
          have h5 := xfzV_ok 3000 _ _ _ hv h4
          exact ⟨H, hH, hfn, h5.frame hcl fun v1 _ e => by subst e; exact ⟨xfzV_closed _ _ _ _ hv, rfl⟩⟩
        · cases h2
      · cases h2
    | nat g =>
      have hy : ynat args h g = some (v, h') := hy
      unfold ynat at hy
      split at hy
      · rename_i v' hv
        simp only [Option.some.injEq, Prod.mk.injEq] at hy
        obtain ⟨rfl, rfl⟩ := hy
        exact ⟨H, hH, hok.1, hok.2 _ _ hv E H⟩
      · cases hy
    | iter g => cases hy

theorem ycl_ok {E : Env} {cl : YCall} (hcl : YC (COk P E) cl) : CallsOk P E (ycl cl) := by
  intro f args H v H' h
  unfold ycl at h
  split at h
  · rename_i hp hh
    split at h
    · rename_i v' h' hx
      simp only [Option.some.injEq, Prod.mk.injEq] at h
      obtain ⟨rfl, rfl⟩ := h
      obtain ⟨H2, h1, h2, h3⟩ := hcl _ _ _ _ _ hx H (RepH.ofL hh)
      exact ⟨h2, by rw [h1.toL]; exact h3⟩
    · cases h
  · cases h

theorem yrounds_ok {run : YRun} (hr : YRunOk P run) (hrep : YRunRep run) {E : Env} {n0 : Nat} {N : Fr} {Q : Exit → List CV → List CObj → Prop} {k : List KItem} {n : Nat} {t : RV} {T : List CV} {h : HP} {H : List CObj} {f : IArg} {ps : List Nat} {x y x' y' : ICode} {g : Nat} {l1 l2 : List CV} {xs : List (List CV)}
    (hx : LowR x x') (hy : LowR y y') (hT : RepT n t T) (hH : RepH h H) (hrnd : N.rnd = false) (hf : aget T f = .fn g l1 l2) (hc1 : closedL l1 = true) (hc2 : closedL l2 = true) (hg : FnOk P g) (hit : Iter P g l1 l2 xs) (hxs : ∀ c ∈ xs, c.length = ps.length) (hk : yk P E n0 N Q k n (yrounds run ps x' y' n t T xs h)) : Ok P E n0 N Q (.code (.rfunc f ps x y) :: k) T H := by
  obtain ⟨fn, h1, h2, h3⟩ := hg
  refine ok_rfunc (fun s H' => ∃ h', RepH h' H' ∧ yk P E n0 N Q k n (yrounds run ps x' y' n t T (xs.drop s) h')) hrnd hf hc1 hc2 h1 h2 h3 hit hxs ⟨h, hH, hk⟩ (fun s Hs c hI hc => ?_) fun H' hI => ?_
  · obtain ⟨hs, hHs, hI⟩ := hI
    have hlt : s < xs.length := (List.getElem?_eq_some_iff.1 hc).1
    have hd : xs.drop s = c :: xs.drop (s + 1) := by
      rw [List.drop_eq_getElem_cons hlt]
      congr 1
      exact (List.getElem?_eq_some_iff.1 hc).2
    rw [hd] at hI
    have hI : yk P E n0 N Q k n (match ofLT n (pset T ps c) with
      | some t1 => match run true x' n t1 hs with
        | .norm t2 h2 => match run true y' n t2 h2 with
          | .norm _ h3 => yrounds run ps x' y' n t T (xs.drop (s + 1)) h3
          | .exit id _ h3 => .exit id t h3
          | .ret _ h3 => .ret t h3
          | .fail => .fail
        | _ => .fail
      | none => .fail) := hI
    split at hI
    · rename_i t1 ht1
      have hT1 := ofLT_ok hT.le ht1
      refine hr E H.length ⟨0, true⟩ _ [] true x x' n t1 _ hs Hs hx (fun h => by cases h) hT1 hHs ?_
      cases hx1 : run true x' n t1 hs with
      | norm t2 h2 =>
        rw [hx1] at hI
        intro T2 H2 hT2 hH2
        refine ok_nil ?_
        refine hr E H.length ⟨0, true⟩ _ [] true y y' n t2 T2 h2 H2 hy (fun h => by cases h) hT2 hH2 ?_
        simp only at hI
        cases hx2 : run true y' n t2 h2 with
        | norm t3 h3 =>
          rw [hx2] at hI
          intro T3 H3 hT3 hH3
          exact ok_nil ⟨h3, hH3, hI⟩
        | exit id t3 h3 =>
          rw [hx2] at hI
          intro T3 H3 hT3 hH3
          exact ok_exit (hI T H3 hT hH3)
        | ret t3 h3 =>
          rw [hx2] at hI
          intro T3 H3 hT3 hH3
          exact ok_ret (hI T H3 hT hH3)
        | fail => rw [hx2] at hI; exact hI.elim
      | exit id t2 h2 => rw [hx1] at hI; exact hI.elim
      | ret t2 h2 => rw [hx1] at hI; exact hI.elim
      | fail => rw [hx1] at hI; exact hI.elim
    · exact hI.elim
  · obtain ⟨h', hH', hI⟩ := hI
    rw [List.drop_length] at hI
    exact hI T H' hT hH'

theorem yrun_ok (ht : tb.All (YEOk P)) (hm : P.follows .mixedOrders = true) (m : Nat) : YRunOk P (yrun tb m) := by
  induction m using Nat.strongRecOn with
  | _ m ih =>
    intro E n0 N Q k rnd c c' n t T h H hlow hN hT hH hk
    cases m with
    | zero => exact hk.elim
    | succ m =>
      have ihn := ih m (Nat.lt_succ_self m)
      have hrep := yrun_rep (tb := tb) m
      have hcl := ycall_ok ht ihn hrep E
      have hk : yk P E n0 N Q k n (ystep tb (yrun tb m) rnd c' n t h) := hk
      cases hlow with
      | skip => exact ok_skip (hk T H hT hH)
      | @reg l =>
        have hk : yk P E n0 N Q k n (yoX (crun (ycall tb (yrun tb m)) (ccomp n l) t h)) := hk
        rw [crun_eq] at hk
        cases hx : yops (ycall tb (yrun tb m)) l n t h with
        | none => rw [hx] at hk; exact hk.elim
        | some r =>
          obtain ⟨t', h'⟩ := r
          rw [hx] at hk
          obtain ⟨T', H', a, b, hrun⟩ := yops_ok hcl l hT hH hx
          exact ok_reg (runs_ok hrun (hk T' H' a b))
      | @fast l es hf =>
        have hk : yk P E n0 N Q k n (yoX (crun (ycall tb (yrun tb m)) (ccomp n l) t h)) := hk
        rw [crun_eq] at hk
        cases hx : yops (ycall tb (yrun tb m)) l n t h with
        | none => rw [hx] at hk; exact hk.elim
        | some r =>
          obtain ⟨t', h'⟩ := r
          rw [hx] at hk
          obtain ⟨T', H', a, b, hrun⟩ := yops_ok hcl l hT hH hx
          exact runs_dreg hrun hf hm (hk T' H' a b)
      | @dreg l es =>
        have hk : yk P E n0 N Q k n (ydreg tb (yrun tb m) l es n t h) := hk
        unfold ydreg at hk
        rw [hT.toL, hH.toL] at hk
        split at hk
        · rename_i T' H' hx
          refine xdreg_sound (ycl_ok hcl) hm hx ?_
          unfold ynorm at hk
          split at hk
          · rename_i t2 h2 e1 e2
            exact hk T' H' (ofLT_ok hT.le e1) (RepH.ofL e2)
          · exact hk.elim
        · exact hk.elim
      | @seq a b a' b' ha hb =>
        have hk : yk P E n0 N Q k n (yseqX (yrun tb m rnd b' n) (yrun tb m rnd a' n t h)) := hk
        refine ok_seq (ihn E n0 N Q _ rnd a a' n t T h H ha hN hT hH ?_)
        cases hx : yrun tb m rnd a' n t h with
        | norm t' h' =>
          rw [hx] at hk
          intro T' H' hT' hH'
          exact ihn E n0 N Q k rnd b b' n t' T' h' H' hb hN hT' hH' hk
        | exit id t' h' => rw [hx] at hk; exact hk
        | ret t' h' => rw [hx] at hk; exact hk
        | fail => rw [hx] at hk; exact hk
      | @cond i a b a' b' ha hb =>
        have hk : yk P E n0 N Q k n (ycond (yrun tb m) rnd i a' b' n t h) := hk
        unfold ycond at hk
        rw [yget_eq hT] at hk
        split at hk
        · rename_i x hi
          cases x with
          | true => exact ok_cond hi (ihn E n0 N Q k rnd a a' n t T h H ha hN hT hH hk)
          | false => exact ok_cond hi (ihn E n0 N Q k rnd b b' n t T h H hb hN hT hH hk)
        · exact hk.elim
      | @block id a a' ha =>
        have hk : yk P E n0 N Q k n (yblockX id (yrun tb m rnd a' n t h)) := hk
        refine ok_block (ihn E n0 N Q _ rnd a a' n t T h H ha hN hT hH ?_)
        cases hx : yrun tb m rnd a' n t h with
        | norm t' h' =>
          rw [hx] at hk
          intro T' H' hT' hH'
          exact ok_blk (hk T' H' hT' hH')
        | exit id' t' h' =>
          rw [hx] at hk
          intro T' H' hT' hH'
          have hk : yk P E n0 N Q k n (cond (Nat.beq id' id) (.norm t' h') (.exit id' t' h')) := hk
          simp only [xexit]
          by_cases he : id = id'
          · subst he
            rw [beq_t rfl] at hk
            simp only [if_true]
            exact hk T' H' hT' hH'
          · rw [beq_f (fun e => he e.symm)] at hk
            rw [if_neg he]
            exact hk T' H' hT' hH'
        | ret t' h' => rw [hx] at hk; exact hk
        | fail => rw [hx] at hk; exact hk.elim
      | @loop a a' ha =>
        refine ok_loop (σ := Nat) (fun j T H => j ≤ m + 1 ∧ ∃ t h, RepT n t T ∧ RepH h H ∧ yk P E n0 N Q k n (yrun tb j rnd (.loop a') n t h)) id (m + 1) ⟨Nat.le_refl _, t, h, hT, hH, hk⟩ fun j T H ⟨hjm, t, h, hT, hH, hI⟩ => ?_
        cases j with
        | zero => exact hI.elim
        | succ j =>
          have hI : yk P E n0 N Q k n (yseqX (yrun tb j rnd (.loop a') n) (yrun tb j rnd a' n t h)) := hI
          refine ih j (by omega) E n0 N _ [] rnd a a' n t T h H ha hN hT hH ?_
          cases hx : yrun tb j rnd a' n t h with
          | norm t' h' =>
            rw [hx] at hI
            intro T' H' hT' hH'
            exact ok_nil ⟨j, ⟨by omega, t', h', hT', hH', hI⟩, Nat.lt_succ_self j⟩
          | exit id t' h' => rw [hx] at hI; exact hI
          | ret t' h' => rw [hx] at hI; exact hI
          | fail => rw [hx] at hI; exact hI.elim
      | @rfunc f ps x y x' y' ha hb =>
        have hk : yk P E n0 N Q k n (yrfunc tb (yrun tb m) rnd f ps x' y' n t h) := hk
        unfold yrfunc at hk
        cases rnd with
        | true => exact hk.elim
        | false =>
          simp only [cond_false] at hk
          rw [hT.toL, hH.toL] at hk
          split at hk
          · rename_i T2 H2 hfz
            refine xfz_ok 50 T H T2 H2 hfz ?_
            unfold yrfunc2 at hk
            split at hk
            · rename_i g l1 l2 hf
              split at hk
              · rename_i xs hxs
                cases hc : (and (closedL l1) (and (closedL l2) (xs.all fun c => Nat.beq c.length ps.length))) with
                | false => rw [hc] at hk; exact hk.elim
                | true =>
                  rw [hc] at hk
                  simp only [cond_true] at hk
                  rw [Bool.and_eq_true, Bool.and_eq_true, List.all_eq_true] at hc
                  unfold yiter at hxs
                  split at hxs
                  · rename_i hh hF
                    obtain ⟨h1, h2⟩ := ht.get hF
                    split at hk
                    · rename_i t3 h3 e1 e2
                      exact yrounds_ok ihn hrep ha hb (ofLT_ok hT.le e1) (RepH.ofL e2) (hN rfl) hf hc.1 hc.2.1 h1 (h2 l1 l2 xs hc.1 hc.2.1 hxs) (fun c hcx => Nat.eq_of_beq_eq_true (hc.2.2 c hcx)) hk
                    · exact hk.elim
                  · cases hxs
              · exact hk.elim
            · exact hk.elim
          · exact hk.elim
      | exit =>
        refine ok_exit ?_
        exact hk T H hT hH
      | ret => exact ok_ret (hk T H hT hH)
      | bad => exact hk.elim

/-- A CLOSED CALL, BY ITS RUN. -/
theorem yfn_sound (ht : tb.All (YEOk P)) (hm : P.follows .mixedOrders = true) {m f : Nat} {args : List CV} {v : CV} (h : yfn tb m f args = some v) (ha : closedL args = true) (hv : v.closed = true) : Fn P f args v := by
  unfold yfn at h
  split at h
  · rename_i v' h' hc
    simp only [Option.some.injEq] at h
    subst h
    obtain ⟨H', _, _, h2⟩ := ycall_ok ht (yrun_ok ht hm m) (yrun_rep m) Env.none f args emptyH _ _ hc [] rep_emptyH
    exact fn_of (h2.mono fun v' H2 hh => hh.1) ha hv
  · cases h

end
end Go.Cm
end
