/-
  The framework Cm, part YA: closed runs, made for the kernel: tries for the slots and for the heap; each operation a small function. Conditions: none.
-/
import Derived.Test.YtghkeneolbkliaaGreatDoorGm3
set_option linter.unusedSimpArgs false
set_option linter.unusedVariables false

section
namespace Go.Cm

/-! ### Rows of sixteen -/

inductive D16 where
  | d0
  | d1
  | d2
  | d3
  | d4
  | d5
  | d6
  | d7
  | d8
  | d9
  | d10
  | d11
  | d12
  | d13
  | d14
  | d15
  deriving DecidableEq

structure R16 (α : Type) where
  a0 : α
  a1 : α
  a2 : α
  a3 : α
  a4 : α
  a5 : α
  a6 : α
  a7 : α
  a8 : α
  a9 : α
  a10 : α
  a11 : α
  a12 : α
  a13 : α
  a14 : α
  a15 : α

noncomputable def dg0x2 (n : Nat) : D16 := Bool.rec (motive := fun _ => D16) .d0 .d1 (Nat.ble 1 n)
noncomputable def dg2x4 (n : Nat) : D16 := Bool.rec (motive := fun _ => D16) .d2 .d3 (Nat.ble 3 n)
noncomputable def dg0x4 (n : Nat) : D16 := Bool.rec (motive := fun _ => D16) (dg0x2 n) (dg2x4 n) (Nat.ble 2 n)
noncomputable def dg4x6 (n : Nat) : D16 := Bool.rec (motive := fun _ => D16) .d4 .d5 (Nat.ble 5 n)
noncomputable def dg6x8 (n : Nat) : D16 := Bool.rec (motive := fun _ => D16) .d6 .d7 (Nat.ble 7 n)
noncomputable def dg4x8 (n : Nat) : D16 := Bool.rec (motive := fun _ => D16) (dg4x6 n) (dg6x8 n) (Nat.ble 6 n)
noncomputable def dg0x8 (n : Nat) : D16 := Bool.rec (motive := fun _ => D16) (dg0x4 n) (dg4x8 n) (Nat.ble 4 n)
noncomputable def dg8x10 (n : Nat) : D16 := Bool.rec (motive := fun _ => D16) .d8 .d9 (Nat.ble 9 n)
noncomputable def dg10x12 (n : Nat) : D16 := Bool.rec (motive := fun _ => D16) .d10 .d11 (Nat.ble 11 n)
noncomputable def dg8x12 (n : Nat) : D16 := Bool.rec (motive := fun _ => D16) (dg8x10 n) (dg10x12 n) (Nat.ble 10 n)
noncomputable def dg12x14 (n : Nat) : D16 := Bool.rec (motive := fun _ => D16) .d12 .d13 (Nat.ble 13 n)
noncomputable def dg14x16 (n : Nat) : D16 := Bool.rec (motive := fun _ => D16) .d14 .d15 (Nat.ble 15 n)
noncomputable def dg12x16 (n : Nat) : D16 := Bool.rec (motive := fun _ => D16) (dg12x14 n) (dg14x16 n) (Nat.ble 14 n)
noncomputable def dg8x16 (n : Nat) : D16 := Bool.rec (motive := fun _ => D16) (dg8x12 n) (dg12x16 n) (Nat.ble 12 n)
noncomputable def dg0x16 (n : Nat) : D16 := Bool.rec (motive := fun _ => D16) (dg0x8 n) (dg8x16 n) (Nat.ble 8 n)
noncomputable abbrev digit (n : Nat) : D16 := dg0x16 n

def D16.num (d : D16) : Nat := match d with
  | .d0 => 0
  | .d1 => 1
  | .d2 => 2
  | .d3 => 3
  | .d4 => 4
  | .d5 => 5
  | .d6 => 6
  | .d7 => 7
  | .d8 => 8
  | .d9 => 9
  | .d10 => 10
  | .d11 => 11
  | .d12 => 12
  | .d13 => 13
  | .d14 => 14
  | .d15 => 15

theorem num_digit {n : Nat} (h : n < 16) : (digit n).num = n := by
  have : ∀ n, n < 16 → (digit n).num = n := by decide +kernel
  exact this n h

theorem digit_inj {m n : Nat} (hm : m < 16) (hn : n < 16) (h : digit m = digit n) : m = n := by
  rw [← num_digit hm, ← num_digit hn, h]

noncomputable def R16.g0 {α : Type} (r : R16 α) : α := r.a0
noncomputable def R16.g1 {α : Type} (r : R16 α) : α := r.a1
noncomputable def R16.g2 {α : Type} (r : R16 α) : α := r.a2
noncomputable def R16.g3 {α : Type} (r : R16 α) : α := r.a3
noncomputable def R16.g4 {α : Type} (r : R16 α) : α := r.a4
noncomputable def R16.g5 {α : Type} (r : R16 α) : α := r.a5
noncomputable def R16.g6 {α : Type} (r : R16 α) : α := r.a6
noncomputable def R16.g7 {α : Type} (r : R16 α) : α := r.a7
noncomputable def R16.g8 {α : Type} (r : R16 α) : α := r.a8
noncomputable def R16.g9 {α : Type} (r : R16 α) : α := r.a9
noncomputable def R16.g10 {α : Type} (r : R16 α) : α := r.a10
noncomputable def R16.g11 {α : Type} (r : R16 α) : α := r.a11
noncomputable def R16.g12 {α : Type} (r : R16 α) : α := r.a12
noncomputable def R16.g13 {α : Type} (r : R16 α) : α := r.a13
noncomputable def R16.g14 {α : Type} (r : R16 α) : α := r.a14
noncomputable def R16.g15 {α : Type} (r : R16 α) : α := r.a15
noncomputable def R16.s0 {α : Type} (v : α) (r : R16 α) : R16 α := R16.rec (motive := fun _ => R16 α) (fun a0 a1 a2 a3 a4 a5 a6 a7 a8 a9 a10 a11 a12 a13 a14 a15 => .mk v a1 a2 a3 a4 a5 a6 a7 a8 a9 a10 a11 a12 a13 a14 a15) r
noncomputable def R16.s1 {α : Type} (v : α) (r : R16 α) : R16 α := R16.rec (motive := fun _ => R16 α) (fun a0 a1 a2 a3 a4 a5 a6 a7 a8 a9 a10 a11 a12 a13 a14 a15 => .mk a0 v a2 a3 a4 a5 a6 a7 a8 a9 a10 a11 a12 a13 a14 a15) r
noncomputable def R16.s2 {α : Type} (v : α) (r : R16 α) : R16 α := R16.rec (motive := fun _ => R16 α) (fun a0 a1 a2 a3 a4 a5 a6 a7 a8 a9 a10 a11 a12 a13 a14 a15 => .mk a0 a1 v a3 a4 a5 a6 a7 a8 a9 a10 a11 a12 a13 a14 a15) r
noncomputable def R16.s3 {α : Type} (v : α) (r : R16 α) : R16 α := R16.rec (motive := fun _ => R16 α) (fun a0 a1 a2 a3 a4 a5 a6 a7 a8 a9 a10 a11 a12 a13 a14 a15 => .mk a0 a1 a2 v a4 a5 a6 a7 a8 a9 a10 a11 a12 a13 a14 a15) r
noncomputable def R16.s4 {α : Type} (v : α) (r : R16 α) : R16 α := R16.rec (motive := fun _ => R16 α) (fun a0 a1 a2 a3 a4 a5 a6 a7 a8 a9 a10 a11 a12 a13 a14 a15 => .mk a0 a1 a2 a3 v a5 a6 a7 a8 a9 a10 a11 a12 a13 a14 a15) r
noncomputable def R16.s5 {α : Type} (v : α) (r : R16 α) : R16 α := R16.rec (motive := fun _ => R16 α) (fun a0 a1 a2 a3 a4 a5 a6 a7 a8 a9 a10 a11 a12 a13 a14 a15 => .mk a0 a1 a2 a3 a4 v a6 a7 a8 a9 a10 a11 a12 a13 a14 a15) r
noncomputable def R16.s6 {α : Type} (v : α) (r : R16 α) : R16 α := R16.rec (motive := fun _ => R16 α) (fun a0 a1 a2 a3 a4 a5 a6 a7 a8 a9 a10 a11 a12 a13 a14 a15 => .mk a0 a1 a2 a3 a4 a5 v a7 a8 a9 a10 a11 a12 a13 a14 a15) r
noncomputable def R16.s7 {α : Type} (v : α) (r : R16 α) : R16 α := R16.rec (motive := fun _ => R16 α) (fun a0 a1 a2 a3 a4 a5 a6 a7 a8 a9 a10 a11 a12 a13 a14 a15 => .mk a0 a1 a2 a3 a4 a5 a6 v a8 a9 a10 a11 a12 a13 a14 a15) r
noncomputable def R16.s8 {α : Type} (v : α) (r : R16 α) : R16 α := R16.rec (motive := fun _ => R16 α) (fun a0 a1 a2 a3 a4 a5 a6 a7 a8 a9 a10 a11 a12 a13 a14 a15 => .mk a0 a1 a2 a3 a4 a5 a6 a7 v a9 a10 a11 a12 a13 a14 a15) r
noncomputable def R16.s9 {α : Type} (v : α) (r : R16 α) : R16 α := R16.rec (motive := fun _ => R16 α) (fun a0 a1 a2 a3 a4 a5 a6 a7 a8 a9 a10 a11 a12 a13 a14 a15 => .mk a0 a1 a2 a3 a4 a5 a6 a7 a8 v a10 a11 a12 a13 a14 a15) r
noncomputable def R16.s10 {α : Type} (v : α) (r : R16 α) : R16 α := R16.rec (motive := fun _ => R16 α) (fun a0 a1 a2 a3 a4 a5 a6 a7 a8 a9 a10 a11 a12 a13 a14 a15 => .mk a0 a1 a2 a3 a4 a5 a6 a7 a8 a9 v a11 a12 a13 a14 a15) r
noncomputable def R16.s11 {α : Type} (v : α) (r : R16 α) : R16 α := R16.rec (motive := fun _ => R16 α) (fun a0 a1 a2 a3 a4 a5 a6 a7 a8 a9 a10 a11 a12 a13 a14 a15 => .mk a0 a1 a2 a3 a4 a5 a6 a7 a8 a9 a10 v a12 a13 a14 a15) r
noncomputable def R16.s12 {α : Type} (v : α) (r : R16 α) : R16 α := R16.rec (motive := fun _ => R16 α) (fun a0 a1 a2 a3 a4 a5 a6 a7 a8 a9 a10 a11 a12 a13 a14 a15 => .mk a0 a1 a2 a3 a4 a5 a6 a7 a8 a9 a10 a11 v a13 a14 a15) r
noncomputable def R16.s13 {α : Type} (v : α) (r : R16 α) : R16 α := R16.rec (motive := fun _ => R16 α) (fun a0 a1 a2 a3 a4 a5 a6 a7 a8 a9 a10 a11 a12 a13 a14 a15 => .mk a0 a1 a2 a3 a4 a5 a6 a7 a8 a9 a10 a11 a12 v a14 a15) r
noncomputable def R16.s14 {α : Type} (v : α) (r : R16 α) : R16 α := R16.rec (motive := fun _ => R16 α) (fun a0 a1 a2 a3 a4 a5 a6 a7 a8 a9 a10 a11 a12 a13 a14 a15 => .mk a0 a1 a2 a3 a4 a5 a6 a7 a8 a9 a10 a11 a12 a13 v a15) r
noncomputable def R16.s15 {α : Type} (v : α) (r : R16 α) : R16 α := R16.rec (motive := fun _ => R16 α) (fun a0 a1 a2 a3 a4 a5 a6 a7 a8 a9 a10 a11 a12 a13 a14 a15 => .mk a0 a1 a2 a3 a4 a5 a6 a7 a8 a9 a10 a11 a12 a13 a14 v) r

noncomputable def pick {α : Type} (d : D16) : R16 α → α := D16.rec (motive := fun _ => R16 α → α) R16.g0 R16.g1 R16.g2 R16.g3 R16.g4 R16.g5 R16.g6 R16.g7 R16.g8 R16.g9 R16.g10 R16.g11 R16.g12 R16.g13 R16.g14 R16.g15 d
noncomputable def put16 {α : Type} (d : D16) : α → R16 α → R16 α := D16.rec (motive := fun _ => α → R16 α → R16 α) R16.s0 R16.s1 R16.s2 R16.s3 R16.s4 R16.s5 R16.s6 R16.s7 R16.s8 R16.s9 R16.s10 R16.s11 R16.s12 R16.s13 R16.s14 R16.s15 d
noncomputable def all16 {α : Type} (a : α) : R16 α := .mk a a a a a a a a a a a a a a a a

theorem pick_put {α : Type} (d d' : D16) (v : α) (r : R16 α) : pick d (put16 d' v r) = if d = d' then v else pick d r := by
  cases r
  cases d' <;> cases d <;> rfl

theorem pick_all {α : Type} (d : D16) (a : α) : pick d (all16 a) = a := by cases d <;> rfl

noncomputable def R16.l {α : Type} (r : R16 α) : List α := [r.a0, r.a1, r.a2, r.a3, r.a4, r.a5, r.a6, r.a7, r.a8, r.a9, r.a10, r.a11, r.a12, r.a13, r.a14, r.a15]
theorem l_get {α : Type} (r : R16 α) {i : Nat} (h : i < 16) : r.l[i]? = some (pick (digit i) r) := by
  cases r
  rcases i with _ | _ | _ | _ | _ | _ | _ | _ | _ | _ | _ | _ | _ | _ | _ | _ | i
  all_goals first | rfl | omega

noncomputable def appR {β : Type} (x y : List β) : List β := List.rec (motive := fun _ => List β) y (fun a _ ih => a :: ih) x
/-- One row behind the other. -/
noncomputable def catR {α β : Type} (f : α → List β) (l : List α) : List β := List.rec (motive := fun _ => List β) [] (fun a _ ih => appR (f a) ih) l

theorem appR_eq {β : Type} (x y : List β) : appR x y = x ++ y := by
  induction x with
  | nil => rfl
  | cons a x ih =>
    show a :: appR x y = _
    rw [ih]; rfl

theorem catR_get {α β : Type} {f : α → List β} {w : Nat} (hw : 0 < w) (hf : ∀ a, (f a).length = w) : ∀ (l : List α) (i : Nat), (catR f l)[i]? = (l[i / w]?).bind fun a => (f a)[i % w]?
  | [], i => by
    show ([] : List β)[i]? = _
    simp
  | a :: l, i => by
    show (appR (f a) (catR f l))[i]? = _
    rw [appR_eq]
    by_cases h : i < w
    · rw [List.getElem?_append_left (by rw [hf]; exact h), Nat.div_eq_of_lt h, Nat.mod_eq_of_lt h]; rfl
    · rw [List.getElem?_append_right (by rw [hf]; omega), hf, catR_get hw hf l]
      have e1 : i / w = (i - w) / w + 1 := by
        have : i = (i - w) + w := by omega
        rw [this, Nat.add_div_right _ hw, Nat.add_sub_cancel]
      have e2 : i % w = (i - w) % w := by
        have : i = (i - w) + w := by omega
        rw [this, Nat.add_mod_right, Nat.add_sub_cancel]
      rw [e1, e2]; rfl

theorem catR_len {α β : Type} {f : α → List β} {w : Nat} (hf : ∀ a, (f a).length = w) : ∀ (l : List α), (catR f l).length = l.length * w
  | [] => by simp [catR]
  | a :: l => by
    show (appR (f a) (catR f l)).length = _
    rw [appR_eq, List.length_append, hf, catR_len hf l, List.length_cons, Nat.succ_mul, Nat.add_comm]

noncomputable def R16.l2 {α : Type} (r : R16 (R16 α)) : List α := catR R16.l r.l
noncomputable def R16.l3 {α : Type} (r : R16 (R16 (R16 α))) : List α := catR R16.l2 r.l

theorem l2_get {α : Type} (r : R16 (R16 α)) {i : Nat} (h : i < 256) : r.l2[i]? = some (pick (digit (i % 16)) (pick (digit (i / 16)) r)) := by
  unfold R16.l2
  rw [catR_get (w := 16) (by omega) (fun a => (rfl : (R16.l a).length = 16)), l_get r (by omega)]
  exact l_get _ (by omega)

theorem l_len {α : Type} (r : R16 α) : r.l.length = 16 := rfl
theorem l2_len {α : Type} (r : R16 (R16 α)) : r.l2.length = 256 := by
  unfold R16.l2
  rw [catR_len (w := 16) l_len, l_len]

theorem l3_get {α : Type} (r : R16 (R16 (R16 α))) {i : Nat} (h : i < 4096) : r.l3[i]? = some (pick (digit (i % 256 % 16)) (pick (digit (i % 256 / 16)) (pick (digit (i / 256)) r))) := by
  unfold R16.l3
  rw [catR_get (w := 256) (by omega) l2_len, l_get r (by omega)]
  exact l2_get _ (by omega)

noncomputable def takeR {α β : Type} (f : α → β) (n : Nat) : List α → List β := Nat.rec (motive := fun _ => List α → List β) (fun _ => []) (fun _ ih l => List.rec (motive := fun _ => List β) [] (fun a l _ => f a :: ih l) l) n
theorem takeR_get {α β : Type} (f : α → β) : ∀ (n : Nat) (l : List α) (i : Nat), (takeR f n l)[i]? = if i < n then (l[i]?).map f else none
  | 0, l, i => by
    show ([] : List β)[i]? = _
    simp
  | n + 1, [], i => by
    show ([] : List β)[i]? = _
    simp
  | n + 1, a :: l, 0 => by
    show (f a :: takeR f n l)[0]? = _
    simp
  | n + 1, a :: l, i + 1 => by
    show (f a :: takeR f n l)[i + 1]? = _
    rw [List.getElem?_cons_succ, takeR_get f n l i]
    simp only [List.getElem?_cons_succ, Nat.add_lt_add_iff_right]

/-! Two of them: slots. -/
abbrev RV := R16 (R16 CV)

noncomputable def vpath (n : Nat) : Option (D16 × D16) := cond (Nat.ble (Nat.succ n) 256) (some (digit (Nat.div n 16), digit (Nat.mod n 16))) none
noncomputable def vgetP (t : RV) (p : D16 × D16) : CV := Prod.rec (motive := fun _ => CV) (fun a b => pick b (pick a t)) p
noncomputable def vget (t : RV) (n : Nat) : CV := Option.rec (motive := fun _ => CV) .un (fun p => vgetP t p) (vpath n)
noncomputable def vsetP (t : RV) (v : CV) (p : D16 × D16) : RV := Prod.rec (motive := fun _ => RV) (fun a b => put16 a (put16 b v (pick a t)) t) p
noncomputable def vset (t : RV) (n : Nat) (v : CV) : RV := Option.rec (motive := fun _ => RV) t (fun p => vsetP t v p) (vpath n)

theorem vpath_lt {n : Nat} (h : n < 256) : vpath n = some (digit (n / 16), digit (n % 16)) := by
  unfold vpath
  have : Nat.ble (Nat.succ n) 256 = true := Nat.ble_eq_true_of_le h
  rw [this]; rfl

theorem vpath_ge {n : Nat} (h : 256 ≤ n) : vpath n = none := by
  unfold vpath
  have : Nat.ble (Nat.succ n) 256 = false := by
    cases hb : Nat.ble (Nat.succ n) 256 with
    | false => rfl
    | true => have := Nat.le_of_ble_eq_true hb; omega
  rw [this]; rfl

theorem two_digits {m n : Nat} (hm : m < 256) (hn : n < 256) (h1 : digit (m / 16) = digit (n / 16)) (h2 : digit (m % 16) = digit (n % 16)) : m = n := by
  have a := digit_inj (by omega) (by omega) h1
  have b := digit_inj (by omega) (by omega) h2
  omega

theorem vget_set {t : RV} {i : Nat} (hi : i < 256) (j : Nat) (v : CV) : vget (vset t i v) j = if j = i then v else vget t j := by
  unfold vset
  rw [vpath_lt hi]
  by_cases hj : j < 256
  · unfold vget
    rw [vpath_lt hj]
    show pick (digit (j % 16)) (pick (digit (j / 16)) (put16 (digit (i / 16)) (put16 (digit (i % 16)) v (pick (digit (i / 16)) t)) t)) = if j = i then v else pick (digit (j % 16)) (pick (digit (j / 16)) t)
    rw [pick_put]
    by_cases h1 : digit (j / 16) = digit (i / 16)
    · rw [if_pos h1, pick_put]
      by_cases h2 : digit (j % 16) = digit (i % 16)
      · rw [if_pos h2, if_pos (two_digits hj hi h1 h2)]
      · rw [if_neg h2, if_neg (fun e => h2 (by rw [e])), h1]
    · rw [if_neg h1, if_neg (fun e => h1 (by rw [e]))]
  · unfold vget
    rw [vpath_ge (by omega)]
    rw [if_neg (by omega)]

/-! Three of them: the heap. -/
abbrev RH := R16 (R16 (R16 (Option CObj)))

noncomputable def hget2 (t : R16 (R16 (Option CObj))) (n : Nat) : Option CObj := pick (digit (Nat.mod n 16)) (pick (digit (Nat.div n 16)) t)
noncomputable def hset2 (t : R16 (R16 (Option CObj))) (n : Nat) (o : CObj) : R16 (R16 (Option CObj)) := put16 (digit (Nat.div n 16)) (put16 (digit (Nat.mod n 16)) (some o) (pick (digit (Nat.div n 16)) t)) t
noncomputable def hget (t : RH) (n : Nat) : Option CObj := cond (Nat.ble n 4095) (hget2 (pick (digit (Nat.div n 256)) t) (Nat.mod n 256)) none
noncomputable def hset (t : RH) (n : Nat) (o : CObj) : RH := put16 (digit (Nat.div n 256)) (hset2 (pick (digit (Nat.div n 256)) t) (Nat.mod n 256) o) t

theorem hget2_set {t : R16 (R16 (Option CObj))} {i j : Nat} (hi : i < 256) (hj : j < 256) (o : CObj) : hget2 (hset2 t i o) j = if j = i then some o else hget2 t j := by
  show pick (digit (j % 16)) (pick (digit (j / 16)) (put16 (digit (i / 16)) (put16 (digit (i % 16)) (some o) (pick (digit (i / 16)) t)) t)) = if j = i then some o else pick (digit (j % 16)) (pick (digit (j / 16)) t)
  rw [pick_put]
  by_cases h1 : digit (j / 16) = digit (i / 16)
  · rw [if_pos h1, pick_put]
    by_cases h2 : digit (j % 16) = digit (i % 16)
    · rw [if_pos h2, if_pos (two_digits hj hi h1 h2)]
    · rw [if_neg h2, if_neg (fun e => h2 (by rw [e])), h1]
  · rw [if_neg h1, if_neg (fun e => h1 (by rw [e]))]

theorem hget_set {t : RH} {i : Nat} (hi : i ≤ 4095) (j : Nat) (o : CObj) : hget (hset t i o) j = if j = i then some o else hget t j := by
  unfold hget
  by_cases hj : j ≤ 4095
  · have e : Nat.ble j 4095 = true := Nat.ble_eq_true_of_le hj
    rw [e]
    show hget2 (pick (digit (j / 256)) (put16 (digit (i / 256)) (hset2 (pick (digit (i / 256)) t) (i % 256) o) t)) (j % 256) = if j = i then some o else hget2 (pick (digit (j / 256)) t) (j % 256)
    rw [pick_put]
    by_cases h1 : digit (j / 256) = digit (i / 256)
    · rw [if_pos h1, hget2_set (by omega) (by omega)]
      have h3 := digit_inj (by omega) (by omega) h1
      by_cases h2 : j % 256 = i % 256
      · rw [if_pos h2, if_pos (by omega)]
      · rw [if_neg h2, if_neg (fun e => h2 (by rw [e])), h1]
    · rw [if_neg h1, if_neg (fun e => h1 (by rw [e]))]
  · have e : Nat.ble j 4095 = false := by
      cases hb : Nat.ble j 4095 with
      | false => rfl
      | true => have := Nat.le_of_ble_eq_true hb; omega
    rw [e, if_neg (by omega)]; rfl

theorem beq_t {a b : Nat} (h : a = b) : Nat.beq a b = true := by subst h; exact Nat.beq_refl a
theorem beq_f {a b : Nat} (h : a ≠ b) : Nat.beq a b = false := by
  cases hb : Nat.beq a b with
  | false => rfl
  | true => exact absurd (Nat.eq_of_beq_eq_true hb) h

/-! ### Slots and heap -/

structure RepT (n : Nat) (t : RV) (T : List CV) : Prop where
  len : T.length = n
  le : n ≤ 255
  get : ∀ i, vget t i = T.getD i .un

structure HP where
  t : RH
  n : Nat

structure RepH (h : HP) (H : List CObj) : Prop where
  len : h.n = H.length
  le : h.n ≤ 2047
  get : ∀ i, hget h.t i = H[i]?

noncomputable def yget (t : RV) (a : IArg) : CV := IArg.rec (motive := fun _ => CV) (fun n => vget t n) (fun v => v) a

theorem yget_eq {n : Nat} {t : RV} {T : List CV} (h : RepT n t T) (a : IArg) : yget t a = aget T a := by
  cases a with
  | c v => rfl
  | s i => exact h.get i

noncomputable def emptyT : RV := all16 (all16 .un)
noncomputable def emptyH : HP := ⟨all16 (all16 (all16 none)), 0⟩

theorem rep_emptyH : RepH emptyH [] := ⟨rfl, Nat.zero_le _, fun i => by
  show cond (Nat.ble i 4095) (pick (digit (i % 256 % 16)) (pick (digit (i % 256 / 16)) (pick (digit (i / 256)) (all16 (all16 (all16 none)))))) none = _
  rw [pick_all, pick_all, pick_all]
  cases Nat.ble i 4095 <;> rfl⟩

theorem rep_emptyT {n : Nat} (h : n ≤ 255) : RepT n emptyT (List.replicate n .un) := ⟨by simp, h, fun i => by
  have e : vget emptyT i = .un := by
    unfold vget
    cases vpath i with
    | none => rfl
    | some p =>
      show pick p.2 (pick p.1 (all16 (all16 CV.un))) = _
      rw [pick_all, pick_all]
  rw [e]
  simp only [List.getD_eq_getElem?_getD, List.getElem?_replicate]
  split <;> rfl⟩

theorem RepT.set {n : Nat} {t : RV} {T : List CV} (h : RepT n t T) {d : Nat} (hd : d < n) (v : CV) : RepT n (vset t d v) (T.set d v) where
  len := by simp [h.len]
  le := h.le
  get i := by
    rw [vget_set (by have := h.le; omega) i v]
    simp only [List.getD_eq_getElem?_getD, List.getElem?_set]
    by_cases e : i = d
    · subst e; rw [if_pos rfl, if_pos rfl, if_pos (by rw [h.len]; exact hd)]; rfl
    · rw [if_neg e, if_neg (fun h => e h.symm), h.get i, List.getD_eq_getElem?_getD]

theorem RepH.set {h : HP} {H : List CObj} (hr : RepH h H) {i : Nat} (hi : i < H.length) (o : CObj) : RepH ⟨hset h.t i o, h.n⟩ (H.set i o) where
  len := by simp [hr.len]
  le := hr.le
  get j := by
    rw [hget_set (by have := hr.le; have := hr.len; omega) j o, List.getElem?_set]
    by_cases e : j = i
    · subst e; rw [if_pos rfl, if_pos rfl, if_pos hi]
    · rw [if_neg e, if_neg (fun h => e h.symm), hr.get j]

theorem RepH.push {h : HP} {H : List CObj} (hr : RepH h H) (hn : h.n + 1 ≤ 2046) (o : CObj) : RepH ⟨hset h.t h.n o, h.n + 1⟩ (H ++ [o]) where
  len := by simp [hr.len]
  le := by show h.n + 1 ≤ 2047; omega
  get j := by
    rw [hget_set (by omega) j o]
    have := hr.len
    by_cases e : j = h.n
    · subst e; rw [if_pos rfl, this]; simp
    · rw [if_neg e, hr.get j]
      by_cases hlt : j < H.length
      · rw [List.getElem?_append_left hlt]
      · rw [List.getElem?_eq_none (by omega), List.getElem?_eq_none (by simp; omega)]

theorem RepH.lt {h : HP} {H : List CObj} (hr : RepH h H) {i : Nat} {o : CObj} (hg : hget h.t i = some o) : i < H.length := by
  rw [hr.get] at hg; exact (List.getElem?_eq_some_iff.1 hg).1

/-! Back and forth to lists. -/
noncomputable def orDead (o : Option CObj) : CObj := Option.rec (motive := fun _ => CObj) .dead (fun o => o) o
noncomputable def HP.toL (h : HP) : List CObj := takeR orDead h.n h.t.l3

theorem RepH.toL {h : HP} {H : List CObj} (hr : RepH h H) : h.toL = H := by
  refine List.ext_getElem? fun i => ?_
  have hle := hr.le
  have hlen := hr.len
  unfold HP.toL
  rw [takeR_get]
  by_cases hi : i < h.n
  · rw [if_pos hi, l3_get _ (by omega)]
    have hg := hr.get i
    have e : Nat.ble i 4095 = true := Nat.ble_eq_true_of_le (by omega)
    have e2 : hget h.t i = pick (digit (i % 256 % 16)) (pick (digit (i % 256 / 16)) (pick (digit (i / 256)) h.t)) := by
      unfold hget
      rw [e]; rfl
    rw [← e2, hg]
    rw [List.getElem?_eq_getElem (by omega)]; rfl
  · rw [if_neg hi, List.getElem?_eq_none (by omega)]

noncomputable def HP.push (h : HP) (o : CObj) : HP := ⟨hset h.t h.n o, Nat.succ h.n⟩
noncomputable def HP.addL (l : List CObj) : HP → HP := List.rec (motive := fun _ => HP → HP) (fun h => h) (fun o _ ih h => ih (h.push o)) l
noncomputable def HP.ofL (l : List CObj) : Option HP := cond (Nat.ble l.length 2046) (some (HP.addL l emptyH)) none

theorem RepH.addL : ∀ (l : List CObj) {h : HP} {H : List CObj}, RepH h H → h.n + l.length ≤ 2046 → RepH (HP.addL l h) (H ++ l)
  | [], h, H, hr, _ => by rw [List.append_nil]; exact hr
  | o :: l, h, H, hr, hn => by
    have h1 : RepH (h.push o) (H ++ [o]) := hr.push (by simp at hn; omega) o
    have := RepH.addL l h1 (by show h.n + 1 + l.length ≤ 2046; simp at hn; omega)
    rw [List.append_assoc] at this
    exact this

theorem RepH.ofL {l : List CObj} {h : HP} (hh : HP.ofL l = some h) : RepH h l := by
  unfold HP.ofL at hh
  cases hb : Nat.ble l.length 2046 with
  | false => rw [hb] at hh; cases hh
  | true =>
    rw [hb] at hh
    simp only [cond_true, Option.some.injEq] at hh
    subst hh
    have := RepH.addL l rep_emptyH (by have := Nat.le_of_ble_eq_true hb; show 0 + l.length ≤ 2046; omega)
    simpa using this

noncomputable def idF (c : CV) : CV := c
noncomputable def toLT (n : Nat) (t : RV) : List CV := takeR idF n t.l2

theorem RepT.toL {n : Nat} {t : RV} {T : List CV} (hr : RepT n t T) : toLT n t = T := by
  refine List.ext_getElem? fun i => ?_
  have hle := hr.le
  have hlen := hr.len
  unfold toLT
  rw [takeR_get]
  by_cases hi : i < n
  · rw [if_pos hi, l2_get _ (by omega)]
    have hg := hr.get i
    have e2 : vget t i = pick (digit (i % 16)) (pick (digit (i / 16)) t) := by
      unfold vget
      rw [vpath_lt (by omega)]; rfl
    rw [← e2, hg, List.getD_eq_getElem?_getD, List.getElem?_eq_getElem (by omega)]; rfl
  · rw [if_neg hi, List.getElem?_eq_none (by omega)]

/-- Values put one after the other from a slot on. -/
noncomputable def addT (l : List CV) : Nat → RV → RV := List.rec (motive := fun _ => Nat → RV → RV) (fun _ t => t) (fun v _ ih i t => ih (Nat.succ i) (vset t i v)) l

theorem RepT.add : ∀ (l : List CV) {n i : Nat} {t : RV} {T1 T2 : List CV}, RepT n t (T1 ++ T2) → T1.length = i → i + l.length ≤ n → RepT n (addT l i t) (T1 ++ (l ++ T2.drop l.length))
  | [], n, i, t, T1, T2, h, _, _ => by
    show RepT n t _
    simpa using h
  | v :: l, n, i, t, T1, T2, h, hi, hn => by
    have hl := h.len
    simp only [List.length_cons] at hn
    have hs := h.set (d := i) (by omega) v
    have e : (T1 ++ T2).set i v = (T1 ++ [v]) ++ T2.drop 1 := by
      rw [List.set_append_right _ _ (by omega), show i - T1.length = 0 by omega]
      cases T2 with
      | nil => simp at hl; omega
      | cons a T2 => simp
    rw [e] at hs
    have := RepT.add l hs (i := i + 1) (by simp [hi]) (by omega)
    have e2 : (T1 ++ [v]) ++ (l ++ (T2.drop 1).drop l.length) = T1 ++ (v :: l ++ T2.drop (v :: l).length) := by simp [List.drop_drop, Nat.add_comm]
    rw [e2] at this
    exact this

theorem rep_init {args : List CV} {n : Nat} (h1 : args.length ≤ n) (h2 : n ≤ 255) : RepT n (addT args 0 emptyT) (args ++ List.replicate (n - args.length) .un) := by
  have h0 : RepT n emptyT ([] ++ List.replicate n .un) := by simpa using rep_emptyT h2
  have := RepT.add args h0 (i := 0) rfl (by omega)
  rwa [List.nil_append, List.drop_replicate] at this

/-! ### Small things -/

noncomputable def getL {α : Type} (l : List α) : Nat → Option α := List.rec (motive := fun _ => Nat → Option α) (fun _ => none) (fun a _ ih i => Nat.rec (motive := fun _ => Option α) (some a) (fun j _ => ih j) i) l

theorem getL_eq {α : Type} : ∀ (l : List α) (i : Nat), getL l i = l[i]?
  | [], _ => by simp only [List.getElem?_nil]; rfl
  | a :: l, 0 => by simp only [List.getElem?_cons_zero]; rfl
  | a :: l, i + 1 => by
    have : getL (a :: l) (i + 1) = getL l i := rfl
    rw [this, getL_eq l i]; simp

noncomputable def ilB (a b : Int) : Bool := Int.rec (motive := fun _ => Bool) (fun m => Int.rec (motive := fun _ => Bool) (fun n => Nat.ble m n) (fun _ => false) b) (fun m => Int.rec (motive := fun _ => Bool) (fun _ => true) (fun n => Nat.ble n m) b) a
noncomputable def ieB (a b : Int) : Bool := Int.rec (motive := fun _ => Bool) (fun m => Int.rec (motive := fun _ => Bool) (fun n => Nat.beq m n) (fun _ => false) b) (fun m => Int.rec (motive := fun _ => Bool) (fun _ => false) (fun n => Nat.beq m n) b) a

theorem ble_iff {m n : Nat} : Nat.ble m n = true ↔ m ≤ n := ⟨Nat.le_of_ble_eq_true, Nat.ble_eq_true_of_le⟩

theorem ilB_iff {a b : Int} : ilB a b = true ↔ a ≤ b := by
  cases a with
  | ofNat m => cases b with
    | ofNat n => show Nat.ble m n = true ↔ (m : Int) ≤ n; rw [ble_iff]; omega
    | negSucc n => show false = true ↔ (m : Int) ≤ Int.negSucc n; simp; omega
  | negSucc m => cases b with
    | ofNat n => show true = true ↔ Int.negSucc m ≤ (n : Int); simp only [true_iff]; exact Int.le_trans (Int.le_of_lt (Int.negSucc_lt_zero m)) (Int.natCast_nonneg n)
    | negSucc n => show Nat.ble n m = true ↔ Int.negSucc m ≤ Int.negSucc n; rw [ble_iff]; omega

theorem ieB_iff {a b : Int} : ieB a b = true ↔ a = b := by
  cases a with
  | ofNat m => cases b with
    | ofNat n => show Nat.beq m n = true ↔ (m : Int) = n; rw [Nat.beq_eq]; omega
    | negSucc n => show false = true ↔ (m : Int) = Int.negSucc n; simp
  | negSucc m => cases b with
    | ofNat n => show false = true ↔ Int.negSucc m = (n : Int); simp
    | negSucc n => show Nat.beq m n = true ↔ Int.negSucc m = Int.negSucc n; rw [Nat.beq_eq]; omega

theorem ilB_dec {a b : Int} : ilB a b = decide (a ≤ b) := by
  by_cases h : a ≤ b
  · rw [ilB_iff.2 h, decide_eq_true h]
  · rw [decide_eq_false h]; exact Bool.eq_false_iff.2 fun hh => h (ilB_iff.1 hh)
theorem ieB_dec {a b : Int} : ieB a b = (a == b) := by
  by_cases h : a = b
  · rw [ieB_iff.2 h]; simp [h]
  · have : (a == b) = false := by simpa using h
    rw [this]; exact Bool.eq_false_iff.2 fun hh => h (ieB_iff.1 hh)

noncomputable def rngB (k : IntKind) (n : Int) : Bool := and (ilB k.min n) (ilB n k.max)

/-- A condition, checked. -/
noncomputable def yck (c : Cond) : Bool :=
  Cond.rec (motive := fun _ => Bool) true (fun k n => rngB k n) (fun i n => Int.rec (motive := fun _ => Bool) (fun m => Nat.ble (Nat.succ m) n) (fun _ => false) i) (fun a b => ilB a b) (fun a b => Nat.ble a b) (fun n => not (ieB n 0)) (fun _ _ x y => and x y) c

theorem yck_ok : ∀ {c : Cond}, yck c = true → c.holds
  | .tt, _ => trivial
  | .rng k n, h => by
    have h : (ilB k.min n && ilB n k.max) = true := h
    simp only [Bool.and_eq_true, ilB_iff] at h
    exact ⟨h.1, h.2⟩
  | .idx i n, h => by
    cases i with
    | ofNat m =>
      have h : Nat.ble (m + 1) n = true := h
      have := ble_iff.1 h
      exact ⟨Int.natCast_nonneg m, by show (m : Int) < n; omega⟩
    | negSucc m => cases h
  | .ile a b, h => ilB_iff.1 h
  | .le a b, h => ble_iff.1 h
  | .nz n, h => by
    have h : (!ieB n 0) = true := h
    rw [Bool.not_eq_true'] at h
    exact fun e => by rw [ieB_iff.2 e] at h; cases h
  | .and a b, h => by
    have h : (yck a && yck b) = true := h
    simp only [Bool.and_eq_true] at h
    exact ⟨yck_ok h.1, yck_ok h.2⟩

/-! ### Operations -/

abbrev YR := Option (CV × HP)
abbrev YCall := Nat → List CV → HP → YR

noncomputable def ypush (h : HP) (o : CObj) (k : Nat → CV) : YR := cond (Nat.ble (Nat.succ h.n) 2046) (some (k h.n, ⟨hset h.t h.n o, Nat.succ h.n⟩)) none

/-- All constants: the slots' values in the place of the slots. -/
noncomputable def yc (t : RV) (a : IArg) : IArg := .c (yget t a)
noncomputable def ycO (t : RV) : Option IArg → Option IArg
  | none => none
  | some a => some (yc t a)

/-- A generic way through the lists. -/
noncomputable def ySlow (r : Option (Cond × CV × List CObj)) : YR :=
  match r with
  | some (c, v, H') => cond (yck c) (match HP.ofL H' with
    | some h' => some (v, h')
    | none => none) none
  | none => none

noncomputable def y_mv (a : IArg) (t : RV) (h : HP) : YR := some (yget t a, h)
noncomputable def y_pickV (c a b : CV) (h : HP) : YR := match c with
  | .bool x => some (cond x a b, h)
  | _ => none
noncomputable def y_pick (c a b : IArg) (t : RV) (h : HP) : YR := y_pickV (yget t c) (yget t a) (yget t b) h
noncomputable def y_alloc (z : List CV) (_ : RV) (h : HP) : YR := ypush h (.arr z.length [z]) fun id => .ptr id 0 0
noncomputable def y_box (a : IArg) (t : RV) (h : HP) : YR := match (yget t a).cells with
  | some l => cond (allOne l) (ypush h (.arr l.length [l]) fun id => .ptr id 0 0) none
  | none => none
noncomputable def y_build (z : List CV) (ps : List (Nat × Nat × IArg)) (t : RV) (h : HP) : YR := match fillParts [] z (ps.map fun p => (p.1, p.2.1, yc t p.2.2)) with
  | some l => some (.agg l, h)
  | none => none
noncomputable def y_bslice (z n : Nat) (zero : List CV) (ps : List (Nat × IArg)) (t : RV) (h : HP) : YR := match fillEls [] z (List.replicate n zero) (ps.map fun p => (p.1, yc t p.2)) with
  | some els => ypush h (.arr z els) fun id => .slc id 0 n (some n)
  | none => none
noncomputable def yldE (ag : Bool) (n off : Nat) (h : HP) : Option (List CV) → YR
  | some e => cond ag (cond (Nat.ble (off + n) e.length) (some (.agg ((e.drop off).take n), h)) none) (match getL e off with
    | some c => some (c, h)
    | none => none)
  | none => none
noncomputable def yldR (ag : Bool) (n : Nat) (cs : List CV) (h : HP) : YR := cond ag (cond (Nat.ble n cs.length) (some (.agg (cs.take n), h)) none) (match cs with
  | c :: _ => some (c, h)
  | [] => none)
noncomputable def y_loadV (ag : Bool) (n : Nat) (a : CV) (h : HP) : YR := match a with
  | .ptr id i off => match hget h.t id with
    | some (.arr _ els) => yldE ag n off h (getL els i)
    | _ => none
  | .rptr cs => yldR ag n cs h
  | _ => none
noncomputable def y_load (ag : Bool) (n : Nat) (a : IArg) (t : RV) (h : HP) : YR := y_loadV ag n (yget t a) h
noncomputable def ystE (n id i off z : Nat) (els : List (List CV)) (l : List CV) (h : HP) : Option (List CV) → YR
  | some e => cond (and (Nat.beq l.length n) (and (allOne l) (Nat.ble (off + n) e.length))) (some (.un, ⟨hset h.t id (.arr z (els.set i (splice e off l))), h.n⟩)) none
  | none => none
noncomputable def y_storeV (n : Nat) (a v : CV) (h : HP) : YR := match a with
  | .ptr id i off => match v.cells with
    | some l => match hget h.t id with
      | some (.arr z els) => ystE n id i off z els l h (getL els i)
      | _ => none
    | none => none
  | _ => none
noncomputable def y_store (n : Nat) (a v : IArg) (t : RV) (h : HP) : YR := y_storeV n (yget t a) (yget t v) h

/-! Numbers. -/
noncomputable def ypos (k : IntKind) (n : Int) : Option CV := cond (rngB k n) (some (.int k n)) none
noncomputable def ybAdd (k : IntKind) (x y : Int) : Option CV := ypos k (Int.add x y)
noncomputable def ybSub (k : IntKind) (x y : Int) : Option CV := ypos k (Int.sub x y)
noncomputable def ybEq (_ : IntKind) (x y : Int) : Option CV := some (.bool (ieB x y))
noncomputable def ybNe (_ : IntKind) (x y : Int) : Option CV := some (.bool (not (ieB x y)))
noncomputable def ybLt (_ : IntKind) (x y : Int) : Option CV := some (.bool (not (ilB y x)))
noncomputable def ybLe (_ : IntKind) (x y : Int) : Option CV := some (.bool (ilB x y))
noncomputable def ybGt (_ : IntKind) (x y : Int) : Option CV := some (.bool (not (ilB x y)))
noncomputable def ybGe (_ : IntKind) (x y : Int) : Option CV := some (.bool (ilB y x))
noncomputable def yckO (r : Option (Cond × CV)) : Option CV := match r with
  | some (c, v) => cond (yck c) (some v) none
  | none => none
noncomputable def ybOther (op : BinOp) (k : IntKind) (x y : Int) : Option CV := yckO (binI op k x y)
noncomputable def ybin (op : BinOp) : IntKind → Int → Int → Option CV :=
  BinOp.casesOn (motive := fun _ => IntKind → Int → Int → Option CV) op ybAdd ybSub (ybOther .mul) (ybOther .quo) (ybOther .rem) (ybOther .and) (ybOther .or) (ybOther .xor) (ybOther .shl) (ybOther .shr) (ybOther .andNot) ybEq ybNe ybLt ybLe ybGt ybGe
noncomputable def kEq (a b : IntKind) : Bool := Nat.beq a.ctorIdx b.ctorIdx
theorem kEq_ok {a b : IntKind} (h : kEq a b = true) : a = b := by
  cases a <;> cases b <;> first | rfl | cases h
noncomputable def vInt (c : CV) : Option (IntKind × Int) := CV.rec (motive_1 := fun _ => Option (IntKind × Int)) (motive_2 := fun _ => Unit) (motive_3 := fun _ => Unit) none (fun _ => none) (fun k n => some (k, n)) (fun _ => none) none (fun _ _ _ => none) (fun _ _ => none) none (fun _ _ _ _ => none) (fun _ _ _ _ => none) none (fun _ => none) (fun _ _ _ _ _ => none) (fun _ => none) none (fun _ _ _ => none) none (fun _ _ => none) (fun _ _ => none) () (fun _ _ _ _ => ()) () (fun _ _ _ _ => ()) c
theorem vInt_ok {c : CV} {p : IntKind × Int} (h : vInt c = some p) : c = .int p.1 p.2 := by
  cases c <;> first | (cases h; rfl) | cases h
noncomputable def ybs (l : List UInt8) : List UInt8 → Bool := List.rec (motive := fun _ => List UInt8 → Bool) (fun m => List.rec (motive := fun _ => Bool) true (fun _ _ _ => false) m) (fun a _ ih m => List.rec (motive := fun _ => Bool) false (fun b m' _ => and (Nat.beq a.toNat b.toNat) (ih m')) m) l
noncomputable def ybinS (op : BinOp) (x y : ByteArray) : Option CV := match op with
  | .eql => some (.bool (ybs x.data.toList y.data.toList))
  | .neq => some (.bool (not (ybs x.data.toList y.data.toList)))
  | op => yckO (binS op x y)
noncomputable def yO (h : HP) (r : Option CV) : YR := match r with
  | some v => some (v, h)
  | none => none
noncomputable def yii (op : BinOp) (p q : IntKind × Int) : Option CV := cond (kEq p.1 q.1) (ybin op p.1 p.2 q.2) (yckO (binK op p.1 q.1 p.2 q.2))
noncomputable def yother (op : BinOp) (tk : TK) (a b : CV) : Option CV := match a with
  | .str a => match b with
    | .str b => ybinS op a b
    | _ => none
  | a => yckO (exBin op tk a b)
noncomputable def yii1 (op : BinOp) (tk : TK) (a b : CV) (r : Option (IntKind × Int)) : Option CV := match r with
  | some p => match vInt b with
    | some q => yii op p q
    | none => none
  | none => yother op tk a b
noncomputable def y_bin (op : BinOp) (tk : TK) (x y : IArg) (t : RV) (h : HP) : YR := yO h (yii1 op tk (yget t x) (yget t y) (vInt (yget t x)))
noncomputable def y_notV (x : CV) (h : HP) : YR := match x with
  | .bool b => some (.bool (not b), h)
  | _ => none
noncomputable def y_not (x : IArg) (t : RV) (h : HP) : YR := y_notV (yget t x) h
noncomputable def y_conv (k : IntKind) (x : IArg) (t : RV) (h : HP) : YR := match yget t x with
  | .int _ n => cond (rngB k n) (some (.int k n, h)) none
  | _ => none
noncomputable def ygetL (t : RV) (l : List IArg) : List CV := List.rec (motive := fun _ => List CV) [] (fun a _ ih => yget t a :: ih) l
noncomputable def y_mkfn (f : Nat) (l1 l2 : List IArg) (t : RV) (h : HP) : YR := some (.fn f (ygetL t l1) (ygetL t l2), h)
noncomputable def y_mkmap (_ : RV) (h : HP) : YR := ypush h (.map []) fun id => .map id
noncomputable def yslc (z id off len : Nat) (cap : Option Nat) (l h : Int) : Option Int → Option CV
  | none => yckO (some (.and (.ile 0 l) (.and (.ile l h) (.ile h len)), .slc id (off + l.toNat) (h.toNat - l.toNat) (cap.map (· - l.toNat))))
  | some m => yckO (some (.and (.ile 0 l) (.and (.ile l h) (.and (.ile h m) (.and (.ile h len) (.ile m (cap.getD len))))), .slc id (off + l.toNat) (h.toNat - l.toNat) (some (m.toNat - l.toNat))))
noncomputable def ysl (z : Nat) (l hh : Int) (m : Option Int) (h : HP) (v : CV) : YR := match v with
  | .slc id off len cap => match hget h.t id with
    | some (.arr z' _) => cond (Nat.beq z' z) (match yslc z id off len cap l hh m with
      | some v => some (v, h)
      | none => none) none
    | _ => none
  | v => match yckO (exSlice z [] v l hh m) with
    | some v => some (v, h)
    | none => none
noncomputable def y_slice (z : Nat) (x : IArg) (lo hi mx : Option IArg) (t : RV) (h : HP) : YR :=
  match exBound [] 0 (ycO t lo), exHi [] (yget t x) (ycO t hi), exMx [] (ycO t mx) with
  | some l, some hh, some m => ysl z l hh m h (yget t x)
  | _, _, _ => none
noncomputable def y_faddrV (off : Nat) (x : CV) (h : HP) : YR := match x with
  | .ptr id i o => some (.ptr id i (o + off), h)
  | .rptr cs => cond (Nat.ble off cs.length) (some (.rptr (cs.drop off), h)) none
  | _ => none
noncomputable def y_faddr (off : Nat) (x : IArg) (t : RV) (h : HP) : YR := y_faddrV off (yget t x) h
noncomputable def y_fieldV (ag : Bool) (off n : Nat) (x : CV) (h : HP) : YR := match x with
  | .agg l => cond ag (cond (Nat.ble (off + n) l.length) (some (.agg ((l.drop off).take n), h)) none) (match getL l off with
    | some c => some (c, h)
    | none => none)
  | _ => none
noncomputable def y_field (ag : Bool) (off n : Nat) (x : IArg) (t : RV) (h : HP) : YR := y_fieldV ag off n (yget t x) h
noncomputable def y_iaddrV (z : Nat) (x i : CV) (h : HP) : YR := match i with
  | .int _ n => match x with
    | .slc id off len _ => match hget h.t id with
      | some (.arr z' _) => cond (and (Nat.beq z' z) (yck (.idx n len))) (some (.ptr id (off + n.toNat) 0, h)) none
      | _ => none
    | .rslc z' els _ => cond (and (Nat.beq z' z) (ilB 0 n)) (match getL els n.toNat with
      | some e => some (.rptr e, h)
      | none => none) none
    | _ => none
  | _ => none
noncomputable def y_iaddr (z : Nat) (x i : IArg) (t : RV) (h : HP) : YR := y_iaddrV z (yget t x) (yget t i) h
noncomputable def y_indexSV (x i : CV) (h : HP) : YR := match x with
  | .str s => match i with
    | .int _ n => cond (ilB 0 n) (match getL s.data.toList n.toNat with
      | some b => some (.int .u8 (Int.ofNat b.toNat), h)
      | none => none) none
    | _ => none
  | _ => none
noncomputable def y_indexS (x i : IArg) (t : RV) (h : HP) : YR := y_indexSV (yget t x) (yget t i) h
noncomputable def y_sliceS (x : IArg) (lo hi : Option IArg) (t : RV) (h : HP) : YR := match yget t x with
  | .str s => match exBound [] 0 (ycO t lo), exBound [] s.data.toList.length (ycO t hi) with
    | some l, some hh => cond (and (ilB 0 l) (and (ilB l hh) (ilB hh s.data.toList.length))) (some (.str ⟨⟨(s.data.toList.drop l.toNat).take (hh.toNat - l.toNat)⟩⟩, h)) none
    | _, _ => none
  | _ => none

/-! Maps. -/
noncomputable def ykey (tk : TK) (x y : CV) : Option Bool :=
  match x with
  | .int j a => match y with
    | .int k b => match tk with
      | .int => match decEq j k with
        | isTrue _ => some (ieB a b)
        | isFalse _ => none
      | _ => none
    | _ => none
  | .str a => match y with
    | .str b => match tk with
      | .str => some (ybs a.data.toList b.data.toList)
      | _ => none
    | _ => none
  | _ => keyEq tk x y
noncomputable def yfind (tk : TK) (k : CV) (l : List (CV × CV)) : Nat → Option (Option (Nat × CV)) :=
  List.rec (motive := fun _ => Nat → Option (Option (Nat × CV))) (fun _ => some none) (fun p _ ih i => Option.rec (motive := fun _ => Option (Option (Nat × CV))) none (fun b => cond b (some (some (i, p.2))) (ih (Nat.succ i))) (ykey tk k p.1)) l
noncomputable def y_lookup (tk : TK) (zero : CV) (ok : Bool) (m k : IArg) (t : RV) (h : HP) : YR := cond (isKey tk (yget t k)) (match yget t m with
  | .nilm => some (cond ok (.tup [zero, .bool false]) zero, h)
  | .map id => match hget h.t id with
    | some (.map kvs) => match yfind tk (yget t k) kvs 0 with
      | some (some r) => some (cond ok (.tup [r.2, .bool true]) r.2, h)
      | some none => some (cond ok (.tup [zero, .bool false]) zero, h)
      | none => none
    | _ => none
  | _ => none) none
noncomputable def y_mapset (tk : TK) (m k v : IArg) (t : RV) (h : HP) : YR := cond (isKey tk (yget t k)) (match yget t m with
  | .map id => match hget h.t id with
    | some (.map kvs) => match yfind tk (yget t k) kvs 0 with
      | some (some r) => some (.un, ⟨hset h.t id (.map (kvs.set r.1 (yget t k, yget t v))), h.n⟩)
      | some none => some (.un, ⟨hset h.t id (.map (kvs ++ [(yget t k, yget t v)])), h.n⟩)
      | none => none
    | _ => none
  | _ => none) none
noncomputable def ylen (n : Nat) (a b : TK) (h : HP) : YR := match decEq a b with
  | isTrue _ => some (.int .i64 (Int.ofNat n), h)
  | isFalse _ => none
noncomputable def y_lenV (tk : TK) (x : CV) (h : HP) : YR := match x with
  | .str s => ylen s.data.toList.length tk .str h
  | .nils => ylen 0 tk .slice h
  | .slc _ _ len _ => ylen len tk .slice h
  | .rslc _ els _ => ylen els.length tk .slice h
  | .nilm => ylen 0 tk .map h
  | .map id => match hget h.t id with
    | some (.map kvs) => ylen kvs.length tk .map h
    | _ => none
  | _ => none
noncomputable def y_len (tk : TK) (x : IArg) (t : RV) (h : HP) : YR := y_lenV tk (yget t x) h

/-! Appending. -/
noncomputable def yels (h : HP) (z : Nat) (v : CV) : Option (List (List CV)) := match v with
  | .slc id off len _ => match hget h.t id with
    | some (.arr z' els) => cond (and (Nat.beq z' z) (Nat.ble (off + len) els.length)) (some ((els.drop off).take len)) none
    | _ => none
  | v => elsOf [] z v
noncomputable def yapp1 (z bytes : Nat) (h : HP) (id off len : Nat) (x0 : List CV) (xs' : List (List CV)) (els : List (List CV)) (cap : Option Nat) : YR := match cap with
  | none => cond (yck (roomOk (len + (x0 :: xs').length) bytes)) (ypush ⟨hset h.t id .dead, h.n⟩ (.arr z (els.drop off ++ (x0 :: xs'))) fun nid => .slc nid 0 (len + (x0 :: xs').length) none) none
  | some c => cond (and (Nat.ble (Nat.succ c) (len + (x0 :: xs').length)) (yck (roomOk (len + (x0 :: xs').length) bytes))) (ypush h (.arr z (els.drop off ++ (x0 :: xs'))) fun nid => .slc nid 0 (len + (x0 :: xs').length) none) none
noncomputable def yapp (z bytes : Nat) (h : HP) (s : CV) (xs : List (List CV)) : YR := match xs with
  | [] => match s with
    | .nils => some (s, h)
    | .slc _ _ _ _ => some (s, h)
    | .rslc _ _ _ => some (s, h)
    | _ => none
  | x0 :: xs' => match s with
    | .nils => cond (yck (roomOk (x0 :: xs').length bytes)) (ypush h (.arr z (x0 :: xs')) fun nid => .slc nid 0 (x0 :: xs').length none) none
    | .slc id off len cap => match hget h.t id with
      | some (.arr z' els) => cond (and (Nat.beq z' z) (Nat.beq (off + len) els.length)) (yapp1 z bytes h id off len x0 xs' els cap) none
      | _ => none
    | .rslc z' els (some c) => cond (and (Nat.beq z' z) (and (Nat.ble (Nat.succ c) (els.length + (x0 :: xs').length)) (yck (roomOk (els.length + (x0 :: xs').length) bytes)))) (ypush h (.arr z (els ++ (x0 :: xs'))) fun nid => .slc nid 0 (els.length + (x0 :: xs').length) none) none
    | _ => none
noncomputable def y_appendV (z bytes : Nat) (s x : CV) (h : HP) : YR := match yels h z x with
  | some xs => yapp z bytes h s xs
  | none => none
noncomputable def y_append (z bytes : Nat) (s x : IArg) (t : RV) (h : HP) : YR := y_appendV z bytes (yget t s) (yget t x) h
noncomputable def y_extractV (x : CV) (i : Nat) (h : HP) : YR := match x with
  | .tup l => match getL l i with
    | some c => some (c, h)
    | none => none
  | _ => none
noncomputable def y_extract (x : IArg) (i : Nat) (t : RV) (h : HP) : YR := y_extractV (yget t x) i h
noncomputable def y_nchk (x : IArg) (t : RV) (h : HP) : YR := match yget t x with
  | .ptr a b c => some (.ptr a b c, h)
  | .rptr cs => some (.rptr cs, h)
  | .fn f l1 l2 => some (.fn f l1 l2, h)
  | _ => none

/-! The rest goes through the lists. -/
noncomputable def y_eqs (ks : List TK) (ng : Bool) (x y : IArg) (t : RV) (h : HP) : YR := ySlow (exec (.eqs ks ng (yc t x) (yc t y)) [] h.toL)
noncomputable def y_neg (x : IArg) (t : RV) (h : HP) : YR := ySlow (exec (.neg (yc t x)) [] h.toL)
noncomputable def y_mkslice (z b : Nat) (zero : List CV) (l c : IArg) (t : RV) (h : HP) : YR := ySlow (exec (.mkslice z b zero (yc t l) (yc t c)) [] h.toL)
noncomputable def y_clear (zero : List CV) (x : IArg) (t : RV) (h : HP) : YR := ySlow (exec (.clear zero (yc t x)) [] h.toL)
noncomputable def y_mmx (b : Bool) (x y : IArg) (t : RV) (h : HP) : YR := ySlow (exec (.mmx b (yc t x) (yc t y)) [] h.toL)
noncomputable def y_copy (z : Nat) (x y : IArg) (t : RV) (h : HP) : YR := ySlow (exec (.copy z (yc t x) (yc t y)) [] h.toL)

noncomputable def y_call (cl : YCall) (f : Nat) (l : List IArg) (t : RV) (h : HP) : YR := cl f (ygetL t l) h
noncomputable def appL (l m : List CV) : List CV := List.rec (motive := fun _ => List CV) m (fun a _ ih => a :: ih) l
noncomputable def y_callv (cl : YCall) (x : IArg) (l : List IArg) (t : RV) (h : HP) : YR := match yget t x with
  | .fn f l1 l2 => cl f (appL l1 (appL (ygetL t l) l2)) h
  | _ => none

noncomputable def yop (cl : YCall) (op : IOp) : RV → HP → YR :=
  IOp.casesOn (motive := fun _ => RV → HP → YR) op y_mv y_pick y_alloc y_box y_build y_bslice y_load y_store y_bin y_eqs y_not y_neg y_conv y_mkfn y_mkmap y_mkslice y_slice y_faddr y_field y_iaddr y_indexS y_lookup y_mapset y_len y_append y_clear y_extract y_nchk y_sliceS y_mmx y_copy (y_call cl) (y_callv cl)

end Go.Cm
end
