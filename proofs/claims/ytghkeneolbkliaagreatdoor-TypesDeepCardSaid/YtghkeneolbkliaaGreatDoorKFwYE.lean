/-
  The framework Cm, part YE: closed runs, made for the kernel: code and calls, and that they are sound. Conditions: none.
-/
import Derived.Test.YtghkeneolbkliaaGreatDoorKFwYD
set_option linter.unusedSimpArgs false
set_option linter.unusedVariables false

section
namespace Go.Cm

/-! ### The run -/

inductive YE where
  | code (c : ICode) (n : Nat) (rs : List RVar)
  | pure (c : ICode) (n : Nat) (rs : List RVar)
  | nat (g : List CV → Option CV)
  | iter (g : List CV → List CV → Option (List (List CV)))

inductive YX where
  | norm (t : RV) (h : HP)
  | exit (id : Nat) (t : RV) (h : HP)
  | ret (t : RV) (h : HP)
  | fail

abbrev YO := Option (RV × HP)
abbrev YRun := Bool → ICode → Nat → RV → HP → YX

noncomputable def ygd (t : RV) (g : Option (Nat × Bool)) : Option Bool := match g with
  | none => some true
  | some g => match yget t (.s g.1) with
    | .bool b => some (cond g.2 b (not b))
    | .tup [] => some false
    | _ => none

noncomputable def yput (d : Option Nat) (v : CV) (n : Nat) (t : RV) (k : RV → YO) : YO := match d with
  | none => k t
  | some d => cond (Nat.ble (Nat.succ d) n) (k (vset t d v)) none

noncomputable def yopsR (d : Option Nat) (n : Nat) (t : RV) (k : RV → HP → YO) (r : YR) : YO := match r with
  | some (v, h') => yput d v n t fun t' => k t' h'
  | none => none

noncomputable def yopsS (cl : YCall) (io : IOper) (k : Nat → RV → HP → YO) (n : Nat) (t : RV) (h : HP) : YO := match ygd t io.guard with
  | some true => yopsR io.dst n t (k n) (yop cl io.op t h)
  | some false => yput io.dst (.tup []) n t fun t' => k n t' h
  | none => none

noncomputable def yops (cl : YCall) (l : List IOper) : Nat → RV → HP → YO := List.rec (motive := fun _ => Nat → RV → HP → YO) (fun _ t h => some (t, h)) (fun io _ ih => yopsS cl io ih) l

/-! ### Operations, compiled: for the kernel a closed term whose value it keeps -/

structure CG where
  get : RV → CV
noncomputable def cgetP (p : D16 × D16) : CG := Prod.rec (motive := fun _ => CG) (fun a b => ⟨fun t => pick b (pick a t)⟩) p
noncomputable def cget (a : IArg) : CG := IArg.rec (motive := fun _ => CG) (fun n => Option.rec (motive := fun _ => CG) ⟨fun _ => .un⟩ cgetP (vpath n)) (fun v => ⟨fun _ => v⟩) a
theorem cget_eq (a : IArg) (t : RV) : (cget a).get t = yget t a := by
  cases a with
  | c v => rfl
  | s n =>
    show (Option.rec (motive := fun _ => CG) ⟨fun _ => .un⟩ cgetP (vpath n)).get t = vget t n
    unfold vget
    cases vpath n <;> rfl

structure CB where
  f : IntKind → Int → Int → Option CV
noncomputable def cbin (op : BinOp) : CB :=
  BinOp.rec (motive := fun _ => CB) ⟨ybAdd⟩ ⟨ybSub⟩ ⟨ybOther .mul⟩ ⟨ybOther .quo⟩ ⟨ybOther .rem⟩ ⟨ybOther .and⟩ ⟨ybOther .or⟩ ⟨ybOther .xor⟩ ⟨ybOther .shl⟩ ⟨ybOther .shr⟩ ⟨ybOther .andNot⟩ ⟨ybEq⟩ ⟨ybNe⟩ ⟨ybLt⟩ ⟨ybLe⟩ ⟨ybGt⟩ ⟨ybGe⟩ op
theorem cbin_eq (op : BinOp) : (cbin op).f = ybin op := by cases op <;> rfl

abbrev YK := CV → HP → YO
structure CO where
  run : YCall → RV → HP → YK → YO

noncomputable def kR (k : YK) (r : YR) : YO := match r with
  | some (v, h) => k v h
  | none => none
noncomputable def kO (h : HP) (k : YK) (r : Option CV) : YO := Option.rec (motive := fun _ => YO) none (fun v => k v h) r

theorem kO_eq (h : HP) (k : YK) (r : Option CV) : kO h k r = kR k (yO h r) := by cases r <;> rfl

noncomputable def cii (op : BinOp) (b : CB) (p q : IntKind × Int) : Option CV := cond (kEq p.1 q.1) (b.f p.1 p.2 q.2) (yckO (binK op p.1 q.1 p.2 q.2))
noncomputable def cii1 (op : BinOp) (tk : TK) (bf : CB) (a b : CV) (r : Option (IntKind × Int)) : Option CV := Option.rec (motive := fun _ => Option CV) (yother op tk a b) (fun p => Option.rec (motive := fun _ => Option CV) none (fun q => cii op bf p q) (vInt b)) r
theorem cii1_eq (op : BinOp) (tk : TK) (a b : CV) (r : Option (IntKind × Int)) : cii1 op tk (cbin op) a b r = yii1 op tk a b r := by
  cases r with
  | none => rfl
  | some p =>
    show Option.rec (motive := fun _ => Option CV) none (fun q => cii op (cbin op) p q) (vInt b) = (match vInt b with
      | some q => yii op p q
      | none => none)
    cases vInt b with
    | none => rfl
    | some q =>
      show cii op (cbin op) p q = yii op p q
      unfold cii yii
      rw [cbin_eq]

noncomputable def c_any (op : IOp) : CO := ⟨fun cl t h k => kR k (yop cl op t h)⟩
noncomputable def c_mv (a : IArg) : CO := ⟨fun _ t h k => k ((cget a).get t) h⟩
noncomputable def c_bin (op : BinOp) (tk : TK) (x y : IArg) : CO := ⟨fun _ t h k => kO h k (cii1 op tk (cbin op) ((cget x).get t) ((cget y).get t) (vInt ((cget x).get t)))⟩

noncomputable def c_pick (c a b : IArg) : CO := ⟨fun _ t h k => kR k (y_pickV ((cget c).get t) ((cget a).get t) ((cget b).get t) h)⟩
noncomputable def c_load (ag : Bool) (n : Nat) (a : IArg) : CO := ⟨fun _ t h k => kR k (y_loadV ag n ((cget a).get t) h)⟩
noncomputable def c_store (n : Nat) (a v : IArg) : CO := ⟨fun _ t h k => kR k (y_storeV n ((cget a).get t) ((cget v).get t) h)⟩
noncomputable def c_not (x : IArg) : CO := ⟨fun _ t h k => kR k (y_notV ((cget x).get t) h)⟩
noncomputable def c_faddr (off : Nat) (x : IArg) : CO := ⟨fun _ t h k => kR k (y_faddrV off ((cget x).get t) h)⟩
noncomputable def c_field (ag : Bool) (off n : Nat) (x : IArg) : CO := ⟨fun _ t h k => kR k (y_fieldV ag off n ((cget x).get t) h)⟩
noncomputable def c_iaddr (z : Nat) (x i : IArg) : CO := ⟨fun _ t h k => kR k (y_iaddrV z ((cget x).get t) ((cget i).get t) h)⟩
noncomputable def c_indexS (x i : IArg) : CO := ⟨fun _ t h k => kR k (y_indexSV ((cget x).get t) ((cget i).get t) h)⟩
noncomputable def c_len (tk : TK) (x : IArg) : CO := ⟨fun _ t h k => kR k (y_lenV tk ((cget x).get t) h)⟩
noncomputable def c_append (z bytes : Nat) (s x : IArg) : CO := ⟨fun _ t h k => kR k (y_appendV z bytes ((cget s).get t) ((cget x).get t) h)⟩
noncomputable def c_extract (x : IArg) (i : Nat) : CO := ⟨fun _ t h k => kR k (y_extractV ((cget x).get t) i h)⟩
noncomputable def cgets (l : List IArg) : List CG := List.rec (motive := fun _ => List CG) [] (fun a _ ih => cget a :: ih) l
noncomputable def runG (t : RV) (l : List CG) : List CV := List.rec (motive := fun _ => List CV) [] (fun g _ ih => g.get t :: ih) l
theorem runG_eq (t : RV) : ∀ (l : List IArg), runG t (cgets l) = ygetL t l
  | [] => rfl
  | a :: l => by
    show (cget a).get t :: runG t (cgets l) = yget t a :: ygetL t l
    rw [cget_eq, runG_eq t l]
noncomputable def c_call (f : Nat) (l : List IArg) : CO := ⟨fun cl t h k => kR k (cl f (runG t (cgets l)) h)⟩

/-- Which operations are compiled so. -/
noncomputable def copn (op : IOp) : CO :=
  IOp.rec (motive := fun _ => CO) c_mv c_pick (fun z => c_any (.alloc z)) (fun a => c_any (.box a)) (fun z ps => c_any (.build z ps)) (fun z n zero ps => c_any (.bslice z n zero ps)) c_load c_store c_bin (fun ks g x y => c_any (.eqs ks g x y)) c_not (fun x => c_any (.neg x)) (fun k x => c_any (.conv k x)) (fun f a b => c_any (.mkfn f a b)) (c_any .mkmap) (fun z b zero l c => c_any (.mkslice z b zero l c)) (fun z x lo hi mx => c_any (.slice z x lo hi mx)) c_faddr c_field c_iaddr c_indexS (fun tk z ok m k => c_any (.lookup tk z ok m k)) (fun tk m k v => c_any (.mapset tk m k v)) c_len c_append (fun z x => c_any (.clear z x)) c_extract (fun x => c_any (.nchk x)) (fun x lo hi => c_any (.sliceS x lo hi)) (fun b x y => c_any (.mmx b x y)) (fun z x y => c_any (.copy z x y)) c_call (fun x l => c_any (.callv x l)) op

theorem copn_eq (op : IOp) (cl : YCall) (t : RV) (h : HP) (k : YK) : (copn op).run cl t h k = kR k (yop cl op t h) := by
  cases op
  case mv a => show k ((cget a).get t) h = k (yget t a) h; rw [cget_eq]
  case bin op tk x y =>
    show kO h k (cii1 op tk (cbin op) ((cget x).get t) ((cget y).get t) (vInt ((cget x).get t))) = kR k (yO h (yii1 op tk (yget t x) (yget t y) (vInt (yget t x))))
    rw [cget_eq, cget_eq, cii1_eq, kO_eq]
  case pick c a b => show kR k (y_pickV ((cget c).get t) ((cget a).get t) ((cget b).get t) h) = kR k (y_pickV (yget t c) (yget t a) (yget t b) h); simp only [cget_eq]
  case load ag n a => show kR k (y_loadV ag n ((cget a).get t) h) = kR k (y_loadV ag n (yget t a) h); simp only [cget_eq]
  case store n a v => show kR k (y_storeV n ((cget a).get t) ((cget v).get t) h) = kR k (y_storeV n (yget t a) (yget t v) h); simp only [cget_eq]
  case not x => show kR k (y_notV ((cget x).get t) h) = kR k (y_notV (yget t x) h); simp only [cget_eq]
  case faddr off x => show kR k (y_faddrV off ((cget x).get t) h) = kR k (y_faddrV off (yget t x) h); simp only [cget_eq]
  case field ag off n x => show kR k (y_fieldV ag off n ((cget x).get t) h) = kR k (y_fieldV ag off n (yget t x) h); simp only [cget_eq]
  case iaddr z x i => show kR k (y_iaddrV z ((cget x).get t) ((cget i).get t) h) = kR k (y_iaddrV z (yget t x) (yget t i) h); simp only [cget_eq]
  case indexS x i => show kR k (y_indexSV ((cget x).get t) ((cget i).get t) h) = kR k (y_indexSV (yget t x) (yget t i) h); simp only [cget_eq]
  case len tk x => show kR k (y_lenV tk ((cget x).get t) h) = kR k (y_lenV tk (yget t x) h); simp only [cget_eq]
  case append z bytes s x => show kR k (y_appendV z bytes ((cget s).get t) ((cget x).get t) h) = kR k (y_appendV z bytes (yget t s) (yget t x) h); simp only [cget_eq]
  case extract x i => show kR k (y_extractV ((cget x).get t) i h) = kR k (y_extractV (yget t x) i h); simp only [cget_eq]
  case call f l => show kR k (cl f (runG t (cgets l)) h) = kR k (cl f (ygetL t l) h); rw [runG_eq]
  all_goals rfl

structure CD where
  run : CV → RV → (RV → YO) → YO
noncomputable def cdst (n : Nat) (d : Option Nat) : CD := Option.rec (motive := fun _ => CD) ⟨fun _ t k => k t⟩ (fun d => cond (Nat.ble (Nat.succ d) n) (Option.rec (motive := fun _ => CD) ⟨fun _ t k => k t⟩ (fun p => ⟨fun v t k => k (vsetP t v p)⟩) (vpath d)) ⟨fun _ _ _ => none⟩) d
theorem cdst_eq (n : Nat) (d : Option Nat) (v : CV) (t : RV) (k : RV → YO) : (cdst n d).run v t k = yput d v n t k := by
  cases d with
  | none => rfl
  | some d =>
    show (cond (Nat.ble (Nat.succ d) n) (Option.rec (motive := fun _ => CD) ⟨fun _ t k => k t⟩ (fun p => ⟨fun v t k => k (vsetP t v p)⟩) (vpath d)) ⟨fun _ _ _ => none⟩ : CD).run v t k = cond (Nat.ble (Nat.succ d) n) (k (vset t d v)) none
    cases Nat.ble (Nat.succ d) n with
    | false => rfl
    | true =>
      show (Option.rec (motive := fun _ => CD) ⟨fun _ t k => k t⟩ (fun p => ⟨fun v t k => k (vsetP t v p)⟩) (vpath d) : CD).run v t k = k (vset t d v)
      unfold vset
      cases vpath d <;> rfl

structure CS where
  run : YCall → RV → HP → (RV → HP → YO) → YO
noncomputable def cgd (w b : Bool) (x y : YO) : YO := cond (cond w b (not b)) x y
noncomputable def cstep (n : Nat) (io : IOper) : CS := Option.rec (motive := fun _ => CS) ⟨fun cl t h k => (copn io.op).run cl t h fun v h' => (cdst n io.dst).run v t fun t' => k t' h'⟩
  (fun g => ⟨fun cl t h k => match (cget (.s g.1)).get t with
    | .bool b => cgd g.2 b ((copn io.op).run cl t h fun v h' => (cdst n io.dst).run v t fun t' => k t' h') ((cdst n io.dst).run (.tup []) t fun t' => k t' h)
    | .tup [] => (cdst n io.dst).run (.tup []) t fun t' => k t' h
    | _ => none⟩) io.guard

theorem cstep_eq (n : Nat) (io : IOper) (cl : YCall) (t : RV) (h : HP) (k : RV → HP → YO) : (cstep n io).run cl t h k = yopsS cl io (fun _ => k) n t h := by
  have key : ((copn io.op).run cl t h fun v h' => (cdst n io.dst).run v t fun t' => k t' h') = yopsR io.dst n t k (yop cl io.op t h) := by
    rw [copn_eq]
    unfold kR yopsR
    cases yop cl io.op t h with
    | none => rfl
    | some r => exact cdst_eq n io.dst r.1 t _
  obtain ⟨d, op, g⟩ := io
  cases g with
  | none => exact key
  | some g =>
    show (match (cget (.s g.1)).get t with
      | .bool b => cgd g.2 b ((copn op).run cl t h fun v h' => (cdst n d).run v t fun t' => k t' h') ((cdst n d).run (.tup []) t fun t' => k t' h)
      | .tup [] => (cdst n d).run (.tup []) t fun t' => k t' h
      | _ => none) = (match (match yget t (.s g.1) with
        | .bool b => some (cond g.2 b (not b))
        | .tup [] => some false
        | _ => none) with
      | some true => yopsR d n t k (yop cl op t h)
      | some false => yput d (.tup []) n t fun t' => k t' h
      | none => none)
    rw [cget_eq, cdst_eq]
    have key : ((copn op).run cl t h fun v h' => (cdst n d).run v t fun t' => k t' h') = yopsR d n t k (yop cl op t h) := key
    rw [key]
    split
    · rename_i b _
      unfold cgd
      cases cond g.2 b (not b) <;> rfl
    · rfl
    · rfl

noncomputable def ccomp (n : Nat) (l : List IOper) : List CS := List.rec (motive := fun _ => List CS) [] (fun io _ ih => cstep n io :: ih) l
noncomputable def crun (cl : YCall) (l : List CS) : RV → HP → YO := List.rec (motive := fun _ => RV → HP → YO) (fun t h => some (t, h)) (fun c _ ih t h => c.run cl t h ih) l
theorem crun_eq (cl : YCall) (n : Nat) : ∀ (l : List IOper) (t : RV) (h : HP), crun cl (ccomp n l) t h = yops cl l n t h
  | [], _, _ => rfl
  | io :: l, t, h => by
    show (cstep n io).run cl t h (crun cl (ccomp n l)) = yopsS cl io (yops cl l) n t h
    have e : crun cl (ccomp n l) = yops cl l n := by funext t h; exact crun_eq cl n l t h
    rw [cstep_eq, e]
    unfold yopsS
    rfl

noncomputable def yresR (t : RV) (h : HP) (r : RVar) : Option CV := match r with
  | .tmp s => some (yget t (.s s))
  | .cell ag n s => match y_load ag n (.s s) t h with
    | some (v, _) => some v
    | none => none

noncomputable def yresL (t : RV) (h : HP) (l : List RVar) : Option (List CV) := List.rec (motive := fun _ => Option (List CV)) (some []) (fun r _ ih => match yresR t h r, ih with
  | some v, some vs => some (v :: vs)
  | _, _ => none) l

noncomputable def yres (rs : List RVar) (t : RV) (h : HP) : YR := match yresL t h rs with
  | some vs => match vs with
    | [v] => some (v, h)
    | vs => some (.tup vs, h)
  | none => none

noncomputable def yend (rs : List RVar) (x : YX) : YR := match x with
  | .norm t h => yres rs t h
  | .ret t h => yres rs t h
  | _ => none

noncomputable def ycode (run : YRun) (args : List CV) (h : HP) (c : ICode) (n : Nat) (rs : List RVar) : YR := cond (and (Nat.ble args.length n) (Nat.ble n 255)) (yend rs (run false c n (addT args 0 emptyT) h)) none

noncomputable def yclose (h : HP) (r : YR) : YR := match r with
  | some (v, h2) => match xfzV 3000 v h2.toL with
    | some v' => some (v', h)
    | none => none
  | none => none

noncomputable def ypure (run : YRun) (args : List CV) (h : HP) (c : ICode) (n : Nat) (rs : List RVar) : YR := cond (closedL args) (yclose h (ycode run args emptyH c n rs)) none

noncomputable def ynat (args : List CV) (h : HP) (g : List CV → Option CV) : YR := match g args with
  | some v => some (v, h)
  | none => none

noncomputable def ycallE (run : YRun) (args : List CV) (h : HP) (e : YE) : YR :=
  YE.casesOn (motive := fun _ => YR) e (ycode run args h) (ypure run args h) (ynat args h) (fun _ => none)

noncomputable def ycall (tb : BT YE) (run : YRun) : YCall := fun f args h => Option.rec (motive := fun _ => YR) none (fun e => ycallE run args h e) (tb.get f)

/-- The calls, over lists. -/
noncomputable def ycl (cl : YCall) : CallT := fun f args H => match HP.ofL H with
  | some h => match cl f args h with
    | some (v, h') => some (v, h'.toL)
    | none => none
  | none => none

noncomputable def ofLT (n : Nat) (T : List CV) : Option (RV) := cond (Nat.beq T.length n) (some (addT T 0 emptyT)) none

noncomputable def ynorm (n : Nat) (T : List CV) (H : List CObj) : YX := match ofLT n T, HP.ofL H with
  | some t, some h => .norm t h
  | _, _ => .fail

noncomputable def yrounds (run : YRun) (ps : List Nat) (x y : ICode) (n : Nat) (t : RV) (T : List CV) (xs : List (List CV)) : HP → YX :=
  List.rec (motive := fun _ => HP → YX) (fun h => .norm t h) (fun c _ ih h => match ofLT n (pset T ps c) with
    | some t1 => match run true x n t1 h with
      | .norm t2 h2 => match run true y n t2 h2 with
        | .norm _ h3 => ih h3
        | .exit id _ h3 => .exit id t h3
        | .ret _ h3 => .ret t h3
        | .fail => .fail
      | _ => .fail
    | none => .fail) xs

noncomputable def yiter (tb : BT YE) (g : Nat) (l1 l2 : List CV) : Option (List (List CV)) := match tb.get g with
  | some (.iter hh) => hh l1 l2
  | _ => none

noncomputable def yrfunc2 (tb : BT YE) (run : YRun) (ps : List Nat) (x y : ICode) (n : Nat) (T : List CV) (H : List CObj) (v : CV) : YX := match v with
  | .fn g l1 l2 => match yiter tb g l1 l2 with
    | some xs => cond (and (closedL l1) (and (closedL l2) (xs.all fun c => Nat.beq c.length ps.length))) (match ofLT n T, HP.ofL H with
      | some t, some h => yrounds run ps x y n t T xs h
      | _, _ => .fail) .fail
    | none => .fail
  | _ => .fail

noncomputable def yrfunc (tb : BT YE) (run : YRun) (rnd : Bool) (f : IArg) (ps : List Nat) (x y : ICode) (n : Nat) (t : RV) (h : HP) : YX := cond rnd .fail (match xfz f 50 (toLT n t) h.toL with
  | some (T, H) => yrfunc2 tb run ps x y n T H (aget T f)
  | none => .fail)

noncomputable def yskip (_ : Nat) (t : RV) (h : HP) : YX := .norm t h
noncomputable def yoX (r : YO) : YX := match r with
  | some (t, h) => .norm t h
  | none => .fail
noncomputable def yreg (tb : BT YE) (run : YRun) (l : List IOper) (n : Nat) (t : RV) (h : HP) : YX := yoX (crun (ycall tb run) (ccomp n l) t h)
noncomputable def ydreg (tb : BT YE) (run : YRun) (l : List IOper) (es : List (List Nat)) (n : Nat) (t : RV) (h : HP) : YX := match xdreg (ycl (ycall tb run)) l es (toLT n t) h.toL with
  | some (T', H') => ynorm n T' H'
  | none => .fail
noncomputable def yseqX (k : RV → HP → YX) (x : YX) : YX := match x with
  | .norm t h => k t h
  | x => x
noncomputable def yseq (run : YRun) (rnd : Bool) (a b : ICode) (n : Nat) (t : RV) (h : HP) : YX := yseqX (run rnd b n) (run rnd a n t h)
noncomputable def ycond (run : YRun) (rnd : Bool) (i : IArg) (a b : ICode) (n : Nat) (t : RV) (h : HP) : YX := match yget t i with
  | .bool x => run rnd (cond x a b) n t h
  | _ => .fail
noncomputable def yblockX (id : Nat) (x : YX) : YX := match x with
  | .exit id' t h => cond (Nat.beq id' id) (.norm t h) (.exit id' t h)
  | x => x
noncomputable def yblock (run : YRun) (rnd : Bool) (id : Nat) (a : ICode) (n : Nat) (t : RV) (h : HP) : YX := yblockX id (run rnd a n t h)
noncomputable def yloop (run : YRun) (rnd : Bool) (a : ICode) (n : Nat) (t : RV) (h : HP) : YX := yseqX (run rnd (.loop a) n) (run rnd a n t h)
noncomputable def yexit (id : Nat) (_ : Nat) (t : RV) (h : HP) : YX := .exit id t h
noncomputable def yret (_ : Nat) (t : RV) (h : HP) : YX := .ret t h
noncomputable def ybad (_ : Nat) (_ : RV) (_ : HP) : YX := .fail

noncomputable def ystep (tb : BT YE) (run : YRun) : YRun := fun rnd c =>
  ICode.casesOn (motive := fun _ => Nat → RV → HP → YX) c yskip (yreg tb run) (ydreg tb run) (yseq run rnd) (ycond run rnd) (yblock run rnd) (yloop run rnd) (yrfunc tb run rnd) yexit yret ybad

noncomputable def yrun (tb : BT YE) (n : Nat) : YRun := Nat.rec (motive := fun _ => YRun) (fun _ _ _ _ _ => .fail) (fun _ ih => ystep tb ih) n

/-- A closed call. -/
noncomputable def yfn (tb : BT YE) (n f : Nat) (args : List CV) : Option CV := match ycall tb (yrun tb n) f args emptyH with
  | some (v, _) => some v
  | none => none

/-! ### It is sound -/

def YEOk (P : Program) (f : Nat) : YE → Prop
  | .code c n rs => FnOk P f ∧ ∃ F, compFn P f = some F ∧ LowR F.body c ∧ n = F.ntmps ∧ rs = F.results
  | .pure c n rs => FnOk P f ∧ ∃ F, compFn P f = some F ∧ LowR F.body c ∧ n = F.ntmps ∧ rs = F.results
  | .nat g => FnOk P f ∧ ∀ args v, g args = some v → Fn P f args v
  | .iter g => FnOk P f ∧ ∀ l1 l2 xs, closedL l1 = true → closedL l2 = true → g l1 l2 = some xs → Iter P f l1 l2 xs

/-- What is asked of the calls. -/
def YC (C : Nat → List CV → List CObj → CV → List CObj → Prop) (cl : YCall) : Prop := ∀ f args h v h', cl f args h = some (v, h') → ∀ H, RepH h H → ∃ H', RepH h' H' ∧ C f args H v H'

def CAny : Nat → List CV → List CObj → CV → List CObj → Prop := fun _ _ _ _ _ => True
def COk (P : Program) (E : Env) : Nat → List CV → List CObj → CV → List CObj → Prop := fun f args H v H' => FnOk P f ∧ CallsC P E f args H fun v' H2 => v' = v ∧ H2 = H'

def yk (P : Program) (E : Env) (n0 : Nat) (N : Fr) (Q : Exit → List CV → List CObj → Prop) (k : List KItem) (n : Nat) : YX → Prop
  | .norm t h => ∀ T H, RepT n t T → RepH h H → Ok P E n0 N Q k T H
  | .exit id t h => ∀ T H, RepT n t T → RepH h H → match xexit id k with
    | some k' => Ok P E n0 N Q k' T H
    | none => Q (.exit id) T H
  | .ret t h => ∀ T H, RepT n t T → RepH h H → Q .ret T H
  | .fail => False

def YRunOk (P : Program) (run : YRun) : Prop :=
  ∀ (E : Env) (n0 : Nat) (N : Fr) (Q : Exit → List CV → List CObj → Prop) (k : List KItem) (rnd : Bool) (c c' : ICode) (n : Nat) (t : RV) (T : List CV) (h : HP) (H : List CObj), LowR c c' → (rnd = false → N.rnd = false) → RepT n t T → RepH h H → yk P E n0 N Q k n (run rnd c' n t h) → Ok P E n0 N Q (.code c :: k) T H

section
variable {P : Program} {E : Env} {tb : BT YE}

theorem yop_gen {C : Nat → List CV → List CObj → CV → List CObj → Prop} {cl : YCall} (hcl : YC C cl) {n : Nat} {t : RV} {T : List CV} {h : HP} {H : List CObj} {v : CV} {h' : HP} (hT : RepT n t T) (hH : RepH h H) {op : IOp} (hy : yop cl op t h = some (v, h')) : ∃ H', RepH h' H' ∧ ((∃ c, exec op T H = some (c, v, H') ∧ c.holds) ∨ (∃ f as, op = .call f as ∧ C f (as.map (aget T)) H v H') ∨ (∃ x as f l1 l2, op = .callv x as ∧ aget T x = .fn f l1 l2 ∧ C f (l1 ++ as.map (aget T) ++ l2) H v H')) := by
  have pl : ∀ {op : IOp}, YGood op T H v h' → ∃ H', RepH h' H' ∧ ((∃ c, exec op T H = some (c, v, H') ∧ c.holds) ∨ (∃ f as, op = .call f as ∧ C f (as.map (aget T)) H v H') ∨ (∃ x as f l1 l2, op = .callv x as ∧ aget T x = .fn f l1 l2 ∧ C f (l1 ++ as.map (aget T) ++ l2) H v H')) := fun ⟨H', h1, h2⟩ => ⟨H', h1, .inl h2⟩
  cases op
  case mv a => exact pl (y_mv_ok hT hH hy)
  case pick a b c => exact pl (y_pick_ok hT hH hy)
  case alloc z => exact pl (y_alloc_ok (t := t) hH hy)
  case box a => exact pl (y_box_ok hT hH hy)
  case build z ps => exact pl (y_build_ok hT hH hy)
  case bslice z k zero ps => exact pl (y_bslice_ok hT hH hy)
  case load ag k a => exact pl (y_load_ok hT hH hy)
  case store k a b => exact pl (y_store_ok hT hH hy)
  case bin op tk x y => exact pl (y_bin_ok hT hH hy)
  case eqs ks ng x y => exact pl (y_slow_ok hH (by simp only [exec, aget_yc hT]) hy)
  case not x => exact pl (y_not_ok hT hH hy)
  case neg x => exact pl (y_slow_ok hH (by simp only [exec, aget_yc hT]) hy)
  case conv k x => exact pl (y_conv_ok hT hH hy)
  case mkfn f l1 l2 => exact pl (y_mkfn_ok hT hH hy)
  case mkmap => exact pl (y_mkmap_ok (t := t) hH hy)
  case mkslice z b zero l c => exact pl (y_slow_ok hH (by simp only [exec, aget_yc hT]) hy)
  case slice z x lo hi mx => exact pl (y_slice_ok hT hH hy)
  case faddr off x => exact pl (y_faddr_ok hT hH hy)
  case field ag off k x => exact pl (y_field_ok hT hH hy)
  case iaddr z x i => exact pl (y_iaddr_ok hT hH hy)
  case indexS x i => exact pl (y_indexS_ok hT hH hy)
  case lookup tk zero ok m k => exact pl (y_lookup_ok hT hH hy)
  case mapset tk m k x => exact pl (y_mapset_ok hT hH hy)
  case len tk x => exact pl (y_len_ok hT hH hy)
  case append z b s x => exact pl (y_append_ok hT hH hy)
  case clear zero x => exact pl (y_slow_ok hH (by simp only [exec, aget_yc hT]) hy)
  case extract x i => exact pl (y_extract_ok hT hH hy)
  case nchk x => exact pl (y_nchk_ok hT hH hy)
  case sliceS x lo hi => exact pl (y_sliceS_ok hT hH hy)
  case mmx b x y => exact pl (y_slow_ok hH (by simp only [exec, aget_yc hT]) hy)
  case copy z x y => exact pl (y_slow_ok hH (by simp only [exec, aget_yc hT]) hy)
  case call f as =>
    have hy : cl f (ygetL t as) h = some (v, h') := hy
    rw [ygetL_eq hT] at hy
    obtain ⟨H', h1, h2⟩ := hcl _ _ _ _ _ hy H hH
    exact ⟨H', h1, .inr (.inl ⟨f, as, rfl, h2⟩)⟩
  case callv x as =>
    have hy : y_callv cl x as t h = some (v, h') := hy
    simp only [y_callv, yget_eq hT, ygetL_eq hT, appL_eq] at hy
    split at hy
    · rename_i f l1 l2 hx
      obtain ⟨H', h1, h2⟩ := hcl _ _ _ _ _ hy H hH
      exact ⟨H', h1, .inr (.inr ⟨x, as, f, l1, l2, rfl, hx, by rw [List.append_assoc]; exact h2⟩)⟩
    · cases hy

theorem yop_ok {cl : YCall} (hcl : YC (COk P E) cl) {n : Nat} {t : RV} {T : List CV} {h : HP} {H : List CObj} {v : CV} {h' : HP} (hT : RepT n t T) (hH : RepH h H) {op : IOp} (hy : yop cl op t h = some (v, h')) : ∃ H', RepH h' H' ∧ Xop P E op T H v H' := by
  obtain ⟨H', h1, h2⟩ := yop_gen hcl hT hH hy
  refine ⟨H', h1, ?_⟩
  rcases h2 with h2 | ⟨f, as, e, h2⟩ | ⟨x, as, f, l1, l2, e, hx, h2⟩
  · exact .inl h2
  · exact .inr (.inl ⟨f, as, e, h2.2⟩)
  · exact .inr (.inr ⟨x, as, f, l1, l2, e, hx, h2.1, h2.2⟩)

theorem ygd_ok {n : Nat} {t : RV} {T : List CV} (hT : RepT n t T) {g : Option (Nat × Bool)} {b : Bool} (hy : ygd t g = some b) : xgd T g = some b := by
  unfold ygd at hy
  split at hy
  · exact hy
  · rename_i g
    obtain ⟨s, want⟩ := g
    simp only [yget_eq hT, aget] at hy
    simp only [xgd]
    split at hy
    · rename_i x hx
      rw [hx]
      simp only [Option.some.injEq] at hy
      rw [← hy]
      cases x <;> cases want <;> rfl
    · rename_i hx
      rw [hx]; exact hy
    · cases hy

theorem yput_ok {d : Option Nat} {v : CV} {n : Nat} {t : RV} {T : List CV} (hT : RepT n t T) {k : RV → YO} {r : RV × HP} (hy : yput d v n t k = some r) : ∃ t', RepT n t' (put T d v) ∧ k t' = some r := by
  unfold yput at hy
  split at hy
  · exact ⟨t, hT, hy⟩
  · rename_i d
    obtain ⟨h1, h2⟩ := cnd hy
    exact ⟨_, hT.set (ble_iff.1 h1) v, h2⟩

theorem yops_ok {cl : YCall} (hcl : YC (COk P E) cl) : ∀ (l : List IOper) {n : Nat} {t : RV} {T : List CV} {h : HP} {H : List CObj} {t' : RV} {h' : HP}, RepT n t T → RepH h H → yops cl l n t h = some (t', h') → ∃ T' H', RepT n t' T' ∧ RepH h' H' ∧ Runs P E l T H T' H'
  | [], n, t, T, h, H, t', h', hT, hH, hy => by
    cases hy; exact ⟨T, H, hT, hH, .nil⟩
  | io :: l, n, t, T, h, H, t', h', hT, hH, hy => by
    have hy : yopsS cl io (yops cl l) n t h = some (t', h') := hy
    unfold yopsS at hy
    split at hy
    · rename_i hg
      have hg := ygd_ok hT hg
      unfold yopsR at hy
      split at hy
      · rename_i v h1 hop
        obtain ⟨H1, hH1, hx⟩ := yop_ok hcl hT hH hop
        obtain ⟨t1, hT1, h2⟩ := yput_ok hT hy
        obtain ⟨T', H', a, b, c⟩ := yops_ok hcl l hT1 hH1 h2
        exact ⟨T', H', a, b, .op hg hx c⟩
      · cases hy
    · rename_i hg
      have hg := ygd_ok hT hg
      obtain ⟨t1, hT1, h2⟩ := yput_ok hT hy
      obtain ⟨T', H', a, b, c⟩ := yops_ok hcl l hT1 hH h2
      exact ⟨T', H', a, b, .skip hg c⟩
    · cases hy

theorem yops_rep {cl : YCall} (hcl : YC CAny cl) : ∀ (l : List IOper) {n : Nat} {t : RV} {T : List CV} {h : HP} {H : List CObj} {t' : RV} {h' : HP}, RepT n t T → RepH h H → yops cl l n t h = some (t', h') → ∃ T' H', RepT n t' T' ∧ RepH h' H'
  | [], n, t, T, h, H, t', h', hT, hH, hy => by
    cases hy; exact ⟨T, H, hT, hH⟩
  | io :: l, n, t, T, h, H, t', h', hT, hH, hy => by
    have hy : yopsS cl io (yops cl l) n t h = some (t', h') := hy
    unfold yopsS at hy
    split at hy
    · unfold yopsR at hy
      split at hy
      · rename_i v h1 hop
        obtain ⟨H1, hH1, _⟩ := yop_gen hcl hT hH hop
        obtain ⟨t1, hT1, h2⟩ := yput_ok hT hy
        exact yops_rep hcl l hT1 hH1 h2
      · cases hy
    · obtain ⟨t1, hT1, h2⟩ := yput_ok hT hy
      exact yops_rep hcl l hT1 hH h2
    · cases hy

theorem yresL_ok {n : Nat} {t : RV} {T : List CV} {h : HP} {H : List CObj} (hT : RepT n t T) (hH : RepH h H) : ∀ (rs : List RVar) {vs : List CV}, yresL t h rs = some vs → ∃ c, resAll T H rs = some (c, vs) ∧ c.holds
  | [], vs, hy => by cases hy; exact ⟨.tt, rfl, trivial⟩
  | r :: rs, vs, hy => by
    have hy : (match yresR t h r, yresL t h rs with
      | some v, some vs => some (v :: vs)
      | _, _ => none) = some vs := hy
    split at hy
    · rename_i v vs' h1 h2
      simp only [Option.some.injEq] at hy
      subst hy
      obtain ⟨c, h3, h4⟩ := yresL_ok hT hH rs h2
      have h5 : ∃ c, resOne T H r = some (c, v) ∧ c.holds := by
        unfold yresR at h1
        split at h1
        · rw [yget_eq hT] at h1
          simp only [Option.some.injEq] at h1
          exact ⟨.tt, by rw [← h1]; rfl, trivial⟩
        · split at h1
          · rename_i v' h' hl
            simp only [Option.some.injEq] at h1
            subst h1
            obtain ⟨H', _, c, h6, h7⟩ := y_load_ok hT hH hl
            exact ⟨c, by simp only [resOne, h6], h7⟩
          · cases h1
      obtain ⟨c', h6, h7⟩ := h5
      exact ⟨.and c' c, by simp only [resAll, h6, h3], h7, h4⟩
    · cases hy

theorem yres_ok {rs : List RVar} {n : Nat} {t : RV} {T : List CV} {h : HP} {H : List CObj} (hT : RepT n t T) (hH : RepH h H) {v : CV} {h' : HP} (hy : yres rs t h = some (v, h')) : h' = h ∧ resK (resAll T H rs) (fun v' H2 => v' = v ∧ H2 = H) H := by
  unfold yres at hy
  split at hy
  · rename_i vs hvs
    obtain ⟨c, h1, h2⟩ := yresL_ok hT hH rs hvs
    rw [h1]
    split at hy
    · simp only [Option.some.injEq, Prod.mk.injEq] at hy
      obtain ⟨rfl, rfl⟩ := hy
      exact ⟨rfl, h2, rfl, rfl⟩
    · rename_i hne
      simp only [Option.some.injEq, Prod.mk.injEq] at hy
      obtain ⟨rfl, rfl⟩ := hy
      rcases vs with _ | ⟨v, _ | ⟨v', vs⟩⟩
      · exact ⟨rfl, h2, rfl, rfl⟩
      · exact absurd rfl (hne v)
      · exact ⟨rfl, h2, rfl, rfl⟩
  · cases hy

theorem yres_heap {rs : List RVar} {t : RV} {h h' : HP} {v : CV} (hh : yres rs t h = some (v, h')) : h' = h := by
  unfold yres at hh
  split at hh
  · split at hh
    · simp only [Option.some.injEq, Prod.mk.injEq] at hh; exact hh.2.symm
    · simp only [Option.some.injEq, Prod.mk.injEq] at hh; exact hh.2.symm
  · cases hh

/-! What a run leaves stands for lists. -/

def RepX (n : Nat) : YX → Prop
  | .norm t h => ∃ T H, RepT n t T ∧ RepH h H
  | .exit _ t h => ∃ T H, RepT n t T ∧ RepH h H
  | .ret t h => ∃ T H, RepT n t T ∧ RepH h H
  | .fail => True

def YRunRep (run : YRun) : Prop := ∀ rnd c n t T h H, RepT n t T → RepH h H → RepX n (run rnd c n t h)

theorem RepH.canon {h : HP} (hr : ∃ H, RepH h H) : RepH h h.toL := by
  obtain ⟨H, hr⟩ := hr
  rw [hr.toL]; exact hr

theorem ycode_rep {run : YRun} (hr : YRunRep run) {args : List CV} {h : HP} {H : List CObj} (hH : RepH h H) {c : ICode} {n : Nat} {rs : List RVar} {v : CV} {h' : HP} (hy : ycode run args h c n rs = some (v, h')) : ∃ H', RepH h' H' := by
  obtain ⟨h1, h2⟩ := cnd hy
  rw [Bool.and_eq_true, ble_iff, ble_iff] at h1
  have hT0 := rep_init h1.1 h1.2
  have hx := hr false c n _ _ _ _ hT0 hH
  unfold yend at h2
  split at h2
  · rename_i t h3 e
    rw [e] at hx
    obtain ⟨_, H', _, hH'⟩ := hx
    rw [yres_heap h2]; exact ⟨H', hH'⟩
  · rename_i t h3 e
    rw [e] at hx
    obtain ⟨_, H', _, hH'⟩ := hx
    rw [yres_heap h2]; exact ⟨H', hH'⟩
  · cases h2

theorem ycall_rep {run : YRun} (hr : YRunRep run) : YC CAny (ycall tb run) := by
  intro f args h v h' hy H hH
  refine (?_ : ∃ H', RepH h' H').elim fun H' h1 => ⟨H', h1, trivial⟩
  have hy : Option.rec (motive := fun _ => YR) none (fun e => ycallE run args h e) (tb.get f) = some (v, h') := hy
  cases hf : tb.get f with
  | none => rw [hf] at hy; cases hy
  | some e =>
    rw [hf] at hy
    cases e with
    | code c n rs => exact ycode_rep hr hH hy
    | pure c n rs =>
      obtain ⟨_, h2⟩ := cnd (show cond (closedL args) (yclose h (ycode run args emptyH c n rs)) none = some (v, h') from hy)
      unfold yclose at h2
      split at h2
      · split at h2
        · simp only [Option.some.injEq, Prod.mk.injEq] at h2
          rw [← h2.2]; exact ⟨H, hH⟩
        · cases h2
      · cases h2
    | nat g =>
      have hy : ynat args h g = some (v, h') := hy
      unfold ynat at hy
      split at hy
      · simp only [Option.some.injEq, Prod.mk.injEq] at hy
        rw [← hy.2]; exact ⟨H, hH⟩
      · cases hy
    | iter g => cases hy

theorem ofLT_ok {n : Nat} {T : List CV} {t : RV} (hn : n ≤ 255) (h : ofLT n T = some t) : RepT n t T := by
  obtain ⟨h1, h2⟩ := cnd h
  have h3 := Nat.eq_of_beq_eq_true h1
  simp only [Option.some.injEq] at h2
  subst h2
  have := rep_init (args := T) (n := n) (by omega) hn
  rwa [h3, Nat.sub_self, List.replicate_zero, List.append_nil] at this

theorem ynorm_rep {n : Nat} (hn : n ≤ 255) (T : List CV) (H : List CObj) : RepX n (ynorm n T H) := by
  unfold ynorm
  split
  · rename_i t h h1 h2
    exact ⟨T, H, ofLT_ok hn h1, RepH.ofL h2⟩
  · trivial

theorem yrounds_rep {run : YRun} (hr : YRunRep run) {ps : List Nat} {x y : ICode} {n : Nat} {t : RV} {T : List CV} (hT : RepT n t T) : ∀ (xs : List (List CV)) (h : HP) (H : List CObj), RepH h H → RepX n (yrounds run ps x y n t T xs h)
  | [], h, H, hH => ⟨T, H, hT, hH⟩
  | c :: xs, h, H, hH => by
    show RepX n (match ofLT n (pset T ps c) with
      | some t1 => match run true x n t1 h with
        | .norm t2 h2 => match run true y n t2 h2 with
          | .norm _ h3 => yrounds run ps x y n t T xs h3
          | .exit id _ h3 => .exit id t h3
          | .ret _ h3 => .ret t h3
          | .fail => .fail
        | _ => .fail
      | none => .fail)
    split
    · rename_i t1 h1
      have r1 := hr true x n t1 _ h H (ofLT_ok hT.le h1) hH
      split
      · rename_i t2 h2 e
        rw [e] at r1
        obtain ⟨T2, H2, hT2, hH2⟩ := r1
        have r2 := hr true y n t2 _ h2 _ hT2 hH2
        split
        · rename_i h3 e2
          rw [e2] at r2
          obtain ⟨_, H3, _, hH3⟩ := r2
          exact yrounds_rep hr hT xs h3 H3 hH3
        · rename_i e2
          rw [e2] at r2
          obtain ⟨_, H3, _, hH3⟩ := r2
          exact ⟨T, H3, hT, hH3⟩
        · rename_i e2
          rw [e2] at r2
          obtain ⟨_, H3, _, hH3⟩ := r2
          exact ⟨T, H3, hT, hH3⟩
        · trivial
      · trivial
    · trivial

theorem yrun_rep (m : Nat) : YRunRep (yrun tb m) := by
  induction m with
  | zero => intro _ _ _ _ _ _ _ _ _; trivial
  | succ m ih =>
    intro rnd c n t T h H hT hH
    have hcl := ycall_rep (tb := tb) ih
    show RepX n (ystep tb (yrun tb m) rnd c n t h)
    have seqx : ∀ (k : RV → HP → YX) (x : YX), RepX n x → (∀ t' h' T' H', RepT n t' T' → RepH h' H' → RepX n (k t' h')) → RepX n (yseqX k x) := by
      intro k x hx hk
      cases x with
      | norm t' h' => obtain ⟨T', H', a, b⟩ := hx; exact hk t' h' T' H' a b
      | exit id t' h' => exact hx
      | ret t' h' => exact hx
      | fail => trivial
    cases c with
    | skip => exact ⟨T, H, hT, hH⟩
    | reg l =>
      show RepX n (yoX (crun (ycall tb (yrun tb m)) (ccomp n l) t h))
      rw [crun_eq]
      cases hx : yops (ycall tb (yrun tb m)) l n t h with
      | none => trivial
      | some r =>
        obtain ⟨t', h'⟩ := r
        obtain ⟨T', H', a, b⟩ := yops_rep hcl l hT hH hx
        exact ⟨T', H', a, b⟩
    | dreg l es =>
      show RepX n (ydreg tb (yrun tb m) l es n t h)
      unfold ydreg
      split
      · exact ynorm_rep hT.le _ _
      · trivial
    | seq a b => exact seqx _ _ (ih rnd a n t T h H hT hH) fun t' h' T' H' a' b' => ih rnd b n t' T' h' H' a' b'
    | cond i a b =>
      show RepX n (ycond (yrun tb m) rnd i a b n t h)
      unfold ycond
      split
      · exact ih rnd _ n t T h H hT hH
      · trivial
    | block id a =>
      show RepX n (yblockX id (yrun tb m rnd a n t h))
      have := ih rnd a n t T h H hT hH
      cases hx : yrun tb m rnd a n t h with
      | norm t' h' => rw [hx] at this; exact this
      | exit id' t' h' =>
        rw [hx] at this
        show RepX n (cond (Nat.beq id' id) (.norm t' h') (.exit id' t' h'))
        cases Nat.beq id' id <;> exact this
      | ret t' h' => rw [hx] at this; exact this
      | fail => trivial
    | loop a => exact seqx _ _ (ih rnd a n t T h H hT hH) fun t' h' T' H' a' b' => ih rnd (.loop a) n t' T' h' H' a' b'
    | rfunc f ps x y =>
      show RepX n (yrfunc tb (yrun tb m) rnd f ps x y n t h)
      unfold yrfunc
      cases rnd with
      | true => trivial
      | false =>
        simp only [cond_false]
        split
        · unfold yrfunc2
          split
          · split
            · rename_i xs _
              cases hc : (and (closedL _) (and (closedL _) (xs.all fun c => Nat.beq c.length ps.length))) with
              | false => trivial
              | true =>
                simp only [cond_true]
                split
                · rename_i t2 h2 e1 e2
                  exact yrounds_rep ih (ofLT_ok hT.le e1) _ _ _ (RepH.ofL e2)
                · trivial
            · trivial
          · trivial
        · trivial
    | exit id => exact ⟨T, H, hT, hH⟩
    | ret => exact ⟨T, H, hT, hH⟩
    | bad => trivial

theorem ycode_ok {run : YRun} (hr : YRunOk P run) (hrep : YRunRep run) (E : Env) {f : Nat} {F : IFunc} {c : ICode} (hF : compFn P f = some F) (hl : LowR F.body c) {args : List CV} {h : HP} {H : List CObj} (hH : RepH h H) {v : CV} {h' : HP} (hy : ycode run args h c F.ntmps F.results = some (v, h')) :
    RepH h' h'.toL ∧ CallsC P E f args H fun v' H2 => v' = v ∧ H2 = h'.toL := by
  refine ⟨RepH.canon (ycode_rep hrep hH hy), ?_⟩
  obtain ⟨h1, h2⟩ := cnd hy
  rw [Bool.and_eq_true, ble_iff, ble_iff] at h1
  have hT0 := rep_init h1.1 h1.2
  refine callsC_of hF fun m => ?_
  refine hr E H.length ⟨m, false⟩ _ [] false F.body c _ _ _ h H hl (fun _ => rfl) hT0 hH ?_
  unfold yend at h2
  split at h2
  · rename_i t h3 hx
    rw [hx]
    intro T H2 hT hH2
    have e := yres_heap h2
    subst e
    rw [hH2.toL]
    exact ok_nil (yres_ok hT hH2 h2).2
  · rename_i t h3 hx
    rw [hx]
    intro T H2 hT hH2
    have e := yres_heap h2
    subst e
    rw [hH2.toL]
    exact (yres_ok hT hH2 h2).2
  · cases h2

end
end Go.Cm
end
